/- Parts of the proof, joined. No condition. -/
import Derived.Test.YtlcceppoloaecaaGreatDoorKAA
import Derived.Test.YtlcceppoloaecaaGreatDoorKBD
import Derived.Test.YtlcceppoloaecaaGreatDoorKBF
import Derived.Test.YtlcceppoloaecaaGreatDoorKAF
import Derived.Test.YtlcceppoloaecaaGreatDoorKAI
import Derived.Test.YtlcceppoloaecaaGreatDoorKAL
import Derived.Test.YtlcceppoloaecaaGreatDoorKAQ
import Derived.Test.YtlcceppoloaecaaGreatDoorKAG
import Derived.Test.YtlcceppoloaecaaGreatDoorKAJ
import Derived.Shelf.LaysM
import Derived.Shelf.Strconv.Itoa3
import Derived.Ground.NamesProg
import Derived.Test.YtlcceppoloaecaaGreatDoorProg
import Derived.Lib.Walk
import Derived.Lib.ItoaMem
import Derived.WalkKit
import Derived.BigCall
import Derived.BigGuard
import Derived.Lib.AppendIntMem
set_option linter.unusedSimpArgs false
set_option linter.unusedVariables false
namespace Go.Proofs.YtlcceppoloaecaaGreatDoor.St
open Go.RowKit
def cP (p:Int × Int):List AC:=[.int .i64 p.1, .int .i64 p.2]
def cC (p:(Int × Int) × Int):List AC:=[.int .i64 p.1.1, .int .i64 p.1.2, .int .i64 p.2]
section
variable {P:Program} {R:PH} {w:World}
theorem ag9 {α:Type} {enc:α->List Value} {ec:α->List AC} {k:Nat} (hk : ∀ x,(ec x).length=k) (hkv : ∀ x,(enc x).length=k) (hk0:0<k) (hrep : ∀ x (j:Nat) u y v,(enc x)[j]?=some u->(ec x)[j]?=some y->bX R v y->v=u)
  (hR : ∀ b o u,R b o=some u->w.cell? ⟨b,o,none⟩=some u) {v:Value} {l:List α} (h:bX R v (.lst (l.map ec))) : ∃ A c,v = .slice A l.length c/\Rd enc k w w.heap.size A l.length l:=by
 obtain ⟨a,c,news,rfl,hc,hcells,hreg⟩:=C8 (k:=k) h (by intro e he;simp only [aqz] at he;obtain ⟨x,_,rfl⟩:=he;exact hk x)
 refine ⟨a,c,by simp,rfl,fun hp=>?_⟩
 obtain ⟨b,o,rfl,hb⟩:=hreg (by simpa using hp)
 have key : ∀ (i:Nat) x,l[i]?=some x -> ∀ (j:Nat) u,(enc x)[j]?=some u->w.cell? ⟨b,o+(i*k+j),none⟩=some u:=by
  intro i x hx j u hu
  have he:(l.map ec)[i]?=some (ec x):=by rw [aql,hx];rfl
  have hj:j<(ec x).length:=by rw [hk, <- hkv x];exact (ap0.1 hu).1
  obtain ⟨u0,h0,p0⟩:=hcells.get i _ j _ he (ap9 hj)
  rw [hrep x j u _ u0 hu (ap9 hj) p0] at h0
  exact hR _ _ _ (hb _ _ h0)
 refine ⟨b,o,rfl,?_,fun i x hx j u hu=>?_⟩
 ·obtain ⟨x,hx⟩:=gol_ hp
  obtain ⟨u,hu⟩:=gol_ (show 0<(enc x).length by rw [hkv];exact hk0)
  exact lt_of_cell (key 0 x hx 0 u hu)
 ·rw [Nat.add_assoc];exact key i x hx j u hu
def DZ (R:PH) (w w':World):PHf:=fun b o=>if b<w.heap.size then R b o else w'.cell? ⟨b,o,none⟩
theorem TJ (hR : ∀ b o u,R b o=some u->w.cell? ⟨b,o,none⟩=some u) (w':World) : ∀ b o u,R b o=some u->DZ R w w' b o=some u:=fun b o u h=>by
 have:=lt_of_cell (hR b o u h)
 unfold DZ;rw [if_pos this];exact h
def ae3 (R:PH) (w w':World) (hR : ∀ b o u,R b o=some u->w.cell? ⟨b,o,none⟩=some u):PH:=R.put (DZ R w w') (TJ hR w')
theorem lw (hR : ∀ b o u,R b o=some u->w.cell? ⟨b,o,none⟩=some u) {w':World} (hg:Gr w w'):Ext (· < w.heap.size) R (ae3 R w w' hR) w w' /\ ∀ b o u,ae3 R w w' hR b o=some u->w'.cell? ⟨b,o,none⟩=some u:=by
 refine ⟨⟨Kept.of hg.out,TJ hR w',fun b o hb=>?_⟩,fun b o u h=>?_⟩
 ·show DZ R w w' b o=_
  unfold DZ;rw [if_pos hb]
 ·have h:DZ R w w' b o=some u:=h
  unfold DZ at h
  split at h
  ·rename_i hb;rw [hg.cells.1 b o hb];exact hR _ _ _ h
  ·exact h
theorem GA (hR : ∀ b o u,R b o=some u->w.cell? ⟨b,o,none⟩=some u) {w':World} {E:TypeId} {v:Value} {l:List (Int × Int)} (ho:Own e2 2 E w' w.heap.size v l):bX (ae3 R w w' hR) v (.lst (l.map cP)):=by
 obtain ⟨A,c,rfl⟩:=ho.form
 have hrd:=ho.rds gF
 have hlt:=World.ownsRow.lt ho
 have hc:l.length<=c:=by
  rcases ho.2 with ⟨hv,hn⟩|⟨g,cap,cur,hv,_,_,hle,_⟩
  ·omega
  ·injection hv with _ _ h3;omega
 by_cases hz:l.length=0
 ·have:l=[]:=aqo hz
  subst this
  exact gq _ _ _
 ·obtain ⟨b,o,rfl,hb,hcell⟩:=hrd.2 (by omega)
  have hge:w.heap.size<=b:=(hlt b rfl).1
  have key : ∀ (i:Nat) x,l[i]?=some x->ae3 R w w' hR b (o+(i*2+0))=some (.int .i64 x.1)/\ae3 R w w' hR b (o+(i*2+1))=some (.int .i64 x.2):=by
   intro i x hx
   show DZ R w w' b _=_/\DZ R w w' b _=_
   unfold DZ
   rw [if_neg (by omega),if_neg (by omega), <- Nat.add_assoc, <- Nat.add_assoc]
   exact ⟨hcell i x hx 0 _ rfl,hcell i x hx 1 _ rfl⟩
  refine .lst _ _ _ _ 2 (fun j=>(ae3 R w w' hR b (o+j)).getD Go.undef) b o (by simp) hc (by intro e he;simp only [aqz] at he;obtain ⟨x,_,rfl⟩:=he;rfl) (fun _=>rfl) (fun j hj=>?_) (fun i e j y he hy=>?_)
  ·have hi:j/2<l.length:=by omega
   have hx:l[j/2]?=some l[j/2]:=ap9 hi
   have:=key _ _ hx
   have hm:j=j/2*2+j%2:=by omega
   rcases Nat.mod_two_eq_zero_or_one j with h0|h0
   ·rw [h0] at hm;rw [hm,this.1];rfl
   ·rw [h0] at hm;rw [hm,this.2];rfl
  ·rw [aql] at he
   cases hx:l[i]? with
   | none=>simp [hx] at he
   | some x =>
    rw [hx] at he;simp only [Option.map_some,Option.some.injEq] at he;subst he
    have:=key i x hx
    match j,hy with
    | 0,hy=>simp [cP] at hy;subst hy;rw [this.1];exact .int _ _
    | 1,hy=>simp [cP] at hy;subst hy;rw [this.2];exact .int _ _
    | j+2,hy=>simp [cP] at hy
theorem G5 {v:Value} {k:IntKind} {n:Int} (h:bX R v (.int k n)):v = .int k n:=by cases h;rfl
theorem alb (hR : ∀ b o u,R b o=some u->w.cell? ⟨b,o,none⟩=some u) {v:Value} {l:List (Int × Int)} (h:bX R v (.lst (l.map cP))) : ∃ A c,v = .slice A l.length c/\Rd e2 2 w w.heap.size A l.length l :=
 ag9 (k:=2) (fun _=>rfl) gF (by decide) (fun x j u y v hu hy hv=>by
  match j,hu,hy with
  | 0,hu,hy=>simp [e2] at hu;simp [cP] at hy;subst hu hy;exact G5 hv
  | 1,hu,hy=>simp [e2] at hu;simp [cP] at hy;subst hu hy;exact G5 hv
  | j+2,hu,hy=>simp [cP] at hy) hR h
theorem aiE (hR : ∀ b o u,R b o=some u->w.cell? ⟨b,o,none⟩=some u) {v:Value} {l:List ((Int × Int) × Int)} (h:bX R v (.lst (l.map cC))) : ∃ A c,v = .slice A l.length c/\Rd e3 3 w w.heap.size A l.length l :=
 ag9 (k:=3) (fun _=>rfl) VN (by decide) (fun x j u y v hu hy hv=>by
  match j,hu,hy with
  | 0,hu,hy=>simp [e3] at hu;simp [cC] at hy;subst hu hy;exact G5 hv
  | 1,hu,hy=>simp [e3] at hu;simp [cC] at hy;subst hu hy;exact G5 hv
  | 2,hu,hy=>simp [e3] at hu;simp [cC] at hy;subst hu hy;exact G5 hv
  | j+3,hu,hy=>simp [cC] at hy) hR h
end
theorem Mc {vs:Array Value} {p:PV} (h:vs.size=[p].length) : ∃ v,vs = #[v]:=by
 obtain ⟨l⟩:=vs
 match l,h with
 | [a],_=>exact ⟨a,rfl⟩
abbrev VT (l:List ((Int × Int) × Int)):List (Int × Int):=dW (qp l) (iM l)
theorem ajs (l:List ((Int × Int) × Int)) (hn:l.length<=100000):Pure Tryz.prog 207 [.one (.lst (l.map cC))] (.val (.one (.lst ((VT l).map cP)))):=by
 refine ⟨⟨_,Tryz.func207,by kernel_rfl,by kernel_rfl⟩,fun R w vs hR hs hv=>?_⟩
 obtain ⟨v,rfl⟩:=Mc hs
 obtain ⟨A,c,rfl,ha⟩:=aiE hR (hv 0 v _ rfl rfl)
 refine (akY A _ c l w ha hn).mono ?_
 rintro e w' ⟨A',m',c',rfl,ho,hg⟩
 exact ⟨_,_,rfl,(lw hR hg).1,(lw hR hg).2,GA hR ho⟩
theorem ahP (l:List ((Int × Int) × Int)) (hn:l.length<=100000):Pure Tryz.prog 210 [.one (.lst (l.map cC))] (.val (.one (.lst ((VT l).map cP)))):=by
 refine ⟨⟨_,Tryz.func210,by kernel_rfl,by kernel_rfl⟩,fun R w vs hR hs hv=>?_⟩
 obtain ⟨v,rfl⟩:=Mc hs
 obtain ⟨A,c,rfl,ha⟩:=aiE hR (hv 0 v _ rfl rfl)
 refine (amx A _ c l w ha hn).mono ?_
 rintro e w' ⟨A',m',c',rfl,ho,hg⟩
 exact ⟨_,_,rfl,(lw hR hg).1,(lw hR hg).2,GA hR ho⟩
theorem afS (l:List (Int × Int)) (hn:l.length<=1000) (hasc:Asc l) (hF : ∀ s∈l,s.1<1099511627776) (hM : ∀ s∈l,s.2<=600):Pure Tryz.prog 147 [.one (.lst (l.map cP))] (.val (.one (.lst ((wH l).map cP)))):=by
 refine ⟨⟨_,Tryz.func147,by kernel_rfl,by kernel_rfl⟩,fun R w vs hR hs hv=>?_⟩
 obtain ⟨v,rfl⟩:=Mc hs
 obtain ⟨A,c,rfl,ha⟩:=alb hR (hv 0 v _ rfl rfl)
 refine (ag7 A _ c l w ha hn hasc hF hM).mono ?_
 rintro e w' ⟨A',m',c',rfl,ho,hg⟩
 exact ⟨_,_,rfl,(lw hR hg).1,(lw hR hg).2,GA hR ho⟩
theorem aet (l:List (Int × Int)) (hn:l.length<=1000) (hM : ∀ s∈l,s.2<=600):Pure Tryz.prog 94 [.one (.lst (l.map cP))] (.val (.one (.lst ((wH l).map cP)))):=by
 refine ⟨⟨_,Tryz.func94,by kernel_rfl,by kernel_rfl⟩,fun R w vs hR hs hv=>?_⟩
 obtain ⟨v,rfl⟩:=Mc hs
 obtain ⟨A,c,rfl,ha⟩:=alb hR (hv 0 v _ rfl rfl)
 refine (aks A _ c l w ha hn hM).mono ?_
 rintro e w' ⟨A',m',c',rfl,ho,hg⟩
 exact ⟨_,_,rfl,(lw hR hg).1,(lw hR hg).2,GA hR ho⟩
end Go.Proofs.YtlcceppoloaecaaGreatDoor.St
namespace Go.Proofs.YtlcceppoloaecaaGreatDoor
def toP (p:aP):Int × Int:=(p.lo,p.hi)
def ofP (x:Int × Int):aP:=⟨x.1,x.2⟩
def toS (s:Stp):Int × Int:=(s.lo,s.n)
def ofS (x:Int × Int):Stp:=⟨x.1,x.2⟩
def toC (c:J3):(Int × Int) × Int:=(toP c.period,c.n)
def DL (l:List J3):List Stp:=(St.VT (l.map toC)).map ofS
def Jr (l:List Stp):List aP:=(St.wH (l.map toS)).map ofP
theorem ab0 (l:List J3):(l.map toC).map St.cC=l.map QB:=by rw [List.map_map];rfl
theorem acG (l:List (Int × Int)):(l.map ofS).map Bq=l.map St.cP:=by rw [List.map_map];rfl
theorem ab3 (l:List Stp):(l.map toS).map St.cP=l.map Bq:=by rw [List.map_map];rfl
theorem ack (l:List (Int × Int)):(l.map ofP).map bv=l.map St.cP:=by rw [List.map_map];rfl
theorem akc (l:List J3) (hn:l.length<=100000):Pure Tryz.prog 207 [.one (.lst (l.map QB))] (.val (.one (.lst ((DL l).map Bq)))):=by
 have:=St.ajs (l.map toC) (by simpa using hn)
 rw [ab0] at this
 unfold DL;rw [acG];exact this
theorem aiM (l:List J3) (hn:l.length<=100000):Pure Tryz.prog 210 [.one (.lst (l.map QB))] (.val (.one (.lst ((DL l).map Bq)))):=by
 have:=St.ahP (l.map toC) (by simpa using hn)
 rw [ab0] at this
 unfold DL;rw [acG];exact this
structure Sq (l:List Stp):Prop where
 len:l.length<=1000
 asc:St.Asc (l.map toS)
 fin : ∀ s∈l,s.lo<1099511627776
 low : ∀ s∈l,s.n<=600
theorem X4 (l:List Stp) (h:Sq l):Pure Tryz.prog 147 [.one (.lst (l.map Bq))] (.val (.one (.lst ((Jr l).map bv)))):=by
 have:=St.afS (l.map toS) (by simpa using h.len) h.asc (by intro s hs;obtain ⟨x,hx,rfl⟩:=aqz.1 hs;exact h.fin x hx) (by intro s hs;obtain ⟨x,hx,rfl⟩:=aqz.1 hs;exact h.low x hx)
 rw [ab3] at this
 unfold Jr;rw [ack];exact this
theorem adP (l:List Stp) (h:Sq l):Pure Tryz.prog 94 [.one (.lst (l.map Bq))] (.val (.one (.lst ((Jr l).map bv)))):=by
 have:=St.aet (l.map toS) (by simpa using h.len) (by intro s hs;obtain ⟨x,hx,rfl⟩:=aqz.1 hs;exact h.low x hx)
 rw [ab3] at this
 unfold Jr;rw [ack];exact this
open Go.RowKit Go.MapKept
set_option maxRecDepth 100000
set_option maxHeartbeats 8000000
def FJ (a b:Val):Option (aP × Bool):=some (⟨a.int,b.int⟩,decide (a.kind=1)&&decide (b.kind=1))
theorem ahT {vs:Array Value} {p q:PV} (h:vs.size=[p,q].length) : ∃ v u,vs = #[v,u]:=by
 obtain ⟨l⟩:=vs
 match l,h with
 | [a,b],_=>exact ⟨a,b,rfl⟩
theorem ac4 {R:PH} {v:Val} {u:Value} (h:(PV.agg (cV v)).rep R u):u = .agg #[.int .i64 v.kind, .int .i64 v.int, .string v.text]:=by
 obtain ⟨vs,rfl,hs,hc⟩:=h
 obtain ⟨l⟩:=vs
 match l,hs with
 | [a,b,c],_ =>
  have h0:=hc 0 a _ rfl rfl
  have h1:=hc 1 b _ rfl rfl
  have h2:=hc 2 c _ rfl rfl
  cases h0;cases h1;cases h2
  rfl
theorem KI {a b:Val} {r:aP × Bool} (H:FJ a b=some r):Pure Tryz.prog 183 [.agg (cV a), .agg (cV b)] (.tup [.agg (bv r.1), .one (.bool r.2)]):=by
 obtain rfl:=aqw H
 refine ⟨⟨_,Tryz.func183,by kernel_rfl,by kernel_rfl⟩,fun R w vs hR hs hv=>?_⟩
 obtain ⟨v,u,rfl⟩:=ahT hs
 have hv0:=ac4 (hv 0 v _ rfl rfl)
 have hv1:=ac4 (hv 1 u _ rfl rfl)
 subst hv0 hv1
 refine (St.WZ a.kind a.int b.kind b.int a.text b.text w).mono ?_
 rintro e w' ⟨rfl,hg⟩
 refine ⟨_,_,rfl,(St.lw hR hg).1,(St.lw hR hg).2,⟨_,rfl,rfl,fun j u p hu hp=>?_⟩⟩
 match j,hu,hp with
 | 0,hu,hp =>
  simp at hu hp
  subst hu hp
  refine ⟨_,rfl,rfl,fun j u p hu hp=>?_⟩
  match j,hu,hp with
  | 0,hu,hp=>simp [bv] at hu hp;subst hu hp;exact .int _ _
  | 1,hu,hp=>simp [bv] at hu hp;subst hu hp;exact .int _ _
  | j+2,hu,hp=>simp [bv] at hp
 | 1,hu,hp=>simp at hu hp;subst hu hp;exact .bool _
 | j+2,hu,hp=>simp at hp
def Br (a_rel:Int) (a_l:(List Val)):Option (Val):=(aT a_l (0:Int)).bind fun x_1=>(aT a_l (1:Int)).bind fun x_2=>(FJ x_1 x_2).bind fun r_3=>(aT a_l (2:Int)).bind fun x_4=>(aT a_l (3:Int)).bind fun x_5=>(FJ x_4 x_5).bind fun r_6=>(afp r_3.1 r_6.1).bind fun r_7=>bif (!r_3.2) then (pI ).bind fun r_9=>some r_9 else
 bif (!r_6.2) then (pI ).bind fun r_11=>some r_11 else
 bif (!r_7.2) then (pI ).bind fun r_13=>some r_13 else
 (Ba (decide (r_7.1=a_rel))).bind fun r_14=>some r_14
theorem WS {a_rel:Int} {a_l:(List Val)} {r:Val} (H:Br a_rel a_l=some r):Pure Tryz.prog 115 [.one (.int .i64 a_rel), .one (.lst (a_l.map cV))] (.val (.agg (cV r))):=by
 unfold Br at H
 refine po_ Tryz.func115 Tryz.ntmps115 ?_
 obtain ⟨x_1,i1z,i1,i1x,H⟩:=bn (f:=cV) H
 obtain ⟨x_2,i2z,i2,i2x,H⟩:=bn (f:=cV) H
 obtain ⟨r_3,c3,H⟩:=bd_ H
 replace c3:=KI c3
 obtain ⟨x_4,i4z,i4,i4x,H⟩:=bn (f:=cV) H
 obtain ⟨x_5,i5z,i5,i5x,H⟩:=bn (f:=cV) H
 obtain ⟨r_6,c6,H⟩:=bd_ H
 replace c6:=KI c6
 obtain ⟨r_7,c7,H⟩:=bd_ H
 replace c7:=acP c7
 rcases af H with ⟨q_8,H⟩|⟨q_8,H⟩
 ·obtain ⟨r_9,c8,H⟩:=bd_ H
  replace c8:=gX c8
  cases H
  exact aK
 rcases af H with ⟨q_10,H⟩|⟨q_10,H⟩
 ·obtain ⟨r_11,c9,H⟩:=bd_ H
  replace c9:=gX c9
  cases H
  exact aK
 rcases af H with ⟨q_12,H⟩|⟨q_12,H⟩
 ·obtain ⟨r_13,c10,H⟩:=bd_ H
  replace c10:=gX c10
  cases H
  exact aK
 obtain ⟨r_14,c11,H⟩:=bd_ H
 replace c11:=xy c11
 cases H
 exact aK
set_option maxHeartbeats 8000000
set_option maxHeartbeats 8000000
def Ol (a_less:Bool) (a_greater:Bool):Option (Int):=bif a_less then some (-1:Int) else
 bif a_greater then some (1:Int) else
 some (0:Int)
theorem P_ {a_less:Bool} {a_greater:Bool} {r:Int} (H:Ol a_less a_greater=some r):Pure Tryz.prog 190 [.one (.bool a_less), .one (.bool a_greater)] (.val (.one (.int .i64 r))):=by
 unfold Ol at H
 refine po_ Tryz.func190 Tryz.ntmps190 ?_
 rcases af H with ⟨q_1,H⟩|⟨q_1,H⟩
 ·cases H
  exact aK
 rcases af H with ⟨q_2,H⟩|⟨q_2,H⟩
 ·cases H
  exact aK
 cases H
 exact aK
def DT (a_a:Val) (a_b:Val):Option (Int):=bif (decide (a_a.kind≠a_b.kind)) then (Ol (decide (a_a.kind<a_b.kind)) (decide (a_b.kind<a_a.kind))).bind fun r_2=>some r_2 else
 bif (decide (a_a.int≠a_b.int)) then (Ol (decide (a_a.int<a_b.int)) (decide (a_b.int<a_a.int))).bind fun r_4=>some r_4 else
 (Ol (Op.bytesLess a_a.text.toList a_b.text.toList) (!((Op.bytesLess a_a.text.toList a_b.text.toList)||(a_a.text.toList==a_b.text.toList)))).bind fun r_5=>some r_5
theorem GD {a_a:Val} {a_b:Val} {r:Int} (H:DT a_a a_b=some r):Pure Tryz.prog 120 [.agg (cV a_a), .agg (cV a_b)] (.val (.one (.int .i64 r))):=by
 unfold DT at H
 refine po_ Tryz.func120 Tryz.ntmps120 ?_
 rcases af H with ⟨q_1,H⟩|⟨q_1,H⟩
 ·obtain ⟨r_2,c1,H⟩:=bd_ H
  replace c1:=P_ c1
  cases H
  exact aK
 rcases af H with ⟨q_3,H⟩|⟨q_3,H⟩
 ·obtain ⟨r_4,c2,H⟩:=bd_ H
  replace c2:=P_ c2
  cases H
  exact aK
 obtain ⟨r_5,c3,H⟩:=bd_ H
 replace c3:=P_ c3
 cases H
 exact aK
def ku (a_a:(List Val)) (a_b:(List Val)):(Int)->Option (Step (Int) (Int)):=fun s=>match s with
 | i_1=>bif (decide (i_1<((a_a.length:Nat):Int))) then bif (decide (i_1<((a_b.length:Nat):Int))) then (aT a_a i_1).bind fun x_4=>(aT a_b i_1).bind fun x_5=>(DT x_4 x_5).bind fun r_6=>bif (decide (r_6≠(0:Int))) then some (.ret r_6) else
 some (.next (IntKind.i64.wrap (i_1+(1:Int)))) else
 some (.exit i_1) else
 some (.exit i_1)
def gu (a_a:(List Val)) (a_b:(List Val)):Sum (Int) (Int)->Option ((Int))
 | .inl i_1=>bif (decide (((a_a.length:Nat):Int)<((a_b.length:Nat):Int))) then some (-1:Int) else
 bif (decide (((a_b.length:Nat):Int)<((a_a.length:Nat):Int))) then some (1:Int) else
 some (0:Int)
 | .inr q=>some q
def xn (a_a:(List Val)) (a_b:(List Val)):Option (Int):=(az (ku a_a a_b) fuel (0:Int)).bind (gu a_a a_b)
theorem su {a_a:(List Val)} {a_b:(List Val)} {r:Int} (H:xn a_a a_b=some r):Pure Tryz.prog 79 [.one (.lst (a_a.map cV)), .one (.lst (a_b.map cV))] (.val (.one (.int .i64 r))):=by
 unfold xn at H
 refine po_ Tryz.func79 Tryz.ntmps79 ?_
 refine bz ?_
 refine alM_ (fun s:Int=>match s with|i_1=>[(0, .one (.c (.lst (a_a.map cV)))),(1, .one (.c (.lst (a_b.map cV)))),(5, .one (.c (.int .i64 i_1)))]) (fun s=>match s with|i_1=>[]) H (fun _=>aqj _)
  (fm_ bY [] rfl bA trivial) ?_
 rintro i_1 st1 hb1 hk1
 unfold ku at hb1
 dsimp only at hb1 ⊢
 rcases af hb1 with ⟨q_2,hb1⟩|⟨q_2,hb1⟩
 ·rcases af hb1 with ⟨q_3,hb1⟩|⟨q_3,hb1⟩
  ·obtain ⟨x_4,i1z,i1,i1x,hb1⟩:=bn (f:=cV) hb1
   obtain ⟨x_5,i2z,i2,i2x,hb1⟩:=bn (f:=cV) hb1
   obtain ⟨r_6,c3,hb1⟩:=bd_ hb1
   replace c3:=GD c3
   rcases af hb1 with ⟨q_7,hb1⟩|⟨q_7,hb1⟩
   ·cases hb1
    have hx1:gu a_a a_b (.inr r_6)=some _:=hk1
    unfold gu at hx1
    dsimp only at hx1
    cases hx1
    exact aK
   cases hb1
   refine bz ?_
   exact ⟨_,rfl,fm_ bY [] rfl bA trivial⟩
  cases hb1
  have hx1:gu a_a a_b (.inl i_1)=some _:=hk1
  unfold gu at hx1
  dsimp only at hx1
  rcases af hx1 with ⟨q_8,hx1⟩|⟨q_8,hx1⟩
  ·cases hx1
   exact aK
  rcases af hx1 with ⟨q_9,hx1⟩|⟨q_9,hx1⟩
  ·cases hx1
   exact aK
  cases hx1
  exact aK
 cases hb1
 have hx1:gu a_a a_b (.inl i_1)=some _:=hk1
 unfold gu at hx1
 dsimp only at hx1
 rcases af hx1 with ⟨q_8,hx1⟩|⟨q_8,hx1⟩
 ·cases hx1
  exact aK
 rcases af hx1 with ⟨q_9,hx1⟩|⟨q_9,hx1⟩
 ·cases hx1
  exact aK
 cases hx1
 exact aK
section
variable {P:Program} {ti:TI} {B:Nat->Prop} {N n0:Nat} {R:PH} {γ:List Gh} {L:List Ob} {T:Tm} {w:World} {Q:AX->Tm->List Ob->Prop}
theorem aa_ {c:Code} (id:Nat) {ver k:Nat} {es:List (List SV)} {cs:List (List AC)} (hL:L[id]?=some (.row ver es k)) (hn:iC es=some cs) (h:Aw P N n0 c Q T (L.set id (.row ver (cs.map (List.map SV.c)) k))):Aw P N n0 c Q T L:=by
 intro hn0 B R γ w a hi hT
 have hlt:id<L.length:=(ap0.1 hL).1
 have hlen:=wV hn
 have hM:Mv R R γ γ L (L.set id (.row ver (cs.map (List.map SV.c)) k)):=by
  refine ⟨PH.sub_refl _,by simp,fun t n k' _ e=>?_,fun t ver' es' k' _ e=>?_,fun _ _ e=>e⟩
  ·by_cases q:t=id
   ·subst q;rw [aqh hlt] at e;cases e
   ·rw [aqi (Ne.symm q)] at e;exact ⟨n,e,aqe _,fun _=>rfl⟩
  ·by_cases q:t=id
   ·subst q;rw [aqh hlt] at e;injection e with e;injection e with e1 e2 e3;subst e1 e2 e3
    exact ⟨ver,es,hL,aqe _,fun _=>⟨by simp [hlen],rfl⟩⟩
   ·rw [aqi (Ne.symm q)] at e;exact ⟨ver',es',e,aqe _,fun _=>⟨rfl,rfl⟩⟩
 have hI:Inv B R γ (L.set id (.row ver (cs.map (List.map SV.c)) k)) w:=by
  refine ⟨by simp [hi.len],hi.val,fun t x g hx hg=>?_,hi.inj,hi.new,hi.bsz⟩
  by_cases q:t=id
  ·subst q
   rw [aqh hlt] at hx;injection hx with hx;subst hx
   have ho:=hi.obj t _ _ hL hg
   match g,ho with
   | .none,ho =>
    have ho:es=[]:=ho
    subst ho
    have:cs=[]:=aqo (by rw [<- hlen];rfl)
    subst this
    exact rfl
   | .arr b cc,⟨⟨vs,E,h1,h2,h3⟩,h4,h5,h6,h7⟩ =>
    refine ⟨⟨vs,E,h1,h2,fun i e j u x he hu hx=>?_⟩,by simpa [hlen] using h4,h5,fun e he=>?_,h7⟩
    ·rw [aql] at he
     cases hc:cs[i]? with
     | none=>rw [hc] at he;cases he
     | some c0 =>
      rw [hc] at he;injection he with he;subst he
      obtain ⟨e0,he0,hn0'⟩:=n_ hn i c0 hc
      rw [aql] at hx
      cases hj:c0[j]? with
      | none=>rw [hj] at hx;cases hx
      | some y =>
       rw [hj] at hx;injection hx with hx;subst hx
       obtain ⟨x0,hx0⟩:=gol_ (show j<e0.length by rw [<- iO hn0'];exact (ap0.1 hj).1)
       exact SV.norm_rep (h3 i e0 j u x0 he0 hu hx0) (oK hn0' j x0 y hx0 hj)
    ·obtain ⟨c0,hc0,rfl⟩:=aqz.1 he
     obtain ⟨i,hi0⟩:=List.getElem?_of_mem hc0
     obtain ⟨e0,he0,hn0'⟩:=n_ hn i c0 hi0
     rw [aqa,iO hn0']
     exact h6 e0 (ap6 he0)
  ·rw [aqi (Ne.symm q)] at hx
   exact (hi.obj t x g hx hg).mv hM (fun _ _=>rfl) (fun _ _ _ e=>e)
 refine wp_mono (h (by simpa using hn0) B R γ w a hI (hT.mv hM)) fun _ _ _ hh=>hh.ext (Ext.refl _ _ _) hi.len (vR.of hn0 hM)
end
theorem bT : ∀ {n:Nat} {L:List Ob}, vJ n L -> ∀ x∈L,x.below n
 | _,_::_,h,x,hx=>by
  rcases aqf.1 hx with rfl|hx
  ·exact h.1
  ·exact bT h.2 x hx
def gC (x:AC):List SV:=[.c x]
def anS:TI := { We with soft:=true }
theorem bG:TIok Tryz.prog anS:=⟨aj.size,aj.agg,aj.elem,aj.field,aj.zero,aj.bytes,aj.kind,aj.struct,aj.zok,aj.eqs⟩
theorem acO (σ:List Nat) (v k:Nat) (l:List AC):(Ob.row v (l.map gC) k).ren σ=Ob.row v (l.map gC) k:=by
 simp only [Ob.ren,List.map_map];rfl
theorem j1 {L L':List Ob} {v k:Nat} {l:List AC} (h:L.set 0 (Ob.row v (l.map gC) k)=L'):joinL [0] L [Ob.row v (l.map gC) k]=L':=by
 subst h
 simp [joinL,join,fJ,dK,jF,acO]
theorem dE {n:Nat} {l:List AV} (h:mh n (l.map fun x=>(0,x))) : ∀ y∈l,y.below n:=by
 induction l with
 | nil=>intro y hy;cases hy
 | cons x l ih =>
  intro y hy
  rcases aqf.1 hy with rfl|hy
  ·exact h.1
  ·exact ih h.2 y hy
def jh (p:SV) (u:Nat) (s:ByteArray) (i:Nat):Ob := .row (238+65536) [[p, .sl (i+1) u 0 s.size]] 2
def jk (u:Nat) (s:ByteArray):Ob := .row u (bQ s) 1
theorem ald : ∃ fn, Tryz.prog.funcs[293]? = some fn /\ (fn.name == "runtime.NumGoroutine") = false /\ fn.body.isNone = true /\ Extern.findNext fn = none /\ Extern.find fn = some Extern.AbiNoEscape.same := ⟨_, Tryz.func293, by kernel_rfl, by kernel_rfl, by kernel_rfl, by kernel_rfl⟩
theorem abP : ∃ j,Tryz.prog.info? 238=some j/\j.size=2:=by
 have h:(Tryz.prog.info? 238).map (·.size)=some 2:=by kernel_rfl
 cases hi:Tryz.prog.info? 238 with
 | none=>rw [hi] at h;cases h
 | some j=>rw [hi] at h;exact ⟨j,rfl,by simpa using h⟩
theorem dO {n v k:Nat} {a b:SV} (ha:a.below n) (hb:b.below n):(Ob.row v [[a,b]] k).below n:=by
 intro e he x hx
 rcases aqf.1 he with rfl|he
 ·rcases aqf.1 hx with rfl|hx
  ·exact ha
  ·rcases aqf.1 hx with rfl|hx
   ·exact hb
   ·cases hx
 ·cases he
theorem bM (n u:Nat) (s:ByteArray):(jk u s).below n:=by
 intro e he x hx
 obtain ⟨y,_,rfl⟩:=aqz.1 he
 rcases aqf.1 hx with rfl|hx
 ·trivial
 ·cases hx
theorem di (s:ByteArray):(bQ s).length=s.size:=by unfold bQ;rw [aqa];simp
theorem nJ (s t:ByteArray):bQ (s++t)=bQ s++bQ t:=by
 unfold bQ
 rw [<- aqb];congr 1
theorem Xn (σ:List Nat) (s:ByteArray):(bQ s).map (List.map (SV.ren σ))=bQ s:=by
 unfold bQ
 rw [List.map_map];rfl
theorem ko (σ:List Nat) (u:Nat) (s:ByteArray):(jk u s).ren σ=jk u s:=by simp only [jk,Ob.ren,Xn]
theorem Nb {i j:Nat} {L L':List Ob} {a b a' b':Ob} (ha:a.ren [i,j]=a') (hb:b.ren [i,j]=b') (h:(L.set i a').set j b'=L'):joinL [i,j] L [a,b]=L':=by
 subst ha hb h
 simp [joinL,join,fJ,dK,jF]
theorem BL {L:List Ob} {a b:Ob} {x:AV} {xs:List AV} {i j:Nat} (h0:L[i]?=some (a.ren [i,j])) (h1:L[j]?=some (b.ren [i,j])) (hne:i≠j) (ha:a.below 2) (hb:b.below 2) (hx : ∀ y∈x::xs,y.below 2):kW [i,j] [a,b] (x::xs) L:=by
 refine ⟨rfl,by simp [hne],fun k y hy=>?_,bT ⟨ha,hb,trivial⟩,hx⟩
 match k,hy with
 | 0,hy=>simp at hy;subst hy;exact h0
 | 1,hy=>simp at hy;subst hy;exact h1
 | k+2,hy=>simp at hy
theorem XI:Tryz.prog.cellsOf 238=2:=by kernel_rfl
theorem ahW:Tryz.prog.cellsOf 5=1:=by kernel_rfl
theorem zS (x:SV) (o:Ob) (hx:x.below 2) (ho:o.below 2):Run Tryz.prog 274 [.row (238+65536) [[(.c (.nul .ptr)),x]] 2,o] [.one (.ep 0 (238+65536) 0 0)] [.row (238+65536) [[(.ep 0 (238+65536) 0 0),x]] 2,o] (.tup []):=by
 obtain ⟨j,hj,hj2⟩:=abP
 obtain ⟨fn,hf,hnm,hbd,hnx,hfd⟩:=ald
 refine bP aj Tryz.func274 rfl rfl Tryz.ntmps274 (by simp) ?_
 simp only [iH]
 repeat' (first
  | refine st_nil ?_
  | refine aM rfl rfl rfl rfl ph_ ?_
  | refine aN rfl rfl rfl rfl ph_ ?_
  | refine sS_ rfl rfl rfl ph_ ?_
  | refine aO rfl rfl rfl rfl ph_ ?_
  | refine aH rfl rfl rfl ?_
  | refine sk0_ rfl rfl ?_
  | (refine aV rfl (fun hb=>?_) (fun hb=>?_)<;>(first|exact (fx_ hb).elim|rw [hb]))
  | refine aw_seq ?_
  | refine aw_region aj _ rfl ?_
  | refine aw_drawn2 bG _ rfl mixed (by decide +kernel) ?_
  | (refine aG rfl (fun hb=>?_) (fun hb=>?_)<;>(try exact (fx_ hb).elim))
  | refine aw_block ?_
  | refine aw_exit ?_
  | refine aw_ret ?_
  | refine aw_skip ?_
  | (refine ib rfl rfl rfl rfl rfl (IK rfl rfl (aj.kind 235 _ rfl)) ?_)
  | (refine ib rfl rfl rfl rfl rfl (AP rfl rfl rfl (aj.kind 235 _ rfl)) ?_)
  | (refine ib rfl rfl rfl rfl rfl (A8 rfl rfl rfl (aj.kind 235 _ rfl) hj) ?_)
  | (refine ib rfl rfl rfl rfl rfl (rR rfl rfl (aj.kind 235 _ rfl) (aj.kind 271 _ rfl) hj (by rw [hj2];decide)) ?_)
  | (refine ib rfl rfl rfl rfl rfl (yx rfl rfl (aj.kind 271 _ rfl) (aj.kind 235 _ rfl) hj XI rfl) ?_)
  | (refine dS rfl rfl rfl rfl rfl (yO rfl hf hnm hbd hnx hfd) ?_))
 all_goals exact ⟨.inl rfl,⟨.inr ⟨.tup [],⟨trivial,rfl⟩,rfl⟩,⟨[],rfl⟩,by simp,bT ⟨dO (by show 0<2;omega) hx,ho,trivial⟩,by simp [CV.av,AV.below]⟩⟩
theorem AJ (x:SV) (o:Ob) (hx:x.below 2) (ho:o.below 2):Run Tryz.prog 274 [.row (238+65536) [[(.ep 0 (238+65536) 0 0),x]] 2,o] [.one (.ep 0 (238+65536) 0 0)] [.row (238+65536) [[(.ep 0 (238+65536) 0 0),x]] 2,o] (.tup []):=by
 obtain ⟨j,hj,hj2⟩:=abP
 obtain ⟨fn,hf,hnm,hbd,hnx,hfd⟩:=ald
 refine bP aj Tryz.func274 rfl rfl Tryz.ntmps274 (by simp) ?_
 simp only [iH]
 repeat' (first
  | refine st_nil ?_
  | refine aM rfl rfl rfl rfl ph_ ?_
  | refine aN rfl rfl rfl rfl ph_ ?_
  | refine sS_ rfl rfl rfl ph_ ?_
  | refine aO rfl rfl rfl rfl ph_ ?_
  | refine aH rfl rfl rfl ?_
  | refine sk0_ rfl rfl ?_
  | (refine aV rfl (fun hb=>?_) (fun hb=>?_)<;>(first|exact (fx_ hb).elim|rw [hb]))
  | refine aw_seq ?_
  | refine aw_region aj _ rfl ?_
  | refine aw_drawn2 bG _ rfl mixed (by decide +kernel) ?_
  | (refine aG rfl (fun hb=>?_) (fun hb=>?_)<;>(try exact (fx_ hb).elim))
  | refine aw_block ?_
  | refine aw_exit ?_
  | refine aw_ret ?_
  | refine aw_skip ?_
  | (refine ib rfl rfl rfl rfl rfl (IK rfl rfl (aj.kind 235 _ rfl)) ?_)
  | (refine ib rfl rfl rfl rfl rfl (AP rfl rfl rfl (aj.kind 235 _ rfl)) ?_)
  | (refine ib rfl rfl rfl rfl rfl (A8 rfl rfl rfl (aj.kind 235 _ rfl) hj) ?_)
  | (refine ib rfl rfl rfl rfl rfl (rR rfl rfl (aj.kind 235 _ rfl) (aj.kind 271 _ rfl) hj (by rw [hj2];decide)) ?_)
  | (refine ib rfl rfl rfl rfl rfl (yx rfl rfl (aj.kind 271 _ rfl) (aj.kind 235 _ rfl) hj XI rfl) ?_)
  | (refine dS rfl rfl rfl rfl rfl (yO rfl hf hnm hbd hnx hfd) ?_))
 all_goals exact ⟨.inl rfl,⟨.inr ⟨.tup [],⟨trivial,rfl⟩,rfl⟩,⟨[],rfl⟩,by simp,bT ⟨dO (by show 0<2;omega) hx,ho,trivial⟩,by simp [CV.av,AV.below]⟩⟩
theorem UB (u:Nat) (s:ByteArray) (t:ByteArray) (hu:u%65536=5) (hs:s.size<=100000000000000) (ht:t.size<=1000000000000):Run Tryz.prog 250 [jh (.c (.nul .ptr)) u s 0,jk u s] [.one (.ep 0 (238+65536) 0 0), .one (.c (.str t))] [jh (.ep 0 (238+65536) 0 0) (u+65536) (s++t) 0,jk (u+65536) (s++t)] (.tup [.one (.int .i64 t.size), .one (.nul .iface)]):=by
 refine bP aj Tryz.func250 rfl rfl Tryz.ntmps250 (by simp) ?_
 simp only [iH]
 unfold jh
 repeat' (first
  | refine st_nil ?_
  | (refine dS rfl rfl rfl rfl rfl (iD aj (k:=1) (by_:=1) (xs:=bQ t) rfl rfl rfl rfl ⟨rfl,rfl⟩ rfl hu rfl rfl rfl (by omega) (by exact di s) (by rw [di];omega) (by rw [di];omega)) ?_)
  | (refine aM rfl rfl rfl rfl ?_ ?_; · (repeat' (first|exact trivial|rfl|exact ap_ rfl|omega|(intro e he;simp at he;subst he;rfl)|apply And.intro)))
  | (refine aN rfl rfl rfl rfl ?_ ?_; · (repeat' (first|exact trivial|rfl|exact ap_ rfl|omega|(intro e he;simp at he;subst he;rfl)|apply And.intro)))
  | (refine sS_ rfl rfl rfl ?_ ?_; · (repeat' (first|exact trivial|rfl|exact ap_ rfl|omega|(intro e he;simp at he;subst he;rfl)|apply And.intro)))
  | (refine aO rfl rfl rfl rfl ?_ ?_; · (repeat' (first|exact trivial|rfl|exact ap_ rfl|omega|(intro e he;simp at he;subst he;rfl)|apply And.intro)))
  | refine aH rfl rfl rfl ?_
  | refine sk0_ rfl rfl ?_
  | (refine eP [0,1] rfl rfl rfl rfl (zS (.sl 1 u 0 s.size) (jk u s) (by show 1<2;omega) (bM _ _ _)) rfl (BL (by rfl) (by rw [ko];rfl) (by decide) (dO trivial (by show 1<2;omega)) (bM _ _ _) (fun y hy=>by rcases aqf.1 hy with rfl|hy<;>first|(show 0<2;omega)|cases hy)) rfl (Nb rfl (ko _ _ _) rfl) ?_)
  | (refine aV rfl (fun hb=>?_) (fun hb=>?_)<;>(first|exact (fx_ hb).elim|rw [hb]))
  | refine aw_seq ?_
  | refine aw_region aj _ rfl ?_
  | refine aw_drawn2 bG _ rfl mixed (by decide +kernel) ?_
  | (refine aG rfl (fun hb=>?_) (fun hb=>?_)<;>(try exact (fx_ hb).elim))
  | refine aw_block ?_
  | refine aw_exit ?_
  | refine aw_ret ?_
  | refine aw_skip ?_)
 all_goals refine ⟨.inr rfl,⟨.inr ⟨.tup [.one (.int .i64 t.size), .one (.nul .iface)],⟨⟨trivial,trivial,trivial⟩,rfl⟩,rfl⟩,⟨[],?_⟩,by simp,bT ⟨dO (by show 0<2;omega) (by show 1<2;omega),bM _ _ _,trivial⟩,trivial⟩⟩
 all_goals (rw [aqy];show [Ob.row _ [[_,SV.sl (0+1) (u+65536) 0 (s.size+(bQ t).length)]] 2,Ob.row (u+65536) (bQ s++bQ t) 1]=_;rw [di, <- nJ, <- ByteArray.size_append];rfl)
theorem Gz (u:Nat) (s:ByteArray) (t:ByteArray) (hu:u%65536=5) (hs:s.size<=100000000000000) (ht:t.size<=1000000000000):Run Tryz.prog 250 [jh (.ep 0 (238+65536) 0 0) u s 0,jk u s] [.one (.ep 0 (238+65536) 0 0), .one (.c (.str t))] [jh (.ep 0 (238+65536) 0 0) (u+65536) (s++t) 0,jk (u+65536) (s++t)] (.tup [.one (.int .i64 t.size), .one (.nul .iface)]):=by
 refine bP aj Tryz.func250 rfl rfl Tryz.ntmps250 (by simp) ?_
 simp only [iH]
 unfold jh
 repeat' (first
  | refine st_nil ?_
  | (refine dS rfl rfl rfl rfl rfl (iD aj (k:=1) (by_:=1) (xs:=bQ t) rfl rfl rfl rfl ⟨rfl,rfl⟩ rfl hu rfl rfl rfl (by omega) (by exact di s) (by rw [di];omega) (by rw [di];omega)) ?_)
  | (refine aM rfl rfl rfl rfl ?_ ?_; · (repeat' (first|exact trivial|rfl|exact ap_ rfl|omega|(intro e he;simp at he;subst he;rfl)|apply And.intro)))
  | (refine aN rfl rfl rfl rfl ?_ ?_; · (repeat' (first|exact trivial|rfl|exact ap_ rfl|omega|(intro e he;simp at he;subst he;rfl)|apply And.intro)))
  | (refine sS_ rfl rfl rfl ?_ ?_; · (repeat' (first|exact trivial|rfl|exact ap_ rfl|omega|(intro e he;simp at he;subst he;rfl)|apply And.intro)))
  | (refine aO rfl rfl rfl rfl ?_ ?_; · (repeat' (first|exact trivial|rfl|exact ap_ rfl|omega|(intro e he;simp at he;subst he;rfl)|apply And.intro)))
  | refine aH rfl rfl rfl ?_
  | refine sk0_ rfl rfl ?_
  | (refine eP [0,1] rfl rfl rfl rfl (AJ (.sl 1 u 0 s.size) (jk u s) (by show 1<2;omega) (bM _ _ _)) rfl (BL (by rfl) (by rw [ko];rfl) (by decide) (dO (by show 0<2;omega) (by show 1<2;omega)) (bM _ _ _) (fun y hy=>by rcases aqf.1 hy with rfl|hy<;>first|(show 0<2;omega)|cases hy)) rfl (Nb rfl (ko _ _ _) rfl) ?_)
  | (refine aV rfl (fun hb=>?_) (fun hb=>?_)<;>(first|exact (fx_ hb).elim|rw [hb]))
  | refine aw_seq ?_
  | refine aw_region aj _ rfl ?_
  | refine aw_drawn2 bG _ rfl mixed (by decide +kernel) ?_
  | (refine aG rfl (fun hb=>?_) (fun hb=>?_)<;>(try exact (fx_ hb).elim))
  | refine aw_block ?_
  | refine aw_exit ?_
  | refine aw_ret ?_
  | refine aw_skip ?_)
 all_goals refine ⟨.inr rfl,⟨.inr ⟨.tup [.one (.int .i64 t.size), .one (.nul .iface)],⟨⟨trivial,trivial,trivial⟩,rfl⟩,rfl⟩,⟨[],?_⟩,by simp,bT ⟨dO (by show 0<2;omega) (by show 1<2;omega),bM _ _ _,trivial⟩,trivial⟩⟩
 all_goals (rw [aqy];show [Ob.row _ [[_,SV.sl (0+1) (u+65536) 0 (s.size+(bQ t).length)]] 2,Ob.row (u+65536) (bQ s++bQ t) 1]=_;rw [di, <- nJ, <- ByteArray.size_append];rfl)
theorem ZE (u:Nat) (s:ByteArray) (t:UInt8) (hu:u%65536=5) (hs:s.size<=100000000000000)  : Run Tryz.prog 252 [jh (.ep 0 (238+65536) 0 0) u s 0,jk u s] [.one (.ep 0 (238+65536) 0 0), .one (.c (.int .u8 t.toNat))] [jh (.ep 0 (238+65536) 0 0) (u+65536) (s++⟨#[t]⟩) 0,jk (u+65536) (s++⟨#[t]⟩)] (.one (.c (.nul .iface))):=by
 refine bP aj Tryz.func252 rfl rfl Tryz.ntmps252 (by simp) ?_
 simp only [iH]
 unfold jh
 repeat' (first
  | refine st_nil ?_
  | (refine dS rfl rfl rfl rfl rfl (iD aj (k:=1) (by_:=1) (xs:=bQ ⟨#[t]⟩) rfl rfl rfl rfl ⟨rfl,_,rfl,by intro e he;simp at he;subst he;rfl⟩ rfl hu rfl rfl rfl (by omega) (by exact di s) (by rw [di];show (s.size+1)*1<=_;omega) (by rw [di];show s.size+1<=_;omega)) ?_)
  | (refine aM rfl rfl rfl rfl ?_ ?_; · (repeat' (first|exact trivial|rfl|exact ap_ rfl|omega|(intro e he;simp at he;subst he;rfl)|apply And.intro)))
  | (refine aN rfl rfl rfl rfl ?_ ?_; · (repeat' (first|exact trivial|rfl|exact ap_ rfl|omega|(intro e he;simp at he;subst he;rfl)|apply And.intro)))
  | (refine sS_ rfl rfl rfl ?_ ?_; · (repeat' (first|exact trivial|rfl|exact ap_ rfl|omega|(intro e he;simp at he;subst he;rfl)|apply And.intro)))
  | (refine aO rfl rfl rfl rfl ?_ ?_; · (repeat' (first|exact trivial|rfl|exact ap_ rfl|omega|(intro e he;simp at he;subst he;rfl)|apply And.intro)))
  | refine aH rfl rfl rfl ?_
  | refine sk0_ rfl rfl ?_
  | (refine eP [0,1] rfl rfl rfl rfl (AJ (.sl 1 u 0 s.size) (jk u s) (by show 1<2;omega) (bM _ _ _)) rfl (BL (by rfl) (by rw [ko];rfl) (by decide) (dO (by show 0<2;omega) (by show 1<2;omega)) (bM _ _ _) (fun y hy=>by rcases aqf.1 hy with rfl|hy<;>first|(show 0<2;omega)|cases hy)) rfl (Nb rfl (ko _ _ _) rfl) ?_)
  | (refine aV rfl (fun hb=>?_) (fun hb=>?_)<;>(first|exact (fx_ hb).elim|rw [hb]))
  | refine aw_seq ?_
  | refine aw_region aj _ rfl ?_
  | refine aw_drawn2 bG _ rfl mixed (by decide +kernel) ?_
  | (refine aG rfl (fun hb=>?_) (fun hb=>?_)<;>(try exact (fx_ hb).elim))
  | refine aw_block ?_
  | refine aw_exit ?_
  | refine aw_ret ?_
  | refine aw_skip ?_)
 all_goals refine ⟨.inr rfl,⟨.inl ⟨4,rfl,rfl⟩,⟨[],?_⟩,by simp,bT ⟨dO (by show 0<2;omega) (by show 1<2;omega),bM _ _ _,trivial⟩,trivial⟩⟩
 all_goals (rw [aqy];show [Ob.row _ [[_,SV.sl (0+1) (u+65536) 0 (s.size+(bQ ⟨#[t]⟩).length)]] 2,Ob.row (u+65536) (bQ s++bQ ⟨#[t]⟩) 1]=_;rw [di, <- nJ, <- ByteArray.size_append];rfl)
theorem akK (u:Nat) (s:ByteArray) (hu:u%65536=5) (h0:0<s.size) (hs:s.size<=100000000000000):Run Tryz.prog 253 [jh (.ep 0 (238+65536) 0 0) u s 0,jk u s] [.one (.ep 0 (238+65536) 0 0)] [jh (.ep 0 (238+65536) 0 0) u s 0, .dead] (.one (.c (.str s))):=by
 refine bP aj Tryz.func253 rfl rfl Tryz.ntmps253 (by simp) ?_
 simp only [iH]
 unfold jh
 repeat' (first
  | refine st_nil ?_
  | (refine ib rfl rfl rfl rfl rfl (DK rfl rfl h0) ?_)
  | (refine acL rfl rfl rfl rfl rfl (xC rfl rfl rfl hu (bG.kind _ _ rfl) ahW h0 (by omega)) ?_)
  | refine aM rfl rfl rfl rfl ph_ ?_
  | refine aN rfl rfl rfl rfl ph_ ?_
  | refine sS_ rfl rfl rfl ph_ ?_
  | refine aO rfl rfl rfl rfl ph_ ?_
  | refine aH rfl rfl rfl ?_
  | refine sk0_ rfl rfl ?_
  | (refine aV rfl (fun hb=>?_) (fun hb=>?_)<;>(first|exact (fx_ hb).elim|rw [hb]))
  | refine aw_seq ?_
  | refine aw_region aj _ rfl ?_
  | refine aw_drawn2 bG _ rfl mixed (by decide +kernel) ?_
  | (refine aG rfl (fun hb=>?_) (fun hb=>?_)<;>(try exact (fx_ hb).elim))
  | refine aw_block ?_
  | refine aw_exit ?_
  | refine aw_ret ?_
  | refine aw_skip ?_)
 all_goals exact ⟨.inr rfl,⟨.inl ⟨2,rfl,rfl⟩,⟨[],rfl⟩,by simp,bT ⟨dO (by show 0<2;omega) (by show 1<2;omega),trivial,trivial⟩,trivial⟩⟩
theorem ai':Run Tryz.prog 253 [jh (.c (.nul .ptr)) 5 ⟨#[]⟩ 0,jk 5 ⟨#[]⟩] [.one (.ep 0 (238+65536) 0 0)] [jh (.c (.nul .ptr)) 5 ⟨#[]⟩ 0,jk 5 ⟨#[]⟩] (.one (.c (.str ⟨#[]⟩))):=by
 refine bP aj Tryz.func253 rfl rfl Tryz.ntmps253 (by simp) ?_
 simp only [iH]
 unfold jh
 repeat' (first
  | refine st_nil ?_
  | (refine ib rfl rfl rfl rfl rfl (BQ rfl rfl (by decide)) ?_)
  | (refine acL rfl rfl rfl rfl rfl (uu rfl rfl) ?_)
  | refine aM rfl rfl rfl rfl ph_ ?_
  | refine aN rfl rfl rfl rfl ph_ ?_
  | refine sS_ rfl rfl rfl ph_ ?_
  | refine aO rfl rfl rfl rfl ph_ ?_
  | refine aH rfl rfl rfl ?_
  | refine sk0_ rfl rfl ?_
  | (refine aV rfl (fun hb=>?_) (fun hb=>?_)<;>(first|exact (fx_ hb).elim|rw [hb]))
  | refine aw_seq ?_
  | refine aw_region aj _ rfl ?_
  | refine aw_drawn2 bG _ rfl mixed (by decide +kernel) ?_
  | (refine aG rfl (fun hb=>?_) (fun hb=>?_)<;>(try exact (fx_ hb).elim))
  | refine aw_block ?_
  | refine aw_exit ?_
  | refine aw_ret ?_
  | refine aw_skip ?_)
 all_goals exact ⟨.inr rfl,⟨.inl ⟨2,rfl,rfl⟩,⟨[],rfl⟩,by simp,bT ⟨dO trivial (by show 1<2;omega),bM _ _ _,trivial⟩,trivial⟩⟩
end Go.Proofs.YtlcceppoloaecaaGreatDoor
namespace Go.Proofs
open Go.Shelf
def Tryz.laysM171_ren:Go.Shelf.Ren:=⟨fun|171=>251|243=>275|246=>294|283=>301|284=>302|285=>303|286=>304|129=>130|317=>307|318=>308|319=>309|320=>310|337=>311|338=>312|n=>n,fun|3=>3|9=>9|2=>2|4=>4|171=>278|0=>0|53=>145|37=>236|5=>5|173=>280|212=>284|51=>143|20=>20|213=>285|46=>103|232=>286|233=>287|n=>n,fun|17=>1|18=>2|19=>3|n=>n⟩
theorem Tryz.laysM171:Go.Proofs.LaysM.n171 Tryz.prog Tryz.laysM171_ren := {
 mixed:=by kernel_rfl
 f129:=Tryz.func130.trans (congrArg some (by kernel_rfl))
 f171:=Tryz.func251.trans (congrArg some (by kernel_rfl))
 f243:=Tryz.func275.trans (congrArg some (by kernel_rfl))
 f246:=Tryz.func294.trans (congrArg some (by kernel_rfl))
 f283:=Tryz.func301.trans (congrArg some (by kernel_rfl))
 f284:=Tryz.func302.trans (congrArg some (by kernel_rfl))
 f285:=Tryz.func303.trans (congrArg some (by kernel_rfl))
 f286:=Tryz.func304.trans (congrArg some (by kernel_rfl))
 f317:=Tryz.func307.trans (congrArg some (by kernel_rfl))
 f318:=Tryz.func308.trans (congrArg some (by kernel_rfl))
 f319:=Tryz.func309.trans (congrArg some (by kernel_rfl))
 f320:=Tryz.func310.trans (congrArg some (by kernel_rfl))
 f337:=Tryz.func311.trans (congrArg some (by kernel_rfl))
 f338:=Tryz.func312.trans (congrArg some (by kernel_rfl))
 t0:=Tryz.underlying0
 a0:=Tryz.isAgg0
 z0:=Tryz.sizeOf0
 v0:=Tryz.zeroValue0
 t2:=Tryz.underlying2
 a2:=Tryz.isAgg2
 z2:=Tryz.sizeOf2
 v2:=Tryz.zeroValue2
 t3:=Tryz.underlying3
 a3:=Tryz.isAgg3
 z3:=Tryz.sizeOf3
 v3:=Tryz.zeroValue3
 t4:=Tryz.underlying4
 a4:=Tryz.isAgg4
 z4:=Tryz.sizeOf4
 v4:=Tryz.zeroValue4
 t5:=Tryz.underlying5
 a5:=Tryz.isAgg5
 z5:=Tryz.sizeOf5
 v5:=Tryz.zeroValue5
 t9:=Tryz.underlying9
 a9:=Tryz.isAgg9
 z9:=Tryz.sizeOf9
 v9:=Tryz.zeroValue9
 t20:=Tryz.underlying20
 a20:=Tryz.isAgg20
 z20:=Tryz.sizeOf20
 v20:=Tryz.zeroValue20
 t37:=Tryz.underlying236
 a37:=Tryz.isAgg236
 z37:=Tryz.sizeOf236
 v37:=Tryz.zeroValue236
 t46:=Tryz.underlying103
 a46:=Tryz.isAgg103
 z46:=Tryz.sizeOf103
 v46:=Tryz.zeroValue103
 t51:=Tryz.underlying143
 a51:=Tryz.isAgg143
 z51:=Tryz.sizeOf143
 v51:=Tryz.zeroValue143
 t53:=Tryz.underlying145
 a53:=Tryz.isAgg145
 z53:=Tryz.sizeOf145
 v53:=Tryz.zeroValue145
 t171:=Tryz.underlying278
 a171:=Tryz.isAgg278
 z171:=Tryz.sizeOf278
 v171:=Tryz.zeroValue278
 t173:=Tryz.underlying280
 a173:=Tryz.isAgg280
 z173:=Tryz.sizeOf280
 v173:=Tryz.zeroValue280
 t212:=Tryz.underlying284
 a212:=Tryz.isAgg284
 z212:=Tryz.sizeOf284
 v212:=Tryz.zeroValue284
 t213:=Tryz.underlying285
 a213:=Tryz.isAgg285
 z213:=Tryz.sizeOf285
 t232:=Tryz.underlying286
 a232:=Tryz.isAgg286
 z232:=Tryz.sizeOf286
 v232:=Tryz.zeroValue286
 t233:=Tryz.underlying287
 a233:=Tryz.isAgg287
 z233:=Tryz.sizeOf287
 v233:=Tryz.zeroValue287
 g17:=by kernel_rfl
 g18:=by kernel_rfl
 g19:=by kernel_rfl
 i0:=by kernel_rfl
 i2:=by kernel_rfl
 i3:=by kernel_rfl
 i4:=by kernel_rfl
 i5:=by kernel_rfl
 i9:=by kernel_rfl
 i20:=by kernel_rfl
 i37:=by kernel_rfl
 i46:=by kernel_rfl
 i51:=by kernel_rfl
 i53:=by kernel_rfl
 i171:=by kernel_rfl
 i173:=by kernel_rfl
 i212:=by kernel_rfl
 i232:=by kernel_rfl
 i233:=by kernel_rfl
 m17:=by kernel_rfl
 m18:=by kernel_rfl
 m19:=by kernel_rfl }
end Go.Proofs
namespace Go.Proofs.YtlcceppoloaecaaGreatDoor
open Go.Shelf Go.RowKit Go.Sort Go.Lib
set_option maxHeartbeats 6400000
set_option maxRecDepth 100000
section
variable {P:Program} {ρ:Ren}
def Wv (g:Nat) (w:World):Prop := ∀ q,q<20->w.cell? ⟨g,q,none⟩=some (.int .u64 ((10 ^ q:Nat):Int))
theorem Wv.alloc {g:Nat} {w:World} (h:Wv g w) (o:Obj):Wv g (w.alloc o):=fun q hq=>by
 rw [World.cell?_alloc_old]
 ·exact h q hq
 ·exact Nat.ne_of_lt (lt_of_cell (h q hq))
abbrev Q0 (b:UInt8):Value:=Value.int .u8 (b.toNat:Int)
theorem Xf (L:LaysM.n284 P ρ) (u:Nat) (h1:1<=u) (h2:u<18446744073709551616) (w:World) (hT:Wv (ρ.g 17) w) :
  Calls P (ρ.f 284) #[.int .u64 u] w fun e w'=>e = .returned (.int .i64 (Lib.nDigits u))/\w'=w:=by
 have mixed:=L.mixed
 have t53:=L.t53;have a53:=L.a53;have z53:=L.z53;have v53:=L.v53
 have t3:=L.t3;have a3:=L.a3;have z3:=L.z3;have v3:=L.v3
 have t212:=L.t212;have a212:=L.a212;have z212:=L.z212;have v212:=L.v212
 have t0:=L.t0;have a0:=L.a0;have z0:=L.z0;have v0:=L.v0
 have t4:=L.t4;have a4:=L.a4;have z4:=L.z4;have v4:=L.v4
 have e129 : ∀ args w,(callFunc (ρ.f 129) args).run P w = .ok (.enter (ρ.f 129) args) w:=enters_of L.f129 (by kernel_rfl) rfl
 have e317 : ∀ args w,(callFunc (ρ.f 317) args).run P w = .ok (.enter (ρ.f 317) args) w:=enters_of L.f317 (by kernel_rfl) rfl
 have e318 : ∀ args w,(callFunc (ρ.f 318) args).run P w = .ok (.enter (ρ.f 318) args) w:=enters_of L.f318 (by kernel_rfl) rfl
 obtain ⟨hnd,h19⟩:=Lib.numDigits_eq u h1 h2
 have hL:Lib.bitLen u<=64:=Lib.bitLen_le u 64 (aqe _) h2
 have hcell:=hT (Lib.l10 (Lib.bitLen u)) (by omega)
 have hto:((u:Int)).toNat=u:=by omega
 generalize hq:Lib.l10 (Lib.bitLen u)=q at hnd h19 hcell
 generalize hT2:10 ^ q=T at hnd hcell
 have h20:q<20:=by omega
 have Hnd:=Lib.hid hnd
 clear hnd hT
 go_enter L.f284,Body.n284_ntmps ρ
 go_wp2_with (first
  | (go_at_fn (ρ.f 129);refine (Any.bits_Len64 { L with } _ _ (by omega) (by omega)).mono ?_;rintro e w' ⟨rfl,rfl⟩)
  | (go_at_fn (ρ.f 317);refine (Any.internal_strconv_log10Pow2 { L with } _ (by first|exact hL|(rw [hto];exact hL)) _).mono ?_;rintro e w' ⟨rfl,rfl⟩)
  | (go_at_fn (ρ.f 318);refine (Any.internal_strconv_bool2_int { L with } _ _).mono ?_;rintro e w' ⟨rfl,rfl⟩))
 all_goals go_ret
 all_goals (
  refine ⟨?_,rfl⟩
  have hnd:=Hnd.out
  congr 2
  split at hnd<;>simp_all<;>omega)
theorem WH (L:LaysM.n246 P ρ) (n:Int) (h0 : -9223372036854775808<=n) (h1:n<=9223372036854775807) (w:World) (hT:Wv (ρ.g 17) w) :
  Calls P (ρ.f 246) #[.int .i64 n, .int .i64 10] w fun e w'=>e = .returned (.string ⟨(Lib.itoa n).toArray⟩) /\ ∃ k os,w'=grow (w.drewN k) os:=by
 by_cases hs:0<=n/\n<100
 ·obtain ⟨i,rfl⟩ : ∃ i:Nat,n=i:=⟨n.toNat,by omega⟩
  refine (Any.internal_strconv_FormatInt_10_small { L with } i (by omega) w).mono ?_
  rintro e w' ⟨rfl,rfl⟩
  exact ⟨by rw [Lib.itoa_nonneg],0, #[],by simp [World.drewN_zero]⟩
 have mixed:=L.mixed
 have t2:=L.t2;have a2:=L.a2;have z2:=L.z2;have v2:=L.v2
 have t3:=L.t3;have a3:=L.a3;have z3:=L.z3;have v3:=L.v3
 have t9:=L.t9;have a9:=L.a9;have z9:=L.z9;have v9:=L.v9
 have t4:=L.t4;have a4:=L.a4;have z4:=L.z4;have v4:=L.v4
 have t171:=L.t171;have a171:=L.a171;have z171:=L.z171;have v171:=L.v171
 have t0:=L.t0;have a0:=L.a0;have z0:=L.z0;have v0:=L.v0
 have t53:=L.t53;have a53:=L.a53;have z53:=L.z53;have v53:=L.v53
 have t37:=L.t37;have a37:=L.a37;have z37:=L.z37;have v37:=L.v37
 have t5:=L.t5;have a5:=L.a5;have z5:=L.z5;have v5:=L.v5
 have t173:=L.t173;have a173:=L.a173;have z173:=L.z173;have v173:=L.v173
 have e284 : ∀ args w,(callFunc (ρ.f 284) args).run P w = .ok (.enter (ρ.f 284) args) w:=enters_of L.f284 (by kernel_rfl) rfl
 have e285 : ∀ args w,(callFunc (ρ.f 285) args).run P w = .ok (.enter (ρ.f 285) args) w:=enters_of L.f285 (by kernel_rfl) rfl
 obtain ⟨u,hu⟩ : ∃ u:Nat,u=n.natAbs:=⟨_,rfl⟩
 have hu1:1<=u:=by omega
 have hu64:u<18446744073709551616:=by omega
 have hd20:Lib.nDigits u<=20:=by have:=Lib.numDigits_eq u hu1 hu64;split at this<;>omega
 have hb3:Lib.nDigits u<=23:=by omega
 have hal:P.arrayLen (ρ.t 171)=24:=by simp [Program.arrayLen,L.t171]
 have hel:P.underlying (ρ.t 171)=some (.array (P.arrayLen (ρ.t 171)) (P.elem (ρ.t 171))):=by simp [Program.arrayLen,Program.elem,L.t171]
 have hsl1 : ∀ W,(Instr.sliceAt (ρ.t 171) (.pointer (some ⟨w.heap.size,0,none⟩)) (some (.int .i64 1)) (some (.int .i64 (1+(Lib.nDigits u:Int)))) none).run P W = .ok (.slice (some ⟨w.heap.size,1,none⟩) (Lib.nDigits u) 23) W:=fun W=>by
  rw [run_sliceAt_array_lh W (ρ.t 171) ⟨w.heap.size,0,none⟩ hel .i64 .i64 1 (1+(Lib.nDigits u:Int)) (by omega) (by omega) (by rw [hal];omega)]
  go_simp
  omega
 have hsl2 : ∀ W,(Instr.sliceAt (ρ.t 171) (.pointer (some ⟨w.heap.size,0,none⟩)) none (some (.int .i64 (1+(Lib.nDigits u:Int)))) none).run P W = .ok (.slice (some ⟨w.heap.size,0,none⟩) (1+Lib.nDigits u) 24) W:=fun W=>by
  rw [run_sliceAt_array_h W (ρ.t 171) ⟨w.heap.size,0,none⟩ hel .i64 (1+(Lib.nDigits u:Int)) (by omega) (by rw [hal];omega)]
  go_simp
  omega
 have hH0:=Lib.holds_zero w (ρ.t 171) (Lib.nDigits u) (by omega)
 have hfmt:=Any.internal_strconv_formatBase10 { L with } w.heap.size 1 23 u (Array.replicate (Lib.nDigits u) 0) (w.alloc (.cells Lib.zeros24 (ρ.t 171))) hH0 (by rw [Array.size_replicate];exact Lib.lt_pow_nDigits u) hu64 (by rw [Array.size_replicate];omega)
 rw [Array.size_replicate] at hfmt
 have HH0:=Lib.hid hH0
 have hT1:=hT.alloc (.cells Lib.zeros24 (ρ.t 171))
 have hdig:=Xf (ρ:=ρ) { L with } u hu1 hu64 _ hT1
 clear hH0 hT hT1 hal hel
 by_cases hn:n<0
 ·have hw:IntKind.u64.wrap (-IntKind.u64.wrap (-(u:Int)))=(u:Int):=by rw [IntKind.wrap_u64,IntKind.wrap_u64];omega
  obtain rfl:n = -(u:Int):=by omega
  clear hs hu
  go_enter L.f246,Body.n246_ntmps ρ
  go_wp2_with (go_at_fn (ρ.f 284);refine hdig.mono ?_;rintro e w' ⟨rfl,rfl⟩)
  go_at_fn (ρ.f 285)
  refine hfmt.mono ?_
  rintro e w' ⟨rfl,k,v',dk,rfl,hF⟩
  have hc0:((putRow Q0 (w.alloc (.cells Lib.zeros24 (ρ.t 171))) w.heap.size 1 dk).drewN k).cell? ⟨w.heap.size,0,none⟩=some (.int .u8 0):=by
   rw [World.cell?_drewN,cell?_putRow_other _ _ _ _ _ _ (Or.inr (Or.inl (Nat.zero_lt_one))),World.cell?_alloc_new]
   exact Lib.zeros24_at 0 (by omega)
  have hf0:((putRow Q0 (w.alloc (.cells Lib.zeros24 (ρ.t 171))) w.heap.size 1 dk).drewN k).frozen? ⟨w.heap.size,0,none⟩=false:=by
   rw [World.frozen?_drewN,frozen?_putRow]
   exact World.frozen?_alloc_new _ _ _ _
  have hcv:(convert (ρ.t 37) (ρ.t 9) (.slice (some ⟨w.heap.size,0,none⟩) (1+Lib.nDigits u) 24)).run P (((putRow Q0 (w.alloc (.cells Lib.zeros24 (ρ.t 171))) w.heap.size 1 dk).drewN k).setCell ⟨w.heap.size,0,none⟩ (.int .u8 45)) = .ok (.string ⟨(45::Lib.decDigits u).toArray⟩) (((putRow Q0 (w.alloc (.cells Lib.zeros24 (ρ.t 171))) w.heap.size 1 dk).drewN k).setCell ⟨w.heap.size,0,none⟩ (.int .u8 45)):=by
   have h:=run_convert_bytes_back (P:=P) (((putRow Q0 (w.alloc (.cells Lib.zeros24 (ρ.t 171))) w.heap.size 1 dk).drewN k).setCell ⟨w.heap.size,0,none⟩ (.int .u8 45)) (ρ.t 37) (ρ.t 9) (ρ.t 5) ⟨w.heap.size,0,none⟩ 24 (45::Lib.decDigits u) L.t37 L.t5 L.t9 (fun j hj=>by
    rw [Lib.add_plain]
    cases j with
    | zero=>exact World.cell?_setCell_same _ _ _ hc0
    | succ i =>
     have hi:i<(Lib.decDigits u).length:=by simpa using hj
     rw [World.cell?_setCell_other _ _ _ _ (by simp),List.getElem_cons_succ,Lib.row_is_numeral hF i hi,World.cell?_drewN,show 0+(i+1)=1+i by omega]
     exact cell?_putRow Q0 _ w.heap.size 1 _ dk HH0.out (by rw [hF.size,Array.size_replicate]) i (by rw [hF.size];rw [Lib.decDigits_length] at hi;exact hi))
   rw [aqk,Lib.decDigits_length,Nat.add_comm] at h
   exact h
  go_wp2
  go_ret
  obtain ⟨os,eo⟩:=Lib.fin_neg w (.cells Lib.zeros24 (ρ.t 171)) dk k (.int .u8 45)
  exact ⟨by rw [Lib.itoa_neg u hu1];rfl,k,os,eo⟩
 ·obtain rfl:n=(u:Int):=by omega
  clear hu hsl2
  go_enter L.f246,Body.n246_ntmps ρ
  go_wp2_with (go_at_fn (ρ.f 284);refine hdig.mono ?_;rintro e w' ⟨rfl,rfl⟩)
  go_at_fn (ρ.f 285)
  refine hfmt.mono ?_
  rintro e w' ⟨rfl,k,v',dk,rfl,hF⟩
  have hcv:(convert (ρ.t 37) (ρ.t 9) (.slice (some ⟨w.heap.size,1,none⟩) (Lib.nDigits u) 23)).run P ((putRow Q0 (w.alloc (.cells Lib.zeros24 (ρ.t 171))) w.heap.size 1 dk).drewN k) = .ok (.string ⟨(Lib.decDigits u).toArray⟩) ((putRow Q0 (w.alloc (.cells Lib.zeros24 (ρ.t 171))) w.heap.size 1 dk).drewN k):=by
   have h:=run_convert_bytes_back (P:=P) ((putRow Q0 (w.alloc (.cells Lib.zeros24 (ρ.t 171))) w.heap.size 1 dk).drewN k) (ρ.t 37) (ρ.t 9) (ρ.t 5) ⟨w.heap.size,1,none⟩ 23 (Lib.decDigits u) L.t37 L.t5 L.t9 (fun j hj=>by
    rw [Lib.row_is_numeral hF j hj,Lib.add_plain,World.cell?_drewN]
    exact cell?_putRow Q0 _ w.heap.size 1 _ dk HH0.out (by rw [hF.size,Array.size_replicate]) j (by rw [hF.size];rw [Lib.decDigits_length] at hj;exact hj))
   rw [Lib.decDigits_length] at h
   exact h
  go_wp2
  go_ret
  obtain ⟨os,eo⟩:=Lib.fin_pos w (.cells Lib.zeros24 (ρ.t 171)) dk k
  exact ⟨by rw [Lib.itoa_nonneg];rfl,k,os,eo⟩
theorem ai6 (L:LaysM.n243 P ρ) (n:Int) (h0 : -9223372036854775808<=n) (h1:n<=9223372036854775807) (w:World) (hT:Wv (ρ.g 17) w) :
  Calls P (ρ.f 243) #[.int .i64 n] w fun e w'=>e = .returned (.string ⟨(Lib.itoa n).toArray⟩) /\ ∃ k os,w'=grow (w.drewN k) os:=by
 have mixed:=L.mixed
 have t3:=L.t3;have a3:=L.a3;have z3:=L.z3;have v3:=L.v3
 have t9:=L.t9;have a9:=L.a9;have z9:=L.z9;have v9:=L.v9
 have e246 : ∀ args w,(callFunc (ρ.f 246) args).run P w = .ok (.enter (ρ.f 246) args) w:=enters_of L.f246 (by kernel_rfl) rfl
 have hf:=WH (ρ:=ρ) { L with } n h0 h1 w hT
 go_enter L.f243,Body.n243_ntmps ρ
 go_wp2_with (go_at_fn (ρ.f 246);refine hf.mono ?_;rintro e w' ⟨rfl,k,os,rfl⟩)
 go_ret
 exact ⟨rfl,k,os,rfl⟩
theorem al8 (L:LaysM.n171 P ρ) (n:Int) (h0 : -9223372036854775808<=n) (h1:n<=9223372036854775807) (w:World) (hT:Wv (ρ.g 17) w) :
  Calls P (ρ.f 171) #[.int .i64 n] w fun e w'=>e = .returned (.string ⟨(Lib.itoa n).toArray⟩) /\ ∃ k os,w'=grow (w.drewN k) os:=by
 have mixed:=L.mixed
 have t3:=L.t3;have a3:=L.a3;have z3:=L.z3;have v3:=L.v3
 have t9:=L.t9;have a9:=L.a9;have z9:=L.z9;have v9:=L.v9
 have e243 : ∀ args w,(callFunc (ρ.f 243) args).run P w = .ok (.enter (ρ.f 243) args) w:=enters_of L.f243 (by kernel_rfl) rfl
 have hf:=ai6 (ρ:=ρ) { L with } n h0 h1 w hT
 go_enter L.f171,Body.n171_ntmps ρ
 go_wp2_with (go_at_fn (ρ.f 243);refine hf.mono ?_;rintro e w' ⟨rfl,k,os,rfl⟩)
 go_ret
 exact ⟨rfl,k,os,rfl⟩
end
def nR (n:Int):ByteArray:=⟨(Lib.itoa n).toArray⟩
theorem WA (R:PH) (w:World) (k:Nat) (os:Array Obj):Ext (· < w.heap.size) R R w (grow (w.drewN k) os):=by
 exact ⟨Kept.of (Lib.below_grow _ w (aqe _) k os),PH.sub_refl _,fun _ _ _=>rfl⟩
theorem aeN (n:Int) (h0 : -9223372036854775808<=n) (h1:n<=9223372036854775807):Pure Tryz.prog 251 [.one (.int .i64 n)] (.val (.one (.str (nR n)))):=by
 refine ⟨⟨_,Tryz.func251,by kernel_rfl,by kernel_rfl⟩,fun R w vs hR hs hv=>?_⟩
 obtain ⟨v,rfl⟩ : ∃ v,vs = #[v]:=by
  match vs,hs with
  | ⟨[v]⟩,_=>exact ⟨v,rfl⟩
 have:=hv 0 v _ rfl rfl
 cases this
 have hT:Wv (Tryz.laysM171_ren.g 17) w:=fun q hq=>hR _ _ _ (R.tab q _ (by unfold uV;rw [if_pos hq];norm_cast))
 refine (show Calls Tryz.prog 251 #[.int .i64 n] w _ from al8 Tryz.laysM171 n h0 h1 w hT).mono ?_
 rintro e w' ⟨rfl,k,os,rfl⟩
 refine ⟨_,R,rfl,WA R w k os,fun b o u h=>?_, .str _⟩
 have h1:=hR b o u h
 rw [<- h1];unfold World.cell?
 rw [show (grow (w.drewN k) os).heap[b]?=w.heap[b]? from (WA R w k os).below.block b (lt_of_cell h1)]
open Go.RowKit Go.MapKept
def aoc:TI := { We with dyn:=false }
theorem lS:TIok Tryz.prog aoc:=⟨aj.size,aj.agg,aj.elem,aj.field,aj.zero,aj.bytes,aj.kind,aj.struct,aj.zok,aj.eqs⟩
def am7:TI := { aoc with soft:=true }
theorem kD:TIok Tryz.prog am7:=⟨aj.size,aj.agg,aj.elem,aj.field,aj.zero,aj.bytes,aj.kind,aj.struct,aj.zok,aj.eqs⟩
def c32:ByteArray:=⟨#[32]⟩
def G7 (v:Val):List Int:=[v.kind,v.int,v.text.size]
def oH (a:ByteArray) (l:List Int):ByteArray:=l.foldl (fun a n=>a++nR n++c32) a
def eQ (l:List Val):ByteArray:=l.foldl (fun a v=>oH a (G7 v)++v.text) ⟨#[]⟩
theorem R3 (l:List Val) (v:Val):eQ (l++[v])=oH (eQ l) (G7 v)++v.text:=by unfold eQ;rw [List.foldl_append];rfl
theorem aec (a:ByteArray) (l:List Int) (n:Int):oH a (l++[n])=oH a l++nR n++c32:=by unfold oH;rw [List.foldl_append];rfl
def VOK (v:Val):Prop:=(-9223372036854775808<=v.kind/\v.kind<=9223372036854775807)/\(-9223372036854775808<=v.int/\v.int<=9223372036854775807)/\v.text.size<=10000000000
theorem EY (n:Int) (h0 : -9223372036854775808<=n) (h1:n<=9223372036854775807):(nR n).size<=30/\0<(nR n).size:=by
 unfold nR
 show (Lib.itoa n).toArray.size<=30/\0<(Lib.itoa n).toArray.size
 rw [List.size_toArray]
 have key : ∀ u:Nat,u<18446744073709551616->Lib.nDigits u<=20:=by
  intro u h
  rcases Nat.eq_zero_or_pos u with rfl|h1
  ·rw [Lib.nDigits_small (by omega)];omega
  ·have:=Lib.numDigits_eq u h1 h;split at this<;>omega
 by_cases hn:n<0
 ·obtain ⟨u,rfl⟩ : ∃ u:Nat,n = -(u:Int):=⟨n.natAbs,by omega⟩
  rw [Lib.itoa_neg u (by omega),aqk,Lib.decDigits_length]
  have:=key u (by omega);omega
 ·obtain ⟨u,rfl⟩ : ∃ u:Nat,n=(u:Int):=⟨n.toNat,by omega⟩
  rw [Lib.itoa_nonneg,Lib.decDigits_length]
  have:=key u (by omega);have:=Lib.nDigits_pos u;omega
theorem CJ : ∀ (l:List Int) (a:ByteArray),(∀ n∈l, -9223372036854775808<=n/\n<=9223372036854775807)->(oH a l).size<=a.size+31*l.length
 | [],a,_=>by simp [oH]
 | n::l,a,h=>by
  have h1:=CJ l (a++nR n++c32) fun x hx=>h x (aqm _ hx)
  have h2:=(EY n (h n (by simp)).1 (h n (by simp)).2).1
  have hc:c32.size=1:=rfl
  have e:oH a (n::l)=oH (a++nR n++c32) l:=rfl
  rw [e]
  simp only [ByteArray.size_append,hc] at h1
  rw [aqk];omega
theorem adF (l:List Val) (h : ∀ v∈l,VOK v):(eQ l).size<=l.length*10000000100:=by
 have key : ∀ (l:List Val) (a:ByteArray),(∀ v∈l,VOK v)->(l.foldl (fun a v=>oH a (G7 v)++v.text) a).size<=a.size+l.length*10000000100:=by
  intro l
  induction l with
  | nil=>intro a _;simp
  | cons v l ih =>
   intro a h
   obtain ⟨h1,h2,h3⟩:=h v (by simp)
   rw [aqP]
   have q1:=ih (oH a (G7 v)++v.text) fun x hx=>h x (aqm _ hx)
   have q2:=CJ (G7 v) a (by
    intro n hn
    simp only [G7,aqf,List.not_mem_nil,or_false] at hn
    rcases hn with rfl|rfl|rfl
    ·exact h1
    ·exact h2
    ·omega)
   have e3:(G7 v).length=3:=rfl
   simp only [ByteArray.size_append] at q1
   rw [aqk]
   omega
 have:=key l ⟨#[]⟩ h
 have e:(⟨#[]⟩:ByteArray).size=0:=rfl
 rw [e,aqH] at this
 exact this
def pB (fresh:Bool):SV:=if fresh then .c (.nul .ptr) else (.ep 0 (238+65536) 0 0)
theorem amq (b:Bool):(pB b).ren [0,1]=pB b:=by cases b<;>rfl
theorem NK (b:Bool) {n:Nat} (h:0<n):(pB b).below n:=by cases b<;>first|exact h|exact True.intro
theorem UV (b:Bool) (u:Nat) (s t:ByteArray) (hu:u%65536=5) (hs:s.size<=100000000000000) (ht:t.size<=1000000000000):Run Tryz.prog 250 [jh (pB b) u s 0,jk u s] [.one (.ep 0 (238+65536) 0 0), .one (.c (.str t))] [jh (.ep 0 (238+65536) 0 0) (u+65536) (s++t) 0,jk (u+65536) (s++t)] (.tup [.one (.int .i64 t.size), .one (.nul .iface)]):=by
 cases b
 ·exact Gz u s t hu hs ht
 ·exact UB u s t hu hs ht
theorem rf2 {L:List Ob} {p:SV} {u:Nat} {s:ByteArray} {x:AV} {xs:List AV} (hL0:L[0]?=some (jh p u s 0)) (hL1:L[1]?=some (jk u s)) (hp:p.ren [0,1]=p) (hpb:p.below 2) (hx : ∀ y∈x::xs,y.below 2):kW [0,1] [jh p u s 0,jk u s] (x::xs) L:=by
 refine BL ?_ (by rw [ko];exact hL1) (by decide) (dO hpb (by show 1<2;omega)) (bM _ _ _) hx
 rw [hL0]
 show some (Ob.row _ [[p,SV.sl 1 u 0 s.size]] 2)=some (Ob.row _ [[p.ren [0,1],SV.sl 1 u 0 s.size]] 2)
 rw [hp]
theorem j2 {L L':List Ob} {u:Nat} {s:ByteArray} (h:(L.set 0 (jh (.ep 0 (238+65536) 0 0) u s 0)).set 1 (jk u s)=L'):joinL [0,1] L [jh (.ep 0 (238+65536) 0 0) u s 0,jk u s]=L':=Nb rfl (ko _ _ _) h
def Nj (l:List Val) (i:Nat):List Ob:=[jh (pB (decide (i=0))) (5+458752*i) (eQ (l.take i)) 0,jk (5+458752*i) (eQ (l.take i))]
def PR (u:Nat) (a:ByteArray) (f:Bool) (ns:List Int) (bx:Ob) (j:Nat):List Ob:=[jh (pB (f&&decide (j=0))) (u+131072*j) (oH a (ns.take j)) 0,jk (u+131072*j) (oH a (ns.take j)),bx]
set_option maxHeartbeats 4000000 in
theorem ae5 (l:List Val) (hl:l.length<=1000) (h : ∀ v∈l,VOK v):Pure Tryz.prog 237 [.one (dM l)] (.val (.one (.str (eQ l)))):=by
 refine pa_ lS Tryz.func237 rfl rfl Tryz.ntmps237 (by simp) ?_
 simp only [argT,PV.av,ap',aqd]
 obtain ⟨inf,hinf,hiz⟩ : ∃ inf,Tryz.prog.info? 238=some inf/\inf.zero=some (.agg #[.pointer none, .slice none 0 0]):=by
  have hh:(Tryz.prog.info? 238).bind (·.zero)=some (.agg #[.pointer none, .slice none 0 0]):=by kernel_rfl
  cases hi:Tryz.prog.info? 238 with
  | none=>rw [hi] at hh;cases hh
  | some j=>rw [hi] at hh;exact ⟨j,rfl,by simpa using hh⟩
 have hc:c32.size=1:=rfl
 have he0:(⟨#[]⟩:ByteArray).size=0:=rfl
 obtain ⟨n,hn⟩ : ∃ n,l.length=n:=⟨_,rfl⟩
 repeat' (first
  | refine st_nil ?_
  | (refine dS rfl rfl rfl rfl rfl (xu (Eb:=5) (k:=1) hinf hiz (by decide) (by decide) (by decide)) ?_)
  | (refine aM rfl rfl rfl rfl ?_ ?_; · (repeat' (first|exact trivial|rfl|exact ap_ rfl|omega|refine aqT.2 ⟨?_,?_⟩|exact fun _ h=>nomatch h|apply And.intro)))
  | (refine aN rfl rfl rfl rfl ?_ ?_; · (repeat' (first|exact trivial|rfl|exact ap_ rfl|omega|refine aqT.2 ⟨?_,?_⟩|exact fun _ h=>nomatch h|apply And.intro)))
  | (refine sS_ rfl rfl rfl ?_ ?_; · (repeat' (first|exact trivial|rfl|exact ap_ rfl|omega|refine aqT.2 ⟨?_,?_⟩|exact fun _ h=>nomatch h|apply And.intro)))
  | (refine aO rfl rfl rfl rfl ?_ ?_; · (repeat' (first|exact trivial|rfl|exact ap_ rfl|omega|refine aqT.2 ⟨?_,?_⟩|exact fun _ h=>nomatch h|apply And.intro)))
  | refine aH rfl rfl rfl ?_
  | refine sk0_ rfl rfl ?_
  | (refine aV rfl (fun hb=>?_) (fun hb=>?_)<;>(first|exact (fx_ hb).elim|rw [hb]))
  | refine aw_seq ?_
  | refine aw_region lS _ rfl ?_
  | refine aw_drawn2 kD _ rfl mixed (by decide +kernel) ?_
  | (refine aG rfl (fun hb=>?_) (fun hb=>?_)<;>(try exact (fx_ hb).elim))
  | refine aw_block ?_
  | refine aw_exit ?_
  | refine aw_ret ?_
  | refine aw_skip ?_)
 refine eH (fun i:Nat=>[(0, .one (.c (dM l))),(3, .one (.ep 0 (238+65536) 0 0)),(8, .one (.c (dM l))),(9, .one (.c (.int .i64 n))),(10, .one (.c (.int .i64 i)))]) (fun i=>Nj l i) (fun i=>i<=n) (fun i=>n-i) 0 (by omega) (fun _ _=>aqj _)
  (fm_ ⟨rfl,rfl,rfl,bB (by simp [hn]),rfl,trivial⟩ [] rfl ⟨trivial,(by show 0<2;omega),trivial,trivial,trivial,trivial⟩ ⟨dO (NK _ (by show 0<2;omega)) (by show 1<2;omega),bM _ _ _,trivial⟩) ?_
 intro i hi
 have hsz:=adF (l.take i) fun v hv=>h v (aqW hv)
 rw [aqQ] at hsz
 by_cases hlt2:i<n
 ·obtain ⟨v,hv⟩:=gol_ (show i<l.length by omega)
  obtain ⟨k1,k2,k3⟩:=h v (ap6 hv)
  have hsn:=R3 (l.take i) v
  rw [<- dw hv] at hsn
  have hu:(5+458752*i)%65536=5:=by omega
  have e0:Nj l i=[jh (pB (decide (i=0))) (5+458752*i) (eQ (l.take i)) 0,jk (5+458752*i) (eQ (l.take i))]:=rfl
  rw [e0]
  generalize eQ (l.take i)=a0 at hsz hsn
  obtain ⟨kd,nn,tx⟩:=v
  simp only at k1 k2 k3
  repeat' (first
   | refine st_nil ?_
   | (refine aM rfl rfl rfl rfl ?_ ?_; · (repeat' (first|exact trivial|rfl|exact ap_ rfl|omega|refine aqT.2 ⟨?_,?_⟩|exact fun _ h=>nomatch h|apply And.intro)))
   | (refine dm rfl rfl rfl rfl rfl rfl rfl rfl (cZ hv) ?_ ?_; · exact ⟨by omega,rfl⟩)
   | (refine aN rfl rfl rfl rfl ?_ ?_; · (repeat' (first|exact trivial|rfl|exact ap_ rfl|omega|refine aqT.2 ⟨?_,?_⟩|exact fun _ h=>nomatch h|apply And.intro)))
   | (refine sS_ rfl rfl rfl ?_ ?_; · (repeat' (first|exact trivial|rfl|exact ap_ rfl|omega|refine aqT.2 ⟨?_,?_⟩|exact fun _ h=>nomatch h|apply And.intro)))
   | (refine aO rfl rfl rfl rfl ?_ ?_; · (repeat' (first|exact trivial|rfl|exact ap_ rfl|omega|refine aqT.2 ⟨?_,?_⟩|exact fun _ h=>nomatch h|apply And.intro)))
   | refine aH rfl rfl rfl ?_
   | refine sk0_ rfl rfl ?_
   | (refine aV rfl (fun hb=>?_) (fun hb=>?_)<;>(first|exact (fx_ hb).elim|rw [hb]))
   | refine aw_seq ?_
   | refine aw_region lS _ rfl ?_
   | refine aw_drawn2 kD _ rfl mixed (by decide +kernel) ?_
   | (refine aG rfl (fun hb=>?_) (fun hb=>?_)<;>(try exact (fx_ hb).elim))
   | refine aw_block ?_
   | refine aw_exit ?_
   | refine aw_ret ?_
   | refine aw_skip ?_)
  refine eH (fun j:Nat=>[(0, .one (.c (dM l))),(3, .one (.ep 0 (238+65536) 0 0)),(5, .one (.ptr 2 0)),(8, .one (.c (dM l))),(9, .one (.c (.int .i64 n))),(10, .one (.c (.int .i64 i))),(21, .one (.c (.lst ([kd,nn,(tx.size:Int)].map fun x=>[AC.int .i64 x])))),(22, .one (.c (.int .i64 3))),(23, .one (.c (.int .i64 j)))]) (fun j=>PR (5+458752*i) a0 (decide (i=0)) [kd,nn,tx.size] (.box [.c (.int .i64 kd), .c (.int .i64 nn), .c (.str tx)]) j) (fun j=>j<=3) (fun j=>3-j) 0 (by omega) (fun _ _=>aqj _)
   (fm_ ⟨rfl,rfl,rfl,rfl,rfl,rfl,rfl,rfl,rfl,trivial⟩ [] ?_ ⟨trivial,(by show 0<3;omega),(by show 2<3;omega),trivial,trivial,trivial,trivial,trivial,trivial,trivial⟩ ⟨dO (NK _ (by show 0<3;omega)) (by show 1<3;omega),bM _ _ _,lL (by rfl),trivial⟩) ?_
  ·simp only [PR,Nat.mul_zero,Nat.add_zero,List.take_zero,decide_true,Bool.and_true];rfl
  intro j hj
  by_cases hj3:j<3
  ·obtain ⟨x,hx⟩:=gol_ (show j<[kd,nn,(tx.size:Int)].length by exact hj3)
   have hxr : -9223372036854775808<=x/\x<=9223372036854775807:=by
    have:=ap6 hx
    simp only [aqf,List.not_mem_nil,or_false] at this
    rcases this with rfl|rfl|rfl
    ·exact k1
    ·exact k2
    ·omega
   have hit:=aeN x hxr.1 hxr.2
   repeat' (first
    | refine st_nil ?_
    | (refine aM rfl rfl rfl rfl ?_ ?_; · (repeat' (first|exact trivial|rfl|exact ap_ rfl|omega|refine aqT.2 ⟨?_,?_⟩|exact fun _ h=>nomatch h|apply And.intro)))
    | (refine dm rfl rfl rfl rfl rfl rfl rfl rfl (cZ hx) ?_ ?_; · exact ⟨by omega,rfl⟩)
    | (refine aN rfl rfl rfl rfl ?_ ?_; · (repeat' (first|exact trivial|rfl|exact ap_ rfl|omega|refine aqT.2 ⟨?_,?_⟩|exact fun _ h=>nomatch h|apply And.intro)))
    | (refine sS_ rfl rfl rfl ?_ ?_; · (repeat' (first|exact trivial|rfl|exact ap_ rfl|omega|refine aqT.2 ⟨?_,?_⟩|exact fun _ h=>nomatch h|apply And.intro)))
    | (refine aO rfl rfl rfl rfl ?_ ?_; · (repeat' (first|exact trivial|rfl|exact ap_ rfl|omega|refine aqT.2 ⟨?_,?_⟩|exact fun _ h=>nomatch h|apply And.intro)))
    | refine aH rfl rfl rfl ?_
    | refine sk0_ rfl rfl ?_
    | refine aZ rfl rfl rfl rfl hit rfl ?_
    | (refine aV rfl (fun hb=>?_) (fun hb=>?_)<;>(first|exact (fx_ hb).elim|rw [hb]))
    | refine aw_seq ?_
    | refine aw_region lS _ rfl ?_
    | refine aw_drawn2 kD _ rfl mixed (by decide +kernel) ?_
    | (refine aG rfl (fun hb=>?_) (fun hb=>?_)<;>(try exact (fx_ hb).elim))
    | refine aw_block ?_
    | refine aw_exit ?_
    | refine aw_ret ?_
    | refine aw_skip ?_)
   have hitz:=EY x hxr.1 hxr.2
   have hns:=CJ ([kd,nn,(tx.size:Int)].take j) a0 (by
    intro y hy
    have:=aqW hy
    simp only [aqf,List.not_mem_nil,or_false] at this
    rcases this with rfl|rfl|rfl
    ·exact k1
    ·exact k2
    ·omega)
   have hl3:([kd,nn,(tx.size:Int)].take j).length<=3:=by rw [aqQ];exact Nat.le_trans (Nat.min_le_right _ _) (aqe _)
   have hsj:=aec a0 ([kd,nn,(tx.size:Int)].take j) x
   rw [<- dw hx] at hsj
   have hu2:(5+458752*i+131072*j)%65536=5:=by omega
   have eC:PR (5+458752*i) a0 (decide (i=0)) [kd,nn,(tx.size:Int)] (.box [.c (.int .i64 kd), .c (.int .i64 nn), .c (.str tx)]) j=[jh (pB (decide (i=0)&&decide (j=0))) (5+458752*i+131072*j) (oH a0 ([kd,nn,(tx.size:Int)].take j)) 0,jk (5+458752*i+131072*j) (oH a0 ([kd,nn,(tx.size:Int)].take j)),(.box [.c (.int .i64 kd), .c (.int .i64 nn), .c (.str tx)])]:=rfl
   have eC2:PR (5+458752*i) a0 (decide (i=0)) [kd,nn,(tx.size:Int)] (.box [.c (.int .i64 kd), .c (.int .i64 nn), .c (.str tx)]) (j+1)=[jh (.ep 0 (238+65536) 0 0) (5+458752*i+131072*j+65536+65536) (oH a0 ([kd,nn,(tx.size:Int)].take j)++nR x++c32) 0,jk (5+458752*i+131072*j+65536+65536) (oH a0 ([kd,nn,(tx.size:Int)].take j)++nR x++c32),(.box [.c (.int .i64 kd), .c (.int .i64 nn), .c (.str tx)])]:=by
    unfold PR
    rw [hsj,show decide (j+1=0)=false by simp,Bool.and_false,show 5+458752*i+131072*(j+1)=5+458752*i+131072*j+65536+65536 by omega]
    rfl
   rw [eC]
   generalize oH a0 ([kd,nn,(tx.size:Int)].take j)=b0 at hns eC2
   generalize 5+458752*i+131072*j=u0 at hu2 eC2
   generalize hB1:nR x=b1 at hitz eC2
   refine eP [0,1] rfl rfl rfl rfl (UV _ u0 b0 b1 hu2 (by omega) (by omega)) rfl (rf2 rfl rfl (amq _) (NK _ (by show 0<2;omega)) (fun y hy=>by rcases aqf.1 hy with rfl|hy<;>first|(show 0<2;omega)|(rcases aqf.1 hy with rfl|hy<;>first|exact True.intro|cases hy)|cases hy)) rfl (j2 (L':=[jh (.ep 0 (238+65536) 0 0) (u0+65536) (b0++b1) 0,jk (u0+65536) (b0++b1),(.box [.c (.int .i64 kd), .c (.int .i64 nn), .c (.str tx)])]) rfl) ?_
   repeat' (first
    | refine st_nil ?_
    | refine aM rfl rfl rfl rfl ph_ ?_
    | refine aN rfl rfl rfl rfl ph_ ?_
    | refine sS_ rfl rfl rfl ph_ ?_
    | refine aO rfl rfl rfl rfl ph_ ?_
    | refine aH rfl rfl rfl ?_
    | refine sk0_ rfl rfl ?_
    | (refine aV rfl (fun hb=>?_) (fun hb=>?_)<;>(first|exact (fx_ hb).elim|rw [hb]))
    | refine aw_seq ?_
    | refine aw_region lS _ rfl ?_
    | refine aw_drawn2 kD _ rfl mixed (by decide +kernel) ?_
    | (refine aG rfl (fun hb=>?_) (fun hb=>?_)<;>(try exact (fx_ hb).elim))
    | refine aw_block ?_
    | refine aw_exit ?_
    | refine aw_ret ?_
    | refine aw_skip ?_)
   refine eP [0,1] rfl rfl rfl rfl (ZE (u0+65536) (b0++b1) 32 (by omega) (by simp only [ByteArray.size_append];omega)) rfl (rf2 rfl rfl rfl (by show 0<2;omega) (fun y hy=>by rcases aqf.1 hy with rfl|hy<;>first|(show 0<2;omega)|(rcases aqf.1 hy with rfl|hy<;>first|exact True.intro|cases hy)|cases hy)) rfl (j2 (L':=[jh (.ep 0 (238+65536) 0 0) (u0+65536+65536) (b0++b1++c32) 0,jk (u0+65536+65536) (b0++b1++c32),(.box [.c (.int .i64 kd), .c (.int .i64 nn), .c (.str tx)])]) rfl) ?_
   repeat' (first
    | refine st_nil ?_
    | refine aM rfl rfl rfl rfl ph_ ?_
    | refine aN rfl rfl rfl rfl ph_ ?_
    | refine sS_ rfl rfl rfl ph_ ?_
    | refine aO rfl rfl rfl rfl ph_ ?_
    | refine aH rfl rfl rfl ?_
    | refine sk0_ rfl rfl ?_
    | (refine aV rfl (fun hb=>?_) (fun hb=>?_)<;>(first|exact (fx_ hb).elim|rw [hb]))
    | refine aw_seq ?_
    | refine aw_region lS _ rfl ?_
    | refine aw_drawn2 kD _ rfl mixed (by decide +kernel) ?_
    | (refine aG rfl (fun hb=>?_) (fun hb=>?_)<;>(try exact (fx_ hb).elim))
    | refine aw_block ?_
    | refine aw_exit ?_
    | refine aw_ret ?_
    | refine aw_skip ?_)
   exact ⟨j+1,by omega,by omega,fm_ ⟨rfl,rfl,rfl,rfl,rfl,rfl,rfl,rfl,bB (bF (by omega) (by omega)),trivial⟩ [] (by rw [eC2];rfl) (by rw [eC2];exact ⟨trivial,(by show 0<3;omega),(by show 2<3;omega),trivial,trivial,trivial,trivial,trivial,trivial,trivial⟩) (by rw [eC2];exact ⟨dO (by show 0<3;omega) (by show 1<3;omega),bM _ _ _,lL (by rfl),trivial⟩)⟩
  ·have hj4:j=3:=by omega
   subst hj4
   have hns:=CJ [kd,nn,(tx.size:Int)] a0 (by
    intro y hy
    simp only [aqf,List.not_mem_nil,or_false] at hy
    rcases hy with rfl|rfl|rfl
    ·exact k1
    ·exact k2
    ·omega)
   have hl3:[kd,nn,(tx.size:Int)].length=3:=rfl
   have eC:PR (5+458752*i) a0 (decide (i=0)) [kd,nn,(tx.size:Int)] (.box [.c (.int .i64 kd), .c (.int .i64 nn), .c (.str tx)]) 3=[jh (.ep 0 (238+65536) 0 0) (5+458752*i+393216) (oH a0 [kd,nn,(tx.size:Int)]) 0,jk (5+458752*i+393216) (oH a0 [kd,nn,(tx.size:Int)]),(.box [.c (.int .i64 kd), .c (.int .i64 nn), .c (.str tx)])]:=by
    unfold PR
    rw [show decide (3=0)=false by simp,Bool.and_false]
    rfl
   have eN:Nj l (i+1)=[jh (.ep 0 (238+65536) 0 0) (5+458752*i+393216+65536) (oH a0 [kd,nn,(tx.size:Int)]++tx) 0,jk (5+458752*i+393216+65536) (oH a0 [kd,nn,(tx.size:Int)]++tx)]:=by
    unfold Nj
    rw [hsn,show decide (i+1=0)=false by simp,show 5+458752*(i+1)=5+458752*i+393216+65536 by omega]
    rfl
   rw [eC]
   generalize oH a0 [kd,nn,(tx.size:Int)]=b0 at hns eN
   have hu2:(5+458752*i+393216)%65536=5:=by omega
   generalize 5+458752*i+393216=u0 at hu2 eN
   repeat' (first
    | refine st_nil ?_
    | refine aM rfl rfl rfl rfl ph_ ?_
    | refine aN rfl rfl rfl rfl ph_ ?_
    | refine sS_ rfl rfl rfl ph_ ?_
    | refine aO rfl rfl rfl rfl ph_ ?_
    | refine aH rfl rfl rfl ?_
    | refine sk0_ rfl rfl ?_
    | (refine aV rfl (fun hb=>?_) (fun hb=>?_)<;>(first|exact (fx_ hb).elim|rw [hb]))
    | refine aw_seq ?_
    | refine aw_region lS _ rfl ?_
    | refine aw_drawn2 kD _ rfl mixed (by decide +kernel) ?_
    | (refine aG rfl (fun hb=>?_) (fun hb=>?_)<;>(try exact (fx_ hb).elim))
    | refine aw_block ?_
    | refine aw_exit ?_
    | refine aw_ret ?_
    | refine aw_skip ?_)
   refine eP [0,1] rfl rfl rfl rfl (Gz u0 b0 tx hu2 (by omega) (by omega)) rfl (rf2 rfl rfl rfl (by show 0<2;omega) (fun y hy=>by rcases aqf.1 hy with rfl|hy<;>first|(show 0<2;omega)|(rcases aqf.1 hy with rfl|hy<;>first|exact True.intro|cases hy)|cases hy)) rfl (j2 (L':=[jh (.ep 0 (238+65536) 0 0) (u0+65536) (b0++tx) 0,jk (u0+65536) (b0++tx),(.box [.c (.int .i64 kd), .c (.int .i64 nn), .c (.str tx)])]) rfl) ?_
   repeat' (first
    | refine st_nil ?_
    | refine aM rfl rfl rfl rfl ph_ ?_
    | refine aN rfl rfl rfl rfl ph_ ?_
    | refine sS_ rfl rfl rfl ph_ ?_
    | refine aO rfl rfl rfl rfl ph_ ?_
    | refine aH rfl rfl rfl ?_
    | refine sk0_ rfl rfl ?_
    | (refine aV rfl (fun hb=>?_) (fun hb=>?_)<;>(first|exact (fx_ hb).elim|rw [hb]))
    | refine aw_seq ?_
    | refine aw_region lS _ rfl ?_
    | refine aw_drawn2 kD _ rfl mixed (by decide +kernel) ?_
    | (refine aG rfl (fun hb=>?_) (fun hb=>?_)<;>(try exact (fx_ hb).elim))
    | refine aw_block ?_
    | refine aw_exit ?_
    | refine aw_ret ?_
    | refine aw_skip ?_)
   exact ⟨i+1,by omega,by omega,fm_ ⟨rfl,rfl,rfl,rfl,bB (bF (by omega) (by omega)),trivial⟩ [(.box [.c (.int .i64 kd), .c (.int .i64 nn), .c (.str tx)])] (by rw [eN];rfl) (by rw [eN];exact ⟨trivial,(by show 0<2;omega),trivial,trivial,trivial,trivial⟩) (by rw [eN];exact ⟨dO (by show 0<2;omega) (by show 1<2;omega),bM _ _ _,trivial⟩)⟩
 ·have hi2:i=l.length:=by omega
  have htk:l.take i=l:=by rw [hi2,List.take_length]
  by_cases hi0:i=0
  ·subst hi0
   have hnil:l=[]:=aqo hi2.symm
   subst hnil
   have e0:Nj [] 0=[jh (.c (.nul .ptr)) 5 ⟨#[]⟩ 0,jk 5 ⟨#[]⟩]:=rfl
   rw [e0]
   repeat' (first
    | refine st_nil ?_
    | refine aM rfl rfl rfl rfl ph_ ?_
    | refine aN rfl rfl rfl rfl ph_ ?_
    | refine sS_ rfl rfl rfl ph_ ?_
    | refine aO rfl rfl rfl rfl ph_ ?_
    | refine aH rfl rfl rfl ?_
    | refine sk0_ rfl rfl ?_
    | (refine aV rfl (fun hb=>?_) (fun hb=>?_)<;>(first|exact (fx_ hb).elim|rw [hb]))
    | refine aw_seq ?_
    | refine aw_region lS _ rfl ?_
    | refine aw_drawn2 kD _ rfl mixed (by decide +kernel) ?_
    | (refine aG rfl (fun hb=>?_) (fun hb=>?_)<;>(try exact (fx_ hb).elim))
    | refine aw_block ?_
    | refine aw_exit ?_
    | refine aw_ret ?_
    | refine aw_skip ?_)
   refine eP [0,1] rfl rfl rfl rfl ai' rfl (rf2 rfl rfl rfl True.intro (fun y hy=>by rcases aqf.1 hy with rfl|hy<;>first|(show 0<2;omega)|(rcases aqf.1 hy with rfl|hy<;>first|exact True.intro|cases hy)|cases hy)) rfl (Nb rfl (ko _ _ _) (L':=[jh (.c (.nul .ptr)) 5 ⟨#[]⟩ 0,jk 5 ⟨#[]⟩]) rfl) ?_
   repeat' (first
    | refine st_nil ?_
    | refine aM rfl rfl rfl rfl ph_ ?_
    | refine aN rfl rfl rfl rfl ph_ ?_
    | refine sS_ rfl rfl rfl ph_ ?_
    | refine aO rfl rfl rfl rfl ph_ ?_
    | refine aH rfl rfl rfl ?_
    | refine sk0_ rfl rfl ?_
    | (refine aV rfl (fun hb=>?_) (fun hb=>?_)<;>(first|exact (fx_ hb).elim|rw [hb]))
    | refine aw_seq ?_
    | refine aw_region lS _ rfl ?_
    | refine aw_drawn2 kD _ rfl mixed (by decide +kernel) ?_
    | (refine aG rfl (fun hb=>?_) (fun hb=>?_)<;>(try exact (fx_ hb).elim))
    | refine aw_block ?_
    | refine aw_exit ?_
    | refine aw_ret ?_
    | refine aw_skip ?_)
   exact bL (bR rfl (by trivial) rfl)
  ·have e1:Nj l i=[jh (.ep 0 (238+65536) 0 0) (5+458752*i) (eQ l) 0,jk (5+458752*i) (eQ l)]:=by unfold Nj;rw [htk,show decide (i=0)=false by simpa using hi0];rfl
   rw [e1]
   rw [htk] at hsz
   have hu:(5+458752*i)%65536=5:=by omega
   generalize 5+458752*i=u0 at hu
   have hpos:0<(eQ l).size:=by
    obtain ⟨v,hv⟩:=gol_ (show i-1<l.length by omega)
    have hsn:=R3 (l.take (i-1)) v
    rw [<- dw hv,show i-1+1=i by omega,htk] at hsn
    obtain ⟨q1,q2,q3⟩:=h v (ap6 hv)
    have:=(EY v.kind q1.1 q1.2).2
    rw [hsn]
    show 0<(oH (eQ (List.take (i-1) l)) [v.kind,v.int,(v.text.size:Int)]++v.text).size
    have e3:oH (eQ (List.take (i-1) l)) [v.kind,v.int,(v.text.size:Int)]=eQ (List.take (i-1) l)++nR v.kind++c32++nR v.int++c32++nR v.text.size++c32:=rfl
    rw [e3]
    simp only [ByteArray.size_append];omega
   generalize eQ l=s0 at hsz hpos
   repeat' (first
    | refine st_nil ?_
    | refine aM rfl rfl rfl rfl ph_ ?_
    | refine aN rfl rfl rfl rfl ph_ ?_
    | refine sS_ rfl rfl rfl ph_ ?_
    | refine aO rfl rfl rfl rfl ph_ ?_
    | refine aH rfl rfl rfl ?_
    | refine sk0_ rfl rfl ?_
    | (refine aV rfl (fun hb=>?_) (fun hb=>?_)<;>(first|exact (fx_ hb).elim|rw [hb]))
    | refine aw_seq ?_
    | refine aw_region lS _ rfl ?_
    | refine aw_drawn2 kD _ rfl mixed (by decide +kernel) ?_
    | (refine aG rfl (fun hb=>?_) (fun hb=>?_)<;>(try exact (fx_ hb).elim))
    | refine aw_block ?_
    | refine aw_exit ?_
    | refine aw_ret ?_
    | refine aw_skip ?_)
   refine eP [0,1] rfl rfl rfl rfl (akK u0 s0 hu hpos (by omega)) rfl (rf2 rfl rfl rfl (by show 0<2;omega) (fun y hy=>by rcases aqf.1 hy with rfl|hy<;>first|(show 0<2;omega)|(rcases aqf.1 hy with rfl|hy<;>first|exact True.intro|cases hy)|cases hy)) rfl (Nb rfl rfl (L':=[jh (.ep 0 (238+65536) 0 0) u0 s0 0, .dead]) rfl) ?_
   repeat' (first
    | refine st_nil ?_
    | refine aM rfl rfl rfl rfl ph_ ?_
    | refine aN rfl rfl rfl rfl ph_ ?_
    | refine sS_ rfl rfl rfl ph_ ?_
    | refine aO rfl rfl rfl rfl ph_ ?_
    | refine aH rfl rfl rfl ?_
    | refine sk0_ rfl rfl ?_
    | (refine aV rfl (fun hb=>?_) (fun hb=>?_)<;>(first|exact (fx_ hb).elim|rw [hb]))
    | refine aw_seq ?_
    | refine aw_region lS _ rfl ?_
    | refine aw_drawn2 kD _ rfl mixed (by decide +kernel) ?_
    | (refine aG rfl (fun hb=>?_) (fun hb=>?_)<;>(try exact (fx_ hb).elim))
    | refine aw_block ?_
    | refine aw_exit ?_
    | refine aw_ret ?_
    | refine aw_skip ?_)
   exact bL (bR rfl (by trivial) rfl)
end Go.Proofs.YtlcceppoloaecaaGreatDoor
