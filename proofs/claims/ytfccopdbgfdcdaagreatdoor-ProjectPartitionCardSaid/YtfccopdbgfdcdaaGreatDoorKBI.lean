/- Parts of the proof, joined. No condition. -/
import Derived.Test.YtfccopdbgfdcdaaGreatDoorKBF
import Derived.Test.YtfccopdbgfdcdaaGreatDoorKBH
import Derived.Test.YtfccopdbgfdcdaaGreatDoorKAI
import Derived.Test.YtfccopdbgfdcdaaGreatDoorKAL
import Derived.Test.YtfccopdbgfdcdaaGreatDoorKAM
import Derived.Test.YtfccopdbgfdcdaaGreatDoorKAN
import Derived.Test.YtfccopdbgfdcdaaGreatDoorKAS
set_option linter.unusedSimpArgs false
set_option linter.unusedVariables false
namespace Go.Proofs.YtfccopdbgfdcdaaGreatDoor.St
open Go.RowKit
def cP (p:Int × Int):List AC:=[.int .i64 p.1, .int .i64 p.2]
def cC (p:(Int × Int) × Int):List AC:=[.int .i64 p.1.1, .int .i64 p.1.2, .int .i64 p.2]
section
variable {P:Program} {R:PH} {w:World}
theorem rd_gen {α:Type} {enc:α→List Value} {ec:α→List AC} {k:Nat} (hk : ∀ x,(ec x).length=k) (hkv : ∀ x,(enc x).length=k) (hk0:0<k) (hrep : ∀ x (j:Nat) u y v,(enc x)[j]?=some u→(ec x)[j]?=some y→PRep R v y→v=u)
  (hR : ∀ b o u,R b o=some u→w.cell? ⟨b,o,none⟩=some u) {v:Value} {l:List α} (h:PRep R v (.lst (l.map ec))) : ∃ A c,v = .slice A l.length c∧Rd enc k w w.heap.size A l.length l:=by
 obtain ⟨a,c,news,rfl,hc,hcells,hreg⟩:=lst_cells (k:=k) h (by intro e he;simp only [List.mem_map] at he;obtain ⟨x,_,rfl⟩:=he;exact hk x)
 refine ⟨a,c,by simp,rfl,fun hp=>?_⟩
 obtain ⟨b,o,rfl,hb⟩:=hreg (by simpa using hp)
 have key : ∀ (i:Nat) x,l[i]?=some x → ∀ (j:Nat) u,(enc x)[j]?=some u→w.cell? ⟨b,o+(i*k+j),none⟩=some u:=by
  intro i x hx j u hu
  have he:(l.map ec)[i]?=some (ec x):=by rw [List.getElem?_map,hx];rfl
  have hj:j<(ec x).length:=by rw [hk, ← hkv x];exact (List.getElem?_eq_some_iff.1 hu).1
  obtain ⟨u0,h0,p0⟩:=hcells.get i _ j _ he (List.getElem?_eq_getElem hj)
  rw [hrep x j u _ u0 hu (List.getElem?_eq_getElem hj) p0] at h0
  exact hR _ _ _ (hb _ _ h0)
 refine ⟨b,o,rfl,?_,fun i x hx j u hu=>?_⟩
 ·obtain ⟨x,hx⟩:=gol_ hp
  obtain ⟨u,hu⟩:=gol_ (show 0<(enc x).length by rw [hkv];exact hk0)
  exact lt_of_cell (key 0 x hx 0 u hu)
 ·rw [Nat.add_assoc];exact key i x hx j u hu
def newRf (R:PH) (w w':World):PHf:=fun b o=>if b<w.heap.size then R b o else w'.cell? ⟨b,o,none⟩
theorem newRf_sub (hR : ∀ b o u,R b o=some u→w.cell? ⟨b,o,none⟩=some u) (w':World) : ∀ b o u,R b o=some u→newRf R w w' b o=some u:=fun b o u h=>by
 have:=lt_of_cell (hR b o u h)
 unfold newRf;rw [if_pos this];exact h
def newR (R:PH) (w w':World) (hR : ∀ b o u,R b o=some u→w.cell? ⟨b,o,none⟩=some u):PH:=R.put (newRf R w w') (newRf_sub hR w')
theorem newR_ext (hR : ∀ b o u,R b o=some u→w.cell? ⟨b,o,none⟩=some u) {w':World} (hg:Gr w w'):Ext (· < w.heap.size) R (newR R w w' hR) w w' ∧ ∀ b o u,newR R w w' hR b o=some u→w'.cell? ⟨b,o,none⟩=some u:=by
 refine ⟨⟨Kept.of hg.out,newRf_sub hR w',fun b o hb=>?_⟩,fun b o u h=>?_⟩
 ·show newRf R w w' b o=_
  unfold newRf;rw [if_pos hb]
 ·have h:newRf R w w' b o=some u:=h
  unfold newRf at h
  split at h
  ·rename_i hb;rw [hg.cells.1 b o hb];exact hR _ _ _ h
  ·exact h
theorem own_prep (hR : ∀ b o u,R b o=some u→w.cell? ⟨b,o,none⟩=some u) {w':World} {E:TypeId} {v:Value} {l:List (Int × Int)} (ho:Own e2 2 E w' w.heap.size v l):PRep (newR R w w' hR) v (.lst (l.map cP)):=by
 obtain ⟨A,c,rfl⟩:=ho.form
 have hrd:=ho.rds e2_len
 have hlt:=World.ownsRow.lt ho
 have hc:l.length≤c:=by
  rcases ho.2 with ⟨hv,hn⟩|⟨g,cap,cur,hv,_,_,hle,_⟩
  ·omega
  ·injection hv with _ _ h3;omega
 by_cases hz:l.length=0
 ·have:l=[]:=List.eq_nil_of_length_eq_zero hz
  subst this
  exact prep_nil _ _ _
 ·obtain ⟨b,o,rfl,hb,hcell⟩:=hrd.2 (by omega)
  have hge:w.heap.size≤b:=(hlt b rfl).1
  have key : ∀ (i:Nat) x,l[i]?=some x→newR R w w' hR b (o+(i*2+0))=some (.int .i64 x.1)∧newR R w w' hR b (o+(i*2+1))=some (.int .i64 x.2):=by
   intro i x hx
   show newRf R w w' b _=_∧newRf R w w' b _=_
   unfold newRf
   rw [if_neg (by omega),if_neg (by omega), ← Nat.add_assoc, ← Nat.add_assoc]
   exact ⟨hcell i x hx 0 _ rfl,hcell i x hx 1 _ rfl⟩
  refine .lst _ _ _ _ 2 (fun j=>(newR R w w' hR b (o+j)).getD Go.undef) b o (by simp) hc (by intro e he;simp only [List.mem_map] at he;obtain ⟨x,_,rfl⟩:=he;rfl) (fun _=>rfl) (fun j hj=>?_) (fun i e j y he hy=>?_)
  ·have hi:j/2<l.length:=by omega
   have hx:l[j/2]?=some l[j/2]:=List.getElem?_eq_getElem hi
   have:=key _ _ hx
   have hm:j=j/2*2+j%2:=by omega
   rcases Nat.mod_two_eq_zero_or_one j with h0|h0
   ·rw [h0] at hm;rw [hm,this.1];rfl
   ·rw [h0] at hm;rw [hm,this.2];rfl
  ·rw [List.getElem?_map] at he
   cases hx:l[i]? with
   | none=>simp [hx] at he
   | some x =>
    rw [hx] at he;simp only [Option.map_some,Option.some.injEq] at he;subst he
    have:=key i x hx
    match j,hy with
    | 0,hy=>simp [cP] at hy;subst hy;rw [this.1];exact .int _ _
    | 1,hy=>simp [cP] at hy;subst hy;rw [this.2];exact .int _ _
    | j+2,hy=>simp [cP] at hy
theorem rep_int {v:Value} {k:IntKind} {n:Int} (h:PRep R v (.int k n)):v = .int k n:=by cases h;rfl
theorem rd_of (hR : ∀ b o u,R b o=some u→w.cell? ⟨b,o,none⟩=some u) {v:Value} {l:List (Int × Int)} (h:PRep R v (.lst (l.map cP))) : ∃ A c,v = .slice A l.length c∧Rd e2 2 w w.heap.size A l.length l :=
 rd_gen (k:=2) (fun _=>rfl) e2_len (by decide) (fun x j u y v hu hy hv=>by
  match j,hu,hy with
  | 0,hu,hy=>simp [e2] at hu;simp [cP] at hy;subst hu hy;exact rep_int hv
  | 1,hu,hy=>simp [e2] at hu;simp [cP] at hy;subst hu hy;exact rep_int hv
  | j+2,hu,hy=>simp [cP] at hy) hR h
theorem rd_of3 (hR : ∀ b o u,R b o=some u→w.cell? ⟨b,o,none⟩=some u) {v:Value} {l:List ((Int × Int) × Int)} (h:PRep R v (.lst (l.map cC))) : ∃ A c,v = .slice A l.length c∧Rd e3 3 w w.heap.size A l.length l :=
 rd_gen (k:=3) (fun _=>rfl) e3_len (by decide) (fun x j u y v hu hy hv=>by
  match j,hu,hy with
  | 0,hu,hy=>simp [e3] at hu;simp [cC] at hy;subst hu hy;exact rep_int hv
  | 1,hu,hy=>simp [e3] at hu;simp [cC] at hy;subst hu hy;exact rep_int hv
  | 2,hu,hy=>simp [e3] at hu;simp [cC] at hy;subst hu hy;exact rep_int hv
  | j+3,hu,hy=>simp [cC] at hy) hR h
end
theorem one_arg {vs:Array Value} {p:PV} (h:vs.size=[p].length) : ∃ v,vs = #[v]:=by
 obtain ⟨l⟩:=vs
 match l,h with
 | [a],_=>exact ⟨a,rfl⟩
abbrev ofL (l:List ((Int × Int) × Int)):List (Int × Int):=combS (rsum l) (ofPts l)
theorem of_tree (l:List ((Int × Int) × Int)) (hn:l.length≤100000):Pure Tryz.prog 142 [.one (.lst (l.map cC))] (.val (.one (.lst ((ofL l).map cP)))):=by
 refine ⟨⟨_,Tryz.func142,by kernel_rfl,by kernel_rfl⟩,fun R w vs hR hs hv=>?_⟩
 obtain ⟨v,rfl⟩:=one_arg hs
 obtain ⟨A,c,rfl,ha⟩:=rd_of3 hR (hv 0 v _ rfl rfl)
 refine (of_prog A _ c l w ha hn).mono ?_
 rintro e w' ⟨A',m',c',rfl,ho,hg⟩
 exact ⟨_,_,rfl,(newR_ext hR hg).1,(newR_ext hR hg).2,own_prep hR ho⟩
theorem ofR_tree (l:List ((Int × Int) × Int)) (hn:l.length≤100000):Pure Tryz.prog 146 [.one (.lst (l.map cC))] (.val (.one (.lst ((ofL l).map cP)))):=by
 refine ⟨⟨_,Tryz.func146,by kernel_rfl,by kernel_rfl⟩,fun R w vs hR hs hv=>?_⟩
 obtain ⟨v,rfl⟩:=one_arg hs
 obtain ⟨A,c,rfl,ha⟩:=rd_of3 hR (hv 0 v _ rfl rfl)
 refine (of_ref A _ c l w ha hn).mono ?_
 rintro e w' ⟨A',m',c',rfl,ho,hg⟩
 exact ⟨_,_,rfl,(newR_ext hR hg).1,(newR_ext hR hg).2,own_prep hR ho⟩
theorem lev_tree (l:List (Int × Int)) (hn:l.length≤1000) (hasc:Asc l) (hF : ∀ s∈l,s.1<1099511627776) (hM : ∀ s∈l,s.2≤600):Pure Tryz.prog 90 [.one (.lst (l.map cP))] (.val (.one (.lst ((levM l).map cP)))):=by
 refine ⟨⟨_,Tryz.func90,by kernel_rfl,by kernel_rfl⟩,fun R w vs hR hs hv=>?_⟩
 obtain ⟨v,rfl⟩:=one_arg hs
 obtain ⟨A,c,rfl,ha⟩:=rd_of hR (hv 0 v _ rfl rfl)
 refine (lev_prog A _ c l w ha hn hasc hF hM).mono ?_
 rintro e w' ⟨A',m',c',rfl,ho,hg⟩
 exact ⟨_,_,rfl,(newR_ext hR hg).1,(newR_ext hR hg).2,own_prep hR ho⟩
theorem levR_tree (l:List (Int × Int)) (hn:l.length≤1000) (hM : ∀ s∈l,s.2≤600):Pure Tryz.prog 64 [.one (.lst (l.map cP))] (.val (.one (.lst ((levM l).map cP)))):=by
 refine ⟨⟨_,Tryz.func64,by kernel_rfl,by kernel_rfl⟩,fun R w vs hR hs hv=>?_⟩
 obtain ⟨v,rfl⟩:=one_arg hs
 obtain ⟨A,c,rfl,ha⟩:=rd_of hR (hv 0 v _ rfl rfl)
 refine (lev_ref A _ c l w ha hn hM).mono ?_
 rintro e w' ⟨A',m',c',rfl,ho,hg⟩
 exact ⟨_,_,rfl,(newR_ext hR hg).1,(newR_ext hR hg).2,own_prep hR ho⟩
end Go.Proofs.YtfccopdbgfdcdaaGreatDoor.St
namespace Go.Proofs.YtfccopdbgfdcdaaGreatDoor
def toP (p:Per):Int × Int:=(p.lo,p.hi)
def ofP (x:Int × Int):Per:=⟨x.1,x.2⟩
def toS (s:Stp):Int × Int:=(s.lo,s.n)
def ofS (x:Int × Int):Stp:=⟨x.1,x.2⟩
def toC (c:Cnt):(Int × Int) × Int:=(toP c.period,c.n)
def ofV (l:List Cnt):List Stp:=(St.ofL (l.map toC)).map ofS
def levV (l:List Stp):List Per:=(St.levM (l.map toS)).map ofP
theorem map_toC (l:List Cnt):(l.map toC).map St.cC=l.map cCnt:=by rw [List.map_map];rfl
theorem map_ofS (l:List (Int × Int)):(l.map ofS).map cStp=l.map St.cP:=by rw [List.map_map];rfl
theorem map_toS (l:List Stp):(l.map toS).map St.cP=l.map cStp:=by rw [List.map_map];rfl
theorem map_ofP (l:List (Int × Int)):(l.map ofP).map cPer=l.map St.cP:=by rw [List.map_map];rfl
theorem of_pure (l:List Cnt) (hn:l.length≤100000):Pure Tryz.prog 142 [.one (.lst (l.map cCnt))] (.val (.one (.lst ((ofV l).map cStp)))):=by
 have:=St.of_tree (l.map toC) (by simpa using hn)
 rw [map_toC] at this
 unfold ofV;rw [map_ofS];exact this
theorem ofR_pure (l:List Cnt) (hn:l.length≤100000):Pure Tryz.prog 146 [.one (.lst (l.map cCnt))] (.val (.one (.lst ((ofV l).map cStp)))):=by
 have:=St.ofR_tree (l.map toC) (by simpa using hn)
 rw [map_toC] at this
 unfold ofV;rw [map_ofS];exact this
structure LevOK (l:List Stp):Prop where
 len:l.length≤1000
 asc:St.Asc (l.map toS)
 fin : ∀ s∈l,s.lo<1099511627776
 low : ∀ s∈l,s.n≤600
theorem lev_pure (l:List Stp) (h:LevOK l):Pure Tryz.prog 90 [.one (.lst (l.map cStp))] (.val (.one (.lst ((levV l).map cPer)))):=by
 have:=St.lev_tree (l.map toS) (by simpa using h.len) h.asc (by intro s hs;obtain ⟨x,hx,rfl⟩:=List.mem_map.1 hs;exact h.fin x hx) (by intro s hs;obtain ⟨x,hx,rfl⟩:=List.mem_map.1 hs;exact h.low x hx)
 rw [map_toS] at this
 unfold levV;rw [map_ofP];exact this
theorem levR_pure (l:List Stp) (h:LevOK l):Pure Tryz.prog 64 [.one (.lst (l.map cStp))] (.val (.one (.lst ((levV l).map cPer)))):=by
 have:=St.levR_tree (l.map toS) (by simpa using h.len) (by intro s hs;obtain ⟨x,hx,rfl⟩:=List.mem_map.1 hs;exact h.low x hx)
 rw [map_toS] at this
 unfold levV;rw [map_ofP];exact this
open Go.RowKit Go.MapKept
set_option maxRecDepth 100000
set_option maxHeartbeats 8000000
def gPeriodE (a b:Val):Option (Per × Bool):=some (⟨a.int,b.int⟩,decide (a.kind=1)&&decide (b.kind=1))
theorem two_args {vs:Array Value} {p q:PV} (h:vs.size=[p,q].length) : ∃ v u,vs = #[v,u]:=by
 obtain ⟨l⟩:=vs
 match l,h with
 | [a,b],_=>exact ⟨a,b,rfl⟩
theorem rep_val {R:PH} {v:Val} {u:Value} (h:(PV.agg (cV v)).rep R u):u = .agg #[.int .i64 v.kind, .int .i64 v.int, .string v.text]:=by
 obtain ⟨vs,rfl,hs,hc⟩:=h
 obtain ⟨l⟩:=vs
 match l,hs with
 | [a,b,c],_ =>
  have h0:=hc 0 a _ rfl rfl
  have h1:=hc 1 b _ rfl rfl
  have h2:=hc 2 c _ rfl rfl
  cases h0;cases h1;cases h2
  rfl
theorem gPeriodE_ok {a b:Val} {r:Per × Bool} (H:gPeriodE a b=some r):Pure Tryz.prog 129 [.agg (cV a), .agg (cV b)] (.tup [.agg (cPer r.1), .one (.bool r.2)]):=by
 obtain rfl:=Option.some.inj H
 refine ⟨⟨_,Tryz.func129,by kernel_rfl,by kernel_rfl⟩,fun R w vs hR hs hv=>?_⟩
 obtain ⟨v,u,rfl⟩:=two_args hs
 have hv0:=rep_val (hv 0 v _ rfl rfl)
 have hv1:=rep_val (hv 1 u _ rfl rfl)
 subst hv0 hv1
 refine (St.period_walk a.kind a.int b.kind b.int a.text b.text w).mono ?_
 rintro e w' ⟨rfl,hg⟩
 refine ⟨_,_,rfl,(St.newR_ext hR hg).1,(St.newR_ext hR hg).2,⟨_,rfl,rfl,fun j u p hu hp=>?_⟩⟩
 match j,hu,hp with
 | 0,hu,hp =>
  simp at hu hp
  subst hu hp
  refine ⟨_,rfl,rfl,fun j u p hu hp=>?_⟩
  match j,hu,hp with
  | 0,hu,hp=>simp [cPer] at hu hp;subst hu hp;exact .int _ _
  | 1,hu,hp=>simp [cPer] at hu hp;subst hu hp;exact .int _ _
  | j+2,hu,hp=>simp [cPer] at hp
 | 1,hu,hp=>simp at hu hp;subst hu hp;exact .bool _
 | j+2,hu,hp=>simp at hp
def gRelated (a_rel:Int) (a_l:(List Val)):Option (Val):=(getI a_l (0:Int)).bind fun x_1=>(getI a_l (1:Int)).bind fun x_2=>(gPeriodE x_1 x_2).bind fun r_3=>(getI a_l (2:Int)).bind fun x_4=>(getI a_l (3:Int)).bind fun x_5=>(gPeriodE x_4 x_5).bind fun r_6=>(gRel r_3.1 r_6.1).bind fun r_7=>bif (!r_3.2) then (gNull ).bind fun r_9=>some r_9 else
 bif (!r_6.2) then (gNull ).bind fun r_11=>some r_11 else
 bif (!r_7.2) then (gNull ).bind fun r_13=>some r_13 else
 (gBoolP (decide (r_7.1=a_rel))).bind fun r_14=>some r_14
theorem gRelated_ok {a_rel:Int} {a_l:(List Val)} {r:Val} (H:gRelated a_rel a_l=some r):Pure Tryz.prog 83 [.one (.int .i64 a_rel), .one (.lst (a_l.map cV))] (.val (.agg (cV r))):=by
 unfold gRelated at H
 refine po_ Tryz.func83 Tryz.ntmps83 ?_
 obtain ⟨x_1,i1z,i1,i1x,H⟩:=idx_ (f:=cV) H
 obtain ⟨x_2,i2z,i2,i2x,H⟩:=idx_ (f:=cV) H
 obtain ⟨r_3,c3,H⟩:=bd_ H
 replace c3:=gPeriodE_ok c3
 obtain ⟨x_4,i4z,i4,i4x,H⟩:=idx_ (f:=cV) H
 obtain ⟨x_5,i5z,i5,i5x,H⟩:=idx_ (f:=cV) H
 obtain ⟨r_6,c6,H⟩:=bd_ H
 replace c6:=gPeriodE_ok c6
 obtain ⟨r_7,c7,H⟩:=bd_ H
 replace c7:=gRel_ok c7
 rcases cnd_ H with ⟨q_8,H⟩|⟨q_8,H⟩
 ·obtain ⟨r_9,c8,H⟩:=bd_ H
  replace c8:=gNull_ok c8
  cases H
  exact go_
 rcases cnd_ H with ⟨q_10,H⟩|⟨q_10,H⟩
 ·obtain ⟨r_11,c9,H⟩:=bd_ H
  replace c9:=gNull_ok c9
  cases H
  exact go_
 rcases cnd_ H with ⟨q_12,H⟩|⟨q_12,H⟩
 ·obtain ⟨r_13,c10,H⟩:=bd_ H
  replace c10:=gNull_ok c10
  cases H
  exact go_
 obtain ⟨r_14,c11,H⟩:=bd_ H
 replace c11:=gBoolP_ok c11
 cases H
 exact go_
set_option maxHeartbeats 8000000
set_option maxHeartbeats 8000000
def gSign (a_less:Bool) (a_greater:Bool):Option (Int):=bif a_less then some (-1:Int) else
 bif a_greater then some (1:Int) else
 some (0:Int)
theorem gSign_ok {a_less:Bool} {a_greater:Bool} {r:Int} (H:gSign a_less a_greater=some r):Pure Tryz.prog 149 [.one (.bool a_less), .one (.bool a_greater)] (.val (.one (.int .i64 r))):=by
 unfold gSign at H
 refine po_ Tryz.func149 Tryz.ntmps149 ?_
 rcases cnd_ H with ⟨q_1,H⟩|⟨q_1,H⟩
 ·cases H
  exact go_
 rcases cnd_ H with ⟨q_2,H⟩|⟨q_2,H⟩
 ·cases H
  exact go_
 cases H
 exact go_
def gCmp7 (a_a:Val) (a_b:Val):Option (Int):=bif (decide (a_a.kind≠a_b.kind)) then (gSign (decide (a_a.kind<a_b.kind)) (decide (a_b.kind<a_a.kind))).bind fun r_2=>some r_2 else
 bif (decide (a_a.int≠a_b.int)) then (gSign (decide (a_a.int<a_b.int)) (decide (a_b.int<a_a.int))).bind fun r_4=>some r_4 else
 (gSign (Op.bytesLess a_a.text.toList a_b.text.toList) (!((Op.bytesLess a_a.text.toList a_b.text.toList)||(a_a.text.toList==a_b.text.toList)))).bind fun r_5=>some r_5
theorem gCmp7_ok {a_a:Val} {a_b:Val} {r:Int} (H:gCmp7 a_a a_b=some r):Pure Tryz.prog 102 [.agg (cV a_a), .agg (cV a_b)] (.val (.one (.int .i64 r))):=by
 unfold gCmp7 at H
 refine po_ Tryz.func102 Tryz.ntmps102 ?_
 rcases cnd_ H with ⟨q_1,H⟩|⟨q_1,H⟩
 ·obtain ⟨r_2,c1,H⟩:=bd_ H
  replace c1:=gSign_ok c1
  cases H
  exact go_
 rcases cnd_ H with ⟨q_3,H⟩|⟨q_3,H⟩
 ·obtain ⟨r_4,c2,H⟩:=bd_ H
  replace c2:=gSign_ok c2
  cases H
  exact go_
 obtain ⟨r_5,c3,H⟩:=bd_ H
 replace c3:=gSign_ok c3
 cases H
 exact go_
def gCmp8_B1 (a_a:(List Val)) (a_b:(List Val)):(Int)→Option (Step (Int) (Int)):=fun s=>match s with
 | i_1=>bif (decide (i_1<((a_a.length:Nat):Int))) then bif (decide (i_1<((a_b.length:Nat):Int))) then (getI a_a i_1).bind fun x_4=>(getI a_b i_1).bind fun x_5=>(gCmp7 x_4 x_5).bind fun r_6=>bif (decide (r_6≠(0:Int))) then some (.ret r_6) else
 some (.next (IntKind.i64.wrap (i_1+(1:Int)))) else
 some (.exit i_1) else
 some (.exit i_1)
def gCmp8_K1 (a_a:(List Val)) (a_b:(List Val)):Sum (Int) (Int)→Option ((Int))
 | .inl i_1=>bif (decide (((a_a.length:Nat):Int)<((a_b.length:Nat):Int))) then some (-1:Int) else
 bif (decide (((a_b.length:Nat):Int)<((a_a.length:Nat):Int))) then some (1:Int) else
 some (0:Int)
 | .inr q=>some q
def gCmp8 (a_a:(List Val)) (a_b:(List Val)):Option (Int):=(loopM (gCmp8_B1 a_a a_b) fuel (0:Int)).bind (gCmp8_K1 a_a a_b)
theorem gCmp8_ok {a_a:(List Val)} {a_b:(List Val)} {r:Int} (H:gCmp8 a_a a_b=some r):Pure Tryz.prog 65 [.one (.lst (a_a.map cV)), .one (.lst (a_b.map cV))] (.val (.one (.int .i64 r))):=by
 unfold gCmp8 at H
 refine po_ Tryz.func65 Tryz.ntmps65 ?_
 refine gt_ ?_
 refine alM_ (fun s:Int=>match s with|i_1=>[(0, .one (.c (.lst (a_a.map cV)))),(1, .one (.c (.lst (a_b.map cV)))),(5, .one (.c (.int .i64 i_1)))]) (fun s=>match s with|i_1=>[]) H (fun _=>Nat.zero_le _)
  (fm_ br_ [] rfl bt_ trivial) ?_
 rintro i_1 st1 hb1 hk1
 unfold gCmp8_B1 at hb1
 dsimp only at hb1 ⊢
 rcases cnd_ hb1 with ⟨q_2,hb1⟩|⟨q_2,hb1⟩
 ·rcases cnd_ hb1 with ⟨q_3,hb1⟩|⟨q_3,hb1⟩
  ·obtain ⟨x_4,i1z,i1,i1x,hb1⟩:=idx_ (f:=cV) hb1
   obtain ⟨x_5,i2z,i2,i2x,hb1⟩:=idx_ (f:=cV) hb1
   obtain ⟨r_6,c3,hb1⟩:=bd_ hb1
   replace c3:=gCmp7_ok c3
   rcases cnd_ hb1 with ⟨q_7,hb1⟩|⟨q_7,hb1⟩
   ·cases hb1
    have hx1:gCmp8_K1 a_a a_b (.inr r_6)=some _:=hk1
    unfold gCmp8_K1 at hx1
    dsimp only at hx1
    cases hx1
    exact go_
   cases hb1
   refine gt_ ?_
   exact ⟨_,rfl,fm_ br_ [] rfl bt_ trivial⟩
  cases hb1
  have hx1:gCmp8_K1 a_a a_b (.inl i_1)=some _:=hk1
  unfold gCmp8_K1 at hx1
  dsimp only at hx1
  rcases cnd_ hx1 with ⟨q_8,hx1⟩|⟨q_8,hx1⟩
  ·cases hx1
   exact go_
  rcases cnd_ hx1 with ⟨q_9,hx1⟩|⟨q_9,hx1⟩
  ·cases hx1
   exact go_
  cases hx1
  exact go_
 cases hb1
 have hx1:gCmp8_K1 a_a a_b (.inl i_1)=some _:=hk1
 unfold gCmp8_K1 at hx1
 dsimp only at hx1
 rcases cnd_ hx1 with ⟨q_8,hx1⟩|⟨q_8,hx1⟩
 ·cases hx1
  exact go_
 rcases cnd_ hx1 with ⟨q_9,hx1⟩|⟨q_9,hx1⟩
 ·cases hx1
  exact go_
 cases hx1
 exact go_
set_option maxHeartbeats 8000000
def gNullR:Option (Val):=some (⟨(0:Int),(0:Int),ByteArray.empty⟩:Val)
theorem gNullR_ok {r:Val} (H:gNullR=some r):Pure Tryz.prog 109 [] (.val (.agg (cV r))):=by
 unfold gNullR at H
 refine po_ Tryz.func109 Tryz.ntmps109 ?_
 cases H
 exact go_
def gPrintable_B1 (a_s:ByteArray):(Int)→Option (Step (Int) (Bool)):=fun s=>match s with
 | i_1=>bif (decide (i_1<((a_s.size:Nat):Int))) then (getB a_s i_1).bind fun b_3=>bif (decide (((b_3.toNat:Nat):Int)<(32:Int))) then some (.ret false) else
 bif (decide ((126:Int)<((b_3.toNat:Nat):Int))) then some (.ret false) else
 some (.next (IntKind.i64.wrap (i_1+(1:Int)))) else
 some (.exit i_1)
def gPrintable_K1:Sum (Int) (Bool)→Option ((Bool))
 | .inl i_1=>some true
 | .inr q=>some q
def gPrintable (a_s:ByteArray):Option (Bool):=(loopM (gPrintable_B1 a_s) fuel (0:Int)).bind (gPrintable_K1)
theorem gPrintable_ok {a_s:ByteArray} {r:Bool} (H:gPrintable a_s=some r):Pure Tryz.prog 152 [.one (.str a_s)] (.val (.one (.bool r))):=by
 unfold gPrintable at H
 refine po_ Tryz.func152 Tryz.ntmps152 ?_
 repeat' (first|refine p_ rfl rfl rfl rfl rfl ?_|refine st_nil ?_|refine x_ rfl rfl rfl rfl rfl rfl rfl rfl ?_|refine l_ rfl rfl rfl rfl ?_|refine s_ rfl rfl rfl ?_|refine t5_ rfl rfl rfl rfl ?_|refine k_ rfl rfl rfl ?_|refine k0_ rfl rfl ?_|refine c_ rfl rfl rfl rfl ?_|refine pick_t rfl rfl rfl rfl rfl rfl rfl ?_|refine pick_f rfl rfl rfl rfl rfl rfl rfl ?_|refine aw_seq ?_|refine aw_region tab_ok _ rfl ?_|refine aw_drawn2 tabS_ok _ rfl mx_ (by decide +kernel) ?_|refine aw_condT rfl ?_|refine aw_condF rfl ?_|refine aw_block ?_|refine aw_exit ?_|refine aw_ret ?_|refine aw_skip ?_|rw [List.length_map]|rw [mn_norm]|rw [mx_norm]|refine b_ rfl rfl rfl rfl rfl rfl rfl ?_)
 refine alM_ (fun s:Int=>match s with|i_1=>[(0, .one (.c (.str a_s))),(3, .one (.c (.int .i64 i_1)))]) (fun s=>match s with|i_1=>[]) H (fun _=>Nat.zero_le _)
  (fm_ br_ [] rfl bt_ trivial) ?_
 rintro i_1 st1 hb1 hk1
 unfold gPrintable_B1 at hb1
 dsimp only at hb1 ⊢
 rcases cnd_ hb1 with ⟨q_2,hb1⟩|⟨q_2,hb1⟩
 ·obtain ⟨b_3,i1,hb1⟩:=bd_ hb1
  obtain ⟨i1z,i1⟩:=getB_some i1
  rcases cnd_ hb1 with ⟨q_4,hb1⟩|⟨q_4,hb1⟩
  ·cases hb1
   have hx1:gPrintable_K1 (.inr false)=some _:=hk1
   unfold gPrintable_K1 at hx1
   dsimp only at hx1
   cases hx1
   repeat' (first|refine p_ rfl rfl rfl rfl rfl ?_|refine st_nil ?_|refine x_ rfl rfl rfl rfl rfl rfl rfl rfl ?_|refine l_ rfl rfl rfl rfl ?_|refine s_ rfl rfl rfl ?_|refine t5_ rfl rfl rfl rfl ?_|refine k_ rfl rfl rfl ?_|refine k0_ rfl rfl ?_|refine c_ rfl rfl rfl rfl ?_|refine pick_t rfl rfl rfl rfl rfl rfl rfl ?_|refine pick_f rfl rfl rfl rfl rfl rfl rfl ?_|refine aw_seq ?_|refine aw_region tab_ok _ rfl ?_|refine aw_drawn2 tabS_ok _ rfl mx_ (by decide +kernel) ?_|refine aw_condT rfl ?_|refine aw_condF rfl ?_|refine aw_block ?_|refine aw_exit ?_|refine aw_ret ?_|refine aw_skip ?_|rw [List.length_map]|rw [mn_norm]|rw [mx_norm]|refine b_ rfl rfl rfl rfl rfl rfl rfl ?_)
   refine end_ret (res_of rfl ?_ ?_)
   ·repeat' (first|exact trivial|rfl|exact Nat.le_of_ble_eq_true rfl|omega|apply And.intro)
   ·first|rfl|(simp only [List.map_append,List.map_cons,List.map_nil,List.nil_append]<;>rfl)
  rcases cnd_ hb1 with ⟨q_5,hb1⟩|⟨q_5,hb1⟩
  ·cases hb1
   have hx1:gPrintable_K1 (.inr false)=some _:=hk1
   unfold gPrintable_K1 at hx1
   dsimp only at hx1
   cases hx1
   repeat' (first|refine p_ rfl rfl rfl rfl rfl ?_|refine st_nil ?_|refine x_ rfl rfl rfl rfl rfl rfl rfl rfl ?_|refine l_ rfl rfl rfl rfl ?_|refine s_ rfl rfl rfl ?_|refine t5_ rfl rfl rfl rfl ?_|refine k_ rfl rfl rfl ?_|refine k0_ rfl rfl ?_|refine c_ rfl rfl rfl rfl ?_|refine pick_t rfl rfl rfl rfl rfl rfl rfl ?_|refine pick_f rfl rfl rfl rfl rfl rfl rfl ?_|refine aw_seq ?_|refine aw_region tab_ok _ rfl ?_|refine aw_drawn2 tabS_ok _ rfl mx_ (by decide +kernel) ?_|refine aw_condT rfl ?_|refine aw_condF rfl ?_|refine aw_block ?_|refine aw_exit ?_|refine aw_ret ?_|refine aw_skip ?_|rw [List.length_map]|rw [mn_norm]|rw [mx_norm]|refine b_ rfl rfl rfl rfl rfl rfl rfl ?_)
   refine end_ret (res_of rfl ?_ ?_)
   ·repeat' (first|exact trivial|rfl|exact Nat.le_of_ble_eq_true rfl|omega|apply And.intro)
   ·first|rfl|(simp only [List.map_append,List.map_cons,List.map_nil,List.nil_append]<;>rfl)
  cases hb1
  repeat' (first|refine p_ rfl rfl rfl rfl rfl ?_|refine st_nil ?_|refine x_ rfl rfl rfl rfl rfl rfl rfl rfl ?_|refine l_ rfl rfl rfl rfl ?_|refine s_ rfl rfl rfl ?_|refine t5_ rfl rfl rfl rfl ?_|refine k_ rfl rfl rfl ?_|refine k0_ rfl rfl ?_|refine c_ rfl rfl rfl rfl ?_|refine pick_t rfl rfl rfl rfl rfl rfl rfl ?_|refine pick_f rfl rfl rfl rfl rfl rfl rfl ?_|refine aw_seq ?_|refine aw_region tab_ok _ rfl ?_|refine aw_drawn2 tabS_ok _ rfl mx_ (by decide +kernel) ?_|refine aw_condT rfl ?_|refine aw_condF rfl ?_|refine aw_block ?_|refine aw_exit ?_|refine aw_ret ?_|refine aw_skip ?_|rw [List.length_map]|rw [mn_norm]|rw [mx_norm]|refine b_ rfl rfl rfl rfl rfl rfl rfl ?_)
  exact ⟨_,rfl,fm_ br_ [] rfl bt_ trivial⟩
 cases hb1
 have hx1:gPrintable_K1 (.inl i_1)=some _:=hk1
 unfold gPrintable_K1 at hx1
 dsimp only at hx1
 cases hx1
 repeat' (first|refine p_ rfl rfl rfl rfl rfl ?_|refine st_nil ?_|refine x_ rfl rfl rfl rfl rfl rfl rfl rfl ?_|refine l_ rfl rfl rfl rfl ?_|refine s_ rfl rfl rfl ?_|refine t5_ rfl rfl rfl rfl ?_|refine k_ rfl rfl rfl ?_|refine k0_ rfl rfl ?_|refine c_ rfl rfl rfl rfl ?_|refine pick_t rfl rfl rfl rfl rfl rfl rfl ?_|refine pick_f rfl rfl rfl rfl rfl rfl rfl ?_|refine aw_seq ?_|refine aw_region tab_ok _ rfl ?_|refine aw_drawn2 tabS_ok _ rfl mx_ (by decide +kernel) ?_|refine aw_condT rfl ?_|refine aw_condF rfl ?_|refine aw_block ?_|refine aw_exit ?_|refine aw_ret ?_|refine aw_skip ?_|rw [List.length_map]|rw [mn_norm]|rw [mx_norm]|refine b_ rfl rfl rfl rfl rfl rfl rfl ?_)
 refine end_ret (res_of rfl ?_ ?_)
 ·repeat' (first|exact trivial|rfl|exact Nat.le_of_ble_eq_true rfl|omega|apply And.intro)
 ·first|rfl|(simp only [List.map_append,List.map_cons,List.map_nil,List.nil_append]<;>rfl)
def gValidR (a_v:Val):Option (Bool):=bif (decide (a_v.kind=(0:Int))) then bif (decide (a_v.int=(0:Int))) then some (a_v.text.toList==(⟨#[]⟩:ByteArray).toList) else
 some false else
 bif (decide (a_v.kind=(1:Int))) then bif (a_v.text.toList==(⟨#[]⟩:ByteArray).toList) then bif (decide ((-1125899906842624:Int)≤a_v.int)) then some (decide (a_v.int≤(1125899906842624:Int))) else
 some false else
 some false else
 bif (decide (a_v.kind=(2:Int))) then bif (decide (a_v.int=(0:Int))) then bif (decide (((a_v.text.size:Nat):Int)≤(200:Int))) then (gPrintable a_v.text).bind fun r_9=>some r_9 else
 some false else
 some false else
 bif (decide (a_v.kind=(3:Int))) then bif (a_v.text.toList==(⟨#[]⟩:ByteArray).toList) then bif (decide (a_v.int=(0:Int))) then some true else
 some (decide (a_v.int=(1:Int))) else
 some false else
 some false
theorem gValidR_ok {a_v:Val} {r:Bool} (H:gValidR a_v=some r):Pure Tryz.prog 105 [.agg (cV a_v)] (.val (.one (.bool r))):=by
 unfold gValidR at H
 refine po_ Tryz.func105 Tryz.ntmps105 ?_
 rcases cnd_ H with ⟨q_1,H⟩|⟨q_1,H⟩
 ·rcases cnd_ H with ⟨q_2,H⟩|⟨q_2,H⟩
  ·cases H
   exact go_
  cases H
  exact go_
 rcases cnd_ H with ⟨q_3,H⟩|⟨q_3,H⟩
 ·rcases cnd_ H with ⟨q_4,H⟩|⟨q_4,H⟩
  ·rcases cnd_ H with ⟨q_5,H⟩|⟨q_5,H⟩
   ·cases H
    exact go_
   cases H
   exact go_
  cases H
  exact go_
 rcases cnd_ H with ⟨q_6,H⟩|⟨q_6,H⟩
 ·rcases cnd_ H with ⟨q_7,H⟩|⟨q_7,H⟩
  ·rcases cnd_ H with ⟨q_8,H⟩|⟨q_8,H⟩
   ·obtain ⟨r_9,c1,H⟩:=bd_ H
    replace c1:=gPrintable_ok c1
    cases H
    exact go_
   cases H
   exact go_
  cases H
  exact go_
 rcases cnd_ H with ⟨q_10,H⟩|⟨q_10,H⟩
 ·rcases cnd_ H with ⟨q_11,H⟩|⟨q_11,H⟩
  ·rcases cnd_ H with ⟨q_12,H⟩|⟨q_12,H⟩
   ·cases H
    exact go_
   cases H
   exact go_
  cases H
  exact go_
 cases H
 exact go_
def gvalidR (a_v:Val):Option (Val):=(gValidR a_v).bind fun r_1=>bif r_1 then some a_v else
 (gNullR ).bind fun r_3=>some r_3
theorem gvalidR_ok {a_v:Val} {r:Val} (H:gvalidR a_v=some r):Pure Tryz.prog 158 [.agg (cV a_v)] (.val (.agg (cV r))):=by
 unfold gvalidR at H
 refine po_ Tryz.func158 Tryz.ntmps158 ?_
 obtain ⟨r_1,c1,H⟩:=bd_ H
 replace c1:=gValidR_ok c1
 rcases cnd_ H with ⟨q_2,H⟩|⟨q_2,H⟩
 ·cases H
  exact go_
 obtain ⟨r_3,c2,H⟩:=bd_ H
 replace c2:=gNullR_ok c2
 cases H
 exact go_
def gIntR (a_n:Int):Option (Val):=(gvalidR (⟨(1:Int),a_n,ByteArray.empty⟩:Val)).bind fun r_1=>some r_1
theorem gIntR_ok {a_n:Int} {r:Val} (H:gIntR a_n=some r):Pure Tryz.prog 116 [.one (.int .i64 a_n)] (.val (.agg (cV r))):=by
 unfold gIntR at H
 refine po_ Tryz.func116 Tryz.ntmps116 ?_
 obtain ⟨r_1,c1,H⟩:=bd_ H
 replace c1:=gvalidR_ok c1
 cases H
 exact go_
def gAtR (a_row:(List Val)) (a_i:Int):Option (Val):=bif (decide (a_i<(0:Int))) then (gNullR ).bind fun r_2=>some r_2 else
 bif (decide (((a_row.length:Nat):Int)≤a_i)) then (gNullR ).bind fun r_4=>some r_4 else
 (getI a_row a_i).bind fun x_5=>some x_5
theorem gAtR_ok {a_row:(List Val)} {a_i:Int} {r:Val} (H:gAtR a_row a_i=some r):Pure Tryz.prog 153 [.one (.lst (a_row.map cV)), .one (.int .i64 a_i)] (.val (.agg (cV r))):=by
 unfold gAtR at H
 refine po_ Tryz.func153 Tryz.ntmps153 ?_
 rcases cnd_ H with ⟨q_1,H⟩|⟨q_1,H⟩
 ·obtain ⟨r_2,c1,H⟩:=bd_ H
  replace c1:=gNullR_ok c1
  cases H
  exact go_
 rcases cnd_ H with ⟨q_3,H⟩|⟨q_3,H⟩
 ·obtain ⟨r_4,c2,H⟩:=bd_ H
  replace c2:=gNullR_ok c2
  cases H
  exact go_
 obtain ⟨x_5,i3z,i3,i3x,H⟩:=idx_ (f:=cV) H
 cases H
 exact go_
def gEqual8 (a_a:(List Val)) (a_b:(List Val)):Option (Bool):=(gCmp8 a_a a_b).bind fun r_1=>some (decide (r_1=(0:Int)))
theorem gEqual8_ok {a_a:(List Val)} {a_b:(List Val)} {r:Bool} (H:gEqual8 a_a a_b=some r):Pure Tryz.prog 94 [.one (.lst (a_a.map cV)), .one (.lst (a_b.map cV))] (.val (.one (.bool r))):=by
 unfold gEqual8 at H
 refine po_ Tryz.func94 Tryz.ntmps94 ?_
 obtain ⟨r_1,c1,H⟩:=bd_ H
 replace c1:=gCmp8_ok c1
 cases H
 exact go_
def gBefore_B1 (a_a:(List Val)) (a_b:(List Val)) (a_o:(List Ord)):(Int)→Option (Step (Int) (Bool)):=fun s=>match s with
 | i_1=>bif (decide (i_1<((a_o.length:Nat):Int))) then (getI a_o i_1).bind fun x_3=>(gAtR a_a x_3.column).bind fun r_4=>(gAtR a_b x_3.column).bind fun r_5=>(gCmp7 r_4 r_5).bind fun r_6=>bif (decide (r_6≠(0:Int))) then some (.ret (!((decide (r_6<(0:Int)))==x_3.desc))) else
 some (.next (IntKind.i64.wrap (i_1+(1:Int)))) else
 some (.exit i_1)
def gBefore_K1 (a_a:(List Val)) (a_b:(List Val)):Sum (Int) (Bool)→Option ((Bool))
 | .inl i_1=>(gCmp8 a_a a_b).bind fun r_8=>some (decide (r_8<(0:Int)))
 | .inr q=>some q
def gBefore (a_a:(List Val)) (a_b:(List Val)) (a_o:(List Ord)):Option (Bool):=(loopM (gBefore_B1 a_a a_b a_o) fuel (0:Int)).bind (gBefore_K1 a_a a_b)
theorem gBefore_ok {a_a:(List Val)} {a_b:(List Val)} {a_o:(List Ord)} {r:Bool} (H:gBefore a_a a_b a_o=some r):Pure Tryz.prog 180 [.one (.lst (a_a.map cV)), .one (.lst (a_b.map cV)), .one (.lst (a_o.map cOrd))] (.val (.one (.bool r))):=by
 unfold gBefore at H
 refine po_ Tryz.func180 Tryz.ntmps180 ?_
 refine gt_ ?_
 refine alM_ (fun s:Int=>match s with|i_1=>[(0, .one (.c (.lst (a_a.map cV)))),(1, .one (.c (.lst (a_b.map cV)))),(2, .one (.c (.lst (a_o.map cOrd)))),(7, .one (.c (.int .i64 i_1)))]) (fun s=>match s with|i_1=>[]) H (fun _=>Nat.zero_le _)
  (fm_ br_ [] rfl bt_ trivial) ?_
 rintro i_1 st1 hb1 hk1
 unfold gBefore_B1 at hb1
 dsimp only at hb1 ⊢
 rcases cnd_ hb1 with ⟨q_2,hb1⟩|⟨q_2,hb1⟩
 ·obtain ⟨x_3,i1z,i1,i1x,hb1⟩:=idx_ (f:=cOrd) hb1
  obtain ⟨r_4,c2,hb1⟩:=bd_ hb1
  replace c2:=gAtR_ok c2
  obtain ⟨r_5,c3,hb1⟩:=bd_ hb1
  replace c3:=gAtR_ok c3
  obtain ⟨r_6,c4,hb1⟩:=bd_ hb1
  replace c4:=gCmp7_ok c4
  rcases cnd_ hb1 with ⟨q_7,hb1⟩|⟨q_7,hb1⟩
  ·cases hb1
   have hx1:gBefore_K1 a_a a_b (.inr (!((decide (r_6<(0:Int)))==x_3.desc)))=some _:=hk1
   unfold gBefore_K1 at hx1
   dsimp only at hx1
   cases hx1
   exact go_
  cases hb1
  refine gt_ ?_
  exact ⟨_,rfl,fm_ br_ [] rfl bt_ trivial⟩
 cases hb1
 have hx1:gBefore_K1 a_a a_b (.inl i_1)=some _:=hk1
 unfold gBefore_K1 at hx1
 dsimp only at hx1
 obtain ⟨r_8,c5,hx1⟩:=bd_ hx1
 replace c5:=gCmp8_ok c5
 cases hx1
 exact go_
def gMerged_B1 (a_a:(List (List Val))) (a_b:(List (List Val))) (a_o:(List Ord)):((List (List Val)) × Int × Int)→Option (Step ((List (List Val)) × Int × Int) ((List (List Val)))):=fun s=>match s with
 | (out_1,i_2,k_3)=>bif (decide (i_2<((a_a.length:Nat):Int))) then bif (decide (i_2=((a_a.length:Nat):Int))) then (getI a_b k_3).bind fun x_6=>bif (decide (out_1.length+1≤5864062014805)) then (some (.next ((out_1++[x_6]),i_2,(IntKind.i64.wrap (k_3+(1:Int)))))) else none else
 bif (decide (k_3<((a_b.length:Nat):Int))) then (getI a_b k_3).bind fun x_8=>(getI a_a i_2).bind fun x_9=>(gBefore x_8 x_9 a_o).bind fun r_10=>bif r_10 then bif (decide (out_1.length+1≤5864062014805)) then (some (.next ((out_1++[x_8]),i_2,(IntKind.i64.wrap (k_3+(1:Int)))))) else none else
 bif (decide (out_1.length+1≤5864062014805)) then (some (.next ((out_1++[x_9]),(IntKind.i64.wrap (i_2+(1:Int))),k_3))) else none else
 (getI a_a i_2).bind fun x_12=>bif (decide (out_1.length+1≤5864062014805)) then (some (.next ((out_1++[x_12]),(IntKind.i64.wrap (i_2+(1:Int))),k_3))) else none else
 bif (decide (k_3<((a_b.length:Nat):Int))) then bif (decide (i_2=((a_a.length:Nat):Int))) then (getI a_b k_3).bind fun x_15=>bif (decide (out_1.length+1≤5864062014805)) then (some (.next ((out_1++[x_15]),i_2,(IntKind.i64.wrap (k_3+(1:Int)))))) else none else
 (getI a_b k_3).bind fun x_16=>(getI a_a i_2).bind fun x_17=>(gBefore x_16 x_17 a_o).bind fun r_18=>bif r_18 then bif (decide (out_1.length+1≤5864062014805)) then (some (.next ((out_1++[x_16]),i_2,(IntKind.i64.wrap (k_3+(1:Int)))))) else none else
 bif (decide (out_1.length+1≤5864062014805)) then (some (.next ((out_1++[x_17]),(IntKind.i64.wrap (i_2+(1:Int))),k_3))) else none else
 some (.exit (out_1,i_2,k_3))
def gMerged_K1:Sum ((List (List Val)) × Int × Int) ((List (List Val)))→Option (((List (List Val))))
 | .inl (out_1,i_2,k_3)=>some out_1
 | .inr q=>some q
def gMerged (a_a:(List (List Val))) (a_b:(List (List Val))) (a_o:(List Ord)):Option ((List (List Val))):=(loopM (gMerged_B1 a_a a_b a_o) fuel ([],(0:Int),(0:Int))).bind (gMerged_K1)
theorem gMerged_ok {a_a:(List (List Val))} {a_b:(List (List Val))} {a_o:(List Ord)} {r:(List (List Val))} (H:gMerged a_a a_b a_o=some r):Pure Tryz.prog 143 [.one (.lst (a_a.map (fun x=>[AC.lst (x.map cV)]))), .one (.lst (a_b.map (fun x=>[AC.lst (x.map cV)]))), .one (.lst (a_o.map cOrd))] (.val (.one (.lst (r.map (fun x=>[AC.lst (x.map cV)]))))):=by
 unfold gMerged at H
 refine po_ Tryz.func143 Tryz.ntmps143 ?_
 refine gt_ ?_
 refine aw_tok 7 1 rfl ?_
 refine alM_ (fun s:(List (List Val)) × Int × Int=>match s with|(out_1,i_2,k_3)=>[(0, .one (.c (.lst (a_a.map (fun x=>[AC.lst (x.map cV)]))))),(1, .one (.c (.lst (a_b.map (fun x=>[AC.lst (x.map cV)]))))),(2, .one (.c (.lst (a_o.map cOrd)))),(7, .one (.own (out_1.map (fun x=>[AC.lst (x.map cV)])) 0)),(8, .one (.c (.int .i64 i_2))),(9, .one (.c (.int .i64 k_3)))]) (fun s=>match s with|(out_1,i_2,k_3)=>[.spare out_1.length 1]) H (fun _=>Nat.zero_le _)
  (fm_ br_ [] rfl bt_ bo_) ?_
 rintro ⟨out_1,i_2,k_3⟩ st1 hb1 hk1
 unfold gMerged_B1 at hb1
 dsimp only at hb1 ⊢
 rcases cnd_ hb1 with ⟨q_4,hb1⟩|⟨q_4,hb1⟩
 ·rcases cnd_ hb1 with ⟨q_5,hb1⟩|⟨q_5,hb1⟩
  ·obtain ⟨x_6,i1z,i1,i1x,hb1⟩:=idx_ (f:=(fun x=>[AC.lst (x.map cV)])) hb1
   obtain ⟨g2,hb1⟩:=grd_d hb1
   cases hb1
   refine gt_ ?_
   exact ⟨_,rfl,fm_ bs_ [] be_ bt_ bo_⟩
  rcases cnd_ hb1 with ⟨q_7,hb1⟩|⟨q_7,hb1⟩
  ·obtain ⟨x_8,i3z,i3,i3x,hb1⟩:=idx_ (f:=(fun x=>[AC.lst (x.map cV)])) hb1
   obtain ⟨x_9,i4z,i4,i4x,hb1⟩:=idx_ (f:=(fun x=>[AC.lst (x.map cV)])) hb1
   obtain ⟨r_10,c5,hb1⟩:=bd_ hb1
   replace c5:=gBefore_ok c5
   rcases cnd_ hb1 with ⟨q_11,hb1⟩|⟨q_11,hb1⟩
   ·obtain ⟨g6,hb1⟩:=grd_d hb1
    cases hb1
    refine gt_ ?_
    exact ⟨_,rfl,fm_ bs_ [] be_ bt_ bo_⟩
   obtain ⟨g7,hb1⟩:=grd_d hb1
   cases hb1
   refine gt_ ?_
   exact ⟨_,rfl,fm_ bs_ [] be_ bt_ bo_⟩
  obtain ⟨x_12,i8z,i8,i8x,hb1⟩:=idx_ (f:=(fun x=>[AC.lst (x.map cV)])) hb1
  obtain ⟨g9,hb1⟩:=grd_d hb1
  cases hb1
  refine gt_ ?_
  exact ⟨_,rfl,fm_ bs_ [] be_ bt_ bo_⟩
 rcases cnd_ hb1 with ⟨q_13,hb1⟩|⟨q_13,hb1⟩
 ·rcases cnd_ hb1 with ⟨q_14,hb1⟩|⟨q_14,hb1⟩
  ·obtain ⟨x_15,i10z,i10,i10x,hb1⟩:=idx_ (f:=(fun x=>[AC.lst (x.map cV)])) hb1
   obtain ⟨g11,hb1⟩:=grd_d hb1
   cases hb1
   refine gt_ ?_
   exact ⟨_,rfl,fm_ bs_ [] be_ bt_ bo_⟩
  obtain ⟨x_16,i12z,i12,i12x,hb1⟩:=idx_ (f:=(fun x=>[AC.lst (x.map cV)])) hb1
  obtain ⟨x_17,i13z,i13,i13x,hb1⟩:=idx_ (f:=(fun x=>[AC.lst (x.map cV)])) hb1
  obtain ⟨r_18,c14,hb1⟩:=bd_ hb1
  replace c14:=gBefore_ok c14
  rcases cnd_ hb1 with ⟨q_19,hb1⟩|⟨q_19,hb1⟩
  ·obtain ⟨g15,hb1⟩:=grd_d hb1
   cases hb1
   refine gt_ ?_
   exact ⟨_,rfl,fm_ bs_ [] be_ bt_ bo_⟩
  obtain ⟨g16,hb1⟩:=grd_d hb1
  cases hb1
  refine gt_ ?_
  exact ⟨_,rfl,fm_ bs_ [] be_ bt_ bo_⟩
 cases hb1
 have hx1:gMerged_K1 (.inl (out_1,i_2,k_3))=some _:=hk1
 unfold gMerged_K1 at hx1
 dsimp only at hx1
 cases hx1
 exact go_
def gFits8_B1 (a_row:(List Val)) (a_kinds:(List Int)):(Int)→Option (Step (Int) (Bool)):=fun s=>match s with
 | i_2=>bif (decide (i_2<((a_row.length:Nat):Int))) then (getI a_row i_2).bind fun x_4=>(gValidR x_4).bind fun r_5=>bif (!r_5) then some (.ret false) else
 bif (decide (x_4.kind≠(0:Int))) then (getI a_kinds i_2).bind fun x_8=>bif (decide (x_4.kind≠x_8)) then some (.ret false) else
 some (.next (IntKind.i64.wrap (i_2+(1:Int)))) else
 some (.next (IntKind.i64.wrap (i_2+(1:Int)))) else
 some (.exit i_2)
def gFits8_K1:Sum (Int) (Bool)→Option ((Bool))
 | .inl i_2=>some true
 | .inr q=>some q
def gFits8 (a_row:(List Val)) (a_kinds:(List Int)):Option (Bool):=bif (decide (((a_row.length:Nat):Int)≠((a_kinds.length:Nat):Int))) then some false else
 (loopM (gFits8_B1 a_row a_kinds) fuel (0:Int)).bind (gFits8_K1)
theorem gFits8_ok {a_row:(List Val)} {a_kinds:(List Int)} {r:Bool} (H:gFits8 a_row a_kinds=some r):Pure Tryz.prog 70 [.one (.lst (a_row.map cV)), .one (.lst (a_kinds.map (fun x=>[AC.int .i64 x])))] (.val (.one (.bool r))):=by
 unfold gFits8 at H
 refine po_ Tryz.func70 Tryz.ntmps70 ?_
 rcases cnd_ H with ⟨q_1,H⟩|⟨q_1,H⟩
 ·cases H
  exact go_
 refine gt_ ?_
 refine alM_ (fun s:Int=>match s with|i_2=>[(0, .one (.c (.lst (a_row.map cV)))),(1, .one (.c (.lst (a_kinds.map (fun x=>[AC.int .i64 x]))))),(5, .one (.c (.int .i64 i_2)))]) (fun s=>match s with|i_2=>[]) H (fun _=>Nat.zero_le _)
  (fm_ br_ [] rfl bt_ trivial) ?_
 rintro i_2 st1 hb1 hk1
 unfold gFits8_B1 at hb1
 dsimp only at hb1 ⊢
 rcases cnd_ hb1 with ⟨q_3,hb1⟩|⟨q_3,hb1⟩
 ·obtain ⟨x_4,i1z,i1,i1x,hb1⟩:=idx_ (f:=cV) hb1
  obtain ⟨r_5,c2,hb1⟩:=bd_ hb1
  replace c2:=gValidR_ok c2
  rcases cnd_ hb1 with ⟨q_6,hb1⟩|⟨q_6,hb1⟩
  ·cases hb1
   have hx1:gFits8_K1 (.inr false)=some _:=hk1
   unfold gFits8_K1 at hx1
   dsimp only at hx1
   cases hx1
   exact go_
  rcases cnd_ hb1 with ⟨q_7,hb1⟩|⟨q_7,hb1⟩
  ·obtain ⟨x_8,i3z,i3,i3x,hb1⟩:=idx_ (f:=(fun x=>[AC.int .i64 x])) hb1
   rcases cnd_ hb1 with ⟨q_9,hb1⟩|⟨q_9,hb1⟩
   ·cases hb1
    have hx1:gFits8_K1 (.inr false)=some _:=hk1
    unfold gFits8_K1 at hx1
    dsimp only at hx1
    cases hx1
    exact go_
   cases hb1
   refine gt_ ?_
   exact ⟨_,rfl,fm_ br_ [] rfl bt_ trivial⟩
  cases hb1
  refine gt_ ?_
  exact ⟨_,rfl,fm_ br_ [] rfl bt_ trivial⟩
 cases hb1
 have hx1:gFits8_K1 (.inl i_2)=some _:=hk1
 unfold gFits8_K1 at hx1
 dsimp only at hx1
 cases hx1
 exact go_
def gKind (a_k:Int):Option (Bool):=bif (decide (a_k=(1:Int))) then some true else
 bif (decide (a_k=(2:Int))) then some true else
 some (decide (a_k=(3:Int)))
theorem gKind_ok {a_k:Int} {r:Bool} (H:gKind a_k=some r):Pure Tryz.prog 106 [.one (.int .i64 a_k)] (.val (.one (.bool r))):=by
 unfold gKind at H
 refine po_ Tryz.func106 Tryz.ntmps106 ?_
 rcases cnd_ H with ⟨q_1,H⟩|⟨q_1,H⟩
 ·cases H
  exact go_
 rcases cnd_ H with ⟨q_2,H⟩|⟨q_2,H⟩
 ·cases H
  exact go_
 cases H
 exact go_
def gKinds_B1 (a_l:(List Int)):(Int)→Option (Step (Int) (Bool)):=fun s=>match s with
 | i_1=>bif (decide (i_1<((a_l.length:Nat):Int))) then (getI a_l i_1).bind fun x_3=>(gKind x_3).bind fun r_4=>bif (!r_4) then some (.ret false) else
 some (.next (IntKind.i64.wrap (i_1+(1:Int)))) else
 some (.exit i_1)
def gKinds_K1:Sum (Int) (Bool)→Option ((Bool))
 | .inl i_1=>some true
 | .inr q=>some q
def gKinds (a_l:(List Int)):Option (Bool):=(loopM (gKinds_B1 a_l) fuel (0:Int)).bind (gKinds_K1)
theorem gKinds_ok {a_l:(List Int)} {r:Bool} (H:gKinds a_l=some r):Pure Tryz.prog 71 [.one (.lst (a_l.map (fun x=>[AC.int .i64 x])))] (.val (.one (.bool r))):=by
 unfold gKinds at H
 refine po_ Tryz.func71 Tryz.ntmps71 ?_
 refine gt_ ?_
 refine alM_ (fun s:Int=>match s with|i_1=>[(0, .one (.c (.lst (a_l.map (fun x=>[AC.int .i64 x]))))),(3, .one (.c (.int .i64 i_1)))]) (fun s=>match s with|i_1=>[]) H (fun _=>Nat.zero_le _)
  (fm_ br_ [] rfl bt_ trivial) ?_
 rintro i_1 st1 hb1 hk1
 unfold gKinds_B1 at hb1
 dsimp only at hb1 ⊢
 rcases cnd_ hb1 with ⟨q_2,hb1⟩|⟨q_2,hb1⟩
 ·obtain ⟨x_3,i1z,i1,i1x,hb1⟩:=idx_ (f:=(fun x=>[AC.int .i64 x])) hb1
  obtain ⟨r_4,c2,hb1⟩:=bd_ hb1
  replace c2:=gKind_ok c2
  rcases cnd_ hb1 with ⟨q_5,hb1⟩|⟨q_5,hb1⟩
  ·cases hb1
   have hx1:gKinds_K1 (.inr false)=some _:=hk1
   unfold gKinds_K1 at hx1
   dsimp only at hx1
   cases hx1
   exact go_
  cases hb1
  refine gt_ ?_
  exact ⟨_,rfl,fm_ br_ [] rfl bt_ trivial⟩
 cases hb1
 have hx1:gKinds_K1 (.inl i_1)=some _:=hk1
 unfold gKinds_K1 at hx1
 dsimp only at hx1
 cases hx1
 exact go_
def gSameKinds_B1 (a_a:(List Int)) (a_b:(List Int)):(Int)→Option (Step (Int) (Bool)):=fun s=>match s with
 | i_2=>bif (decide (i_2<((a_a.length:Nat):Int))) then (getI a_a i_2).bind fun x_4=>(getI a_b i_2).bind fun x_5=>bif (decide (x_4≠x_5)) then some (.ret false) else
 some (.next (IntKind.i64.wrap (i_2+(1:Int)))) else
 some (.exit i_2)
def gSameKinds_K1:Sum (Int) (Bool)→Option ((Bool))
 | .inl i_2=>some true
 | .inr q=>some q
def gSameKinds (a_a:(List Int)) (a_b:(List Int)):Option (Bool):=bif (decide (((a_a.length:Nat):Int)≠((a_b.length:Nat):Int))) then some false else
 (loopM (gSameKinds_B1 a_a a_b) fuel (0:Int)).bind (gSameKinds_K1)
theorem gSameKinds_ok {a_a:(List Int)} {a_b:(List Int)} {r:Bool} (H:gSameKinds a_a a_b=some r):Pure Tryz.prog 43 [.one (.lst (a_a.map (fun x=>[AC.int .i64 x]))), .one (.lst (a_b.map (fun x=>[AC.int .i64 x])))] (.val (.one (.bool r))):=by
 unfold gSameKinds at H
 refine po_ Tryz.func43 Tryz.ntmps43 ?_
 rcases cnd_ H with ⟨q_1,H⟩|⟨q_1,H⟩
 ·cases H
  exact go_
 refine gt_ ?_
 refine alM_ (fun s:Int=>match s with|i_2=>[(0, .one (.c (.lst (a_a.map (fun x=>[AC.int .i64 x]))))),(1, .one (.c (.lst (a_b.map (fun x=>[AC.int .i64 x]))))),(5, .one (.c (.int .i64 i_2)))]) (fun s=>match s with|i_2=>[]) H (fun _=>Nat.zero_le _)
  (fm_ br_ [] rfl bt_ trivial) ?_
 rintro i_2 st1 hb1 hk1
 unfold gSameKinds_B1 at hb1
 dsimp only at hb1 ⊢
 rcases cnd_ hb1 with ⟨q_3,hb1⟩|⟨q_3,hb1⟩
 ·obtain ⟨x_4,i1z,i1,i1x,hb1⟩:=idx_ (f:=(fun x=>[AC.int .i64 x])) hb1
  obtain ⟨x_5,i2z,i2,i2x,hb1⟩:=idx_ (f:=(fun x=>[AC.int .i64 x])) hb1
  rcases cnd_ hb1 with ⟨q_6,hb1⟩|⟨q_6,hb1⟩
  ·cases hb1
   have hx1:gSameKinds_K1 (.inr false)=some _:=hk1
   unfold gSameKinds_K1 at hx1
   dsimp only at hx1
   cases hx1
   exact go_
  cases hb1
  refine gt_ ?_
  exact ⟨_,rfl,fm_ br_ [] rfl bt_ trivial⟩
 cases hb1
 have hx1:gSameKinds_K1 (.inl i_2)=some _:=hk1
 unfold gSameKinds_K1 at hx1
 dsimp only at hx1
 cases hx1
 exact go_
section
variable {P:Program} {ti:TI} {B:Nat→Prop} {N n0:Nat} {R:PH} {γ:List Gh} {L:List Ob} {T:Tm} {w:World} {Q:AX→Tm→List Ob→Prop}
theorem aw_normRow {c:Code} (id:Nat) {ver k:Nat} {es:List (List SV)} {cs:List (List AC)} (hL:L[id]?=some (.row ver es k)) (hn:normR es=some cs) (h:Aw P N n0 c Q T (L.set id (.row ver (cs.map (List.map SV.c)) k))):Aw P N n0 c Q T L:=by
 intro hn0 B R γ w a hi hT
 have hlt:id<L.length:=(List.getElem?_eq_some_iff.1 hL).1
 have hlen:=normR_len hn
 have hM:Mv R R γ γ L (L.set id (.row ver (cs.map (List.map SV.c)) k)):=by
  refine ⟨PH.sub_refl _,by simp,fun t n k' _ e=>?_,fun t ver' es' k' _ e=>?_,fun _ _ e=>e⟩
  ·by_cases q:t=id
   ·subst q;rw [List.getElem?_set_self hlt] at e;cases e
   ·rw [List.getElem?_set_ne (Ne.symm q)] at e;exact ⟨n,e,Nat.le_refl _,fun _=>rfl⟩
  ·by_cases q:t=id
   ·subst q;rw [List.getElem?_set_self hlt] at e;injection e with e;injection e with e1 e2 e3;subst e1 e2 e3
    exact ⟨ver,es,hL,Nat.le_refl _,fun _=>⟨by simp [hlen],rfl⟩⟩
   ·rw [List.getElem?_set_ne (Ne.symm q)] at e;exact ⟨ver',es',e,Nat.le_refl _,fun _=>⟨rfl,rfl⟩⟩
 have hI:Inv B R γ (L.set id (.row ver (cs.map (List.map SV.c)) k)) w:=by
  refine ⟨by simp [hi.len],hi.val,fun t x g hx hg=>?_,hi.inj,hi.new,hi.bsz⟩
  by_cases q:t=id
  ·subst q
   rw [List.getElem?_set_self hlt] at hx;injection hx with hx;subst hx
   have ho:=hi.obj t _ _ hL hg
   match g,ho with
   | .none,ho =>
    have ho:es=[]:=ho
    subst ho
    have:cs=[]:=List.eq_nil_of_length_eq_zero (by rw [← hlen];rfl)
    subst this
    exact rfl
   | .arr b cc,⟨⟨vs,E,h1,h2,h3⟩,h4,h5,h6,h7⟩ =>
    refine ⟨⟨vs,E,h1,h2,fun i e j u x he hu hx=>?_⟩,by simpa [hlen] using h4,h5,fun e he=>?_,h7⟩
    ·rw [List.getElem?_map] at he
     cases hc:cs[i]? with
     | none=>rw [hc] at he;cases he
     | some c0 =>
      rw [hc] at he;injection he with he;subst he
      obtain ⟨e0,he0,hn0'⟩:=normR_get hn i c0 hc
      rw [List.getElem?_map] at hx
      cases hj:c0[j]? with
      | none=>rw [hj] at hx;cases hx
      | some y =>
       rw [hj] at hx;injection hx with hx;subst hx
       obtain ⟨x0,hx0⟩:=gol_ (show j<e0.length by rw [← normL_len hn0'];exact (List.getElem?_eq_some_iff.1 hj).1)
       exact SV.norm_rep (h3 i e0 j u x0 he0 hu hx0) (normL_get hn0' j x0 y hx0 hj)
    ·obtain ⟨c0,hc0,rfl⟩:=List.mem_map.1 he
     obtain ⟨i,hi0⟩:=List.getElem?_of_mem hc0
     obtain ⟨e0,he0,hn0'⟩:=normR_get hn i c0 hi0
     rw [List.length_map,normL_len hn0']
     exact h6 e0 (List.mem_of_getElem? he0)
  ·rw [List.getElem?_set_ne (Ne.symm q)] at hx
   exact (hi.obj t x g hx hg).mv hM (fun _ _=>rfl) (fun _ _ _ e=>e)
 refine wp_mono (h (by simpa using hn0) B R γ w a hI (hT.mv hM)) fun _ _ _ hh=>hh.ext (Ext.refl _ _ _) hi.len (MvN.of hn0 hM)
end
theorem mem_below : ∀ {n:Nat} {L:List Ob}, belowL n L → ∀ x∈L,x.below n
 | _,_::_,h,x,hx=>by
  rcases List.mem_cons.1 hx with rfl|hx
  ·exact h.1
  ·exact mem_below h.2 x hx
def gC (x:AC):List SV:=[.c x]
def tabXS:TI := { tabX with soft:=true }
theorem tabXS_ok:TIok Tryz.prog tabXS:=⟨tabX_ok.size,tabX_ok.agg,tabX_ok.elem,tabX_ok.field,tabX_ok.zero,tabX_ok.bytes,tabX_ok.kind,tabX_ok.struct,tabX_ok.zok,tabX_ok.eqs⟩
theorem row_ren (σ:List Nat) (v k:Nat) (l:List AC):(Ob.row v (l.map gC) k).ren σ=Ob.row v (l.map gC) k:=by
 simp only [Ob.ren,List.map_map];rfl
theorem j1 {L L':List Ob} {v k:Nat} {l:List AC} (h:L.set 0 (Ob.row v (l.map gC) k)=L'):joinL [0] L [Ob.row v (l.map gC) k]=L':=by
 subst h
 simp [joinL,join,setAll,outIds,newIds,row_ren]
theorem args_below {n:Nat} {l:List AV} (h:belowT n (l.map fun x=>(0,x))) : ∀ y∈l,y.below n:=by
 induction l with
 | nil=>intro y hy;cases hy
 | cons x l ih =>
  intro y hy
  rcases List.mem_cons.1 hy with rfl|hy
  ·exact h.1
  ·exact ih h.2 y hy
def vOf:List AC→Val
 | [.int _ k, .int _ n, .str t]=>⟨k,n,t⟩
 | _=>⟨0,0,⟨#[]⟩⟩
def tcmp:AC→AC→Int
 | .lst a, .lst b=>rcmp (a.map vOf) (b.map vOf)
 | _,_=>0
theorem vOf_cV (l:List Val):(l.map cV).map vOf=l:=by
 rw [List.map_map]
 have:vOf∘cV=id:=rfl
 rw [this,List.map_id]
end Go.Proofs.YtfccopdbgfdcdaaGreatDoor
