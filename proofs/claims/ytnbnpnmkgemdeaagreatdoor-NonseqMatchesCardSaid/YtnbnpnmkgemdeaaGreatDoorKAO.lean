/- Parts of the proof, joined. No condition. -/
import Derived.Test.YtnbnpnmkgemdeaaGreatDoorKAA
import Derived.Test.YtnbnpnmkgemdeaaGreatDoorKAN
import Derived.BigRegion
import Derived.Test.YtnbnpnmkgemdeaaGreatDoorKAK
import Derived.Test.YtnbnpnmkgemdeaaGreatDoorKAF
import Derived.Test.YtnbnpnmkgemdeaaGreatDoorKAJ
set_option linter.unusedSimpArgs false
set_option linter.unusedVariables false
namespace Go.Proofs.YtnbnpnmkgemdeaaGreatDoor.St
open Go.RowKit
set_option maxHeartbeats 1600000 in
theorem IE (ak ai bk bi:Int) (as' bs:ByteArray) (w:World) :
  Calls Tryz.prog 253 #[.agg #[.int .i64 ak, .int .i64 ai, .string as'], .agg #[.int .i64 bk, .int .i64 bi, .string bs]] w fun e w'=>e = .returned (.tuple #[.agg #[.int .i64 ai, .int .i64 bi], .bool (decide (ak=1)&&decide (bk=1))])/\Gr w w':=by
 by_cases ha:ak=1
 ·have hd:((ak:Int)==1)=true:=by simp [ha]
  have ha':decide (ak=1)=true:=Y2 ha
  go_enter Tryz.func253,Tryz.ntmps253
  go_wp2
  go_big_region
  go_wp2
  refine bodyPost_ret (v := .tuple #[.agg #[.int .i64 ai, .int .i64 bi], .bool (decide (ak=1)&&decide (bk=1))]) (by simp [results,Tryz.results253,go_sem,ha];try rfl) rfl ⟨rfl,?_⟩
  ·repeat (first|exact Gr.refl _|assumption|exact Gr.alloc _ _|refine Gr.allocR ?_ _|refine Gr.drewNR ?_ _|refine Gr.drewR ?_)
 ·have hd:((ak:Int)==1)=false:=by simp [ha]
  have ha':decide (ak=1)=false:=Y1 ha
  go_enter Tryz.func253,Tryz.ntmps253
  go_wp2
  go_big_region
  go_wp2
  refine bodyPost_ret (v := .tuple #[.agg #[.int .i64 ai, .int .i64 bi], .bool (decide (ak=1)&&decide (bk=1))]) (by simp [results,Tryz.results253,go_sem,ha];try rfl) rfl ⟨rfl,?_⟩
  ·repeat (first|exact Gr.refl _|assumption|exact Gr.alloc _ _|refine Gr.allocR ?_ _|refine Gr.drewNR ?_ _|refine Gr.drewR ?_)
section
variable {P:Program} {R:PH} {w:World}
def DU (R:PH) (w w':World):Tv:=fun b o=>if b<w.heap.size then R b o else w'.cell? ⟨b,o,none⟩
theorem EW (hR : ∀ b o u,R b o=some u->w.cell? ⟨b,o,none⟩=some u) (w':World) : ∀ b o u,R b o=some u->DU R w w' b o=some u:=fun b o u h=>by
 have:=lt_of_cell (hR b o u h)
 unfold DU;rw [if_pos this];exact h
def VX (R:PH) (w w':World) (hR : ∀ b o u,R b o=some u->w.cell? ⟨b,o,none⟩=some u):PH:=R.put (DU R w w') (EW hR w')
theorem J7 (hR : ∀ b o u,R b o=some u->w.cell? ⟨b,o,none⟩=some u) {w':World} (hg:Gr w w'):Ext (· < w.heap.size) R (VX R w w' hR) w w' /\ ∀ b o u,VX R w w' hR b o=some u->w'.cell? ⟨b,o,none⟩=some u:=by
 refine ⟨⟨Kept.of hg.out,EW hR w',fun b o hb=>?_⟩,fun b o u h=>?_⟩
 ·show DU R w w' b o=_
  unfold DU;rw [if_pos hb]
 ·have h:DU R w w' b o=some u:=h
  unfold DU at h
  split at h
  ·rename_i hb;rw [hg.cells.1 b o hb];exact hR _ _ _ h
  ·exact h
end
end Go.Proofs.YtnbnpnmkgemdeaaGreatDoor.St
namespace Go.Proofs.YtnbnpnmkgemdeaaGreatDoor
open Go.RowKit Go.MapKept
set_option maxRecDepth 100000
set_option maxHeartbeats 8000000
def xC (a b:Val):Option (eG × Bool):=some (⟨a.int,b.int⟩,decide (a.kind=1)&&decide (b.kind=1))
theorem Qh {vs:Array Value} {p q:PV} (h:vs.size=[p,q].length) : ∃ v u,vs = #[v,u]:=by
 obtain ⟨l⟩:=vs
 match l,h with
 | [a,b],_=>exact ⟨a,b,rfl⟩
theorem Mq {R:PH} {v:Val} {u:Value} (h:(PV.agg (cV v)).rep R u):u = .agg #[.int .i64 v.kind, .int .i64 v.int, .string v.text]:=by
 obtain ⟨vs,rfl,hs,hc⟩:=h
 obtain ⟨l⟩:=vs
 match l,hs with
 | [a,b,c],_ =>
  have h0:=hc 0 a _ rfl rfl
  have h1:=hc 1 b _ rfl rfl
  have h2:=hc 2 c _ rfl rfl
  cases h0;cases h1;cases h2
  rfl
theorem zY {a b:Val} {r:eG × Bool} (H:xC a b=some r):Pure Tryz.prog 253 [.agg (cV a), .agg (cV b)] (.tup [.agg (oC r.1), .one (.bool r.2)]):=by
 obtain rfl:=Zw H
 refine ⟨⟨_,Tryz.func253,by kernel_rfl,by kernel_rfl⟩,fun R w vs hR hs hv=>?_⟩
 obtain ⟨v,u,rfl⟩:=Qh hs
 have hv0:=Mq (hv 0 v _ rfl rfl)
 have hv1:=Mq (hv 1 u _ rfl rfl)
 subst hv0 hv1
 refine (St.IE a.kind a.int b.kind b.int a.text b.text w).mono ?_
 rintro e w' ⟨rfl,hg⟩
 refine ⟨_,_,rfl,(St.J7 hR hg).1,(St.J7 hR hg).2,⟨_,rfl,rfl,fun j u p hu hp=>?_⟩⟩
 match j,hu,hp with
 | 0,hu,hp =>
  simp at hu hp
  subst hu hp
  refine ⟨_,rfl,rfl,fun j u p hu hp=>?_⟩
  match j,hu,hp with
  | 0,hu,hp=>simp [oC] at hu hp;subst hu hp;exact .int _ _
  | 1,hu,hp=>simp [oC] at hu hp;subst hu hp;exact .int _ _
  | j+2,hu,hp=>simp [oC] at hp
 | 1,hu,hp=>simp at hu hp;subst hu hp;exact .bool _
 | j+2,hu,hp=>simp at hp
def sU (a_rel:Int) (a_l:(List Val)):Option (Val):=(au a_l (0:Int)).bind fun x_1=>(au a_l (1:Int)).bind fun x_2=>(xC x_1 x_2).bind fun r_3=>(au a_l (2:Int)).bind fun x_4=>(au a_l (3:Int)).bind fun x_5=>(xC x_4 x_5).bind fun r_6=>(Ph r_3.1 r_6.1).bind fun r_7=>bif (!r_3.2) then (jM ).bind fun r_9=>some r_9 else
 bif (!r_6.2) then (jM ).bind fun r_11=>some r_11 else
 bif (!r_7.2) then (jM ).bind fun r_13=>some r_13 else
 (sw (decide (r_7.1=a_rel))).bind fun r_14=>some r_14
theorem JV {a_rel:Int} {a_l:(List Val)} {r:Val} (H:sU a_rel a_l=some r):Pure Tryz.prog 211 [.one (.int .i64 a_rel), .one (.lst (a_l.map cV))] (.val (.agg (cV r))):=by
 unfold sU at H
 refine po_ Tryz.func211 Tryz.ntmps211 ?_
 obtain ⟨x_1,i1z,i1,i1x,H⟩:=aI (f:=cV) H
 obtain ⟨x_2,i2z,i2,i2x,H⟩:=aI (f:=cV) H
 obtain ⟨r_3,c3,H⟩:=bd_ H
 replace c3:=zY c3
 obtain ⟨x_4,i4z,i4,i4x,H⟩:=aI (f:=cV) H
 obtain ⟨x_5,i5z,i5,i5x,H⟩:=aI (f:=cV) H
 obtain ⟨r_6,c6,H⟩:=bd_ H
 replace c6:=zY c6
 obtain ⟨r_7,c7,H⟩:=bd_ H
 replace c7:=MQ c7
 rcases aa H with ⟨q_8,H⟩|⟨q_8,H⟩
 ·obtain ⟨r_9,c8,H⟩:=bd_ H
  replace c8:=dY c8
  cases H
  exact aj
 rcases aa H with ⟨q_10,H⟩|⟨q_10,H⟩
 ·obtain ⟨r_11,c9,H⟩:=bd_ H
  replace c9:=dY c9
  cases H
  exact aj
 rcases aa H with ⟨q_12,H⟩|⟨q_12,H⟩
 ·obtain ⟨r_13,c10,H⟩:=bd_ H
  replace c10:=dY c10
  cases H
  exact aj
 obtain ⟨r_14,c11,H⟩:=bd_ H
 replace c11:=o8 c11
 cases H
 exact aj
set_option maxHeartbeats 8000000
set_option maxHeartbeats 8000000
def A8 (rec:Ex->List Val->Option Val) (a_e:Ex) (a_row:(List Val)):Option (Int):=(rec a_e a_row).bind fun r_1=>(kC r_1).bind fun r_2=>some r_2
theorem LK {rec:Ex->List Val->Option Val}  (hrec : ∀ {x:Ex} {y:List Val} {r:Val}, rec x y=some r->Pure Tryz.prog 163 [.agg (tE x), .one (.lst (y.map cV))] (.val (.agg (cV r)))) {a_e:Ex} {a_row:(List Val)} {r:Int} (H:A8 rec a_e a_row=some r):Pure Tryz.prog 162 [.agg (tE a_e), .one (.lst (a_row.map cV))] (.val (.one (.int .i64 r))):=by
 unfold A8 at H
 rw [aF a_e]
 refine po_ Tryz.func162 Tryz.ntmps162 ?_
 obtain ⟨r_1,c1,H⟩:=bd_ H
 replace c1:=hrec c1
 try simp only [Zb,Y9,Zd,Y3,aF,aQ] at c1
 obtain ⟨r_2,c2,H⟩:=bd_ H
 replace c2:=mE c2
 cases H
 exact aj
def pE (c_15:(List Val)):(Int)->Option (Step (Int) (Val)):=fun s=>match s with
 | v_30=>bif (decide (v_30<((c_15.length:Nat):Int))) then (au c_15 v_30).bind fun x_32=>bif (decide (x_32.kind≠(0:Int))) then some (.ret x_32) else
 some (.next (IntKind.i64.wrap (v_30+(1:Int)))) else
 some (.exit v_30)
def mq:Sum (Int) (Val)->Option ((Val))
 | .inl v_30=>(jM ).bind fun r_34=>some r_34
 | .inr q=>some q
def pq (a_e:Ex) (a_row:(List Val)) (rec:Ex->List Val->Option Val):((List Val) × Int)->Option (Step ((List Val) × Int) (Val)):=fun s=>match s with
 | (c_15,v_16)=>bif (decide (v_16<((a_e.args.length:Nat):Int))) then (au a_e.args v_16).bind fun x_18=>(rec x_18 a_row).bind fun r_19=>bif (decide (0<=v_16)) then (bif (decide (v_16<((a_e.args.length:Nat):Int))) then (bif (decide ((0+v_16.toNat)<c_15.length)) then (some (.next ((c_15.set (0+v_16.toNat) r_19),(IntKind.i64.wrap (v_16+(1:Int)))))) else none) else none) else none else
 some (.exit (c_15,v_16))
def bA (a_e:Ex):Sum ((List Val) × Int) (Val)->Option ((Val))
 | .inl (c_15,v_16)=>bif (decide (c_15.length=a_e.args.length)) then (bif (decide (a_e.op=(4:Int))) then (nC a_e.op c_15).bind fun r_21=>some r_21 else
 bif (decide (a_e.op=(5:Int))) then (nC a_e.op c_15).bind fun r_23=>some r_23 else
 bif (decide (a_e.op=(6:Int))) then (nC a_e.op c_15).bind fun r_25=>some r_25 else
 bif (decide (a_e.op=(21:Int))) then (au c_15 (0:Int)).bind fun x_27=>(sw (decide (x_27.kind=(0:Int)))).bind fun r_28=>some r_28 else
 bif (decide (a_e.op=(23:Int))) then (ah (pE c_15) fuel (0:Int)).bind (mq) else
 bif (decide (a_e.op=(24:Int))) then (sU a_e.int c_15).bind fun r_36=>some r_36 else
 bif (decide (a_e.op=(19:Int))) then (tN a_e.op c_15).bind fun r_38=>some r_38 else
 bif (decide (a_e.op=(20:Int))) then (tN a_e.op c_15).bind fun r_40=>some r_40 else
 bif (decide (a_e.op=(13:Int))) then (lc a_e.op c_15).bind fun r_42=>some r_42 else
 bif (decide (a_e.op=(14:Int))) then (lc a_e.op c_15).bind fun r_44=>some r_44 else
 bif (decide (a_e.op=(15:Int))) then (lc a_e.op c_15).bind fun r_46=>some r_46 else
 bif (decide (a_e.op=(16:Int))) then (lc a_e.op c_15).bind fun r_48=>some r_48 else
 bif (decide (a_e.op=(17:Int))) then (lc a_e.op c_15).bind fun r_50=>some r_50 else
 bif (decide (a_e.op=(18:Int))) then (lc a_e.op c_15).bind fun r_52=>some r_52 else
 (au c_15 (0:Int)).bind fun x_53=>(au c_15 (1:Int)).bind fun x_54=>(kW a_e.op x_53 x_54).bind fun r_55=>(x8 r_55).bind fun r_56=>some r_56) else none
 | .inr q=>some q
def zL (rec:Ex->List Val->Option Val) (a_e:Ex) (a_row:(List Val)):Option (Val):=(om a_e).bind fun r_1=>bif (!r_1) then (jM ).bind fun r_3=>some r_3 else
 bif (decide (a_e.op=(1:Int))) then some a_e.v else
 bif (decide (a_e.op=(2:Int))) then (xu a_row a_e.int).bind fun r_6=>some r_6 else
 bif (decide (a_e.op=(22:Int))) then (au a_e.args (0:Int)).bind fun x_8=>(A8 rec x_8 a_row).bind fun r_9=>bif (decide (r_9=(2:Int))) then (au a_e.args (1:Int)).bind fun x_11=>(rec x_11 a_row).bind fun r_12=>some r_12 else
 (au a_e.args (2:Int)).bind fun x_13=>(rec x_13 a_row).bind fun r_14=>some r_14 else
 bif (decide (0<=((a_e.args.length:Nat):Int))) then (bif (decide ((32:Int)*((a_e.args.length:Nat):Int)<=281474976710656)) then (bif (decide (((a_e.args.length:Nat):Int)<=9223372036854775807)) then ((ah (pq a_e a_row rec) fuel ((List.replicate a_e.args.length ((⟨(0:Int),(0:Int),ByteArray.empty⟩:Val))),(0:Int))).bind (bA a_e)) else none) else none) else none
theorem gu {p q:Prop} (k:q) (h:Bx q->p:=by
 intro hq
 repeat' (first|refine fG rfl rfl rfl rfl rfl (uI tab_ok (k:=3) (by_:=32) rfl rfl rfl (by decide) rfl rfl rfl rfl rfl (by decide) (by omega) (by omega) (by omega)) ?_|refine Bg (enc:=cV) rfl rfl rfl rfl rfl (by omega) rfl (fun _=>rfl) rfl ?_|refine gs_ ?_|fail)
 exact hq.out):p:=h ⟨k⟩
theorem bT {p:Prop} (h:p:=by
 repeat' (first|refine fG rfl rfl rfl rfl rfl (uI tab_ok (k:=3) (by_:=32) rfl rfl rfl (by decide) rfl rfl rfl rfl rfl (by decide) (by omega) (by omega) (by omega)) ?_|refine Bg (enc:=cV) rfl rfl rfl rfl rfl (by omega) rfl (fun _=>rfl) rfl ?_|refine gs_ ?_|fail)
 refine aV (aX rfl ?_ ?_)
 ·repeat' (first|exact trivial|rfl|exact Y8 rfl|omega|apply And.intro)
 ·first|rfl|(simp only [Zb,Y9,Zd,Y3]<;>rfl)):p:=h
theorem OG {rec:Ex->List Val->Option Val}  (hrec : ∀ {x:Ex} {y:List Val} {r:Val}, rec x y=some r->Pure Tryz.prog 163 [.agg (tE x), .one (.lst (y.map cV))] (.val (.agg (cV r)))) {a_e:Ex} {a_row:(List Val)} {r:Val} (H:zL rec a_e a_row=some r):Pure Tryz.prog 163 [.agg (tE a_e), .one (.lst (a_row.map cV))] (.val (.agg (cV r))):=by
 unfold zL at H
 rw [aF a_e]
 refine po_ Tryz.func163 Tryz.ntmps163 ?_
 obtain ⟨r_1,c1,H⟩:=bd_ H
 replace c1:=Cq c1
 try simp only [Zb,Y9,Zd,Y3,aF,aQ] at c1
 rcases aa H with ⟨q_2,H⟩|⟨q_2,H⟩
 ·obtain ⟨r_3,c2,H⟩:=bd_ H
  replace c2:=dY c2
  cases H
  exact bT
 rcases aa H with ⟨q_4,H⟩|⟨q_4,H⟩
 ·cases H
  exact bT
 refine gu ?_
 rcases aa H with ⟨q_5,H⟩|⟨q_5,H⟩
 ·obtain ⟨r_6,c3,H⟩:=bd_ H
  replace c3:=Kr c3
  cases H
  exact bT
 rcases aa H with ⟨q_7,H⟩|⟨q_7,H⟩
 ·obtain ⟨x_8,i4z,i4,i4x,H⟩:=aI (f:=tE) H
  simp only [Zb,Y9,Zd,Y3,aF] at i4x
  obtain ⟨r_9,c5,H⟩:=bd_ H
  replace c5:=LK hrec c5
  try simp only [Zb,Y9,Zd,Y3,aF,aQ] at c5
  rcases aa H with ⟨q_10,H⟩|⟨q_10,H⟩
  ·obtain ⟨x_11,i6z,i6,i6x,H⟩:=aI (f:=tE) H
   simp only [Zb,Y9,Zd,Y3,aF] at i6x
   obtain ⟨r_12,c7,H⟩:=bd_ H
   replace c7:=hrec c7
   try simp only [Zb,Y9,Zd,Y3,aF,aQ] at c7
   cases H
   exact bT
  obtain ⟨x_13,i8z,i8,i8x,H⟩:=aI (f:=tE) H
  simp only [Zb,Y9,Zd,Y3,aF] at i8x
  obtain ⟨r_14,c9,H⟩:=bd_ H
  replace c9:=hrec c9
  try simp only [Zb,Y9,Zd,Y3,aF,aQ] at c9
  cases H
  exact bT
 obtain ⟨g10,H⟩:=az H
 obtain ⟨g11,H⟩:=az H
 obtain ⟨g12,H⟩:=az H
 refine gu ?_
 refine alM_ (fun s:(List Val) × Int=>match s with|(c_15,v_16)=>[(1, .one (.c (.lst (a_row.map cV)))),(2, .one (.ptr 0 0)),(4, .one (.ptr 1 0)),(5, .one (.sl 2 (57+65536) 0 a_e.args.length)),(52, .one (.c (.lst (a_e.args.map tE)))),(53, .one (.c (.int .i64 ((a_e.args.length:Nat):Int)))),(54, .one (.c (.int .i64 v_16)))]) (fun s=>match s with|(c_15,v_16)=>[.box [.c (.int .i64 a_e.op), .c (.int .i64 a_e.int), .c (.int .i64 a_e.v.kind), .c (.int .i64 a_e.v.int), .c (.str a_e.v.text), .c (.str a_e.nm), .c (.lst (a_e.args.map tE))], .box [.c (.int .i64 (0:Int)), .c (.int .i64 (0:Int)), .c (.str ByteArray.empty)], .row (57+65536) ((c_15.map cV).map (List.map SV.c)) 3]) H (fun _=>Zj _)
  (fm_ bL [] (by simp only [List.map_replicate]<;>rfl) bq ⟨gH (by rfl),gH (by rfl),jZ _ _ _ _ _,trivial⟩) ?_
 rintro ⟨c_15,v_16⟩ st1 hb1 hk1
 unfold pq at hb1
 dsimp only at hb1 ⊢
 rcases aa hb1 with ⟨q_17,hb1⟩|⟨q_17,hb1⟩
 ·obtain ⟨x_18,i13z,i13,i13x,hb1⟩:=aI (f:=tE) hb1
  simp only [Zb,Y9,Zd,Y3,aF] at i13x
  obtain ⟨r_19,c14,hb1⟩:=bd_ hb1
  replace c14:=hrec c14
  try simp only [Zb,Y9,Zd,Y3,aF,aQ] at c14
  obtain ⟨g15,hb1⟩:=az hb1
  obtain ⟨g16,hb1⟩:=az hb1
  obtain ⟨g17,hb1⟩:=az hb1
  cases hb1
  refine gu ?_
  exact ⟨_,rfl,fm_ bL [_] rfl bq ⟨gH (by rfl),gH (by rfl),jZ _ _ _ _ _,trivial⟩⟩
 cases hb1
 have hx1:bA a_e (.inl (c_15,v_16))=some _:=hk1
 unfold bA at hx1
 dsimp only at hx1
 obtain ⟨g18,hx1⟩:=az hx1
 have z19:((c_15.map cV).drop 0).take a_e.args.length=c_15.map cV:=by rw [List.drop_zero,List.take_of_length_le];rw [Y_];omega
 refine xc 2 (cs:=c_15.map cV) rfl (xm _) ?_
 simp only [Y9,Zd,XX,We,and_self,if_true,eq_self,List.set,z19]
 refine gu ?_
 rcases aa hx1 with ⟨q_20,hx1⟩|⟨q_20,hx1⟩
 ·obtain ⟨r_21,c20,hx1⟩:=bd_ hx1
  replace c20:=zz c20
  cases hx1
  exact bT
 rcases aa hx1 with ⟨q_22,hx1⟩|⟨q_22,hx1⟩
 ·obtain ⟨r_23,c21,hx1⟩:=bd_ hx1
  replace c21:=zz c21
  cases hx1
  exact bT
 rcases aa hx1 with ⟨q_24,hx1⟩|⟨q_24,hx1⟩
 ·obtain ⟨r_25,c22,hx1⟩:=bd_ hx1
  replace c22:=zz c22
  cases hx1
  exact bT
 refine gu ?_
 rcases aa hx1 with ⟨q_26,hx1⟩|⟨q_26,hx1⟩
 ·obtain ⟨x_27,i23z,i23,i23x,hx1⟩:=aI (f:=cV) hx1
  obtain ⟨r_28,c24,hx1⟩:=bd_ hx1
  replace c24:=o8 c24
  cases hx1
  exact bT
 rcases aa hx1 with ⟨q_29,hx1⟩|⟨q_29,hx1⟩
 ·refine gu ?_
  refine alM_ (fun s:Int=>match s with|v_30=>[(4, .one (.ptr 1 0)),(86, .one (.c (.lst (c_15.map cV)))),(87, .one (.c (.int .i64 ((c_15.length:Nat):Int)))),(88, .one (.c (.int .i64 v_30)))]) (fun s=>match s with|v_30=>[.box [.c (.int .i64 a_e.op), .c (.int .i64 a_e.int), .c (.int .i64 a_e.v.kind), .c (.int .i64 a_e.v.int), .c (.str a_e.v.text), .c (.str a_e.nm), .c (.lst (a_e.args.map tE))], .box [.c (.int .i64 (0:Int)), .c (.int .i64 (0:Int)), .c (.str ByteArray.empty)], .dead]) hx1 (fun _=>Zj _)
   (fm_ bL [] rfl bq cO) ?_
  rintro v_30 st2 hb2 hk2
  unfold pE at hb2
  dsimp only at hb2 ⊢
  rcases aa hb2 with ⟨q_31,hb2⟩|⟨q_31,hb2⟩
  ·obtain ⟨x_32,i25z,i25,i25x,hb2⟩:=aI (f:=cV) hb2
   refine gu ?_
   rcases aa hb2 with ⟨q_33,hb2⟩|⟨q_33,hb2⟩
   ·cases hb2
    have hx2:mq (.inr x_32)=some _:=hk2
    unfold mq at hx2
    dsimp only at hx2
    cases hx2
    exact bT
   cases hb2
   refine gu ?_
   exact ⟨_,rfl,fm_ bL [_] rfl bq cO⟩
  cases hb2
  have hx2:mq (.inl v_30)=some _:=hk2
  unfold mq at hx2
  dsimp only at hx2
  obtain ⟨r_34,c26,hx2⟩:=bd_ hx2
  replace c26:=dY c26
  cases hx2
  exact bT
 rcases aa hx1 with ⟨q_35,hx1⟩|⟨q_35,hx1⟩
 ·obtain ⟨r_36,c27,hx1⟩:=bd_ hx1
  replace c27:=JV c27
  cases hx1
  exact bT
 refine gu ?_
 rcases aa hx1 with ⟨q_37,hx1⟩|⟨q_37,hx1⟩
 ·obtain ⟨r_38,c28,hx1⟩:=bd_ hx1
  replace c28:=FY c28
  cases hx1
  exact bT
 rcases aa hx1 with ⟨q_39,hx1⟩|⟨q_39,hx1⟩
 ·obtain ⟨r_40,c29,hx1⟩:=bd_ hx1
  replace c29:=FY c29
  cases hx1
  exact bT
 rcases aa hx1 with ⟨q_41,hx1⟩|⟨q_41,hx1⟩
 ·obtain ⟨r_42,c30,hx1⟩:=bd_ hx1
  replace c30:=mo c30
  cases hx1
  exact bT
 refine gu ?_
 rcases aa hx1 with ⟨q_43,hx1⟩|⟨q_43,hx1⟩
 ·obtain ⟨r_44,c31,hx1⟩:=bd_ hx1
  replace c31:=mo c31
  cases hx1
  exact bT
 rcases aa hx1 with ⟨q_45,hx1⟩|⟨q_45,hx1⟩
 ·obtain ⟨r_46,c32,hx1⟩:=bd_ hx1
  replace c32:=mo c32
  cases hx1
  exact bT
 rcases aa hx1 with ⟨q_47,hx1⟩|⟨q_47,hx1⟩
 ·obtain ⟨r_48,c33,hx1⟩:=bd_ hx1
  replace c33:=mo c33
  cases hx1
  exact bT
 refine gu ?_
 rcases aa hx1 with ⟨q_49,hx1⟩|⟨q_49,hx1⟩
 ·obtain ⟨r_50,c34,hx1⟩:=bd_ hx1
  replace c34:=mo c34
  cases hx1
  exact bT
 rcases aa hx1 with ⟨q_51,hx1⟩|⟨q_51,hx1⟩
 ·obtain ⟨r_52,c35,hx1⟩:=bd_ hx1
  replace c35:=mo c35
  cases hx1
  exact bT
 obtain ⟨x_53,i36z,i36,i36x,hx1⟩:=aI (f:=cV) hx1
 obtain ⟨x_54,i37z,i37,i37x,hx1⟩:=aI (f:=cV) hx1
 obtain ⟨r_55,c38,hx1⟩:=bd_ hx1
 replace c38:=CJ c38
 obtain ⟨r_56,c39,hx1⟩:=bd_ hx1
 replace c39:=xY c39
 cases hx1
 exact bT
def tX:Nat->Ex->List Val->Option Val
 | 0,_,_=>none
 | n+1,e,r=>zL (tX n) e r
theorem De : ∀ (n:Nat) {x:Ex} {y:List Val} {r:Val}, tX n x y=some r->Pure Tryz.prog 163 [.agg (tE x), .one (.lst (y.map cV))] (.val (.agg (cV r)))
 | 0,_,_,_,h=>nomatch h
 | n+1,_,_,_,h=>OG (De n) h
theorem cu : ∀ {n:Nat} {L:List Ob}, LG n L -> ∀ x∈L,x.below n
 | _,_::_,h,x,hx=>by
  rcases Zf.1 hx with rfl|hx
  ·exact h.1
  ·exact cu h.2 x hx
def gC (x:AC):List SV:=[.c x]
theorem wX (n v k:Nat) (l:List AC):(Ob.row v (l.map gC) k).below n:=by
 intro e he x hx
 obtain ⟨y,_,rfl⟩:=Zz.1 he
 rcases Zf.1 hx with rfl|hx
 ·trivial
 ·cases hx
def Wi:TI := { Qj with soft:=true }
theorem bC:TIok Tryz.prog Wi:=⟨af.size,af.agg,af.elem,af.field,af.zero,af.bytes,af.kind,af.struct,af.zok,af.eqs⟩
theorem Nc (σ:List Nat) (v k:Nat) (l:List AC):(Ob.row v (l.map gC) k).ren σ=Ob.row v (l.map gC) k:=by
 simp only [Ob.ren,List.map_map];rfl
theorem YN {L:List Ob} {v k:Nat} {l:List AC} {x:AV} {xs:List AV} (h0:L[0]?=some (Ob.row v (l.map gC) k)) (hx : ∀ y∈x::xs,y.below 1):jD [0] [Ob.row v (l.map gC) k] (x::xs) L:=by
 refine ⟨rfl,by simp,fun i y hy=>?_,cu ⟨wX _ _ _ _,trivial⟩,hx⟩
 match i,hy with
 | 0,hy=>simp at hy;subst hy;rw [Nc];exact h0
 | i+1,hy=>simp at hy
theorem j1 {L L':List Ob} {v k:Nat} {l:List AC} (h:L.set 0 (Ob.row v (l.map gC) k)=L'):joinL [0] L [Ob.row v (l.map gC) k]=L':=by
 subst h
 simp [joinL,join,lm,eU,zk,Nc]
theorem nK {n:Nat} {l:List AV} (h:Kw n (l.map fun x=>(0,x))) : ∀ y∈l,y.below n:=by
 induction l with
 | nil=>intro y hy;cases hy
 | cons x l ih =>
  intro y hy
  rcases Zf.1 hy with rfl|hy
  ·exact h.1
  ·exact ih h.2 y hy
theorem RP (l:List Val) : ∀ e∈l.map cV,e.length=3:=D6 (by intro _;rfl) l
def nW (l:List (List Val)):AC := .lst (l.map fun r=>[fe r])
theorem PX (l:List AC):oh (l.map gC)=some (l.map fun x=>[x]):=by
 have:=xm (l.map fun x=>[x])
 rw [List.map_map] at this
 exact this
end Go.Proofs.YtnbnpnmkgemdeaaGreatDoor
