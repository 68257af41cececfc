/- Parts. No condition. -/
import Derived.Test.YtnbnpnmkgemdeaaGreatDoorKAO
import Derived.BigRegion
import Derived.Test.YtnbnpnmkgemdeaaGreatDoorKAK
import Derived.Test.YtnbnpnmkgemdeaaGreatDoorKAI
set_option linter.unusedSimpArgs false
set_option linter.unusedVariables false
namespace Go.Proofs.YtnbnpnmkgemdeaaGreatDoor.St
open IntKind (i64)
open Go.RowKit Tryz
set_option maxHeartbeats 1600000 in
theorem H6 (ak ai bk bi:Int)(as' bs:ByteArray)(w:World) :
  Calls prog 253 #[.agg #[.int .i64 ak,.int .i64 ai,.string as'],.agg #[.int .i64 bk,.int .i64 bi,.string bs]] w λe w'=>e = .returned (.tuple #[.agg #[.int .i64 ai,.int .i64 bi],.bool (decide (ak=1)&&decide (bk=1))])/\Gr w w':=by
 by_cases ha:ak=1
 .have hd:((ak:Int)==1)=true:=by simp[ha]
  have ha':decide (ak=1)=true:=ahV ha
  go_enter func253,ntmps253
  go_wp2
  go_big_region
  go_wp2;refine bodyPost_ret (v := .tuple #[.agg #[.int .i64 ai,.int .i64 bi],.bool (decide (ak=1)&&decide (bk=1))]) (by simp[results,results253,go_sem,ha];try rfl) rfl ⟨rfl,?_⟩
  .repeat (first|exact Gr.refl _|assumption|exact Gr.alloc _ _|refine Gr.allocR ?_ _|refine Gr.drewNR ?_ _|refine Gr.drewR ?_)
 .have hd:((ak:Int)==1)=false:=by simp[ha]
  have ha':decide (ak=1)=false:=ahU ha
  go_enter func253,ntmps253
  go_wp2
  go_big_region
  go_wp2;refine bodyPost_ret (v := .tuple #[.agg #[.int .i64 ai,.int .i64 bi],.bool (decide (ak=1)&&decide (bk=1))]) (by simp[results,results253,go_sem,ha];try rfl) rfl ⟨rfl,?_⟩
  .repeat (first|exact Gr.refl _|assumption|exact Gr.alloc _ _|refine Gr.allocR ?_ _|refine Gr.drewNR ?_ _|refine Gr.drewR ?_)
section
variable {P:Program} {R:PH} {w:World}
def yL (R:PH)(w w':World):PHf:=λb o=>if b<w.heap.size then R b o else w'.cell? ⟨b,o,none⟩
theorem D6 (hR:∀ b o u,R b o=some u->w.cell? ⟨b,o,none⟩=some u)(w':World):∀ b o u,R b o=some u->yL R w w' b o=some u:=λb o u h=>by
 have:=lt_of_cell (hR b o u h);unfold yL;rw[if_pos this];exact h
def agl (R:PH)(w w':World)(hR:∀ b o u,R b o=some u->w.cell? ⟨b,o,none⟩=some u):PH:=R.put (yL R w w') (D6 hR w')
theorem G6 (hR:∀ b o u,R b o=some u->w.cell? ⟨b,o,none⟩=some u){w':World}(hg:Gr w w'):Ext (· <w.heap.size) R (agl R w w' hR) w w' /\ ∀ b o u,agl R w w' hR b o=some u->w'.cell? ⟨b,o,none⟩=some u:=by
 refine⟨⟨Kept.of hg.out,D6 hR w',λb o hb=>?_⟩,λb o u h=>?_⟩
 .show yL R w w' b o=_
  unfold yL;rw[if_pos hb]
 .have h:yL R w w' b o=some u:=h
  unfold yL at h;split at h
  .rename_i hb;rw[hg.cells.1 b o hb];exact hR _ _ _ h
  .exact h
end
end Go.Proofs.YtnbnpnmkgemdeaaGreatDoor.St
namespace Go.Proofs.YtnbnpnmkgemdeaaGreatDoor
open IntKind (i64)
open Go.RowKit Go.MapKept Tryz
set_option maxRecDepth 100000
set_option maxHeartbeats 8000000
def ui (a b:Val):Option (dV×Bool):=some (⟨a.int,b.int⟩,decide (a.kind=1)&&decide (b.kind=1))
theorem abp {vs:Array Value}{p q:PV}(h:vs.size=[p,q].length):∃ v u,vs=#[v,u]:=by
 obtain⟨l⟩:=vs
 match l,h with
 |[a,b],_=>exact⟨a,b,rfl⟩
theorem LV {R:PH}{v:Val}{u:Value}(h:(PV.agg (cV v)).rep R u):u = .agg #[.int .i64 v.kind,.int .i64 v.int,.string v.text]:=by
 obtain⟨vs,rfl,hs,hc⟩:=h;obtain⟨l⟩:=vs
 match l,hs with
 |[a,b,c],_ =>
  have h0:=hc 0 a _ rfl rfl;have h1:=hc 1 b _ rfl rfl;have h2:=hc 2 c _ rfl rfl
  cases h0;cases h1;cases h2;rfl
theorem xc {a b:Val}{r:dV×Bool}(H:ui a b=some r):PTz 253 [.agg (cV a),.agg (cV b)] (.tup [.agg (mb r.1),.one (.bool r.2)]):=by
 obtain rfl:=aim H;refine⟨⟨_,func253,k7,k7⟩,λR w vs hR hs hv=>?_⟩;obtain⟨v,u,rfl⟩:=abp hs;have hv0:=LV (hv 0 v _ rfl rfl);have hv1:=LV (hv 1 u _ rfl rfl);subst hv0 hv1;refine(St.H6 a.kind a.int b.kind b.int a.text b.text w).mono ?_;rintro e w' ⟨rfl,hg⟩;refine⟨_,_,rfl,(St.G6 hR hg).1,(St.G6 hR hg).2,⟨_,rfl,rfl,λj u p hu hp=>?_⟩⟩
 match j,hu,hp with
 |0,hu,hp =>
  simp at hu hp;subst hu hp;refine⟨_,rfl,rfl,λj u p hu hp=>?_⟩
  match j,hu,hp with
  |0,hu,hp=>simp[mb]at hu hp;subst hu hp;exact .int _ _
  |1,hu,hp=>simp[mb]at hu hp;subst hu hp;exact .int _ _
  |j+2,hu,hp=>simp[mb]at hp
 |1,hu,hp=>simp at hu hp;subst hu hp;exact .bool _
 |j+2,hu,hp=>simp at hp
def qE (a_rel:Int)(a_l:(List Val)):Option (Val):=(al a_l (0:Int)).bind λx_1=>(al a_l (1:Int)).bind λx_2=>(ui x_1 x_2).bind λr_3=>(al a_l (2:Int)).bind λx_4=>(al a_l (3:Int)).bind λx_5=>(ui x_4 x_5).bind λr_6=>(Ni r_3.1 r_6.1).bind λr_7=>bif (!r_3.2)then(iB ).bind λr_9=>some r_9 else
 bif (!r_6.2)then(iB ).bind λr_11=>some r_11 else
 bif (!r_7.2)then(iB ).bind λr_13=>some r_13 else
 (qB (decide (r_7.1=a_rel))).bind λr_14=>some r_14
theorem Gq {a_rel:Int}{a_l:(List Val)}{r:Val}(H:qE a_rel a_l=some r):PTz 211 [.one (.int .i64 a_rel),.one (.lst (a_l.map cV))] (.val (.agg (cV r))):=by
 unfold qE at H;refine po_ func211 ntmps211 ?_;obtain⟨x_1,i1z,i1,i1x,H⟩:=aw (f:=cV) H;obtain⟨x_2,i2z,i2,i2x,H⟩:=aw (f:=cV) H;obtain⟨r_3,c3,H⟩:=bd_ H;replace c3:=xc c3;obtain⟨x_4,i4z,i4,i4x,H⟩:=aw (f:=cV) H;obtain⟨x_5,i5z,i5,i5x,H⟩:=aw (f:=cV) H;obtain⟨r_6,c6,H⟩:=bd_ H;replace c6:=xc c6;obtain⟨r_7,c7,H⟩:=bd_ H;replace c7:=LZ c7;obtain⟨q_8,H⟩|⟨q_8,H⟩:=ae H
 .obtain⟨r_9,c8,H⟩:=bd_ H
  replace c8:=cQ c8
  cases H;exact ao
 obtain⟨q_10,H⟩|⟨q_10,H⟩:=ae H
 .obtain⟨r_11,c9,H⟩:=bd_ H
  replace c9:=cQ c9
  cases H;exact ao
 obtain⟨q_12,H⟩|⟨q_12,H⟩:=ae H
 .obtain⟨r_13,c10,H⟩:=bd_ H
  replace c10:=cQ c10
  cases H;exact ao
 obtain⟨r_14,c11,H⟩:=bd_ H;replace c11:=mY c11
 cases H;exact ao
set_option maxHeartbeats 8000000
set_option maxHeartbeats 8000000
def x3 (rec:Ex->List Val->Option Val)(a_e:Ex)(a_row:(List Val)):Option (Int):=(rec a_e a_row).bind λr_1=>(ja r_1).bind λr_2=>some r_2
theorem I4 {rec:Ex->List Val->Option Val}  (hrec:∀ {x:Ex} {y:List Val} {r:Val},rec x y=some r->PTz 163 [.agg (tE x),.one (.lst (y.map cV))] (.val (.agg (cV r)))){a_e:Ex}{a_row:(List Val)}{r:Int}(H:x3 rec a_e a_row=some r):PTz 162 [.agg (tE a_e),.one (.lst (a_row.map cV))] (.val (.one (.int .i64 r))):=by
 unfold x3 at H;rw[ay a_e];refine po_ func162 ntmps162 ?_;obtain⟨r_1,c1,H⟩:=bd_ H;replace c1:=hrec c1
 try simp only[ah4,ah2,ah6,ahW,ay,aD]at c1
 obtain⟨r_2,c2,H⟩:=bd_ H;replace c2:=kQ c2
 cases H;exact ao
def my (c_15:(List Val)):(Int)->Option (Step (Int) (Val)):=λs=>match s with
 |v_30=>bif v_30<(c_15.length:Int)then(al c_15 v_30).bind λx_32=>bif x_32.kind≠(0:Int)then some (.ret x_32)else
 some (.next (i64.wrap (v_30+(1:Int))))else
 some (.exit v_30)
def km:Sum (Int) (Val)->Option ((Val))
 |.inl v_30=>(iB ).bind λr_34=>some r_34
 |.inr q=>some q
def mZ (a_e:Ex)(a_row:(List Val))(rec:Ex->List Val->Option Val):((List Val)×Int)->Option (Step ((List Val)×Int) (Val)):=λs=>match s with
 |(c_15,v_16)=>bif v_16<(a_e.args.length:Int)then(al a_e.args v_16).bind λx_18=>(rec x_18 a_row).bind λr_19=>bif 0<=v_16 then(bif v_16<(a_e.args.length:Int)then(bif (0+v_16.toNat)<c_15.length then(some (.next ((c_15.set (0+v_16.toNat) r_19),(i64.wrap (v_16+(1:Int))))))else none)else none)else none else
 some (.exit (c_15,v_16))
def bp (a_e:Ex):Sum ((List Val)×Int) (Val)->Option ((Val))
 |.inl (c_15,v_16)=>bif c_15.length=a_e.args.length then(bif a_e.op=(4:Int)then(kW a_e.op c_15).bind λr_21=>some r_21 else
 bif a_e.op=(5:Int)then(kW a_e.op c_15).bind λr_23=>some r_23 else
 bif a_e.op=(6:Int)then(kW a_e.op c_15).bind λr_25=>some r_25 else
 bif a_e.op=(21:Int)then(al c_15 (0:Int)).bind λx_27=>(qB (decide (x_27.kind=(0:Int)))).bind λr_28=>some r_28 else
 bif a_e.op=(23:Int)then(af (my c_15) fuel (0:Int)).bind (km)else
 bif a_e.op=(24:Int)then(qE a_e.int c_15).bind λr_36=>some r_36 else
 bif a_e.op=(19:Int)then(qj a_e.op c_15).bind λr_38=>some r_38 else
 bif a_e.op=(20:Int)then(qj a_e.op c_15).bind λr_40=>some r_40 else
 bif a_e.op=(13:Int)then(jF a_e.op c_15).bind λr_42=>some r_42 else
 bif a_e.op=(14:Int)then(jF a_e.op c_15).bind λr_44=>some r_44 else
 bif a_e.op=(15:Int)then(jF a_e.op c_15).bind λr_46=>some r_46 else
 bif a_e.op=(16:Int)then(jF a_e.op c_15).bind λr_48=>some r_48 else
 bif a_e.op=(17:Int)then(jF a_e.op c_15).bind λr_50=>some r_50 else
 bif a_e.op=(18:Int)then(jF a_e.op c_15).bind λr_52=>some r_52 else
 (al c_15 (0:Int)).bind λx_53=>(al c_15 (1:Int)).bind λx_54=>(jm a_e.op x_53 x_54).bind λr_55=>(u_ r_55).bind λr_56=>some r_56)else none
 |.inr q=>some q
def vT (rec:Ex->List Val->Option Val)(a_e:Ex)(a_row:(List Val)):Option (Val):=(lC a_e).bind λr_1=>bif (!r_1)then(iB ).bind λr_3=>some r_3 else
 bif a_e.op=(1:Int)then some a_e.v else
 bif a_e.op=(2:Int)then(uO a_row a_e.int).bind λr_6=>some r_6 else
 bif a_e.op=(22:Int)then(al a_e.args (0:Int)).bind λx_8=>(x3 rec x_8 a_row).bind λr_9=>bif r_9=(2:Int)then(al a_e.args (1:Int)).bind λx_11=>(rec x_11 a_row).bind λr_12=>some r_12 else
 (al a_e.args (2:Int)).bind λx_13=>(rec x_13 a_row).bind λr_14=>some r_14 else
 bif 0<=(a_e.args.length:Int)then(bif (32:Int)*(a_e.args.length:Int)<=281474976710656 then(bif (a_e.args.length:Int)<=9223372036854775807 then((af (mZ a_e a_row rec) fuel ((List.replicate a_e.args.length ((⟨(0:Int),(0:Int),ByteArray.empty⟩:Val))),(0:Int))).bind (bp a_e))else none)else none)else none
theorem ff {p q:Prop}(k:q)(h:Bx q->p:=by
 intro hq
 repeat' (first|refine bQ rfl rfl rfl rfl rfl (rh tab_ok (k:=3) (by_:=32) rfl rfl rfl m9 rfl rfl rfl rfl rfl m9 m0 m0 m0) ?_|refine x8 (PX:=cV) rfl rfl rfl rfl rfl m0 rfl (λ_=>rfl) rfl ?_|refine gs_ ?_|fail)
 exact hq.out):p:=h ⟨k⟩
theorem b8 {p:Prop}(h:p:=by
 repeat' (first|refine bQ rfl rfl rfl rfl rfl (rh tab_ok (k:=3) (by_:=32) rfl rfl rfl m9 rfl rfl rfl rfl rfl m9 m0 m0 m0) ?_|refine x8 (PX:=cV) rfl rfl rfl rfl rfl m0 rfl (λ_=>rfl) rfl ?_|refine gs_ ?_|fail)
 refine az (aE rfl ?_ ?_)
 .repeat' (first|exact t7|rfl|exact ah1 rfl|omega|apply And.intro)
 .first|rfl|(simp only[ah4,ah2,ah6,ahW]<;>rfl)):p:=h
theorem N5 {rec:Ex->List Val->Option Val}  (hrec:∀ {x:Ex} {y:List Val} {r:Val},rec x y=some r->PTz 163 [.agg (tE x),.one (.lst (y.map cV))] (.val (.agg (cV r)))){a_e:Ex}{a_row:(List Val)}{r:Val}(H:vT rec a_e a_row=some r):PTz 163 [.agg (tE a_e),.one (.lst (a_row.map cV))] (.val (.agg (cV r))):=by
 unfold vT at H;rw[ay a_e];refine po_ func163 ntmps163 ?_;obtain⟨r_1,c1,H⟩:=bd_ H;replace c1:=Ar c1
 try simp only[ah4,ah2,ah6,ahW,ay,aD]at c1
 obtain⟨q_2,H⟩|⟨q_2,H⟩:=ae H
 .obtain⟨r_3,c2,H⟩:=bd_ H
  replace c2:=cQ c2
  cases H;exact b8
 obtain⟨q_4,H⟩|⟨q_4,H⟩:=ae H
 .cases H
  exact b8
 refine ff ?_;obtain⟨q_5,H⟩|⟨q_5,H⟩:=ae H
 .obtain⟨r_6,c3,H⟩:=bd_ H
  replace c3:=JA c3
  cases H;exact b8
 obtain⟨q_7,H⟩|⟨q_7,H⟩:=ae H
 .obtain⟨x_8,i4z,i4,i4x,H⟩:=aw (f:=tE) H
  simp only[ah4,ah2,ah6,ahW,ay]at i4x;obtain⟨r_9,c5,H⟩:=bd_ H;replace c5:=I4 hrec c5
  try simp only[ah4,ah2,ah6,ahW,ay,aD]at c5
  obtain⟨q_10,H⟩|⟨q_10,H⟩:=ae H
  .obtain⟨x_11,i6z,i6,i6x,H⟩:=aw (f:=tE) H
   simp only[ah4,ah2,ah6,ahW,ay]at i6x;obtain⟨r_12,c7,H⟩:=bd_ H;replace c7:=hrec c7
   try simp only[ah4,ah2,ah6,ahW,ay,aD]at c7
   cases H;exact b8
  obtain⟨x_13,i8z,i8,i8x,H⟩:=aw (f:=tE) H;simp only[ah4,ah2,ah6,ahW,ay]at i8x;obtain⟨r_14,c9,H⟩:=bd_ H;replace c9:=hrec c9
  try simp only[ah4,ah2,ah6,ahW,ay,aD]at c9
  cases H;exact b8
 obtain⟨g10,H⟩:=aq H;obtain⟨g11,H⟩:=aq H;obtain⟨g12,H⟩:=aq H;refine ff ?_;refine alM_ (λs:(List Val)×Int=>match s with|(c_15,v_16)=>[(1,.one (.c (.lst (a_row.map cV)))),(2,.one (.ptr 0 0)),(4,.one (.ptr 1 0)),(5,.one (.sl 2 (57+65536) 0 a_e.args.length)),(52,.one (.c (.lst (a_e.args.map tE)))),(53,.one (.c (.int .i64 (a_e.args.length:Int)))),(54,.one (.c (.int .i64 v_16)))]) (λs=>match s with|(c_15,v_16)=>[.box [.c (.int .i64 a_e.op),.c (.int .i64 a_e.int),.c (.int .i64 a_e.v.kind),.c (.int .i64 a_e.v.int),.c (.str a_e.v.text),.c (.str a_e.nm),.c (.lst (a_e.args.map tE))],.box [.c (.int .i64 (0:Int)),.c (.int .i64 (0:Int)),.c (.str ByteArray.empty)],.row (57+65536) ((c_15.map cV).map (List.map SV.c)) 3]) H (λ_=>aia _)
  (fm_ bg [] (by simp only[List.map_replicate]<;>rfl) aQ ⟨fi r5,fi r5,iZ _ _ _ _ _,t7⟩) ?_
 rintro⟨c_15,v_16⟩ st1 hb1 hk1;unfold mZ at hb1;dsimp only at hb1 ⊢;obtain⟨q_17,hb1⟩|⟨q_17,hb1⟩:=ae hb1
 .obtain⟨x_18,i13z,i13,i13x,hb1⟩:=aw (f:=tE) hb1
  simp only[ah4,ah2,ah6,ahW,ay]at i13x;obtain⟨r_19,c14,hb1⟩:=bd_ hb1;replace c14:=hrec c14
  try simp only[ah4,ah2,ah6,ahW,ay,aD]at c14
  obtain⟨g15,hb1⟩:=aq hb1;obtain⟨g16,hb1⟩:=aq hb1;obtain⟨g17,hb1⟩:=aq hb1
  cases hb1;refine ff ?_;exact⟨_,rfl,fm_ bg [_] rfl aQ ⟨fi r5,fi r5,iZ _ _ _ _ _,t7⟩⟩
 cases hb1;have hx1:bp a_e (.inl (c_15,v_16))=some _:=hk1;unfold bp at hx1;dsimp only at hx1;obtain⟨g18,hx1⟩:=aq hx1;have z19:((c_15.map cV).drop 0).take a_e.args.length=c_15.map cV:=by rw[List.drop_zero,aiu];rw[ah3];omega
 refine tW 2 (cs:=c_15.map cV) rfl (qX _) ?_;simp only[ah2,ah6,thA,thS,and_self,if_true,eq_self,List.set,z19];refine ff ?_;obtain⟨q_20,hx1⟩|⟨q_20,hx1⟩:=ae hx1
 .obtain⟨r_21,c20,hx1⟩:=bd_ hx1
  replace c20:=wT c20
  cases hx1;exact b8
 obtain⟨q_22,hx1⟩|⟨q_22,hx1⟩:=ae hx1
 .obtain⟨r_23,c21,hx1⟩:=bd_ hx1
  replace c21:=wT c21
  cases hx1;exact b8
 obtain⟨q_24,hx1⟩|⟨q_24,hx1⟩:=ae hx1
 .obtain⟨r_25,c22,hx1⟩:=bd_ hx1
  replace c22:=wT c22
  cases hx1;exact b8
 refine ff ?_;obtain⟨q_26,hx1⟩|⟨q_26,hx1⟩:=ae hx1
 .obtain⟨x_27,i23z,i23,i23x,hx1⟩:=aw (f:=cV) hx1
  obtain⟨r_28,c24,hx1⟩:=bd_ hx1;replace c24:=mY c24
  cases hx1;exact b8
 obtain⟨q_29,hx1⟩|⟨q_29,hx1⟩:=ae hx1
 .refine ff ?_
  refine alM_ (λs:Int=>match s with|v_30=>[(4,.one (.ptr 1 0)),(86,.one (.c (.lst (c_15.map cV)))),(87,.one (.c (.int .i64 (c_15.length:Int)))),(88,.one (.c (.int .i64 v_30)))]) (λs=>match s with|v_30=>[.box [.c (.int .i64 a_e.op),.c (.int .i64 a_e.int),.c (.int .i64 a_e.v.kind),.c (.int .i64 a_e.v.int),.c (.str a_e.v.text),.c (.str a_e.nm),.c (.lst (a_e.args.map tE))],.box [.c (.int .i64 (0:Int)),.c (.int .i64 (0:Int)),.c (.str ByteArray.empty)],.dead]) hx1 (λ_=>aia _)
   (fm_ bg [] rfl aQ bq) ?_
  rintro v_30 st2 hb2 hk2;unfold my at hb2;dsimp only at hb2 ⊢;obtain⟨q_31,hb2⟩|⟨q_31,hb2⟩:=ae hb2
  .obtain⟨x_32,i25z,i25,i25x,hb2⟩:=aw (f:=cV) hb2
   refine ff ?_;obtain⟨q_33,hb2⟩|⟨q_33,hb2⟩:=ae hb2
   .cases hb2
    have hx2:km (.inr x_32)=some _:=hk2;unfold km at hx2;dsimp only at hx2
    cases hx2;exact b8
   cases hb2;refine ff ?_;exact⟨_,rfl,fm_ bg [_] rfl aQ bq⟩
  cases hb2;have hx2:km (.inl v_30)=some _:=hk2;unfold km at hx2;dsimp only at hx2;obtain⟨r_34,c26,hx2⟩:=bd_ hx2;replace c26:=cQ c26
  cases hx2;exact b8
 obtain⟨q_35,hx1⟩|⟨q_35,hx1⟩:=ae hx1
 .obtain⟨r_36,c27,hx1⟩:=bd_ hx1
  replace c27:=Gq c27
  cases hx1;exact b8
 refine ff ?_;obtain⟨q_37,hx1⟩|⟨q_37,hx1⟩:=ae hx1
 .obtain⟨r_38,c28,hx1⟩:=bd_ hx1
  replace c28:=Ew c28
  cases hx1;exact b8
 obtain⟨q_39,hx1⟩|⟨q_39,hx1⟩:=ae hx1
 .obtain⟨r_40,c29,hx1⟩:=bd_ hx1
  replace c29:=Ew c29
  cases hx1;exact b8
 obtain⟨q_41,hx1⟩|⟨q_41,hx1⟩:=ae hx1
 .obtain⟨r_42,c30,hx1⟩:=bd_ hx1
  replace c30:=j9 c30
  cases hx1;exact b8
 refine ff ?_;obtain⟨q_43,hx1⟩|⟨q_43,hx1⟩:=ae hx1
 .obtain⟨r_44,c31,hx1⟩:=bd_ hx1
  replace c31:=j9 c31
  cases hx1;exact b8
 obtain⟨q_45,hx1⟩|⟨q_45,hx1⟩:=ae hx1
 .obtain⟨r_46,c32,hx1⟩:=bd_ hx1
  replace c32:=j9 c32
  cases hx1;exact b8
 obtain⟨q_47,hx1⟩|⟨q_47,hx1⟩:=ae hx1
 .obtain⟨r_48,c33,hx1⟩:=bd_ hx1
  replace c33:=j9 c33
  cases hx1;exact b8
 refine ff ?_;obtain⟨q_49,hx1⟩|⟨q_49,hx1⟩:=ae hx1
 .obtain⟨r_50,c34,hx1⟩:=bd_ hx1
  replace c34:=j9 c34
  cases hx1;exact b8
 obtain⟨q_51,hx1⟩|⟨q_51,hx1⟩:=ae hx1
 .obtain⟨r_52,c35,hx1⟩:=bd_ hx1
  replace c35:=j9 c35
  cases hx1;exact b8
 obtain⟨x_53,i36z,i36,i36x,hx1⟩:=aw (f:=cV) hx1;obtain⟨x_54,i37z,i37,i37x,hx1⟩:=aw (f:=cV) hx1;obtain⟨r_55,c38,hx1⟩:=bd_ hx1;replace c38:=AA c38;obtain⟨r_56,c39,hx1⟩:=bd_ hx1;replace c39:=tY c39
 cases hx1;exact b8
def qn:Nat->Ex->List Val->Option Val
 |0,_,_=>none
 |n+1,e,r=>vT (qn n) e r
theorem Bq:∀ (n:Nat) {x:Ex} {y:List Val} {r:Val},qn n x y=some r->PTz 163 [.agg (tE x),.one (.lst (y.map cV))] (.val (.agg (cV r)))
 |0,_,_,_,h=>nomatch h
 |n+1,_,_,_,h=>N5 (Bq n) h
theorem bU:∀ {n:Nat} {L:List Ob},zT n L ->∀ x∈L,x.below n
 |_,_::_,h,x,hx=>by
  obtain rfl|hx:=ah8.1 hx
  .exact h.1
  .exact bU h.2 x hx
def gC (x:AC):List SV:=[.c x]
theorem tI (n v k:Nat)(l:List AC):(Ob.row v (l.map gC) k).below n:=by
 intro e he x hx;obtain⟨y,_,rfl⟩:=aip.1 he;obtain rfl|hx:=ah8.1 hx
 .trivial
 .cases hx
def agx:TI :={ OQ with soft:=true }
theorem bw:TIok prog agx:=⟨aj.size,aj.agg,aj.elem,aj.field,aj.zero,aj.bytes,aj.kind,aj.struct,aj.zok,aj.eqs⟩
theorem K4 (σ:List Nat)(v k:Nat)(l:List AC):(Ob.row v (l.map gC) k).ren σ=Ob.row v (l.map gC) k:=by
 simp only[Ob.ren,List.map_map];rfl
theorem rf1 {L:List Ob}{v k:Nat}{l:List AC}{x:AV}{xs:List AV}(h0:L[0]?=some (Ob.row v (l.map gC) k))(hx:∀ y∈x::xs,y.below 1):ig [0] [Ob.row v (l.map gC) k] (x::xs) L:=by
 refine⟨rfl,m5,λi y hy=>?_,bU ⟨tI _ _ _ _,t7⟩,hx⟩
 match i,hy with
 |0,hy=>simp at hy;subst hy;rw[K4];exact h0
 |i+1,hy=>simp at hy
theorem j1 {L L':List Ob}{v k:Nat}{l:List AC}(h:L.set 0 (Ob.row v (l.map gC) k)=L'):joinL [0] L [Ob.row v (l.map gC) k]=L':=by
 subst h;simp[joinL,join,iI,dx,tB,K4]
theorem iO {n:Nat}{l:List AV}(h:Fj n (l.map λx=>(0,x))):∀ y∈l,y.below n:=by
 induction l with
 |nil=>intro y hy;cases hy
 |cons x l ih =>
  intro y hy;obtain rfl|hy:=ah8.1 hy
  .exact h.1
  .exact ih h.2 y hy
theorem adm (l:List Val):∀ e∈l.map cV,e.length=3:=wideI (by intro _;rfl) l
def bA (l:List (List Val)):AC := .lst (l.map λr=>[bD r])
theorem aae (l:List AC):jk (l.map gC)=some (l.map λx=>[x]):=by
 have:=qX (l.map λx=>[x]);rw[List.map_map]at this;exact this
set_option maxHeartbeats 8000000
abbrev bL (x:Int):Int:=i64.wrap (Int.fdiv (IntKind.u64.wrap x) (2 ^ (min (Int.toNat (1:Int)) (IntKind.bits .u64))))
def dG {α:Type}(a_a:Int)(a_b:Int)(a_n:Int)(n:Nat):((List α)×Int)->Option (Step ((List α)×Int) (List α)):=λs=>match s with
 |(c_1,i_2)=>bif i_2<a_n then bif 0<=(i64.wrap (a_b+i_2))then(bif (i64.wrap (a_b+i_2))<((n:Nat):Int)then((al c_1 (i64.wrap (a_b+i_2))).bind λx_4=>bif 0<=(i64.wrap (a_a+i_2))then(bif (i64.wrap (a_a+i_2))<((n:Nat):Int)then((al c_1 (i64.wrap (a_a+i_2))).bind λx_5=>bif 0<=(i64.wrap (a_a+i_2))then(bif (i64.wrap (a_a+i_2))<((n:Nat):Int)then(bif (0+(i64.wrap (a_a+i_2)).toNat)<c_1.length then(bif 0<=(i64.wrap (a_b+i_2))then(bif (i64.wrap (a_b+i_2))<((n:Nat):Int)then(bif (0+(i64.wrap (a_b+i_2)).toNat)<(c_1.set (0+(i64.wrap (a_a+i_2)).toNat) x_4).length then(some (.next (((c_1.set (0+(i64.wrap (a_a+i_2)).toNat) x_4).set (0+(i64.wrap (a_b+i_2)).toNat) x_5),(i64.wrap (i_2+(1:Int))))))else none)else none)else none)else none)else none)else none)else none)else none)else none)else none else
 some (.exit (c_1,i_2))
def mi {α:Type}:Sum ((List α)×Int) (List α)->Option ((List α))
 |.inl (c_1,i_2)=>some c_1
 |.inr q=>some q
def gw {α:Type}(n:Nat)(zd:(List α))(a_a:Int)(a_b:Int)(a_n:Int)(a_cmp:α->α->Option (Int)):Option (List α):=(af (dG a_a a_b a_n n) fuel (zd,(0:Int))).bind (mi)
def en {α:Type}(a_m:Int)(a_cmp:α->α->Option (Int))(n:Nat):((List α)×Int×Int)->Option (Step ((List α)×Int×Int) (List α)):=λs=>match s with
 |(c_1,i_2,j_3)=>bif i_2≠j_3 then bif j_3<i_2 then(gw n c_1 (i64.wrap (a_m-i_2)) a_m j_3 a_cmp).bind λc_6=>some (.next (c_6,(i64.wrap (i_2-j_3)),j_3))else
 (gw n c_1 (i64.wrap (a_m-i_2)) (i64.wrap ((i64.wrap (a_m+j_3))-i_2)) i_2 a_cmp).bind λc_7=>some (.next (c_7,i_2,(i64.wrap (j_3-i_2))))else
 some (.exit (c_1,i_2,j_3))
def nP {α:Type}(a_m:Int)(a_cmp:α->α->Option (Int))(n:Nat):Sum ((List α)×Int×Int) (List α)->Option ((List α))
 |.inl (c_1,i_2,j_3)=>(gw n c_1 (i64.wrap (a_m-i_2)) a_m i_2 a_cmp).bind λc_8=>some c_8
 |.inr q=>some q
def lK {α:Type}(n:Nat)(zd:(List α))(a_a:Int)(a_m:Int)(a_b:Int)(a_cmp:α->α->Option (Int)):Option (List α):=(af (en a_m a_cmp n) fuel (zd,(i64.wrap (a_m-a_a)),(i64.wrap (a_b-a_m)))).bind (nP a_m a_cmp n)
def dh {α:Type}(a_a:Int)(a_cmp:α->α->Option (Int))(n:Nat):((List α)×Int)->Option (Step ((List α)×Int) (List α)):=λs=>match s with
 |(c_4,j_5)=>bif a_a<j_5 then bif 0<=j_5 then(bif j_5<((n:Nat):Int)then((al c_4 j_5).bind λx_7=>bif 0<=(i64.wrap (j_5-(1:Int)))then(bif (i64.wrap (j_5-(1:Int)))<((n:Nat):Int)then((al c_4 (i64.wrap (j_5-(1:Int)))).bind λx_8=>(a_cmp x_7 x_8).bind λr_9=>bif r_9<(0:Int)then bif 0<=(i64.wrap (j_5-(1:Int)))then(bif (i64.wrap (j_5-(1:Int)))<((n:Nat):Int)then(bif 0<=j_5 then(bif j_5<((n:Nat):Int)then(bif 0<=j_5 then(bif j_5<((n:Nat):Int)then(bif (0+j_5.toNat)<c_4.length then(bif 0<=(i64.wrap (j_5-(1:Int)))then(bif (i64.wrap (j_5-(1:Int)))<((n:Nat):Int)then(bif (0+(i64.wrap (j_5-(1:Int))).toNat)<(c_4.set (0+j_5.toNat) x_8).length then(some (.next (((c_4.set (0+j_5.toNat) x_8).set (0+(i64.wrap (j_5-(1:Int))).toNat) x_7),(i64.wrap (j_5-(1:Int))))))else none)else none)else none)else none)else none)else none)else none)else none)else none)else none else
 some (.exit (c_4,j_5)))else none)else none)else none)else none else
 some (.exit (c_4,j_5))
def gH {α:Type}(i_2:Int):Sum ((List α)×Int) (List α)->Option (Step ((List α)×Int) (List α))
 |.inl (c_4,j_5)=>some (.next (c_4,(i64.wrap (i_2+(1:Int)))))
 |.inr q=>some (.ret q)
def dl {α:Type}(a_a:Int)(a_b:Int)(a_cmp:α->α->Option (Int))(n:Nat):((List α)×Int)->Option (Step ((List α)×Int) (List α)):=λs=>match s with
 |(c_1,i_2)=>bif i_2<a_b then(af (dh a_a a_cmp n) fuel (c_1,i_2)).bind (gH i_2)else
 some (.exit (c_1,i_2))
def pD {α:Type}:Sum ((List α)×Int) (List α)->Option ((List α))
 |.inl (c_1,i_2)=>some c_1
 |.inr q=>some q
def m3 {α:Type}(n:Nat)(zd:(List α))(a_a:Int)(a_b:Int)(a_cmp:α->α->Option (Int)):Option (List α):=(af (dl a_a a_b a_cmp n) fuel (zd,(i64.wrap (a_a+(1:Int))))).bind (pD)
def la {α:Type}(n:Nat)(i_2:Int):((List α)×Int)->Option (Step ((List α)×Int) (List α)):=λs=>match s with
 |(c_9,k_10)=>bif k_10<(i64.wrap (i_2-(1:Int)))then bif 0<=(i64.wrap (k_10+(1:Int)))then(bif (i64.wrap (k_10+(1:Int)))<((n:Nat):Int)then((al c_9 (i64.wrap (k_10+(1:Int)))).bind λx_12=>bif 0<=k_10 then(bif k_10<((n:Nat):Int)then((al c_9 k_10).bind λx_13=>bif 0<=k_10 then(bif k_10<((n:Nat):Int)then(bif (0+k_10.toNat)<c_9.length then(bif 0<=(i64.wrap (k_10+(1:Int)))then(bif (i64.wrap (k_10+(1:Int)))<((n:Nat):Int)then(bif (0+(i64.wrap (k_10+(1:Int))).toNat)<(c_9.set (0+k_10.toNat) x_12).length then(some (.next (((c_9.set (0+k_10.toNat) x_12).set (0+(i64.wrap (k_10+(1:Int))).toNat) x_13),(i64.wrap (k_10+(1:Int))))))else none)else none)else none)else none)else none)else none)else none)else none)else none)else none else
 some (.exit (c_9,k_10))
def yA {α:Type}:Sum ((List α)×Int) (List α)->Option ((List α))
 |.inl (c_9,k_10)=>some c_9
 |.inr q=>some q
def mV {α:Type}(zd:List α)(a_a:Int)(a_cmp:α->α->Option (Int))(n:Nat):(Int×Int)->Option (Step (Int×Int) (List α)):=λs=>match s with
 |(i_2,j_3)=>bif i_2<j_3 then bif 0<=(bL (i64.wrap (i_2+j_3)))then(bif (bL (i64.wrap (i_2+j_3)))<((n:Nat):Int)then((al zd (bL (i64.wrap (i_2+j_3)))).bind λx_5=>bif 0<=a_a then(bif a_a<((n:Nat):Int)then((al zd a_a).bind λx_6=>(a_cmp x_5 x_6).bind λr_7=>bif r_7<(0:Int)then some (.next ((i64.wrap ((bL (i64.wrap (i_2+j_3)))+(1:Int))),j_3))else
 some (.next (i_2,(bL (i64.wrap (i_2+j_3))))))else none)else none)else none)else none else
 some (.exit (i_2,j_3))
def qA {α:Type}(zd:List α)(a_a:Int)(n:Nat):Sum (Int×Int) (List α)->Option ((List α))
 |.inl (i_2,j_3)=>(af (la n i_2) fuel (zd,a_a)).bind (yA)
 |.inr q=>some q
def kC {α:Type}(n:Nat)(i_15:Int):((List α)×Int)->Option (Step ((List α)×Int) (List α)):=λs=>match s with
 |(c_22,k_23)=>bif i_15<k_23 then bif 0<=(i64.wrap (k_23-(1:Int)))then(bif (i64.wrap (k_23-(1:Int)))<((n:Nat):Int)then((al c_22 (i64.wrap (k_23-(1:Int)))).bind λx_25=>bif 0<=k_23 then(bif k_23<((n:Nat):Int)then((al c_22 k_23).bind λx_26=>bif 0<=k_23 then(bif k_23<((n:Nat):Int)then(bif (0+k_23.toNat)<c_22.length then(bif 0<=(i64.wrap (k_23-(1:Int)))then(bif (i64.wrap (k_23-(1:Int)))<((n:Nat):Int)then(bif (0+(i64.wrap (k_23-(1:Int))).toNat)<(c_22.set (0+k_23.toNat) x_25).length then(some (.next (((c_22.set (0+k_23.toNat) x_25).set (0+(i64.wrap (k_23-(1:Int))).toNat) x_26),(i64.wrap (k_23-(1:Int))))))else none)else none)else none)else none)else none)else none)else none)else none)else none)else none else
 some (.exit (c_22,k_23))
def AG {α:Type}:Sum ((List α)×Int) (List α)->Option ((List α))
 |.inl (c_22,k_23)=>some c_22
 |.inr q=>some q
def nj {α:Type}(zd:List α)(a_m:Int)(a_cmp:α->α->Option (Int))(n:Nat):(Int×Int)->Option (Step (Int×Int) (List α)):=λs=>match s with
 |(i_15,j_16)=>bif i_15<j_16 then bif 0<=a_m then(bif a_m<((n:Nat):Int)then((al zd a_m).bind λx_18=>bif 0<=(bL (i64.wrap (i_15+j_16)))then(bif (bL (i64.wrap (i_15+j_16)))<((n:Nat):Int)then((al zd (bL (i64.wrap (i_15+j_16)))).bind λx_19=>(a_cmp x_18 x_19).bind λr_20=>bif (!(decide (r_20<(0:Int))))then some (.next ((i64.wrap ((bL (i64.wrap (i_15+j_16)))+(1:Int))),j_16))else
 some (.next (i_15,(bL (i64.wrap (i_15+j_16))))))else none)else none)else none)else none else
 some (.exit (i_15,j_16))
def qO {α:Type}(zd:List α)(a_m:Int)(n:Nat):Sum (Int×Int) (List α)->Option ((List α))
 |.inl (i_15,j_16)=>(af (kC n i_15) fuel (zd,a_m)).bind (AG)
 |.inr q=>some q
def jv {α:Type}(zd:List α)(a_a:Int)(a_m:Int)(a_b:Int)(a_cmp:α->α->Option (Int))(n:Nat):(Int×Int)->Option (Step (Int×Int) (List α)):=λs=>match s with
 |(z6,r_29)=>bif z6<r_29 then bif 0<=(i64.wrap ((i64.wrap ((i64.wrap ((bL (i64.wrap (a_a+a_b)))+a_m))-(1:Int)))-(bL (i64.wrap (z6+r_29)))))then(bif (i64.wrap ((i64.wrap ((i64.wrap ((bL (i64.wrap (a_a+a_b)))+a_m))-(1:Int)))-(bL (i64.wrap (z6+r_29)))))<((n:Nat):Int)then((al zd (i64.wrap ((i64.wrap ((i64.wrap ((bL (i64.wrap (a_a+a_b)))+a_m))-(1:Int)))-(bL (i64.wrap (z6+r_29)))))).bind λx_31=>bif 0<=(bL (i64.wrap (z6+r_29)))then(bif (bL (i64.wrap (z6+r_29)))<((n:Nat):Int)then((al zd (bL (i64.wrap (z6+r_29)))).bind λx_32=>(a_cmp x_31 x_32).bind λr_33=>bif (!(decide (r_33<(0:Int))))then some (.next ((i64.wrap ((bL (i64.wrap (z6+r_29)))+(1:Int))),r_29))else
 some (.next (z6,(bL (i64.wrap (z6+r_29))))))else none)else none)else none)else none else
 some (.exit (z6,r_29))
def jn {α:Type}(zd:List α)(a_a:Int)(a_m:Int)(a_b:Int)(a_cmp:α->α->Option (Int))(n:Nat)(rec:Nat->List α->Int->Int->Int->(α->α->Option Int)->Option (List α)):Sum (Int×Int) (List α)->Option ((List α))
 |.inl (z6,r_29)=>bif z6<a_m then bif a_m<(i64.wrap ((i64.wrap ((bL (i64.wrap (a_a+a_b)))+a_m))-z6))then(lK n zd z6 a_m (i64.wrap ((i64.wrap ((bL (i64.wrap (a_a+a_b)))+a_m))-z6)) a_cmp).bind λc_37=>bif a_a<z6 then bif z6<(bL (i64.wrap (a_a+a_b)))then(rec n c_37 a_a z6 (bL (i64.wrap (a_a+a_b))) a_cmp).bind λc_40=>bif (bL (i64.wrap (a_a+a_b)))<(i64.wrap ((i64.wrap ((bL (i64.wrap (a_a+a_b)))+a_m))-z6))then bif (i64.wrap ((i64.wrap ((bL (i64.wrap (a_a+a_b)))+a_m))-z6))<a_b then(rec n c_40 (bL (i64.wrap (a_a+a_b))) (i64.wrap ((i64.wrap ((bL (i64.wrap (a_a+a_b)))+a_m))-z6)) a_b a_cmp).bind λc_43=>some c_43 else
 some c_40 else
 some c_40 else
 bif (bL (i64.wrap (a_a+a_b)))<(i64.wrap ((i64.wrap ((bL (i64.wrap (a_a+a_b)))+a_m))-z6))then bif (i64.wrap ((i64.wrap ((bL (i64.wrap (a_a+a_b)))+a_m))-z6))<a_b then(rec n c_37 (bL (i64.wrap (a_a+a_b))) (i64.wrap ((i64.wrap ((bL (i64.wrap (a_a+a_b)))+a_m))-z6)) a_b a_cmp).bind λc_46=>some c_46 else
 some c_37 else
 some c_37 else
 bif (bL (i64.wrap (a_a+a_b)))<(i64.wrap ((i64.wrap ((bL (i64.wrap (a_a+a_b)))+a_m))-z6))then bif (i64.wrap ((i64.wrap ((bL (i64.wrap (a_a+a_b)))+a_m))-z6))<a_b then(rec n c_37 (bL (i64.wrap (a_a+a_b))) (i64.wrap ((i64.wrap ((bL (i64.wrap (a_a+a_b)))+a_m))-z6)) a_b a_cmp).bind λc_49=>some c_49 else
 some c_37 else
 some c_37 else
 bif a_a<z6 then bif z6<(bL (i64.wrap (a_a+a_b)))then(rec n zd a_a z6 (bL (i64.wrap (a_a+a_b))) a_cmp).bind λc_52=>bif (bL (i64.wrap (a_a+a_b)))<(i64.wrap ((i64.wrap ((bL (i64.wrap (a_a+a_b)))+a_m))-z6))then bif (i64.wrap ((i64.wrap ((bL (i64.wrap (a_a+a_b)))+a_m))-z6))<a_b then(rec n c_52 (bL (i64.wrap (a_a+a_b))) (i64.wrap ((i64.wrap ((bL (i64.wrap (a_a+a_b)))+a_m))-z6)) a_b a_cmp).bind λc_55=>some c_55 else
 some c_52 else
 some c_52 else
 bif (bL (i64.wrap (a_a+a_b)))<(i64.wrap ((i64.wrap ((bL (i64.wrap (a_a+a_b)))+a_m))-z6))then bif (i64.wrap ((i64.wrap ((bL (i64.wrap (a_a+a_b)))+a_m))-z6))<a_b then(rec n zd (bL (i64.wrap (a_a+a_b))) (i64.wrap ((i64.wrap ((bL (i64.wrap (a_a+a_b)))+a_m))-z6)) a_b a_cmp).bind λc_58=>some c_58 else
 some zd else
 some zd else
 bif (bL (i64.wrap (a_a+a_b)))<(i64.wrap ((i64.wrap ((bL (i64.wrap (a_a+a_b)))+a_m))-z6))then bif (i64.wrap ((i64.wrap ((bL (i64.wrap (a_a+a_b)))+a_m))-z6))<a_b then(rec n zd (bL (i64.wrap (a_a+a_b))) (i64.wrap ((i64.wrap ((bL (i64.wrap (a_a+a_b)))+a_m))-z6)) a_b a_cmp).bind λc_61=>some c_61 else
 some zd else
 some zd else
 bif a_a<z6 then bif z6<(bL (i64.wrap (a_a+a_b)))then(rec n zd a_a z6 (bL (i64.wrap (a_a+a_b))) a_cmp).bind λc_64=>bif (bL (i64.wrap (a_a+a_b)))<(i64.wrap ((i64.wrap ((bL (i64.wrap (a_a+a_b)))+a_m))-z6))then bif (i64.wrap ((i64.wrap ((bL (i64.wrap (a_a+a_b)))+a_m))-z6))<a_b then(rec n c_64 (bL (i64.wrap (a_a+a_b))) (i64.wrap ((i64.wrap ((bL (i64.wrap (a_a+a_b)))+a_m))-z6)) a_b a_cmp).bind λc_67=>some c_67 else
 some c_64 else
 some c_64 else
 bif (bL (i64.wrap (a_a+a_b)))<(i64.wrap ((i64.wrap ((bL (i64.wrap (a_a+a_b)))+a_m))-z6))then bif (i64.wrap ((i64.wrap ((bL (i64.wrap (a_a+a_b)))+a_m))-z6))<a_b then(rec n zd (bL (i64.wrap (a_a+a_b))) (i64.wrap ((i64.wrap ((bL (i64.wrap (a_a+a_b)))+a_m))-z6)) a_b a_cmp).bind λc_70=>some c_70 else
 some zd else
 some zd else
 bif (bL (i64.wrap (a_a+a_b)))<(i64.wrap ((i64.wrap ((bL (i64.wrap (a_a+a_b)))+a_m))-z6))then bif (i64.wrap ((i64.wrap ((bL (i64.wrap (a_a+a_b)))+a_m))-z6))<a_b then(rec n zd (bL (i64.wrap (a_a+a_b))) (i64.wrap ((i64.wrap ((bL (i64.wrap (a_a+a_b)))+a_m))-z6)) a_b a_cmp).bind λc_73=>some c_73 else
 some zd else
 some zd
 |.inr q=>some q
def uE {α:Type}(zd:List α)(a_a:Int)(a_m:Int)(a_b:Int)(a_cmp:α->α->Option (Int))(n:Nat):(Int×Int)->Option (Step (Int×Int) (List α)):=λs=>match s with
 |(z7,r_75)=>bif z7<r_75 then bif 0<=(i64.wrap ((i64.wrap ((i64.wrap ((bL (i64.wrap (a_a+a_b)))+a_m))-(1:Int)))-(bL (i64.wrap (z7+r_75)))))then(bif (i64.wrap ((i64.wrap ((i64.wrap ((bL (i64.wrap (a_a+a_b)))+a_m))-(1:Int)))-(bL (i64.wrap (z7+r_75)))))<((n:Nat):Int)then((al zd (i64.wrap ((i64.wrap ((i64.wrap ((bL (i64.wrap (a_a+a_b)))+a_m))-(1:Int)))-(bL (i64.wrap (z7+r_75)))))).bind λx_77=>bif 0<=(bL (i64.wrap (z7+r_75)))then(bif (bL (i64.wrap (z7+r_75)))<((n:Nat):Int)then((al zd (bL (i64.wrap (z7+r_75)))).bind λx_78=>(a_cmp x_77 x_78).bind λr_79=>bif (!(decide (r_79<(0:Int))))then some (.next ((i64.wrap ((bL (i64.wrap (z7+r_75)))+(1:Int))),r_75))else
 some (.next (z7,(bL (i64.wrap (z7+r_75))))))else none)else none)else none)else none else
 some (.exit (z7,r_75))
def pv {α:Type}(zd:List α)(a_a:Int)(a_m:Int)(a_b:Int)(a_cmp:α->α->Option (Int))(n:Nat)(rec:Nat->List α->Int->Int->Int->(α->α->Option Int)->Option (List α)):Sum (Int×Int) (List α)->Option ((List α))
 |.inl (z7,r_75)=>bif z7<a_m then bif a_m<(i64.wrap ((i64.wrap ((bL (i64.wrap (a_a+a_b)))+a_m))-z7))then(lK n zd z7 a_m (i64.wrap ((i64.wrap ((bL (i64.wrap (a_a+a_b)))+a_m))-z7)) a_cmp).bind λc_83=>bif a_a<z7 then bif z7<(bL (i64.wrap (a_a+a_b)))then(rec n c_83 a_a z7 (bL (i64.wrap (a_a+a_b))) a_cmp).bind λc_86=>bif (bL (i64.wrap (a_a+a_b)))<(i64.wrap ((i64.wrap ((bL (i64.wrap (a_a+a_b)))+a_m))-z7))then bif (i64.wrap ((i64.wrap ((bL (i64.wrap (a_a+a_b)))+a_m))-z7))<a_b then(rec n c_86 (bL (i64.wrap (a_a+a_b))) (i64.wrap ((i64.wrap ((bL (i64.wrap (a_a+a_b)))+a_m))-z7)) a_b a_cmp).bind λc_89=>some c_89 else
 some c_86 else
 some c_86 else
 bif (bL (i64.wrap (a_a+a_b)))<(i64.wrap ((i64.wrap ((bL (i64.wrap (a_a+a_b)))+a_m))-z7))then bif (i64.wrap ((i64.wrap ((bL (i64.wrap (a_a+a_b)))+a_m))-z7))<a_b then(rec n c_83 (bL (i64.wrap (a_a+a_b))) (i64.wrap ((i64.wrap ((bL (i64.wrap (a_a+a_b)))+a_m))-z7)) a_b a_cmp).bind λc_92=>some c_92 else
 some c_83 else
 some c_83 else
 bif (bL (i64.wrap (a_a+a_b)))<(i64.wrap ((i64.wrap ((bL (i64.wrap (a_a+a_b)))+a_m))-z7))then bif (i64.wrap ((i64.wrap ((bL (i64.wrap (a_a+a_b)))+a_m))-z7))<a_b then(rec n c_83 (bL (i64.wrap (a_a+a_b))) (i64.wrap ((i64.wrap ((bL (i64.wrap (a_a+a_b)))+a_m))-z7)) a_b a_cmp).bind λc_95=>some c_95 else
 some c_83 else
 some c_83 else
 bif a_a<z7 then bif z7<(bL (i64.wrap (a_a+a_b)))then(rec n zd a_a z7 (bL (i64.wrap (a_a+a_b))) a_cmp).bind λc_98=>bif (bL (i64.wrap (a_a+a_b)))<(i64.wrap ((i64.wrap ((bL (i64.wrap (a_a+a_b)))+a_m))-z7))then bif (i64.wrap ((i64.wrap ((bL (i64.wrap (a_a+a_b)))+a_m))-z7))<a_b then(rec n c_98 (bL (i64.wrap (a_a+a_b))) (i64.wrap ((i64.wrap ((bL (i64.wrap (a_a+a_b)))+a_m))-z7)) a_b a_cmp).bind λc_101=>some c_101 else
 some c_98 else
 some c_98 else
 bif (bL (i64.wrap (a_a+a_b)))<(i64.wrap ((i64.wrap ((bL (i64.wrap (a_a+a_b)))+a_m))-z7))then bif (i64.wrap ((i64.wrap ((bL (i64.wrap (a_a+a_b)))+a_m))-z7))<a_b then(rec n zd (bL (i64.wrap (a_a+a_b))) (i64.wrap ((i64.wrap ((bL (i64.wrap (a_a+a_b)))+a_m))-z7)) a_b a_cmp).bind λc_104=>some c_104 else
 some zd else
 some zd else
 bif (bL (i64.wrap (a_a+a_b)))<(i64.wrap ((i64.wrap ((bL (i64.wrap (a_a+a_b)))+a_m))-z7))then bif (i64.wrap ((i64.wrap ((bL (i64.wrap (a_a+a_b)))+a_m))-z7))<a_b then(rec n zd (bL (i64.wrap (a_a+a_b))) (i64.wrap ((i64.wrap ((bL (i64.wrap (a_a+a_b)))+a_m))-z7)) a_b a_cmp).bind λc_107=>some c_107 else
 some zd else
 some zd else
 bif a_a<z7 then bif z7<(bL (i64.wrap (a_a+a_b)))then(rec n zd a_a z7 (bL (i64.wrap (a_a+a_b))) a_cmp).bind λc_110=>bif (bL (i64.wrap (a_a+a_b)))<(i64.wrap ((i64.wrap ((bL (i64.wrap (a_a+a_b)))+a_m))-z7))then bif (i64.wrap ((i64.wrap ((bL (i64.wrap (a_a+a_b)))+a_m))-z7))<a_b then(rec n c_110 (bL (i64.wrap (a_a+a_b))) (i64.wrap ((i64.wrap ((bL (i64.wrap (a_a+a_b)))+a_m))-z7)) a_b a_cmp).bind λc_113=>some c_113 else
 some c_110 else
 some c_110 else
 bif (bL (i64.wrap (a_a+a_b)))<(i64.wrap ((i64.wrap ((bL (i64.wrap (a_a+a_b)))+a_m))-z7))then bif (i64.wrap ((i64.wrap ((bL (i64.wrap (a_a+a_b)))+a_m))-z7))<a_b then(rec n zd (bL (i64.wrap (a_a+a_b))) (i64.wrap ((i64.wrap ((bL (i64.wrap (a_a+a_b)))+a_m))-z7)) a_b a_cmp).bind λc_116=>some c_116 else
 some zd else
 some zd else
 bif (bL (i64.wrap (a_a+a_b)))<(i64.wrap ((i64.wrap ((bL (i64.wrap (a_a+a_b)))+a_m))-z7))then bif (i64.wrap ((i64.wrap ((bL (i64.wrap (a_a+a_b)))+a_m))-z7))<a_b then(rec n zd (bL (i64.wrap (a_a+a_b))) (i64.wrap ((i64.wrap ((bL (i64.wrap (a_a+a_b)))+a_m))-z7)) a_b a_cmp).bind λc_119=>some c_119 else
 some zd else
 some zd
 |.inr q=>some q
def oV {α:Type}(rec:Nat->List α->Int->Int->Int->(α->α->Option Int)->Option (List α))(n:Nat)(zd:(List α))(a_a:Int)(a_m:Int)(a_b:Int)(a_cmp:α->α->Option (Int)):Option (List α):=bif (i64.wrap (a_m-a_a))=(1:Int)then(af (mV zd a_a a_cmp n) fuel (a_m,a_b)).bind (qA zd a_a n)else
 bif (i64.wrap (a_b-a_m))=(1:Int)then(af (nj zd a_m a_cmp n) fuel (a_a,a_m)).bind (qO zd a_m n)else
 bif (bL (i64.wrap (a_a+a_b)))<a_m then(af (jv zd a_a a_m a_b a_cmp n) fuel ((i64.wrap ((i64.wrap ((bL (i64.wrap (a_a+a_b)))+a_m))-a_b)),(bL (i64.wrap (a_a+a_b))))).bind (jn zd a_a a_m a_b a_cmp n rec)else
 (af (uE zd a_a a_m a_b a_cmp n) fuel (a_a,a_m)).bind (pv zd a_a a_m a_b a_cmp n rec)
def yu {α:Type}:Nat->Nat->List α->Int->Int->Int->(α->α->Option Int)->Option (List α)
 |0,_,_,_,_,_,_=>none
 |q+1,n,X,a,m,b,cmp=>oV (yu q) n X a m b cmp
def gl {α:Type}(a_n:Int)(a_cmp:α->α->Option (Int))(n:Nat)(blockSize_8:Int):((List α)×Int×Int)->Option (Step ((List α)×Int×Int) (List α)):=λs=>match s with
 |(c_10,a_11,b_12)=>bif b_12<=a_n then(yu fuel n c_10 a_11 (i64.wrap (a_11+blockSize_8)) b_12 a_cmp).bind λc_14=>some (.next (c_14,b_12,(i64.wrap (b_12+(i64.wrap ((2:Int)*blockSize_8))))))else
 some (.exit (c_10,a_11,b_12))
def oq {α:Type}(a_n:Int)(a_cmp:α->α->Option (Int))(n:Nat)(blockSize_8:Int):Sum ((List α)×Int×Int) (List α)->Option (Step ((List α)×Int) (List α))
 |.inl (c_10,a_11,b_12)=>bif (i64.wrap (a_11+blockSize_8))<a_n then(yu fuel n c_10 a_11 (i64.wrap (a_11+blockSize_8)) a_n a_cmp).bind λc_16=>some (.next (c_16,(i64.wrap (blockSize_8*(2:Int)))))else
 some (.next (c_10,(i64.wrap (blockSize_8*(2:Int)))))
 |.inr q=>some (.ret q)
def gD {α:Type}(a_n:Int)(a_cmp:α->α->Option (Int))(n:Nat):((List α)×Int)->Option (Step ((List α)×Int) (List α)):=λs=>match s with
 |(c_7,blockSize_8)=>bif blockSize_8<a_n then(af (gl a_n a_cmp n blockSize_8) fuel (c_7,(0:Int),(i64.wrap ((2:Int)*blockSize_8)))).bind (oq a_n a_cmp n blockSize_8)else
 some (.exit (c_7,blockSize_8))
def tL {α:Type}:Sum ((List α)×Int) (List α)->Option ((List α))
 |.inl (c_7,blockSize_8)=>some c_7
 |.inr q=>some q
def gf {α:Type}(a_n:Int)(a_cmp:α->α->Option (Int))(n:Nat):((List α)×Int×Int)->Option (Step ((List α)×Int×Int) (List α)):=λs=>match s with
 |(c_1,a_2,b_3)=>bif b_3<=a_n then(m3 n c_1 a_2 b_3 a_cmp).bind λc_5=>some (.next (c_5,b_3,(i64.wrap (b_3+(20:Int)))))else
 some (.exit (c_1,a_2,b_3))
def n7 {α:Type}(a_n:Int)(a_cmp:α->α->Option (Int))(n:Nat):Sum ((List α)×Int×Int) (List α)->Option ((List α))
 |.inl (c_1,a_2,b_3)=>(m3 n c_1 a_2 a_n a_cmp).bind λc_6=>(af (gD a_n a_cmp n) fuel (c_6,(20:Int))).bind (tL)
 |.inr q=>some q
def vo {α:Type}(n:Nat)(zd:(List α))(a_n:Int)(a_cmp:α->α->Option (Int)):Option (List α):=(af (gf a_n a_cmp n) fuel (zd,(0:Int),(20:Int))).bind (n7 a_n a_cmp n)
def uq {α:Type}(n:Nat)(a_x:(List α))(a_cmp:α->α->Option (Int)):Option (List α):=(vo n a_x ((n:Nat):Int) a_cmp).bind λc_1=>some c_1
section
variable {α:Type} {lt:α->α->Bool} {S:α->Prop}
structure tV (lt:α->α->Bool)(S:α->Prop):Prop where
 irr:∀ x,S x->lt x x=false
 tr:∀ x y z,S x->S y->S z->lt x y=true->lt y z=true->lt x z=true
 tot:∀ x y,S x->S y->lt x y=false->lt y x=false->x=y
theorem tV.mono {S':α->Prop}(h:tV lt S)(k:∀ x,S' x->S x):tV lt S' :=
 ⟨λx hx=>h.irr x (k x hx),λx y z hx hy hz=>h.tr x y z (k x hx) (k y hy) (k z hz),λx y hx hy=>h.tot x y (k x hx) (k y hy)⟩
def dm (lt:α->α->Bool)(l:List α):Prop:=l.Pairwise λa b=>lt b a=false
theorem tV.le_tr (h:tV lt S){x y z:α}(sx:S x)(sy:S y)(sz:S z)(h1:lt y x=false)(h2:lt z y=false):lt z x=false:=by
 cases h3:lt z x with
 |false=>rfl
 |true =>
  cases h4:lt x y with
  |true=>rw[h.tr z x y sz sx sy h3 h4]at h2;cases h2
  |false=>have:=h.tot x y sx sy h4 h1;subst this;rw[h3]at h2;cases h2
theorem tV.le_of (h:tV lt S){x y:α}(sx:S x)(sy:S y)(h1:lt x y=true):lt y x=false:=by
 cases h2:lt y x with
 |false=>rfl
 |true=>have:=h.tr x y x sx sy sx h1 h2;rw[h.irr x sx]at this;cases this
theorem HC (h:tV lt S){L:List α}{x y:α}(hS:∀ z∈L++[x],S z)(ha:dm lt (L++[x]))(hy:y∈L++[x]):lt x y=false:=by
 obtain hy|hy:=aih.1 hy
 .exact(List.pairwise_append.1 ha).2.2 y hy x m5
 .simp at hy;subst hy;exact h.irr y (hS y m5)
theorem ID (h:tV lt S){L:List α}{x y:α}(hS:∀ z∈x::L,S z)(ha:dm lt (x::L))(hy:y∈x::L):lt y x=false:=by
 obtain rfl|hy:=ah8.1 hy
 .exact h.irr y (hS y m5)
 .exact(aiH.1 ha).1 y hy
theorem K9 (h:tV lt S){A B:List α}(hA:∀ z∈A,S z)(hB:∀ z∈B,S z)(a:dm lt A)(b:dm lt B)(hg:A=[]\/B=[] \/ ∃ A' x y B',A=A'++[x]/\B=y::B'/\lt y x=false):∀ x∈A,∀ y∈B,lt y x=false:=by
 intro u hu v hv;obtain rfl|rfl|⟨A',x,y,B',rfl,rfl,hxy⟩:=hg
 .simp at hu
 .simp at hv
 .have s1:=hA u hu;have s2:=hA x m5;have s3:=hB y m5;have s4:=hB v hv
  exact h.le_tr s1 s2 s4 (HC h hA a hu) (h.le_tr s2 s3 s4 hxy (ID h hB b hv))
theorem xW (h:tV lt S){L1 L2:List α}{x:α}(sx:S x)(hS:∀ z∈L1++L2,S z)(ha:dm lt (L1++L2))(h1:L1=[] \/ ∃ L y,L1=L++[y]/\lt x y=false)(h2:L2=[] \/ ∃ z L,L2=z::L/\lt z x=false):dm lt (L1++x::L2):=by
 have hp:=List.pairwise_append.1 ha;refine List.pairwise_append.2 ⟨hp.1,aiH.2 ⟨λv hv=>?_,hp.2.1⟩,λu hu v hv=>?_⟩
 .obtain rfl|⟨z,L,rfl,hz⟩:=h2
  .simp at hv
  .exact h.le_tr sx (hS z m5) (hS v (by simp at hv ⊢;exact .inr hv)) hz (ID h (λw hw=>hS w (by simp at hw ⊢;exact .inr hw)) hp.2.1 hv)
 .obtain rfl|hv:=ah8.1 hv
  .obtain rfl|⟨L,y,rfl,hy⟩:=h1
   .simp at hu
   .exact h.le_tr (hS u (by simp at hu ⊢;rcases hu with hu|hu;exact .inl hu;exact .inr (.inl hu))) (hS y m5) sx (HC h (λw hw=>hS w (List.mem_append_left _ hw)) hp.1 hu) hy
  .exact hp.2.2 u hu v hv
theorem JI (h:tV lt S){A1 A2 B1 B2 M1 M2:List α}(hS:∀ z∈(A1++A2)++(B1++B2),S z)(hA:dm lt (A1++A2))(hB:dm lt (B1++B2))(h1:A1=[]\/B2=[] \/ ∃ A' x y B',A1=A'++[x]/\B2=y::B'/\lt y x=false)(h2:B1=[]\/A2=[] \/ ∃ A' x y B',B1=A'++[x]/\A2=y::B'/\lt y x=false)
  (m1:dm lt M1) (m2:dm lt M2) (p1:M1.Perm (A1++B1)) (p2:M2.Perm (A2++B2)):dm lt (M1++M2):=by
 have pa:=List.pairwise_append.1 hA;have pb:=List.pairwise_append.1 hB;have g1:=K9 h (λz hz=>hS z (by simp[hz])) (λz hz=>hS z (by simp[hz])) pa.1 pb.2.1 h1;have g2:=K9 h (λz hz=>hS z (by simp[hz])) (λz hz=>hS z (by simp[hz])) pb.1 pa.2.1 h2;refine List.pairwise_append.2 ⟨m1,m2,λx hx y hy=>?_⟩;rcases aih.1 (p1.mem_iff.1 hx)with hx|hx<;>rcases aih.1 (p2.mem_iff.1 hy)with hy|hy
 .exact pa.2.2 x hx y hy
 .exact g1 x hx y hy
 .exact g2 x hx y hy
 .exact pb.2.2 x hx y hy
theorem Ie {A1 A2 B1 B2 M1 M2:List α}(p1:M1.Perm (A1++B1))(p2:M2.Perm (A2++B2)):(M1++M2).Perm ((A1++A2)++(B1++B2)):=by
 refine(p1.append p2).trans ?_;rw[aig,aig];refine List.Perm.append_left A1 ?_;rw[<- aig,<- aig];exact List.Perm.append_right B2 List.perm_append_comm
theorem Lt {β:Type}(f:α->β)(U V T:List α)(x y:α):(((U++x::(V++y::T)).map f).set U.length (f y)).set (U.length+1+V.length) (f x)=(U++y::(V++x::T)).map f:=by
 rw[ah4,ah2,List.set_append_right _ _ m5];simp only[ah3,Nat.sub_self,List.set_cons_zero];rw[List.set_append_right _ _ m8];simp only[ah3];rw[show U.length+1+V.length-U.length=V.length+1 by omega,List.set_cons_succ,ah4,List.set_append_right _ _ m5];simp
theorem get_at (U:List α)(x:α)(T:List α):(U++x::T)[U.length]?=some x:=by simp
theorem ya (U V T:List α)(x y:α):(U++x::(V++y::T))[U.length+1+V.length]?=some y:=by
 rw[ahY m0,show U.length+1+V.length-U.length=V.length+1 by omega,List.getElem?_cons_succ,ahY m0];simp
end
section
variable {α:Type}
theorem wrA (a b:Nat)(h:a+b<=4611686018427387904):i64.wrap ((a:Int)+(b:Int))=((a+b:Nat):Int):=by rw[aV m0];omega
theorem Nv (a b:Nat)(h:b<=a)(h2:a<=4611686018427387904):i64.wrap ((a:Int)-(b:Int))=((a-b:Nat):Int):=by rw[aV m0];omega
theorem Ec {i n:Nat}(h:i<n):decide ((i:Int)<((n:Nat):Int))=true:=ahV m0
theorem Ik (i:Nat):decide ((0:Int)<=(i:Int))=true:=ahV m0
theorem KZ (i:Nat):0+((i:Int)).toNat=i:=m0
theorem M_ {n:Nat}{c:List α}{a b k i:Nat}{x y:α}(hn:c.length=n)(hn2:n<=1000000000)(hk:i<k)(ha:c[a+i]?=some x)(hb:c[b+i]?=some y):dG (a:Int) (b:Int) (k:Int) n (c,(i:Int))=some (.next ((c.set (a+i) y).set (b+i) x,((i+1:Nat):Int))):=by
 have h1:=(ahR.1 ha).1;have h2:=(ahR.1 hb).1;unfold dG;dsimp only;rw[wrA a i m0,wrA b i m0,wrapN m0];simp only[Ec hk,Ik,Ec (show a+i<n by omega),Ec (show b+i<n by omega),ahT,gn_ ha,gn_ hb,ahQ,KZ,List.length_set,ahV (show a+i<c.length by omega),ahV (show b+i<c.length by omega)]
theorem OD {n:Nat}{c:List α}{a b:Int}{k i:Nat}(hk:¬ i<k):dG a b (k:Int) n (c,(i:Int))=some (.exit (c,(i:Int))):=by
 unfold dG;dsimp only;rw[ahU m0,ahS]
theorem EA {n:Nat}(hn2:n<=1000000000)(a b k:Nat):∀ (U W P V Q:List α) (N i:Nat),U.length=W.length->P.length=a+i->P.length+U.length+V.length=b+i->i+U.length=k->(P++(U++(V++(W++Q)))).length=n->U.length<N->af (dG (a:Int) (b:Int) (k:Int) n) N (P++(U++(V++(W++Q))),(i:Int))=some (.inl (P++(W++(V++(U++Q))),((k:Nat):Int)))
 |U,W,P,V,Q,0,i,_,_,_,_,_,h=>by omega
 |[],W,P,V,Q,N+1,i,hl,hp,hb,hi,hn,_=>by
  have hW:W=[]:=aiq.1 hl.symm;subst hW;rw[af,OD (by simp at hi;omega)];simp only[aik,Nat.add_zero]at hi;subst hi;rfl
 |u::U,[],P,V,Q,N+1,i,hl,_,_,_,_,_=>by simp at hl
 |u::U,w::W,P,V,Q,N+1,i,hl,hp,hb,hi,hn,hN=>by
  simp only[aib]at hl hb hi hN;have e:P++(u::U++(V++(w::W++Q)))=P++u::((U++V)++w::(W++Q)):=by simp
  rw[af,e,M_ (x:=u) (y:=w) (by rw[<- e];exact hn) hn2 m0 (by rw[<- hp];exact get_at _ _ _) (by have:=ya P (U++V) (W++Q) u w;rwa[show P.length+1+(U++V).length=b+i by simp;omega]at this)];have s2:=Lt (f:=λx:α=>x) P (U++V) (W++Q) u w;rw[List.map_id',List.map_id',show P.length+1+(U++V).length=b+i by simp;omega,hp]at s2;rw[s2];have e2:P++w::((U++V)++u::(W++Q))=(P++[w])++(U++((V++[u])++(W++Q))):=by simp
  show af _ N (P++w::((U++V)++u::(W++Q)),((i+1:Nat):Int))=_;rw[e2,EA hn2 a b k U W (P++[w]) (V++[u]) Q N (i+1) m0 m8 m8 m0 (by rw[<- hn];simp only[ahZ,aib,aik];omega) m0];simp
theorem mm {n:Nat}(hn2:n<=1000000000){P U V W Q:List α}(cmp:α->α->Option Int)(hl:U.length=W.length)(hn:(P++(U++(V++(W++Q)))).length=n):gw n (P++(U++(V++(W++Q)))) (P.length:Int) ((P.length+U.length+V.length:Nat):Int) (U.length:Int) cmp=some (P++(W++(V++(U++Q)))):=by
 unfold gw;have:=EA hn2 P.length (P.length+U.length+V.length) U.length U W P V Q fuel 0 hl m0 m0 m0 hn (by simp at hn;unfold fuel;omega);rw[show((0:Nat):Int)=0 from rfl]at this;rw[this];rfl
theorem qD {n:Nat}(hn2:n<=1000000000)(cmp:α->α->Option Int)(m:Nat):∀ (N:Nat) (P A B Q:List α),P.length+A.length=m->0<A.length->0<B.length->(P++(A++(B++Q))).length=n->A.length+B.length<N ->∃ P' A' B' Q',af (en (m:Int) cmp n) N (P++(A++(B++Q)),(A.length:Int),(B.length:Int))=some (.inl (P'++(A'++(B'++Q')),(A'.length:Int),(B'.length:Int)))/\A'.length=B'.length/\P'.length+A'.length=m/\P'++(B'++(A'++Q'))=P++(B++(A++Q))/\(P'++(A'++(B'++Q'))).length=n
 |0,P,A,B,Q,_,_,_,_,h=>by omega
 |N+1,P,A,B,Q,hm,hA,hB,hn,hN=>by
  have hn':=hn;simp only[ahZ]at hn';rw[af];by_cases h0:A.length=B.length
  .have hb:en (m:Int) cmp n (P++(A++(B++Q)),(A.length:Int),(B.length:Int))=some (.exit (P++(A++(B++Q)),(A.length:Int),(B.length:Int))):=by
    unfold en;dsimp only;rw[ahU m0,ahS]
   rw[hb];exact⟨P,A,B,Q,rfl,h0,hm,rfl,hn⟩
  .by_cases h1:B.length<A.length
   .have hs:=mm hn2 (P:=P) (U:=A.take B.length) (V:=A.drop B.length) (W:=B) (Q:=Q) cmp (by rw[aiD];omega) (by rw[<- hn];simp;omega)
    have eA:A.take B.length++(A.drop B.length++(B++Q))=A++(B++Q):=by rw[<- aig,aiz]
    rw[eA]at hs;have hb:en (m:Int) cmp n (P++(A++(B++Q)),(A.length:Int),(B.length:Int))=some (.next (P++(B++(A.drop B.length++(A.take B.length++Q))),((A.length-B.length:Nat):Int),(B.length:Int))):=by
     unfold en;dsimp only;rw[ahV (show(A.length:Int)≠(B.length:Int)by omega),ahT,ahV (show(B.length:Int)<(A.length:Int)by omega),ahT,Nv m A.length m0 m0,Nv A.length B.length m0 m0,show m-A.length=P.length by omega];rw[aiD,List.length_drop,Nat.min_eq_left m0,show P.length+B.length+(A.length-B.length)=m by omega]at hs;rw[hs];rfl
    rw[hb];obtain⟨P',A',B',Q',k1,k2,k3,k4,k5⟩:=qD hn2 cmp m N (P++B) (A.drop B.length) (A.take B.length) Q m8 m8 m8 (by rw[<- hn];simp;omega) m8;refine⟨P',A',B',Q',?_,k2,k3,?_,k5⟩
    .rw[<- k1]
     simp only[List.length_drop,aiD,Nat.min_eq_left (Nat.le_of_lt h1),aig]
    .rw[k4]
     simp only[aig];rw[<- aig (A.take B.length),aiz]
   .have hs:=mm hn2 (P:=P) (U:=A) (V:=B.take (B.length-A.length)) (W:=B.drop (B.length-A.length)) (Q:=Q) cmp (by rw[List.length_drop];omega) (by rw[<- hn];simp;omega)
    have eB:B.take (B.length-A.length)++(B.drop (B.length-A.length)++Q)=B++Q:=by rw[<- aig,aiz]
    rw[eB]at hs;have hb:en (m:Int) cmp n (P++(A++(B++Q)),(A.length:Int),(B.length:Int))=some (.next (P++(B.drop (B.length-A.length)++(B.take (B.length-A.length)++(A++Q))),(A.length:Int),((B.length-A.length:Nat):Int))):=by
     unfold en;dsimp only;rw[ahV (show(A.length:Int)≠(B.length:Int)by omega),ahT,ahU (show ¬ (B.length:Int)<(A.length:Int)by omega),ahS,Nv m A.length m0 m0,wrA m B.length m0,Nv (m+B.length) A.length m0 m0,Nv B.length A.length m0 m0,show m-A.length=P.length by omega];rw[aiD,Nat.min_eq_left m0,show P.length+A.length+(B.length-A.length)=m+B.length-A.length by omega]at hs;rw[hs];rfl
    rw[hb];obtain⟨P',A',B',Q',k1,k2,k3,k4,k5⟩:=qD hn2 cmp m N P (B.drop (B.length-A.length)) (B.take (B.length-A.length)) (A++Q) m8 m8 m8 (by rw[<- hn];simp;omega) m8;refine⟨P',A',B',Q',?_,k2,k3,?_,k5⟩
    .rw[<- k1]
     simp only[List.length_drop,aiD,Nat.min_eq_left (Nat.sub_le _ _),show B.length-(B.length-A.length)=A.length by omega]
    .rw[k4]
     simp only[<- aig];rw[aig P,aiz]
theorem Ks {n:Nat}(hn2:n<=1000000000){P A B Q:List α}(cmp:α->α->Option Int)(hA:0<A.length)(hB:0<B.length)(hn:(P++(A++(B++Q))).length=n):lK n (P++(A++(B++Q))) (P.length:Int) ((P.length+A.length:Nat):Int) ((P.length+A.length+B.length:Nat):Int) cmp=some (P++(B++(A++Q))):=by
 have hn':=hn;simp only[ahZ]at hn';unfold lK;rw[Nv (P.length+A.length) P.length m0 m0,Nv (P.length+A.length+B.length) (P.length+A.length) m0 m0,show P.length+A.length-P.length=A.length by omega,show P.length+A.length+B.length-(P.length+A.length)=B.length by omega];obtain⟨P',A',B',Q',k1,k2,k3,k4,k5⟩:=qD hn2 cmp (P.length+A.length) fuel P A B Q rfl hA hB hn (by unfold fuel;omega);rw[k1,ahQ];unfold nP;dsimp only;have k5':=k5;simp only[ahZ]at k5';have hs:=mm hn2 (P:=P') (U:=A') (V:=[]) (W:=B') (Q:=Q') cmp k2 k5;rw[ahW,ahW,aik,Nat.add_zero,k3]at hs;rw[Nv (P.length+A.length) A'.length m0 m0,show P.length+A.length-A'.length=P'.length by omega,hs,k4];rfl
end
section
variable {α:Type} {lt:α->α->Bool} {S:α->Prop} {cmp:α->α->Option Int}
theorem u64_in {x:Int}(h0:0<=x)(h:x<=4611686018427387904):IntKind.u64.wrap x=x:=by
 simp only[IntKind.wrap,IntKind.bits,IntKind.signed];simp;omega
theorem wH {i j:Nat}(h:i+j<=4611686018427387904):bL (i64.wrap ((i:Int)+(j:Int)))=(((i+j)/2:Nat):Int):=by
 rw[wrA i j h];show i64.wrap (Int.fdiv (IntKind.u64.wrap ((i+j:Nat):Int)) 2)=_;rw[u64_in m0 m0,Int.fdiv_eq_ediv_of_nonneg _ m0,aV m0];omega
def kM (cmp:α->α->Option Int)(lt:α->α->Bool)(S:α->Prop):Prop :=∀ x y,S x->S y ->∃ r,cmp x y=some r/\decide (r<0)=lt x y
theorem wr1 (a:Nat)(h:1<=a)(h2:a<=4611686018427387904):i64.wrap ((a:Int)-1)=((a-1:Nat):Int):=by rw[aV m0];omega
theorem Db (h:tV lt S)(hc:kM cmp lt S){n:Nat}(hn2:n<=1000000000)(P Q:List α)(x:α)(sx:S x):∀ (k:Nat) (L1 L2:List α) (N:Nat),L1.length=k->(∀ z∈L1++L2,S z)->dm lt (L1++L2)->(L2=[] \/ ∃ z L,L2=z::L/\lt z x=false)->(P++((L1++x::L2)++Q)).length=n->k<N ->
  ∃ M j,af (dh (P.length:Int) cmp n) N (P++((L1++x::L2)++Q),((P.length+k:Nat):Int))=some (.inl (P++(M++Q),j))/\dm lt M/\M.Perm (x::(L1++L2))
 |k,L1,L2,0,_,_,_,_,_,hN=>by omega
 |0,L1,L2,N+1,hk,hS,ha,h2,hn,hN=>by
  have:L1=[]:=aiq.1 hk;subst this;rw[af];have hb:dh (P.length:Int) cmp n (P++(([]++x::L2)++Q),((P.length+0:Nat):Int))=some (.exit (P++(([]++x::L2)++Q),((P.length+0:Nat):Int))):=by
   unfold dh;dsimp only;rw[ahU m0,ahS]
  rw[hb];refine⟨x::L2,_,rfl,?_,.refl _⟩;have:=xW h (L1:=[]) (L2:=L2) sx hS ha (.inl rfl) h2;exact this
 |k+1,L1,L2,N+1,hk,hS,ha,h2,hn,hN=>by
  obtain⟨L,y,rfl⟩:∃ L y,L1=L++[y]:=by
   obtain e|⟨L,y,e⟩:=List.eq_nil_or_concat L1
   .subst e;simp at hk
   .exact⟨L,y,by simpa using e⟩
  have hL:L.length=k:=by simp at hk;exact hk
  have hn':=hn;simp only[ahZ,aib,aik]at hn';have sy:S y:=hS y m5;have e1:P++((L++[y])++x::L2++Q)=(P++L)++y::([]++x::(L2++Q)):=by simp
  have g1:(P++((L++[y])++x::L2++Q))[P.length+k]?=some y:=by rw[e1,<- hL,<- ahZ];exact get_at _ _ _
  have g2:(P++((L++[y])++x::L2++Q))[P.length+(k+1)]?=some x:=by
   have:=ya (P++L) [] (L2++Q) y x;rw[<- e1]at this;rwa[show(P++L).length+1+([]:List α).length=P.length+(k+1)by simp;omega]at this
  obtain⟨r,hr,hr2⟩:=hc x y sx sy;rw[af]
  cases hxy:lt x y with
  |false =>
   have hb:dh (P.length:Int) cmp n (P++((L++[y])++x::L2++Q),((P.length+(k+1):Nat):Int))=some (.exit (P++((L++[y])++x::L2++Q),((P.length+(k+1):Nat):Int))):=by
    unfold dh;dsimp only;rw[wr1 _ m0 m0,show P.length+(k+1)-1=P.length+k by omega];simp only[ahV (show(P.length:Int)<((P.length+(k+1):Nat):Int)by omega),Ik,Ec (show P.length+(k+1)<n by omega),Ec (show P.length+k<n by omega),ahT,gn_ g1,gn_ g2,ahQ,hr,hr2,hxy,ahS]
   rw[hb];refine⟨(L++[y])++x::L2,_,rfl,xW h sx hS ha (.inr ⟨L,y,rfl,hxy⟩) h2,List.perm_middle⟩
  |true =>
   have hb:dh (P.length:Int) cmp n (P++((L++[y])++x::L2++Q),((P.length+(k+1):Nat):Int))=some (.next (P++((L++x::(y::L2))++Q),((P.length+k:Nat):Int))):=by
    unfold dh;dsimp only;rw[wr1 _ m0 m0,show P.length+(k+1)-1=P.length+k by omega];simp only[ahV (show(P.length:Int)<((P.length+(k+1):Nat):Int)by omega),Ik,Ec (show P.length+(k+1)<n by omega),Ec (show P.length+k<n by omega),ahT,gn_ g1,gn_ g2,ahQ,hr,hr2,hxy,KZ,List.length_set,ahV (show P.length+(k+1)<(P++((L++[y])++x::L2++Q)).length by omega),ahV (show P.length+k<(P++((L++[y])++x::L2++Q)).length by omega)];have s2:=Lt (f:=λz:α=>z) (P++L) [] (L2++Q) y x;rw[List.map_id',List.map_id',<- e1,show(P++L).length=P.length+k by simp;omega,aik,show P.length+k+1+0=P.length+(k+1)by omega]at s2;rw[List.set_comm _ _ m0,s2];simp
   rw[hb];obtain⟨M,j,k1,k2,k3⟩:=Db h hc hn2 P Q x sx k L (y::L2) N hL (λz hz=>hS z (by simp at hz ⊢;rcases hz with hz|hz|hz<;>simp[hz])) (by simpa using ha) (.inr ⟨y,L2,rfl,h.le_of sx sy hxy⟩) (by rw[<- hn];simp) m0;exact⟨M,j,k1,k2,k3.trans m5⟩
theorem DY (h:tV lt S)(hc:kM cmp lt S){n:Nat}(hn2:n<=1000000000)(P Q:List α)(b:Nat):∀ (R M:List α) (N:Nat),P.length+M.length+R.length=b->(∀ z∈M++R,S z)->dm lt M->(P++(M++(R++Q))).length=n->R.length<N ->
  ∃ M',af (dl (P.length:Int) (b:Int) cmp n) N (P++(M++(R++Q)),((P.length+M.length:Nat):Int))=some (.inl (P++(M'++Q),(b:Int)))/\dm lt M'/\M'.Perm (M++R)
 |R,M,0,_,_,_,_,hN=>by omega
 |[],M,N+1,hb,hS,ha,hn,hN=>by
  simp only[aik,Nat.add_zero]at hb;subst hb;rw[af];have hB:dl (P.length:Int) ((P.length+M.length:Nat):Int) cmp n (P++(M++([]++Q)),((P.length+M.length:Nat):Int))=some (.exit (P++(M++([]++Q)),((P.length+M.length:Nat):Int))):=by
   unfold dl;dsimp only;rw[ahU m0,ahS]
  rw[hB];exact⟨M,rfl,ha,m5⟩
 |x::R,M,N+1,hb,hS,ha,hn,hN=>by
  have hn':=hn;simp only[ahZ,aib]at hn' hb;obtain⟨M1,j,k1,k2,k3⟩:=Db h hc hn2 P (R++Q) x (hS x m5) M.length M [] fuel rfl (λz hz=>hS z (by simp at hz ⊢;exact .inl hz)) (by simpa using ha) (.inl rfl) (by rw[<- hn];simp) (by unfold fuel;omega);have hl:M1.length=M.length+1:=by rw[k3.length_eq];simp
  have e1:P++((M++x::[])++(R++Q))=P++(M++(x::R++Q)):=by simp
  rw[e1]at k1;rw[af];have hB:dl (P.length:Int) (b:Int) cmp n (P++(M++(x::R++Q)),((P.length+M.length:Nat):Int))=some (.next (P++(M1++(R++Q)),((P.length+M1.length:Nat):Int))):=by
   unfold dl;dsimp only;rw[ahV (show((P.length+M.length:Nat):Int)<(b:Int)by omega),ahT,k1,ahQ];unfold gH;dsimp only;rw[wrapN m0,hl,Nat.add_assoc]
  rw[hB];obtain⟨M',q1,q2,q3⟩:=DY h hc hn2 P Q b R M1 N m0 (λz hz=>by
   obtain hz|hz:=aih.1 hz
   .have:=k3.mem_iff.1 hz;simp at this;obtain rfl|hz:=this
    .exact hS z m5
    .exact hS z (by simp[hz])
   .exact hS z (by simp[hz])) k2 (by rw[<- hn];simp[hl];omega) (by simp at hN;omega)
  refine⟨M',q1,q2,q3.trans ?_⟩;refine(k3.append_right R).trans ?_;simp only[aio,List.cons_append];exact(List.perm_middle (a:=x) (l₁:=M) (l₂:=R)).symm
theorem xH (h:tV lt S)(hc:kM cmp lt S){n:Nat}(hn2:n<=1000000000){P M Q:List α}(hS:∀ z∈M,S z)(hn:(P++(M++Q)).length=n):∃ M',m3 n (P++(M++Q)) (P.length:Int) ((P.length+M.length:Nat):Int) cmp=some (P++(M'++Q))/\dm lt M'/\M'.Perm M:=by
 have hn':=hn;simp only[ahZ]at hn';unfold m3;rw[show i64.wrap ((P.length:Int)+1)=((P.length+1:Nat):Int)from wrapN m0]
 match M,hS,hn,hn' with
 |[],hS,hn,hn' =>
  refine⟨[],?_,List.Pairwise.nil,.refl _⟩;have hf:fuel=(fuel-1)+1:=rfl;rw[hf,af];have hB:dl (P.length:Int) ((P.length+([]:List α).length:Nat):Int) cmp n (P++([]++Q),((P.length+1:Nat):Int))=some (.exit (P++([]++Q),((P.length+1:Nat):Int))):=by
   unfold dl;dsimp only;rw[ahU (by simp only[aik];omega),ahS]
  rw[hB];rfl
 |x::M,hS,hn,hn' =>
  simp only[aib]at hn';obtain⟨M',q1,q2,q3⟩:=DY h hc hn2 P Q (P.length+(x::M).length) M [x] fuel m8 (by simpa using hS) (by simp[dm]) (by rw[<- hn];simp) (by unfold fuel;omega);refine⟨M',?_,q2,by simpa using q3⟩;have e:P++([x]++(M++Q))=P++(x::M++Q):=by simp
  rw[e,show P.length+[x].length=P.length+1 from rfl]at q1;rw[q1];rfl
end
section
variable {α:Type} {lt:α->α->Bool} {S:α->Prop} {cmp:α->α->Option Int}
theorem vq {β:Type}{body:Int×Int->Option (Step (Int×Int) β)}(lo hi:Nat)(p:Nat->Bool)(hB:∀ i j:Nat,lo<=i->i<j->j<=hi->body ((i:Int),(j:Int))=some (.next (bif p ((i+j)/2)then((((i+j)/2+1:Nat):Int),(j:Int))else((i:Int),(((i+j)/2:Nat):Int)))))(hE:∀ i:Nat,body ((i:Int),(i:Int))=some (.exit ((i:Int),(i:Int)))) :
  ∀ (N i j:Nat),lo<=i->i<=j->j<=hi->j-i<N->(i=lo\/p (i-1)=true)->(j=hi\/p j=false) ->∃ s:Nat,af body N ((i:Int),(j:Int))=some (.inl ((s:Int),(s:Int)))/\lo<=s/\s<=hi/\(s=lo\/p (s-1)=true)/\(s=hi\/p s=false)
 |0,i,j,_,_,_,h,_,_=>by omega
 |N+1,i,j,h1,h2,h3,hN,hi1,hj1=>by
  rw[af];by_cases he:i=j
  .subst he
   rw[hE];exact⟨i,rfl,h1,h3,hi1,hj1⟩
  .rw[hB i j h1 m0 h3]
   cases hp:p ((i+j)/2)with
   |true =>
    rw[ahT];exact vq lo hi p hB hE N ((i+j)/2+1) j m0 m0 h3 m0 (.inr (by rw[Nat.add_sub_cancel];exact hp)) hj1
   |false =>
    rw[ahS];exact vq lo hi p hB hE N i ((i+j)/2) h1 m0 m0 m0 hi1 (.inr hp)
theorem aa_ {n:Nat}(hn2:n<=1000000000)(x:α)(Q:List α)(i:Nat):∀ (B P:List α) (N:Nat),P.length+B.length+1=i->(P++x::(B++Q)).length=n->B.length<N ->∃ k,af (la n (i:Int)) N (P++x::(B++Q),(P.length:Int))=some (.inl (P++(B++x::Q),k))
 |B,P,0,_,_,hN=>by omega
 |[],P,N+1,hi,hn,hN=>by
  simp only[aik,Nat.add_zero]at hi;have hn':=hn;simp only[ahZ,aib]at hn';subst hi;rw[af];have hb:la n ((P.length+1:Nat):Int) (P++x::([]++Q),(P.length:Int))=some (.exit (P++x::([]++Q),(P.length:Int))):=by
   unfold la;dsimp only;rw[wr1 _ m0 m0,ahU m0,ahS]
  rw[hb];exact⟨_,rfl⟩
 |y::B,P,N+1,hi,hn,hN=>by
  simp only[aib]at hi hN;have hn':=hn;simp only[ahZ,aib]at hn';have g1:(P++x::(y::B++Q))[P.length]?=some x:=get_at _ _ _;have g2:(P++x::(y::B++Q))[P.length+1]?=some y:=ya P [] (B++Q) x y;rw[af];have hb:la n (i:Int) (P++x::(y::B++Q),(P.length:Int))=some (.next ((P++[y])++x::(B++Q),(((P++[y]).length:Nat):Int))):=by
   unfold la;dsimp only;rw[wr1 _ m0 m0,wrapN m0];have s2:=Lt (f:=λz:α=>z) P [] (B++Q) x y;rw[List.map_id',List.map_id',aik,Nat.add_zero]at s2;have s3:((P++x::(y::B++Q)).set P.length y).set (P.length+1) x=P++y::x::(B++Q):=s2;simp only[ahV (show(P.length:Int)<((i-1:Nat):Int)by omega),Ik,Ec (show P.length+1<n by omega),Ec (show P.length<n by omega),ahT,gn_ g1,gn_ g2,ahQ,KZ,List.length_set,ahV (show P.length+1<(P++x::(y::B++Q)).length by rw[hn];omega),ahV (show P.length<(P++x::(y::B++Q)).length by rw[hn];omega),s3];simp
  rw[hb];obtain⟨k,hk⟩:=aa_ hn2 x Q i B (P++[y]) N m8 (by rw[<- hn];simp only[ahZ,aib,aik];omega) m0;exact⟨k,by show af _ N _=_;rw[hk];simp⟩
theorem abS {n:Nat}(hn2:n<=1000000000)(x:α)(P:List α):∀ (l:Nat) (A Q:List α) (N:Nat),A.length=l->(P++(A++x::Q)).length=n->l<N ->∃ k,af (kC n (P.length:Int)) N (P++(A++x::Q),((P.length+l:Nat):Int))=some (.inl (P++x::(A++Q),k))
 |l,A,Q,0,_,_,hN=>by omega
 |0,A,Q,N+1,hl,hn,hN=>by
  have:A=[]:=aiq.1 hl;subst this;rw[af];have hb:kC n (P.length:Int) (P++([]++x::Q),((P.length+0:Nat):Int))=some (.exit (P++([]++x::Q),((P.length+0:Nat):Int))):=by
   unfold kC;dsimp only;rw[ahU m0,ahS]
  rw[hb];exact⟨_,rfl⟩
 |l+1,A,Q,N+1,hl,hn,hN=>by
  obtain⟨L,y,rfl⟩:∃ L y,A=L++[y]:=by
   obtain e|⟨L,y,e⟩:=List.eq_nil_or_concat A
   .subst e;simp at hl
   .exact⟨L,y,by simpa using e⟩
  have hL:L.length=l:=by simp at hl;exact hl
  have hn':=hn;simp only[ahZ,aib,aik]at hn';have e1:P++((L++[y])++x::Q)=(P++L)++y::([]++x::Q):=by simp
  have g1:(P++((L++[y])++x::Q))[P.length+l]?=some y:=by rw[e1,<- hL,<- ahZ];exact get_at _ _ _
  have g2:(P++((L++[y])++x::Q))[P.length+(l+1)]?=some x:=by
   have:=ya (P++L) [] Q y x;rw[<- e1]at this;rwa[show(P++L).length+1+([]:List α).length=P.length+(l+1)by simp;omega]at this
  rw[af];have hb:kC n (P.length:Int) (P++((L++[y])++x::Q),((P.length+(l+1):Nat):Int))=some (.next (P++(L++x::(y::Q)),((P.length+l:Nat):Int))):=by
   unfold kC;dsimp only;rw[wr1 _ m0 m0,show P.length+(l+1)-1=P.length+l by omega];have s2:=Lt (f:=λz:α=>z) (P++L) [] Q y x;rw[List.map_id',List.map_id',<- e1,show(P++L).length=P.length+l by simp;omega,aik,show P.length+l+1+0=P.length+(l+1)by omega,List.set_comm _ _ m0]at s2;simp only[ahV (show(P.length:Int)<((P.length+(l+1):Nat):Int)by omega),Ik,Ec (show P.length+(l+1)<n by omega),Ec (show P.length+l<n by omega),ahT,gn_ g1,gn_ g2,ahQ,KZ,List.length_set,ahV (show P.length+(l+1)<(P++((L++[y])++x::Q)).length by rw[hn];omega),ahV (show P.length+l<(P++((L++[y])++x::Q)).length by rw[hn];omega),s2];simp
  rw[hb];obtain⟨k,hk⟩:=abS hn2 x P l L (y::Q) N hL (by rw[<- hn];simp) m0;exact⟨k,by show af _ N _=_;rw[hk];simp⟩
theorem pT {l:List α}{s:Nat}(h:s<=l.length):∃ a b,l=a++b/\a.length=s:=⟨l.take s,l.drop s,(aiz _ _).symm,by rw[aiD];omega⟩
theorem yg {A:List α}(h:0<A.length):∃ L y,A=L++[y]:=by
 obtain e|⟨L,y,e⟩:=List.eq_nil_or_concat A
 .subst e;simp at h
 .exact⟨L,y,by simpa using e⟩
theorem xZ {A:List α}(h:0<A.length):∃ y L,A=y::L:=match A,h with|y::L,_=>⟨y,L,rfl⟩
def p1F (lt:α->α->Bool)(D:List α)(x:α)(i:Nat):Bool:=match D[i]? with|some y=>lt y x|none=>false
def p3F (lt:α->α->Bool)(D:List α)(x:α)(i:Nat):Bool:=match D[i]? with|some y => !lt x y|none=>false
def p5F (lt:α->α->Bool)(D:List α)(p i:Nat):Bool:=match D[p-i]?,D[i]? with|some x,some y => !lt x y|_,_=>false
theorem adv (h:tV lt S)(hc:kM cmp lt S){n:Nat}(hn2:n<=1000000000){P Q B:List α}{x:α}(sx:S x)(sB:∀ z∈B,S z)(hB:dm lt B)(hn:(P++x::(B++Q)).length=n) :
  ∃ M,((af (mV (P++x::(B++Q)) (P.length:Int) cmp n) fuel (((P.length+1:Nat):Int),((P.length+1+B.length:Nat):Int))).bind (qA (P++x::(B++Q)) (P.length:Int) n))=some (P++(M++Q))/\dm lt M/\M.Perm (x::B):=by
 have hn':=hn;simp only[ahZ,aib]at hn';have gx:(P++x::(B++Q))[P.length]?=some x:=get_at _ _ _;have gB:∀ i y,B[i]?=some y->(P++x::(B++Q))[P.length+1+i]?=some y:=by
  intro i y hy;have hi:=(ahR.1 hy).1;rw[ahY m0,show P.length+1+i-P.length=i+1 by omega,List.getElem?_cons_succ,ah5 hi];exact hy
 obtain⟨s,hs,s1,s2,s3,s4⟩:=vq (body:=mV (P++x::(B++Q)) (P.length:Int) cmp n) (P.length+1) (P.length+1+B.length) (p1F lt (P++x::(B++Q)) x) (by
  intro i j hi hij hj;obtain⟨y,hy⟩:=gol_ (l:=B) (i:=(i+j)/2-(P.length+1)) m0;have gy:=gB _ _ hy;rw[show P.length+1+((i+j)/2-(P.length+1))=(i+j)/2 by omega]at gy;obtain⟨r,hr,hr2⟩:=hc y x (sB y (ahX hy)) sx;unfold mV;dsimp only;rw[wH m0,wrapN m0];simp only[Ec hij,Ik,Ec (show(i+j)/2<n by omega),Ec (show P.length<n by omega),ahT,gn_ gy,gn_ gx,ahQ,hr,hr2];unfold p1F;rw[gy];dsimp only
  cases lt y x<;>rfl) (by
  intro i;unfold mV;dsimp only;rw[ahU m0,ahS]) fuel (P.length+1) (P.length+1+B.length) (ah7 _) m0 (ah7 _) (by unfold fuel;omega) (.inl rfl) (.inl rfl)
 rw[hs,ahQ];obtain⟨B1,B2,rfl,hB1⟩:=pT (l:=B) (s:=s-(P.length+1)) m0;unfold qA;dsimp only;have e1:P++x::(B1++B2++Q)=P++x::(B1++(B2++Q)):=by simp
 rw[e1];obtain⟨k,hk⟩:=aa_ hn2 x (B2++Q) s B1 P fuel m0 (by rw[<- e1];exact hn) (by simp at hn';unfold fuel;omega);rw[hk];refine⟨B1++x::B2,by show some (P++(B1++x::(B2++Q)))=_;simp,xW h sx sB hB ?_ ?_,List.perm_middle⟩
 .by_cases h0:0<B1.length
  .obtain⟨L,y,rfl⟩:=yg h0
   refine .inr ⟨L,y,rfl,?_⟩;have sy:=sB y m5;obtain e|e:=s3
   .simp at hB1;omega
   .have gy:=gB (s-1-(P.length+1)) y (by
     have:(L++[y]).length=s-(P.length+1):=hB1;simp at this;rw[aig,ahY m0,show s-1-(P.length+1)-L.length=0 by omega];rfl)
    rw[show P.length+1+(s-1-(P.length+1))=s-1 by simp at hB1;omega]at gy;unfold p1F at e;rw[gy]at e;exact h.le_of sy sx e
  .exact .inl (aiq.1 m0)
 .by_cases h0:0<B2.length
  .obtain⟨z,L,rfl⟩:=xZ h0
   refine .inr ⟨z,L,rfl,?_⟩;obtain e|e:=s4
   .simp at e;omega
   .have gz:=gB (s-(P.length+1)) z (by rw[<- hB1];exact get_at _ _ _)
    rw[show P.length+1+(s-(P.length+1))=s by omega]at gz;unfold p1F at e;rw[gz]at e;exact e
  .exact .inl (aiq.1 m0)
theorem adB (h:tV lt S)(hc:kM cmp lt S){n:Nat}(hn2:n<=1000000000){P Q A:List α}{x:α}(sx:S x)(sA:∀ z∈A,S z)(hA:dm lt A)(hn:(P++(A++x::Q)).length=n) :
  ∃ M,((af (nj (P++(A++x::Q)) ((P.length+A.length:Nat):Int) cmp n) fuel ((P.length:Int),((P.length+A.length:Nat):Int))).bind (qO (P++(A++x::Q)) ((P.length+A.length:Nat):Int) n))=some (P++(M++Q))/\dm lt M/\M.Perm (A++[x]):=by
 have hn':=hn;simp only[ahZ,aib]at hn';have gx:(P++(A++x::Q))[P.length+A.length]?=some x:=by rw[<- aig,<- ahZ];exact get_at _ _ _
 have gA:∀ i y,A[i]?=some y->(P++(A++x::Q))[P.length+i]?=some y:=by
  intro i y hy;have hi:=(ahR.1 hy).1;rw[ahY m0,show P.length+i-P.length=i by omega,ah5 hi];exact hy
 obtain⟨s,hs,s1,s2,s3,s4⟩:=vq (body:=nj (P++(A++x::Q)) ((P.length+A.length:Nat):Int) cmp n) P.length (P.length+A.length) (p3F lt (P++(A++x::Q)) x) (by
  intro i j hi hij hj;obtain⟨y,hy⟩:=gol_ (l:=A) (i:=(i+j)/2-P.length) m0;have gy:=gA _ _ hy;rw[show P.length+((i+j)/2-P.length)=(i+j)/2 by omega]at gy;obtain⟨r,hr,hr2⟩:=hc x y sx (sA y (ahX hy));unfold nj;dsimp only;rw[wH m0,wrapN m0];simp only[Ec hij,Ik,Ec (show(i+j)/2<n by omega),Ec (show P.length+A.length<n by omega),ahT,gn_ gy,gn_ gx,ahQ,hr,hr2];unfold p3F;rw[gy];dsimp only
  cases lt x y<;>rfl) (by
  intro i;unfold nj;dsimp only;rw[ahU m0,ahS]) fuel P.length (P.length+A.length) (ah7 _) m0 (ah7 _) (by unfold fuel;omega) (.inl rfl) (.inl rfl)
 rw[hs,ahQ];obtain⟨A1,A2,rfl,hA1⟩:=pT (l:=A) (s:=s-P.length) m0;unfold qO;dsimp only;have e1:P++(A1++A2++x::Q)=(P++A1)++(A2++x::Q):=by simp
 have hlA:(P++A1).length=s:=by simp;omega
 rw[e1,<- hlA];have hl2:P.length+(A1++A2).length=(P++A1).length+A2.length:=by simp;omega
 rw[hl2];obtain⟨k,hk⟩:=abS hn2 x (P++A1) A2.length A2 Q fuel rfl (by rw[<- e1];exact hn) (by simp at hn';unfold fuel;omega);rw[hk];refine⟨A1++x::A2,by show some ((P++A1)++x::(A2++Q))=_;simp,xW h sx sA hA ?_ ?_,?_⟩
 .by_cases h0:0<A1.length
  .obtain⟨L,y,rfl⟩:=yg h0
   refine .inr ⟨L,y,rfl,?_⟩;obtain e|e:=s3
   .simp at hA1;omega
   .have gy:=gA (s-1-P.length) y (by
     have:(L++[y]).length=s-P.length:=hA1;simp at this;rw[aig,ahY m0,show s-1-P.length-L.length=0 by omega];rfl)
    rw[show P.length+(s-1-P.length)=s-1 by simp at hA1;omega]at gy;unfold p3F at e;rw[gy]at e;simpa using e
  .exact .inl (aiq.1 m0)
 .by_cases h0:0<A2.length
  .obtain⟨z,L,rfl⟩:=xZ h0
   refine .inr ⟨z,L,rfl,?_⟩;have sz:=sA z m5;obtain e|e:=s4
   .simp at e hA1;omega
   .have gz:=gA (s-P.length) z (by rw[<- hA1];exact get_at _ _ _)
    rw[show P.length+(s-P.length)=s by omega]at gz;unfold p3F at e;rw[gz]at e;exact h.le_of sx sz (by simpa using e)
  .exact .inl (aiq.1 m0)
 .rw[aig]
  refine List.Perm.append_left A1 ?_;exact(List.perm_append_comm (l₁:=[x]) (l₂:=A2))
end
set_option maxHeartbeats 4000000
section
variable {α:Type} {lt:α->α->Bool} {S:α->Prop} {cmp:α->α->Option Int}
def FF (rec:Nat->List α->Int->Int->Int->(α->α->Option Int)->Option (List α))(cmp:α->α->Option Int)(n:Nat)(D:List α)(a s m e mid b:Int):Option (List α) :=
 (bif decide (s<m)&&decide (m<e)then lK n D s m e cmp else some D).bind λc1 =>
 (bif decide (a<s)&&decide (s<mid)then rec n c1 a s mid cmp else some c1).bind λc2 =>
 (bif decide (mid<e)&&decide (e<b)then rec n c2 mid e b cmp else some c2).bind λc3=>some c3
theorem aaZ (rec:Nat->List α->Int->Int->Int->(α->α->Option Int)->Option (List α))(n:Nat)(D:List α)(a m b s:Int):jn D a m b cmp n rec (.inl (s,s))=FF rec cmp n D a s m (i64.wrap ((i64.wrap ((bL (i64.wrap (a+b)))+m))-s)) (bL (i64.wrap (a+b))) b:=by
 unfold jn FF;dsimp only;generalize bL (i64.wrap (a+b))=mid;generalize i64.wrap (i64.wrap (mid+m)-s)=e;generalize decide (s<m)=d1;generalize decide (m<e)=d2;generalize decide (a<s)=d3;generalize decide (s<mid)=d4;generalize decide (mid<e)=d5;generalize decide (e<b)=d6
 cases d1<;>cases d2<;>cases d3<;>cases d4<;>cases d5<;>cases d6<;>rfl
theorem af9 (D:List α)(a m b:Int)(n:Nat):uE D a m b cmp n=jv D a m b cmp n:=rfl
theorem af_ (rec:Nat->List α->Int->Int->Int->(α->α->Option Int)->Option (List α))(D:List α)(a m b:Int)(n:Nat):pv D a m b cmp n rec=jn D a m b cmp n rec:=by
 funext q
 cases q<;>rfl
theorem LI (h:tV lt S)(hc:kM cmp lt S){n:Nat}(hn2:n<=1000000000){D:List α}(hD:D.length=n)(hS:∀ z∈D,S z){a m b lo hi:Nat}(hab:a<m/\m<b/\b<=n)(hlh:lo<=hi)(hlo:a<=lo)(hhi:hi<=m)(hlo2:(a+b)/2+m<=lo+b)(hhi2:hi+a<=(a+b)/2+m )(hhi3:hi<=(a+b)/2)(hlo3:m<=(a+b)/2+m-hi) :
  ∃ s:Nat,af (jv D (a:Int) (m:Int) (b:Int) cmp n) fuel ((lo:Int),(hi:Int))=some (.inl ((s:Int),(s:Int)))/\lo<=s/\s<=hi/\(s=lo \/ ∃ x y,D[s-1]?=some x/\D[(a+b)/2+m-s]?=some y/\lt y x=false)/\(s=hi \/ ∃ x y,D[(a+b)/2+m-1-s]?=some x/\D[s]?=some y/\lt x y=true):=by
 obtain⟨s,hs,s1,s2,s3,s4⟩:=vq (body:=jv D (a:Int) (m:Int) (b:Int) cmp n) lo hi (p5F lt D ((a+b)/2+m-1)) (by
  intro i j hi1 hij hj;obtain⟨x,hx⟩:=gol_ (l:=D) (i:=(a+b)/2+m-1-(i+j)/2) m0;obtain⟨y,hy⟩:=gol_ (l:=D) (i:=(i+j)/2) m0;obtain⟨r,hr,hr2⟩:=hc x y (hS x (ahX hx)) (hS y (ahX hy));unfold jv;dsimp only;rw[wH (i:=i) (j:=j) m0,wH (i:=a) (j:=b) m0,wrA ((a+b)/2) m m0,wr1 _ m0 m0,Nv ((a+b)/2+m-1) ((i+j)/2) m0 m0,wrapN m0];simp only[Ec hij,Ik,Ec (show(i+j)/2<n by omega),Ec (show(a+b)/2+m-1-(i+j)/2<n by omega),ahT,gn_ hx,gn_ hy,ahQ,hr,hr2];unfold p5F;rw[hx,hy];dsimp only
  cases lt x y<;>rfl) (by
  intro i;unfold jv;dsimp only;rw[ahU m0,ahS]) fuel lo hi (ah7 _) hlh (ah7 _) (by unfold fuel;omega) (.inl rfl) (.inl rfl)
 refine⟨s,hs,s1,s2,?_,?_⟩
 .obtain e|e:=s3
  .exact .inl e
  .by_cases hsl:s=lo
   .exact .inl hsl
   .refine .inr ?_
    obtain⟨x,hx⟩:=gol_ (l:=D) (i:=s-1) m0;obtain⟨y,hy⟩:=gol_ (l:=D) (i:=(a+b)/2+m-s) m0;unfold p5F at e;rw[show(a+b)/2+m-1-(s-1)=(a+b)/2+m-s by omega,hy,hx]at e;exact⟨x,y,hx,hy,by simpa using e⟩
 .by_cases hsh:s=hi
  .exact .inl hsh
  .obtain e|e:=s4
   .exact .inl e
   .refine .inr ?_
    obtain⟨x,hx⟩:=gol_ (l:=D) (i:=(a+b)/2+m-1-s) m0;obtain⟨y,hy⟩:=gol_ (l:=D) (i:=s) m0;unfold p5F at e;rw[hx,hy]at e;exact⟨x,y,hx,hy,by simpa using e⟩
theorem x6 (h:tV lt S)(hc:kM cmp lt S){n:Nat}(hn2:n<=1000000000):∀ (q:Nat) (P A B Q:List α),A.length+B.length<=q->0<A.length->0<B.length->(∀ z∈P++(A++(B++Q)),S z)->dm lt A->dm lt B->(P++(A++(B++Q))).length=n ->
  ∃ M,yu q n (P++(A++(B++Q))) (P.length:Int) ((P.length+A.length:Nat):Int) ((P.length+A.length+B.length:Nat):Int) cmp=some (P++(M++Q))/\dm lt M/\M.Perm (A++B)
 |0,P,A,B,Q,hq,hA,hB,_,_,_,_=>by omega
 |q+1,P,A,B,Q,hq,hA,hB,hS,aA,aB,hn=>by
  have hn':=hn;simp only[ahZ]at hn';have sA:∀ z∈A,S z:=λz hz=>hS z (by simp[hz])
  have sB:∀ z∈B,S z:=λz hz=>hS z (by simp[hz])
  show ∃ M,oV (yu q) n (P++(A++(B++Q))) (P.length:Int) ((P.length+A.length:Nat):Int) ((P.length+A.length+B.length:Nat):Int) cmp=some (P++(M++Q))/\_;unfold oV;rw[Nv (P.length+A.length) P.length m0 m0,Nv (P.length+A.length+B.length) (P.length+A.length) m0 m0,show P.length+A.length-P.length=A.length by omega,show P.length+A.length+B.length-(P.length+A.length)=B.length by omega];by_cases c1:A.length=1
  .obtain⟨x,rfl⟩:∃ x,A=[x]:=match A,c1 with|[x],_=>⟨x,rfl⟩
   rw[ahV (show(([x]:List α).length:Int)=1 from rfl),ahT];obtain⟨M,k1,k2,k3⟩:=adv h hc hn2 (P:=P) (Q:=Q) (sA x m5) sB aB hn;exact⟨M,k1,k2,k3⟩
  .rw[ahU (show ¬ (A.length:Int)=1 by omega),ahS]
   by_cases c2:B.length=1
   .obtain⟨x,rfl⟩:∃ x,B=[x]:=match B,c2 with|[x],_=>⟨x,rfl⟩
    rw[ahV (show(([x]:List α).length:Int)=1 from rfl),ahT];obtain⟨M,k1,k2,k3⟩:=adB h hc hn2 (P:=P) (Q:=Q) (sB x m5) sA aA hn;exact⟨M,k1,k2,k3⟩
   .rw[ahU (show ¬ (B.length:Int)=1 by omega),ahS,wH m0]
    have hD:(P++(A++(B++Q))).length=n:=hn;have gA:∀ i y,A[i]?=some y->(P++(A++(B++Q)))[P.length+i]?=some y:=by
     intro i y hy;have hi:=(ahR.1 hy).1;rw[ahY m0,show P.length+i-P.length=i by omega,ah5 hi];exact hy
    have gB:∀ i y,B[i]?=some y->(P++(A++(B++Q)))[P.length+A.length+i]?=some y:=by
     intro i y hy;have hi:=(ahR.1 hy).1;rw[ahY m0,ahY m0,show P.length+A.length+i-P.length-A.length=i by omega,ah5 hi];exact hy
    generalize hmid:(P.length+(P.length+A.length+B.length))/2=mid

    have key:∃ s:Nat,((bif decide (((mid:Nat):Int)<((P.length+A.length:Nat):Int))then(af (jv (P++(A++(B++Q))) (P.length:Int) ((P.length+A.length:Nat):Int) ((P.length+A.length+B.length:Nat):Int) cmp n) fuel ((i64.wrap ((i64.wrap (((mid:Nat):Int)+((P.length+A.length:Nat):Int)))-((P.length+A.length+B.length:Nat):Int))),((mid:Nat):Int))).bind (jn (P++(A++(B++Q))) (P.length:Int) ((P.length+A.length:Nat):Int) ((P.length+A.length+B.length:Nat):Int) cmp n (yu q))else
      (af (uE (P++(A++(B++Q))) (P.length:Int) ((P.length+A.length:Nat):Int) ((P.length+A.length+B.length:Nat):Int) cmp n) fuel ((P.length:Int),((P.length+A.length:Nat):Int))).bind (pv (P++(A++(B++Q))) (P.length:Int) ((P.length+A.length:Nat):Int) ((P.length+A.length+B.length:Nat):Int) cmp n (yu q))))=jn (P++(A++(B++Q))) (P.length:Int) ((P.length+A.length:Nat):Int) ((P.length+A.length+B.length:Nat):Int) cmp n (yu q) (.inl ((s:Int),(s:Int))) /\
      P.length<=s/\s<=P.length+A.length/\P.length+A.length<=mid+(P.length+A.length)-s/\mid+(P.length+A.length)-s<=P.length+A.length+B.length/\s<=mid+(P.length+A.length) /\
      (s=P.length\/mid+(P.length+A.length)-s=P.length+A.length+B.length \/ ∃ x y,(P++(A++(B++Q)))[s-1]?=some x/\(P++(A++(B++Q)))[mid+(P.length+A.length)-s]?=some y/\lt y x=false) /\
      (mid+(P.length+A.length)-s=P.length+A.length\/s=P.length+A.length \/ ∃ x y,(P++(A++(B++Q)))[mid+(P.length+A.length)-1-s]?=some x/\(P++(A++(B++Q)))[s]?=some y/\lt x y=true):=by
     by_cases hm:mid<P.length+A.length
     .rw[ahV (show((mid:Nat):Int)<((P.length+A.length:Nat):Int)by omega),ahT,wrA mid (P.length+A.length) m0,Nv (mid+(P.length+A.length)) (P.length+A.length+B.length) m0 m0]
      obtain⟨s,hs,s1,s2,s3,s4⟩:=LI h hc hn2 hD hS (a:=P.length) (m:=P.length+A.length) (b:=P.length+A.length+B.length) (lo:=mid+(P.length+A.length)-(P.length+A.length+B.length)) (hi:=mid) m0 m0 m0 m0 m0 m0 m0 m0;rw[hs,ahQ];rw[hmid]at s3 s4;refine⟨s,rfl,m0,m0,m0,m0,m0,?_,?_⟩
      .obtain e|e:=s3
       .exact .inr (.inl m0)
       .exact .inr (.inr e)
      .obtain e|e:=s4
       .exact .inl m0
       .exact .inr (.inr e)
     .rw[ahU (show ¬ ((mid:Nat):Int)<((P.length+A.length:Nat):Int)by omega),ahS,af9,af_]
      obtain⟨s,hs,s1,s2,s3,s4⟩:=LI h hc hn2 hD hS (a:=P.length) (m:=P.length+A.length) (b:=P.length+A.length+B.length) (lo:=P.length) (hi:=P.length+A.length) m0 m0 m0 m0 m0 m0 m0 m0;rw[hs,ahQ];rw[hmid]at s3 s4;refine⟨s,rfl,m0,m0,m0,m0,m0,?_,?_⟩
      .obtain e|e:=s3
       .exact .inl e
       .exact .inr (.inr e)
      .obtain e|e:=s4
       .exact .inr (.inl e)
       .exact .inr (.inr e)
    obtain⟨s,hk,s1,s2,s3,s4,s4b,s5,s6⟩:=key;rw[hk,aaZ,wH m0,hmid,wrA mid (P.length+A.length) m0,Nv (mid+(P.length+A.length)) s s4b m0];obtain⟨A1,A2,rfl,hA1⟩:=pT (l:=A) (s:=s-P.length) m0;obtain⟨B1,B2,rfl,hB1⟩:=pT (l:=B) (s:=mid+(P.length+(A1++A2).length)-s-(P.length+(A1++A2).length)) m0;simp only[ahZ]at hk s1 s2 s3 s4 s4b s5 s6 hA hB hq c1 c2 hmid hB1 hn' ⊢;have eS:s=P.length+A1.length:=m0
    have eE:mid+(P.length+(A1.length+A2.length))-s=P.length+(A1.length+A2.length)+B1.length:=m0
    have eM:mid=P.length+A1.length+B1.length:=m0

    have h1:A1=[]\/B2=[] \/ ∃ A' x y B',A1=A'++[x]/\B2=y::B'/\lt y x=false:=by
     by_cases z1:0<A1.length
     .by_cases z2:0<B2.length
      .obtain⟨A',x,rfl⟩:=yg z1
       obtain⟨y,B',rfl⟩:=xZ z2;refine .inr (.inr ⟨A',x,y,B',rfl,rfl,?_⟩);simp only[ahZ,aib,aik]at *;obtain e|e|⟨x',y',e1,e2,e3⟩:=s5
       .omega
       .omega
       .have g1:=gA A'.length x m5
        have g2:=gB B1.length y m5;rw[show P.length+A'.length=s-1 by omega,e1]at g1
        try simp only[ahZ,aib,aik]at g2
        rw[show P.length+(A'.length+(0+1)+A2.length)+B1.length=mid+(P.length+(A'.length+(0+1)+A2.length))-s by omega,e2]at g2;rw[<- aim g1,<- aim g2];exact e3
      .exact .inr (.inl (aiq.1 m0))
     .exact .inl (aiq.1 m0)
    have h2:B1=[]\/A2=[] \/ ∃ A' x y B',B1=A'++[x]/\A2=y::B'/\lt y x=false:=by
     by_cases z1:0<B1.length
     .by_cases z2:0<A2.length
      .obtain⟨B',x,rfl⟩:=yg z1
       obtain⟨y,A',rfl⟩:=xZ z2;refine .inr (.inr ⟨B',x,y,A',rfl,rfl,?_⟩);have sx:=sB x m5;have sy:=sA y m5;simp only[ahZ,aib,aik]at *;obtain e|e|⟨x',y',e1,e2,e3⟩:=s6
       .omega
       .omega
       .have g1:=gB B'.length x m5
        have g2:=gA A1.length y m5
        try simp only[ahZ,aib,aik]at g1
        rw[show P.length+(A1.length+(A'.length+1))+B'.length=mid+(P.length+(A1.length+(A'.length+1)))-1-s by omega,e1]at g1;rw[<- eS,e2]at g2;rw[aim g1,aim g2]at e3;exact h.le_of sx sy e3
      .exact .inr (.inl (aiq.1 m0))
     .exact .inl (aiq.1 m0)
    have pA:=List.pairwise_append.1 aA;have pB:=List.pairwise_append.1 aB

    unfold FF;rw[eE,eS,eM];have r1:(bif decide (((P.length+A1.length:Nat):Int)<((P.length+(A1.length+A2.length):Nat):Int))&&decide (((P.length+(A1.length+A2.length):Nat):Int)<((P.length+(A1.length+A2.length)+B1.length:Nat):Int))then lK n (P++(A1++A2++(B1++B2++Q))) ((P.length+A1.length:Nat):Int) ((P.length+(A1.length+A2.length):Nat):Int) ((P.length+(A1.length+A2.length)+B1.length:Nat):Int) cmp else some (P++(A1++A2++(B1++B2++Q))))=some (P++(A1++(B1++(A2++(B2++Q))))):=by
     have e0:P++(A1++A2++(B1++B2++Q))=(P++A1)++(A2++(B1++(B2++Q))):=by simp
     by_cases z1:0<A2.length
     .by_cases z2:0<B1.length
      .rw[ahV m0,ahV m0,Bool.and_self,ahT]
       have hr:=Ks hn2 (P:=P++A1) (A:=A2) (B:=B1) (Q:=B2++Q) cmp z1 z2 (by rw[<- e0];exact hn);rw[e0];simp only[ahZ]at hr;rw[show P.length+(A1.length+A2.length)=P.length+A1.length+A2.length by omega,hr];simp
      .have:B1=[]:=aiq.1 m0
       subst this;rw[show decide (((P.length+(A1.length+A2.length):Nat):Int)<((P.length+(A1.length+A2.length)+([]:List α).length:Nat):Int))=false from ahU m5,Bool.and_false,ahS];simp
     .have:A2=[]:=aiq.1 m0
      subst this;rw[show decide (((P.length+A1.length:Nat):Int)<((P.length+(A1.length+([]:List α).length):Nat):Int))=false from ahU m5,Bool.false_and,ahS];simp
    rw[r1,ahQ];have r2:∃ M1,(bif decide ((P.length:Int)<((P.length+A1.length:Nat):Int))&&decide (((P.length+A1.length:Nat):Int)<((P.length+A1.length+B1.length:Nat):Int))then yu q n (P++(A1++(B1++(A2++(B2++Q))))) (P.length:Int) ((P.length+A1.length:Nat):Int) ((P.length+A1.length+B1.length:Nat):Int) cmp else some (P++(A1++(B1++(A2++(B2++Q))))))=some (P++(M1++(A2++(B2++Q))))/\dm lt M1/\M1.Perm (A1++B1):=by
     by_cases z1:0<A1.length
     .by_cases z2:0<B1.length
      .rw[ahV m0,ahV m0,Bool.and_self,ahT]
       exact x6 h hc hn2 q P A1 B1 (A2++(B2++Q)) m0 z1 z2 (λz hz=>hS z (by simp only[aih]at hz ⊢;rcases hz with hz|hz|hz|hz|hz|hz<;>simp[hz])) pA.1 pB.1 (by rw[<- hn];simp only[ahZ];omega)
      .have:B1=[]:=aiq.1 m0
       subst this;rw[show decide (((P.length+A1.length:Nat):Int)<((P.length+A1.length+([]:List α).length:Nat):Int))=false from ahU m5,Bool.and_false,ahS];exact⟨A1,m5,pA.1,m5⟩
     .have:A1=[]:=aiq.1 m0
      subst this;rw[show decide ((P.length:Int)<((P.length+([]:List α).length:Nat):Int))=false from ahU m5,Bool.false_and,ahS];exact⟨B1,m5,pB.1,m5⟩
    obtain⟨M1,r2,m1,p1⟩:=r2;rw[r2,ahQ];have hM1:M1.length=A1.length+B1.length:=by rw[p1.length_eq,ahZ]
    have r3:∃ M2,(bif decide (((P.length+A1.length+B1.length:Nat):Int)<((P.length+(A1.length+A2.length)+B1.length:Nat):Int))&&decide (((P.length+(A1.length+A2.length)+B1.length:Nat):Int)<((P.length+(A1.length+A2.length)+(B1.length+B2.length):Nat):Int))then yu q n (P++(M1++(A2++(B2++Q)))) ((P.length+A1.length+B1.length:Nat):Int) ((P.length+(A1.length+A2.length)+B1.length:Nat):Int) ((P.length+(A1.length+A2.length)+(B1.length+B2.length):Nat):Int) cmp else some (P++(M1++(A2++(B2++Q)))))=some (P++(M1++(M2++Q)))/\dm lt M2/\M2.Perm (A2++B2):=by
     by_cases z1:0<A2.length
     .by_cases z2:0<B2.length
      .rw[ahV m0,ahV m0,Bool.and_self,ahT]
       obtain⟨M2,k1,k2,k3⟩:=x6 h hc hn2 q (P++M1) A2 B2 Q m0 z1 z2 (λz hz=>by
        simp only[aih]at hz;obtain(hz|hz)|hz|hz|hz:=hz
        .exact hS z (by simp[hz])
        .have:=p1.mem_iff.1 hz
         simp only[aih]at this;rcases this with hz|hz<;>exact hS z (by simp[hz])
        .exact hS z (by simp[hz])
        .exact hS z (by simp[hz])
        .exact hS z (by simp[hz])) pA.2.1 pB.2.1 (by rw[<- hn];simp only[ahZ];omega)
       refine⟨M2,?_,k2,k3⟩;simp only[ahZ,hM1]at k1;rw[show P.length+A1.length+B1.length=P.length+(A1.length+B1.length)by omega,show P.length+(A1.length+A2.length)+B1.length=P.length+(A1.length+B1.length)+A2.length by omega,show P.length+(A1.length+A2.length)+(B1.length+B2.length)=P.length+(A1.length+B1.length)+A2.length+B2.length by omega];have e0:P++(M1++(A2++(B2++Q)))=(P++M1)++(A2++(B2++Q)):=by simp
       rw[e0,k1];simp
      .have:B2=[]:=aiq.1 m0
       subst this;rw[show decide (((P.length+(A1.length+A2.length)+B1.length:Nat):Int)<((P.length+(A1.length+A2.length)+(B1.length+([]:List α).length):Nat):Int))=false from ahU m5,Bool.and_false,ahS];exact⟨A2,m5,pA.2.1,m5⟩
     .have:A2=[]:=aiq.1 m0
      subst this;rw[show decide (((P.length+A1.length+B1.length:Nat):Int)<((P.length+(A1.length+([]:List α).length)+B1.length:Nat):Int))=false from ahU m5,Bool.false_and,ahS];exact⟨B2,m5,pB.2.1,m5⟩
    obtain⟨M2,r3,m2,p2⟩:=r3;rw[r3];refine⟨M1++M2,m5,JI h (λz hz=>?_) aA aB h1 h2 m1 m2 p1 p2,Ie p1 p2⟩;simp only[aih]at hz;rcases hz with(hz|hz)|hz|hz<;>exact hS z (by simp[hz])
end
