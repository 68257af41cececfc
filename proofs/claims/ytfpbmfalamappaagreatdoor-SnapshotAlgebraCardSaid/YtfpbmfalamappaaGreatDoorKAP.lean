/- Parts of the proof, joined. No condition. -/
import Derived.Test.YtfpbmfalamappaaGreatDoorKAA
import Derived.Test.YtfpbmfalamappaaGreatDoorKAO
import Derived.BigRegion
import Derived.Test.YtfpbmfalamappaaGreatDoorKAL
import Derived.Test.YtfpbmfalamappaaGreatDoorKAF
import Derived.Test.YtfpbmfalamappaaGreatDoorKAJ
import Derived.Test.YtfpbmfalamappaaGreatDoorKAK
set_option linter.unusedSimpArgs false
set_option linter.unusedVariables false
namespace Go.Proofs.YtfpbmfalamappaaGreatDoor.St
open Go.RowKit
set_option maxHeartbeats 1600000 in
theorem Mj (ak ai bk bi:Int) (as' bs:ByteArray) (w:World) :
  Calls Tryz.prog 157 #[.agg #[.int .i64 ak, .int .i64 ai, .string as'], .agg #[.int .i64 bk, .int .i64 bi, .string bs]] w fun e w'=>e = .returned (.tuple #[.agg #[.int .i64 ai, .int .i64 bi], .bool (decide (ak=1)&&decide (bk=1))])/\Gr w w':=by
 by_cases ha:ak=1
 ·have hd:((ak:Int)==1)=true:=by simp [ha]
  have ha':decide (ak=1)=true:=abb ha
  go_enter Tryz.func157,Tryz.ntmps157
  go_wp2
  go_big_region
  go_wp2
  refine bodyPost_ret (v := .tuple #[.agg #[.int .i64 ai, .int .i64 bi], .bool (decide (ak=1)&&decide (bk=1))]) (by simp [results,Tryz.results157,go_sem,ha];try rfl) rfl ⟨rfl,?_⟩
  ·repeat (first|exact Gr.refl _|assumption|exact Gr.alloc _ _|refine Gr.allocR ?_ _|refine Gr.drewNR ?_ _|refine Gr.drewR ?_)
 ·have hd:((ak:Int)==1)=false:=by simp [ha]
  have ha':decide (ak=1)=false:=aba ha
  go_enter Tryz.func157,Tryz.ntmps157
  go_wp2
  go_big_region
  go_wp2
  refine bodyPost_ret (v := .tuple #[.agg #[.int .i64 ai, .int .i64 bi], .bool (decide (ak=1)&&decide (bk=1))]) (by simp [results,Tryz.results157,go_sem,ha];try rfl) rfl ⟨rfl,?_⟩
  ·repeat (first|exact Gr.refl _|assumption|exact Gr.alloc _ _|refine Gr.allocR ?_ _|refine Gr.drewNR ?_ _|refine Gr.drewR ?_)
section
variable {P:Program} {R:PH} {w:World}
def F5 (R:PH) (w w':World):W9:=fun b o=>if b<w.heap.size then R b o else w'.cell? ⟨b,o,none⟩
theorem Jn (hR : ∀ b o u,R b o=some u->w.cell? ⟨b,o,none⟩=some u) (w':World) : ∀ b o u,R b o=some u->F5 R w w' b o=some u:=fun b o u h=>by
 have:=lt_of_cell (hR b o u h)
 unfold F5;rw [if_pos this];exact h
def Y1 (R:PH) (w w':World) (hR : ∀ b o u,R b o=some u->w.cell? ⟨b,o,none⟩=some u):PH:=R.put (F5 R w w') (Jn hR w')
theorem Nu (hR : ∀ b o u,R b o=some u->w.cell? ⟨b,o,none⟩=some u) {w':World} (hg:Gr w w'):Ext (· < w.heap.size) R (Y1 R w w' hR) w w' /\ ∀ b o u,Y1 R w w' hR b o=some u->w'.cell? ⟨b,o,none⟩=some u:=by
 refine ⟨⟨Kept.of hg.out,Jn hR w',fun b o hb=>?_⟩,fun b o u h=>?_⟩
 ·show F5 R w w' b o=_
  unfold F5;rw [if_pos hb]
 ·have h:F5 R w w' b o=some u:=h
  unfold F5 at h
  split at h
  ·rename_i hb;rw [hg.cells.1 b o hb];exact hR _ _ _ h
  ·exact h
end
end Go.Proofs.YtfpbmfalamappaaGreatDoor.St
namespace Go.Proofs.YtfpbmfalamappaaGreatDoor
open Go.RowKit Go.MapKept
set_option maxRecDepth 100000
set_option maxHeartbeats 8000000
def Ae (a b:Val):Option (iQ × Bool):=some (⟨a.int,b.int⟩,decide (a.kind=1)&&decide (b.kind=1))
theorem TL {vs:Array Value} {p q:PV} (h:vs.size=[p,q].length) : ∃ v u,vs = #[v,u]:=by
 obtain ⟨l⟩:=vs
 match l,h with
 | [a,b],_=>exact ⟨a,b,rfl⟩
theorem PQ {R:PH} {v:Val} {u:Value} (h:(PV.agg (cV v)).rep R u):u = .agg #[.int .i64 v.kind, .int .i64 v.int, .string v.text]:=by
 obtain ⟨vs,rfl,hs,hc⟩:=h
 obtain ⟨l⟩:=vs
 match l,hs with
 | [a,b,c],_ =>
  have h0:=hc 0 a _ rfl rfl
  have h1:=hc 1 b _ rfl rfl
  have h2:=hc 2 c _ rfl rfl
  cases h0;cases h1;cases h2
  rfl
theorem Db {a b:Val} {r:iQ × Bool} (H:Ae a b=some r):Pure Tryz.prog 157 [.agg (cV a), .agg (cV b)] (.tup [.agg (yK r.1), .one (.bool r.2)]):=by
 obtain rfl:=abH H
 refine ⟨⟨_,Tryz.func157,by kernel_rfl,by kernel_rfl⟩,fun R w vs hR hs hv=>?_⟩
 obtain ⟨v,u,rfl⟩:=TL hs
 have hv0:=PQ (hv 0 v _ rfl rfl)
 have hv1:=PQ (hv 1 u _ rfl rfl)
 subst hv0 hv1
 refine (St.Mj a.kind a.int b.kind b.int a.text b.text w).mono ?_
 rintro e w' ⟨rfl,hg⟩
 refine ⟨_,_,rfl,(St.Nu hR hg).1,(St.Nu hR hg).2,⟨_,rfl,rfl,fun j u p hu hp=>?_⟩⟩
 match j,hu,hp with
 | 0,hu,hp =>
  simp at hu hp
  subst hu hp
  refine ⟨_,rfl,rfl,fun j u p hu hp=>?_⟩
  match j,hu,hp with
  | 0,hu,hp=>simp [yK] at hu hp;subst hu hp;exact .int _ _
  | 1,hu,hp=>simp [yK] at hu hp;subst hu hp;exact .int _ _
  | j+2,hu,hp=>simp [yK] at hp
 | 1,hu,hp=>simp at hu hp;subst hu hp;exact .bool _
 | j+2,hu,hp=>simp at hp
def wH (a_rel:Int) (a_l:(List Val)):Option (Val):=(aL a_l (0:Int)).bind fun x_1=>(aL a_l (1:Int)).bind fun x_2=>(Ae x_1 x_2).bind fun r_3=>(aL a_l (2:Int)).bind fun x_4=>(aL a_l (3:Int)).bind fun x_5=>(Ae x_4 x_5).bind fun r_6=>(TM r_3.1 r_6.1).bind fun r_7=>bif (!r_3.2) then (kL ).bind fun r_9=>some r_9 else
 bif (!r_6.2) then (kL ).bind fun r_11=>some r_11 else
 bif (!r_7.2) then (kL ).bind fun r_13=>some r_13 else
 (vL (decide (r_7.1=a_rel))).bind fun r_14=>some r_14
theorem Ms {a_rel:Int} {a_l:(List Val)} {r:Val} (H:wH a_rel a_l=some r):Pure Tryz.prog 115 [.one (.int .i64 a_rel), .one (.lst (a_l.map cV))] (.val (.agg (cV r))):=by
 unfold wH at H
 refine po_ Tryz.func115 Tryz.ntmps115 ?_
 obtain ⟨x_1,i1z,i1,i1x,H⟩:=aX (f:=cV) H
 obtain ⟨x_2,i2z,i2,i2x,H⟩:=aX (f:=cV) H
 obtain ⟨r_3,c3,H⟩:=bd_ H
 replace c3:=Db c3
 obtain ⟨x_4,i4z,i4,i4x,H⟩:=aX (f:=cV) H
 obtain ⟨x_5,i5z,i5,i5x,H⟩:=aX (f:=cV) H
 obtain ⟨r_6,c6,H⟩:=bd_ H
 replace c6:=Db c6
 obtain ⟨r_7,c7,H⟩:=bd_ H
 replace c7:=VU c7
 rcases cnd_ H with ⟨q_8,H⟩|⟨q_8,H⟩
 ·obtain ⟨r_9,c8,H⟩:=bd_ H
  replace c8:=ed c8
  cases H
  exact go_
 rcases cnd_ H with ⟨q_10,H⟩|⟨q_10,H⟩
 ·obtain ⟨r_11,c9,H⟩:=bd_ H
  replace c9:=ed c9
  cases H
  exact go_
 rcases cnd_ H with ⟨q_12,H⟩|⟨q_12,H⟩
 ·obtain ⟨r_13,c10,H⟩:=bd_ H
  replace c10:=ed c10
  cases H
  exact go_
 obtain ⟨r_14,c11,H⟩:=bd_ H
 replace c11:=rW c11
 cases H
 exact go_
set_option maxHeartbeats 8000000
set_option maxHeartbeats 8000000
def JA (a_less:Bool) (a_greater:Bool):Option (Int):=bif a_less then some (-1:Int) else
 bif a_greater then some (1:Int) else
 some (0:Int)
theorem GG {a_less:Bool} {a_greater:Bool} {r:Int} (H:JA a_less a_greater=some r):Pure Tryz.prog 175 [.one (.bool a_less), .one (.bool a_greater)] (.val (.one (.int .i64 r))):=by
 unfold JA at H
 refine po_ Tryz.func175 Tryz.ntmps175 ?_
 rcases cnd_ H with ⟨q_1,H⟩|⟨q_1,H⟩
 ·cases H
  exact go_
 rcases cnd_ H with ⟨q_2,H⟩|⟨q_2,H⟩
 ·cases H
  exact go_
 cases H
 exact go_
def Av (a_a:Val) (a_b:Val):Option (Int):=bif (decide (a_a.kind≠a_b.kind)) then (JA (decide (a_a.kind<a_b.kind)) (decide (a_b.kind<a_a.kind))).bind fun r_2=>some r_2 else
 bif (decide (a_a.int≠a_b.int)) then (JA (decide (a_a.int<a_b.int)) (decide (a_b.int<a_a.int))).bind fun r_4=>some r_4 else
 (JA (Op.bytesLess a_a.text.toList a_b.text.toList) (!((Op.bytesLess a_a.text.toList a_b.text.toList)||(a_a.text.toList==a_b.text.toList)))).bind fun r_5=>some r_5
theorem vk {a_a:Val} {a_b:Val} {r:Int} (H:Av a_a a_b=some r):Pure Tryz.prog 135 [.agg (cV a_a), .agg (cV a_b)] (.val (.one (.int .i64 r))):=by
 unfold Av at H
 refine po_ Tryz.func135 Tryz.ntmps135 ?_
 rcases cnd_ H with ⟨q_1,H⟩|⟨q_1,H⟩
 ·obtain ⟨r_2,c1,H⟩:=bd_ H
  replace c1:=GG c1
  cases H
  exact go_
 rcases cnd_ H with ⟨q_3,H⟩|⟨q_3,H⟩
 ·obtain ⟨r_4,c2,H⟩:=bd_ H
  replace c2:=GG c2
  cases H
  exact go_
 obtain ⟨r_5,c3,H⟩:=bd_ H
 replace c3:=GG c3
 cases H
 exact go_
def kz (a_a:(List Val)) (a_b:(List Val)):(Int)->Option (Step (Int) (Int)):=fun s=>match s with
 | i_1=>bif (decide (i_1<((a_a.length:Nat):Int))) then bif (decide (i_1<((a_b.length:Nat):Int))) then (aL a_a i_1).bind fun x_4=>(aL a_b i_1).bind fun x_5=>(Av x_4 x_5).bind fun r_6=>bif (decide (r_6≠(0:Int))) then some (.ret r_6) else
 some (.next (IntKind.i64.wrap (i_1+(1:Int)))) else
 some (.exit i_1) else
 some (.exit i_1)
def f_ (a_a:(List Val)) (a_b:(List Val)):Sum (Int) (Int)->Option ((Int))
 | .inl i_1=>bif (decide (((a_a.length:Nat):Int)<((a_b.length:Nat):Int))) then some (-1:Int) else
 bif (decide (((a_b.length:Nat):Int)<((a_a.length:Nat):Int))) then some (1:Int) else
 some (0:Int)
 | .inr q=>some q
def CB (a_a:(List Val)) (a_b:(List Val)):Option (Int):=(ax (kz a_a a_b) fuel (0:Int)).bind (f_ a_a a_b)
theorem Az {a_a:(List Val)} {a_b:(List Val)} {r:Int} (H:CB a_a a_b=some r):Pure Tryz.prog 98 [.one (.lst (a_a.map cV)), .one (.lst (a_b.map cV))] (.val (.one (.int .i64 r))):=by
 unfold CB at H
 refine po_ Tryz.func98 Tryz.ntmps98 ?_
 refine bC ?_
 refine alM_ (fun s:Int=>match s with|i_1=>[(0, .one (.c (.lst (a_a.map cV)))),(1, .one (.c (.lst (a_b.map cV)))),(5, .one (.c (.int .i64 i_1)))]) (fun s=>match s with|i_1=>[]) H (fun _=>abv _)
  (fm_ bV [] rfl bE trivial) ?_
 rintro i_1 st1 hb1 hk1
 unfold kz at hb1
 dsimp only at hb1 ⊢
 rcases cnd_ hb1 with ⟨q_2,hb1⟩|⟨q_2,hb1⟩
 ·rcases cnd_ hb1 with ⟨q_3,hb1⟩|⟨q_3,hb1⟩
  ·obtain ⟨x_4,i1z,i1,i1x,hb1⟩:=aX (f:=cV) hb1
   obtain ⟨x_5,i2z,i2,i2x,hb1⟩:=aX (f:=cV) hb1
   obtain ⟨r_6,c3,hb1⟩:=bd_ hb1
   replace c3:=vk c3
   rcases cnd_ hb1 with ⟨q_7,hb1⟩|⟨q_7,hb1⟩
   ·cases hb1
    have hx1:f_ a_a a_b (.inr r_6)=some _:=hk1
    unfold f_ at hx1
    dsimp only at hx1
    cases hx1
    exact go_
   cases hb1
   refine bC ?_
   exact ⟨_,rfl,fm_ bV [] rfl bE trivial⟩
  cases hb1
  have hx1:f_ a_a a_b (.inl i_1)=some _:=hk1
  unfold f_ at hx1
  dsimp only at hx1
  rcases cnd_ hx1 with ⟨q_8,hx1⟩|⟨q_8,hx1⟩
  ·cases hx1
   exact go_
  rcases cnd_ hx1 with ⟨q_9,hx1⟩|⟨q_9,hx1⟩
  ·cases hx1
   exact go_
  cases hx1
  exact go_
 cases hb1
 have hx1:f_ a_a a_b (.inl i_1)=some _:=hk1
 unfold f_ at hx1
 dsimp only at hx1
 rcases cnd_ hx1 with ⟨q_8,hx1⟩|⟨q_8,hx1⟩
 ·cases hx1
  exact go_
 rcases cnd_ hx1 with ⟨q_9,hx1⟩|⟨q_9,hx1⟩
 ·cases hx1
  exact go_
 cases hx1
 exact go_
set_option maxHeartbeats 8000000
def dJ:Option (Val):=some (⟨(0:Int),(0:Int),ByteArray.empty⟩:Val)
theorem bT {r:Val} (H:dJ=some r):Pure Tryz.prog 101 [] (.val (.agg (cV r))):=by
 unfold dJ at H
 refine po_ Tryz.func101 Tryz.ntmps101 ?_
 cases H
 exact go_
def lD (a_s:ByteArray):(Int)->Option (Step (Int) (Bool)):=fun s=>match s with
 | i_1=>bif (decide (i_1<((a_s.size:Nat):Int))) then (RJ a_s i_1).bind fun b_3=>bif (decide (((b_3.toNat:Nat):Int)<(32:Int))) then some (.ret false) else
 bif (decide ((126:Int)<((b_3.toNat:Nat):Int))) then some (.ret false) else
 some (.next (IntKind.i64.wrap (i_1+(1:Int)))) else
 some (.exit i_1)
def dX:Sum (Int) (Bool)->Option ((Bool))
 | .inl i_1=>some true
 | .inr q=>some q
def oh (a_s:ByteArray):Option (Bool):=(ax (lD a_s) fuel (0:Int)).bind (dX)
theorem Ij {a_s:ByteArray} {r:Bool} (H:oh a_s=some r):Pure Tryz.prog 167 [.one (.str a_s)] (.val (.one (.bool r))):=by
 unfold oh at H
 refine po_ Tryz.func167 Tryz.ntmps167 ?_
 repeat' (first|refine gs5_ ?_|refine b_ rfl rfl rfl rfl rfl rfl rfl ?_)
 refine alM_ (fun s:Int=>match s with|i_1=>[(0, .one (.c (.str a_s))),(3, .one (.c (.int .i64 i_1)))]) (fun s=>match s with|i_1=>[]) H (fun _=>abv _)
  (fm_ bV [] rfl bE trivial) ?_
 rintro i_1 st1 hb1 hk1
 unfold lD at hb1
 dsimp only at hb1 ⊢
 rcases cnd_ hb1 with ⟨q_2,hb1⟩|⟨q_2,hb1⟩
 ·obtain ⟨b_3,i1,hb1⟩:=bd_ hb1
  obtain ⟨i1z,i1⟩:=JE i1
  rcases cnd_ hb1 with ⟨q_4,hb1⟩|⟨q_4,hb1⟩
  ·cases hb1
   have hx1:dX (.inr false)=some _:=hk1
   unfold dX at hx1
   dsimp only at hx1
   cases hx1
   repeat' (first|refine gs5_ ?_|refine b_ rfl rfl rfl rfl rfl rfl rfl ?_)
   refine aO (aR rfl ?_ ?_)
   ·repeat' (first|exact trivial|rfl|exact abj rfl|omega|apply And.intro)
   ·first|rfl|(simp only [abm,abk,abo,abd]<;>rfl)
  rcases cnd_ hb1 with ⟨q_5,hb1⟩|⟨q_5,hb1⟩
  ·cases hb1
   have hx1:dX (.inr false)=some _:=hk1
   unfold dX at hx1
   dsimp only at hx1
   cases hx1
   repeat' (first|refine gs5_ ?_|refine b_ rfl rfl rfl rfl rfl rfl rfl ?_)
   refine aO (aR rfl ?_ ?_)
   ·repeat' (first|exact trivial|rfl|exact abj rfl|omega|apply And.intro)
   ·first|rfl|(simp only [abm,abk,abo,abd]<;>rfl)
  cases hb1
  repeat' (first|refine gs5_ ?_|refine b_ rfl rfl rfl rfl rfl rfl rfl ?_)
  exact ⟨_,rfl,fm_ bV [] rfl bE trivial⟩
 cases hb1
 have hx1:dX (.inl i_1)=some _:=hk1
 unfold dX at hx1
 dsimp only at hx1
 cases hx1
 repeat' (first|refine gs5_ ?_|refine b_ rfl rfl rfl rfl rfl rfl rfl ?_)
 refine aO (aR rfl ?_ ?_)
 ·repeat' (first|exact trivial|rfl|exact abj rfl|omega|apply And.intro)
 ·first|rfl|(simp only [abm,abk,abo,abd]<;>rfl)
def dW (a_v:Val):Option (Bool):=bif (decide (a_v.kind=(0:Int))) then bif (decide (a_v.int=(0:Int))) then some (a_v.text.toList==(⟨#[]⟩:ByteArray).toList) else
 some false else
 bif (decide (a_v.kind=(1:Int))) then bif (a_v.text.toList==(⟨#[]⟩:ByteArray).toList) then bif (decide ((-1125899906842624:Int)<=a_v.int)) then some (decide (a_v.int<=(1125899906842624:Int))) else
 some false else
 some false else
 bif (decide (a_v.kind=(2:Int))) then bif (decide (a_v.int=(0:Int))) then bif (decide (((a_v.text.size:Nat):Int)<=(200:Int))) then (oh a_v.text).bind fun r_9=>some r_9 else
 some false else
 some false else
 bif (decide (a_v.kind=(3:Int))) then bif (a_v.text.toList==(⟨#[]⟩:ByteArray).toList) then bif (decide (a_v.int=(0:Int))) then some true else
 some (decide (a_v.int=(1:Int))) else
 some false else
 some false
theorem oG {a_v:Val} {r:Bool} (H:dW a_v=some r):Pure Tryz.prog 125 [.agg (cV a_v)] (.val (.one (.bool r))):=by
 unfold dW at H
 refine po_ Tryz.func125 Tryz.ntmps125 ?_
 rcases cnd_ H with ⟨q_1,H⟩|⟨q_1,H⟩
 ·rcases cnd_ H with ⟨q_2,H⟩|⟨q_2,H⟩
  ·cases H
   exact go_
  cases H
  exact go_
 rcases cnd_ H with ⟨q_3,H⟩|⟨q_3,H⟩
 ·rcases cnd_ H with ⟨q_4,H⟩|⟨q_4,H⟩
  ·rcases cnd_ H with ⟨q_5,H⟩|⟨q_5,H⟩
   ·cases H
    exact go_
   cases H
   exact go_
  cases H
  exact go_
 rcases cnd_ H with ⟨q_6,H⟩|⟨q_6,H⟩
 ·rcases cnd_ H with ⟨q_7,H⟩|⟨q_7,H⟩
  ·rcases cnd_ H with ⟨q_8,H⟩|⟨q_8,H⟩
   ·obtain ⟨r_9,c1,H⟩:=bd_ H
    replace c1:=Ij c1
    cases H
    exact go_
   cases H
   exact go_
  cases H
  exact go_
 rcases cnd_ H with ⟨q_10,H⟩|⟨q_10,H⟩
 ·rcases cnd_ H with ⟨q_11,H⟩|⟨q_11,H⟩
  ·rcases cnd_ H with ⟨q_12,H⟩|⟨q_12,H⟩
   ·cases H
    exact go_
   cases H
   exact go_
  cases H
  exact go_
 cases H
 exact go_
def sJ (a_v:Val):Option (Val):=(dW a_v).bind fun r_1=>bif r_1 then some a_v else
 (dJ ).bind fun r_3=>some r_3
theorem Gg {a_v:Val} {r:Val} (H:sJ a_v=some r):Pure Tryz.prog 176 [.agg (cV a_v)] (.val (.agg (cV r))):=by
 unfold sJ at H
 refine po_ Tryz.func176 Tryz.ntmps176 ?_
 obtain ⟨r_1,c1,H⟩:=bd_ H
 replace c1:=oG c1
 rcases cnd_ H with ⟨q_2,H⟩|⟨q_2,H⟩
 ·cases H
  exact go_
 obtain ⟨r_3,c2,H⟩:=bd_ H
 replace c2:=bT c2
 cases H
 exact go_
def lM (a_n:Int):Option (Val):=(sJ (⟨(1:Int),a_n,ByteArray.empty⟩:Val)).bind fun r_1=>some r_1
theorem iK {a_n:Int} {r:Val} (H:lM a_n=some r):Pure Tryz.prog 136 [.one (.int .i64 a_n)] (.val (.agg (cV r))):=by
 unfold lM at H
 refine po_ Tryz.func136 Tryz.ntmps136 ?_
 obtain ⟨r_1,c1,H⟩:=bd_ H
 replace c1:=Gg c1
 cases H
 exact go_
def ME (a_row:(List Val)) (a_i:Int):Option (Val):=bif (decide (a_i<(0:Int))) then (dJ ).bind fun r_2=>some r_2 else
 bif (decide (((a_row.length:Nat):Int)<=a_i)) then (dJ ).bind fun r_4=>some r_4 else
 (aL a_row a_i).bind fun x_5=>some x_5
theorem DN {a_row:(List Val)} {a_i:Int} {r:Val} (H:ME a_row a_i=some r):Pure Tryz.prog 63 [.one (.lst (a_row.map cV)), .one (.int .i64 a_i)] (.val (.agg (cV r))):=by
 unfold ME at H
 refine po_ Tryz.func63 Tryz.ntmps63 ?_
 rcases cnd_ H with ⟨q_1,H⟩|⟨q_1,H⟩
 ·obtain ⟨r_2,c1,H⟩:=bd_ H
  replace c1:=bT c1
  cases H
  exact go_
 rcases cnd_ H with ⟨q_3,H⟩|⟨q_3,H⟩
 ·obtain ⟨r_4,c2,H⟩:=bd_ H
  replace c2:=bT c2
  cases H
  exact go_
 obtain ⟨x_5,i3z,i3,i3x,H⟩:=aX (f:=cV) H
 cases H
 exact go_
def gU (a_a:(List Val)) (a_b:(List Val)):Option (Bool):=(CB a_a a_b).bind fun r_1=>some (decide (r_1=(0:Int)))
theorem oN {a_a:(List Val)} {a_b:(List Val)} {r:Bool} (H:gU a_a a_b=some r):Pure Tryz.prog 61 [.one (.lst (a_a.map cV)), .one (.lst (a_b.map cV))] (.val (.one (.bool r))):=by
 unfold gU at H
 refine po_ Tryz.func61 Tryz.ntmps61 ?_
 obtain ⟨r_1,c1,H⟩:=bd_ H
 replace c1:=Az c1
 cases H
 exact go_
def zn (a_a:(List Val)) (a_b:(List Val)) (a_o:(List Ic)):(Int)->Option (Step (Int) (Bool)):=fun s=>match s with
 | i_1=>bif (decide (i_1<((a_o.length:Nat):Int))) then (aL a_o i_1).bind fun x_3=>(ME a_a x_3.column).bind fun r_4=>(ME a_b x_3.column).bind fun r_5=>(Av r_4 r_5).bind fun r_6=>bif (decide (r_6≠(0:Int))) then some (.ret (!((decide (r_6<(0:Int)))==x_3.desc))) else
 some (.next (IntKind.i64.wrap (i_1+(1:Int)))) else
 some (.exit i_1)
def jD (a_a:(List Val)) (a_b:(List Val)):Sum (Int) (Bool)->Option ((Bool))
 | .inl i_1=>(CB a_a a_b).bind fun r_8=>some (decide (r_8<(0:Int)))
 | .inr q=>some q
def wT (a_a:(List Val)) (a_b:(List Val)) (a_o:(List Ic)):Option (Bool):=(ax (zn a_a a_b a_o) fuel (0:Int)).bind (jD a_a a_b)
theorem Fb {a_a:(List Val)} {a_b:(List Val)} {a_o:(List Ic)} {r:Bool} (H:wT a_a a_b a_o=some r):Pure Tryz.prog 177 [.one (.lst (a_a.map cV)), .one (.lst (a_b.map cV)), .one (.lst (a_o.map E8))] (.val (.one (.bool r))):=by
 unfold wT at H
 refine po_ Tryz.func177 Tryz.ntmps177 ?_
 refine bC ?_
 refine alM_ (fun s:Int=>match s with|i_1=>[(0, .one (.c (.lst (a_a.map cV)))),(1, .one (.c (.lst (a_b.map cV)))),(2, .one (.c (.lst (a_o.map E8)))),(7, .one (.c (.int .i64 i_1)))]) (fun s=>match s with|i_1=>[]) H (fun _=>abv _)
  (fm_ bV [] rfl bE trivial) ?_
 rintro i_1 st1 hb1 hk1
 unfold zn at hb1
 dsimp only at hb1 ⊢
 rcases cnd_ hb1 with ⟨q_2,hb1⟩|⟨q_2,hb1⟩
 ·obtain ⟨x_3,i1z,i1,i1x,hb1⟩:=aX (f:=E8) hb1
  obtain ⟨r_4,c2,hb1⟩:=bd_ hb1
  replace c2:=DN c2
  obtain ⟨r_5,c3,hb1⟩:=bd_ hb1
  replace c3:=DN c3
  obtain ⟨r_6,c4,hb1⟩:=bd_ hb1
  replace c4:=vk c4
  rcases cnd_ hb1 with ⟨q_7,hb1⟩|⟨q_7,hb1⟩
  ·cases hb1
   have hx1:jD a_a a_b (.inr (!((decide (r_6<(0:Int)))==x_3.desc)))=some _:=hk1
   unfold jD at hx1
   dsimp only at hx1
   cases hx1
   exact go_
  cases hb1
  refine bC ?_
  exact ⟨_,rfl,fm_ bV [] rfl bE trivial⟩
 cases hb1
 have hx1:jD a_a a_b (.inl i_1)=some _:=hk1
 unfold jD at hx1
 dsimp only at hx1
 obtain ⟨r_8,c5,hx1⟩:=bd_ hx1
 replace c5:=Az c5
 cases hx1
 exact go_
def eD (a_a:(List (List Val))) (a_b:(List (List Val))) (a_o:(List Ic)):((List (List Val)) × Int × Int)->Option (Step ((List (List Val)) × Int × Int) ((List (List Val)))):=fun s=>match s with
 | (out_1,i_2,k_3)=>bif (decide (i_2<((a_a.length:Nat):Int))) then bif (decide (i_2=((a_a.length:Nat):Int))) then (aL a_b k_3).bind fun x_6=>bif (decide (out_1.length+1<=5864062014805)) then (some (.next ((out_1++[x_6]),i_2,(IntKind.i64.wrap (k_3+(1:Int)))))) else none else
 bif (decide (k_3<((a_b.length:Nat):Int))) then (aL a_b k_3).bind fun x_8=>(aL a_a i_2).bind fun x_9=>(wT x_8 x_9 a_o).bind fun r_10=>bif r_10 then bif (decide (out_1.length+1<=5864062014805)) then (some (.next ((out_1++[x_8]),i_2,(IntKind.i64.wrap (k_3+(1:Int)))))) else none else
 bif (decide (out_1.length+1<=5864062014805)) then (some (.next ((out_1++[x_9]),(IntKind.i64.wrap (i_2+(1:Int))),k_3))) else none else
 (aL a_a i_2).bind fun x_12=>bif (decide (out_1.length+1<=5864062014805)) then (some (.next ((out_1++[x_12]),(IntKind.i64.wrap (i_2+(1:Int))),k_3))) else none else
 bif (decide (k_3<((a_b.length:Nat):Int))) then bif (decide (i_2=((a_a.length:Nat):Int))) then (aL a_b k_3).bind fun x_15=>bif (decide (out_1.length+1<=5864062014805)) then (some (.next ((out_1++[x_15]),i_2,(IntKind.i64.wrap (k_3+(1:Int)))))) else none else
 (aL a_b k_3).bind fun x_16=>(aL a_a i_2).bind fun x_17=>(wT x_16 x_17 a_o).bind fun r_18=>bif r_18 then bif (decide (out_1.length+1<=5864062014805)) then (some (.next ((out_1++[x_16]),i_2,(IntKind.i64.wrap (k_3+(1:Int)))))) else none else
 bif (decide (out_1.length+1<=5864062014805)) then (some (.next ((out_1++[x_17]),(IntKind.i64.wrap (i_2+(1:Int))),k_3))) else none else
 some (.exit (out_1,i_2,k_3))
def tJ:Sum ((List (List Val)) × Int × Int) ((List (List Val)))->Option (((List (List Val))))
 | .inl (out_1,i_2,k_3)=>some out_1
 | .inr q=>some q
def AL (a_a:(List (List Val))) (a_b:(List (List Val))) (a_o:(List Ic)):Option ((List (List Val))):=(ax (eD a_a a_b a_o) fuel ([],(0:Int),(0:Int))).bind (tJ)
theorem NR {a_a:(List (List Val))} {a_b:(List (List Val))} {a_o:(List Ic)} {r:(List (List Val))} (H:AL a_a a_b a_o=some r):Pure Tryz.prog 137 [.one (.lst (a_a.map (fun x=>[AC.lst (x.map cV)]))), .one (.lst (a_b.map (fun x=>[AC.lst (x.map cV)]))), .one (.lst (a_o.map E8))] (.val (.one (.lst (r.map (fun x=>[AC.lst (x.map cV)]))))):=by
 unfold AL at H
 refine po_ Tryz.func137 Tryz.ntmps137 ?_
 refine bC ?_
 refine dh 7 1 rfl ?_
 refine alM_ (fun s:(List (List Val)) × Int × Int=>match s with|(out_1,i_2,k_3)=>[(0, .one (.c (.lst (a_a.map (fun x=>[AC.lst (x.map cV)]))))),(1, .one (.c (.lst (a_b.map (fun x=>[AC.lst (x.map cV)]))))),(2, .one (.c (.lst (a_o.map E8)))),(7, .one (.own (out_1.map (fun x=>[AC.lst (x.map cV)])) 0)),(8, .one (.c (.int .i64 i_2))),(9, .one (.c (.int .i64 k_3)))]) (fun s=>match s with|(out_1,i_2,k_3)=>[.spare out_1.length 1]) H (fun _=>abv _)
  (fm_ bV [] rfl bE dw) ?_
 rintro ⟨out_1,i_2,k_3⟩ st1 hb1 hk1
 unfold eD at hb1
 dsimp only at hb1 ⊢
 rcases cnd_ hb1 with ⟨q_4,hb1⟩|⟨q_4,hb1⟩
 ·rcases cnd_ hb1 with ⟨q_5,hb1⟩|⟨q_5,hb1⟩
  ·obtain ⟨x_6,i1z,i1,i1x,hb1⟩:=aX (f:=(fun x=>[AC.lst (x.map cV)])) hb1
   obtain ⟨g2,hb1⟩:=aK hb1
   cases hb1
   refine bC ?_
   exact ⟨_,rfl,fm_ o8 [] kJ bE dw⟩
  rcases cnd_ hb1 with ⟨q_7,hb1⟩|⟨q_7,hb1⟩
  ·obtain ⟨x_8,i3z,i3,i3x,hb1⟩:=aX (f:=(fun x=>[AC.lst (x.map cV)])) hb1
   obtain ⟨x_9,i4z,i4,i4x,hb1⟩:=aX (f:=(fun x=>[AC.lst (x.map cV)])) hb1
   obtain ⟨r_10,c5,hb1⟩:=bd_ hb1
   replace c5:=Fb c5
   rcases cnd_ hb1 with ⟨q_11,hb1⟩|⟨q_11,hb1⟩
   ·obtain ⟨g6,hb1⟩:=aK hb1
    cases hb1
    refine bC ?_
    exact ⟨_,rfl,fm_ o8 [] kJ bE dw⟩
   obtain ⟨g7,hb1⟩:=aK hb1
   cases hb1
   refine bC ?_
   exact ⟨_,rfl,fm_ o8 [] kJ bE dw⟩
  obtain ⟨x_12,i8z,i8,i8x,hb1⟩:=aX (f:=(fun x=>[AC.lst (x.map cV)])) hb1
  obtain ⟨g9,hb1⟩:=aK hb1
  cases hb1
  refine bC ?_
  exact ⟨_,rfl,fm_ o8 [] kJ bE dw⟩
 rcases cnd_ hb1 with ⟨q_13,hb1⟩|⟨q_13,hb1⟩
 ·rcases cnd_ hb1 with ⟨q_14,hb1⟩|⟨q_14,hb1⟩
  ·obtain ⟨x_15,i10z,i10,i10x,hb1⟩:=aX (f:=(fun x=>[AC.lst (x.map cV)])) hb1
   obtain ⟨g11,hb1⟩:=aK hb1
   cases hb1
   refine bC ?_
   exact ⟨_,rfl,fm_ o8 [] kJ bE dw⟩
  obtain ⟨x_16,i12z,i12,i12x,hb1⟩:=aX (f:=(fun x=>[AC.lst (x.map cV)])) hb1
  obtain ⟨x_17,i13z,i13,i13x,hb1⟩:=aX (f:=(fun x=>[AC.lst (x.map cV)])) hb1
  obtain ⟨r_18,c14,hb1⟩:=bd_ hb1
  replace c14:=Fb c14
  rcases cnd_ hb1 with ⟨q_19,hb1⟩|⟨q_19,hb1⟩
  ·obtain ⟨g15,hb1⟩:=aK hb1
   cases hb1
   refine bC ?_
   exact ⟨_,rfl,fm_ o8 [] kJ bE dw⟩
  obtain ⟨g16,hb1⟩:=aK hb1
  cases hb1
  refine bC ?_
  exact ⟨_,rfl,fm_ o8 [] kJ bE dw⟩
 cases hb1
 have hx1:tJ (.inl (out_1,i_2,k_3))=some _:=hk1
 unfold tJ at hx1
 dsimp only at hx1
 cases hx1
 exact go_
def iP (a_row:(List Val)) (a_kinds:(List Int)):(Int)->Option (Step (Int) (Bool)):=fun s=>match s with
 | i_2=>bif (decide (i_2<((a_row.length:Nat):Int))) then (aL a_row i_2).bind fun x_4=>(dW x_4).bind fun r_5=>bif (!r_5) then some (.ret false) else
 bif (decide (x_4.kind≠(0:Int))) then (aL a_kinds i_2).bind fun x_8=>bif (decide (x_4.kind≠x_8)) then some (.ret false) else
 some (.next (IntKind.i64.wrap (i_2+(1:Int)))) else
 some (.next (IntKind.i64.wrap (i_2+(1:Int)))) else
 some (.exit i_2)
def jW:Sum (Int) (Bool)->Option ((Bool))
 | .inl i_2=>some true
 | .inr q=>some q
def vW (a_row:(List Val)) (a_kinds:(List Int)):Option (Bool):=bif (decide (((a_row.length:Nat):Int)≠((a_kinds.length:Nat):Int))) then some false else
 (ax (iP a_row a_kinds) fuel (0:Int)).bind (jW)
theorem Rl {a_row:(List Val)} {a_kinds:(List Int)} {r:Bool} (H:vW a_row a_kinds=some r):Pure Tryz.prog 86 [.one (.lst (a_row.map cV)), .one (.lst (a_kinds.map (fun x=>[AC.int .i64 x])))] (.val (.one (.bool r))):=by
 unfold vW at H
 refine po_ Tryz.func86 Tryz.ntmps86 ?_
 rcases cnd_ H with ⟨q_1,H⟩|⟨q_1,H⟩
 ·cases H
  exact go_
 refine bC ?_
 refine alM_ (fun s:Int=>match s with|i_2=>[(0, .one (.c (.lst (a_row.map cV)))),(1, .one (.c (.lst (a_kinds.map (fun x=>[AC.int .i64 x]))))),(5, .one (.c (.int .i64 i_2)))]) (fun s=>match s with|i_2=>[]) H (fun _=>abv _)
  (fm_ bV [] rfl bE trivial) ?_
 rintro i_2 st1 hb1 hk1
 unfold iP at hb1
 dsimp only at hb1 ⊢
 rcases cnd_ hb1 with ⟨q_3,hb1⟩|⟨q_3,hb1⟩
 ·obtain ⟨x_4,i1z,i1,i1x,hb1⟩:=aX (f:=cV) hb1
  obtain ⟨r_5,c2,hb1⟩:=bd_ hb1
  replace c2:=oG c2
  rcases cnd_ hb1 with ⟨q_6,hb1⟩|⟨q_6,hb1⟩
  ·cases hb1
   have hx1:jW (.inr false)=some _:=hk1
   unfold jW at hx1
   dsimp only at hx1
   cases hx1
   exact go_
  rcases cnd_ hb1 with ⟨q_7,hb1⟩|⟨q_7,hb1⟩
  ·obtain ⟨x_8,i3z,i3,i3x,hb1⟩:=aX (f:=(fun x=>[AC.int .i64 x])) hb1
   rcases cnd_ hb1 with ⟨q_9,hb1⟩|⟨q_9,hb1⟩
   ·cases hb1
    have hx1:jW (.inr false)=some _:=hk1
    unfold jW at hx1
    dsimp only at hx1
    cases hx1
    exact go_
   cases hb1
   refine bC ?_
   exact ⟨_,rfl,fm_ bV [] rfl bE trivial⟩
  cases hb1
  refine bC ?_
  exact ⟨_,rfl,fm_ bV [] rfl bE trivial⟩
 cases hb1
 have hx1:jW (.inl i_2)=some _:=hk1
 unfold jW at hx1
 dsimp only at hx1
 cases hx1
 exact go_
def Dr (a_k:Int):Option (Bool):=bif (decide (a_k=(1:Int))) then some true else
 bif (decide (a_k=(2:Int))) then some true else
 some (decide (a_k=(3:Int)))
theorem Uk {a_k:Int} {r:Bool} (H:Dr a_k=some r):Pure Tryz.prog 126 [.one (.int .i64 a_k)] (.val (.one (.bool r))):=by
 unfold Dr at H
 refine po_ Tryz.func126 Tryz.ntmps126 ?_
 rcases cnd_ H with ⟨q_1,H⟩|⟨q_1,H⟩
 ·cases H
  exact go_
 rcases cnd_ H with ⟨q_2,H⟩|⟨q_2,H⟩
 ·cases H
  exact go_
 cases H
 exact go_
def qC (a_l:(List Int)):(Int)->Option (Step (Int) (Bool)):=fun s=>match s with
 | i_1=>bif (decide (i_1<((a_l.length:Nat):Int))) then (aL a_l i_1).bind fun x_3=>(Dr x_3).bind fun r_4=>bif (!r_4) then some (.ret false) else
 some (.next (IntKind.i64.wrap (i_1+(1:Int)))) else
 some (.exit i_1)
def qx:Sum (Int) (Bool)->Option ((Bool))
 | .inl i_1=>some true
 | .inr q=>some q
def Ej (a_l:(List Int)):Option (Bool):=(ax (qC a_l) fuel (0:Int)).bind (qx)
theorem Rt {a_l:(List Int)} {r:Bool} (H:Ej a_l=some r):Pure Tryz.prog 87 [.one (.lst (a_l.map (fun x=>[AC.int .i64 x])))] (.val (.one (.bool r))):=by
 unfold Ej at H
 refine po_ Tryz.func87 Tryz.ntmps87 ?_
 refine bC ?_
 refine alM_ (fun s:Int=>match s with|i_1=>[(0, .one (.c (.lst (a_l.map (fun x=>[AC.int .i64 x]))))),(3, .one (.c (.int .i64 i_1)))]) (fun s=>match s with|i_1=>[]) H (fun _=>abv _)
  (fm_ bV [] rfl bE trivial) ?_
 rintro i_1 st1 hb1 hk1
 unfold qC at hb1
 dsimp only at hb1 ⊢
 rcases cnd_ hb1 with ⟨q_2,hb1⟩|⟨q_2,hb1⟩
 ·obtain ⟨x_3,i1z,i1,i1x,hb1⟩:=aX (f:=(fun x=>[AC.int .i64 x])) hb1
  obtain ⟨r_4,c2,hb1⟩:=bd_ hb1
  replace c2:=Uk c2
  rcases cnd_ hb1 with ⟨q_5,hb1⟩|⟨q_5,hb1⟩
  ·cases hb1
   have hx1:qx (.inr false)=some _:=hk1
   unfold qx at hx1
   dsimp only at hx1
   cases hx1
   exact go_
  cases hb1
  refine bC ?_
  exact ⟨_,rfl,fm_ bV [] rfl bE trivial⟩
 cases hb1
 have hx1:qx (.inl i_1)=some _:=hk1
 unfold qx at hx1
 dsimp only at hx1
 cases hx1
 exact go_
def dH (a_a:(List Int)) (a_b:(List Int)):(Int)->Option (Step (Int) (Bool)):=fun s=>match s with
 | i_2=>bif (decide (i_2<((a_a.length:Nat):Int))) then (aL a_a i_2).bind fun x_4=>(aL a_b i_2).bind fun x_5=>bif (decide (x_4≠x_5)) then some (.ret false) else
 some (.next (IntKind.i64.wrap (i_2+(1:Int)))) else
 some (.exit i_2)
def ig:Sum (Int) (Bool)->Option ((Bool))
 | .inl i_2=>some true
 | .inr q=>some q
def gN (a_a:(List Int)) (a_b:(List Int)):Option (Bool):=bif (decide (((a_a.length:Nat):Int)≠((a_b.length:Nat):Int))) then some false else
 (ax (dH a_a a_b) fuel (0:Int)).bind (ig)
theorem qw {a_a:(List Int)} {a_b:(List Int)} {r:Bool} (H:gN a_a a_b=some r):Pure Tryz.prog 14 [.one (.lst (a_a.map (fun x=>[AC.int .i64 x]))), .one (.lst (a_b.map (fun x=>[AC.int .i64 x])))] (.val (.one (.bool r))):=by
 unfold gN at H
 refine po_ Tryz.func14 Tryz.ntmps14 ?_
 rcases cnd_ H with ⟨q_1,H⟩|⟨q_1,H⟩
 ·cases H
  exact go_
 refine bC ?_
 refine alM_ (fun s:Int=>match s with|i_2=>[(0, .one (.c (.lst (a_a.map (fun x=>[AC.int .i64 x]))))),(1, .one (.c (.lst (a_b.map (fun x=>[AC.int .i64 x]))))),(5, .one (.c (.int .i64 i_2)))]) (fun s=>match s with|i_2=>[]) H (fun _=>abv _)
  (fm_ bV [] rfl bE trivial) ?_
 rintro i_2 st1 hb1 hk1
 unfold dH at hb1
 dsimp only at hb1 ⊢
 rcases cnd_ hb1 with ⟨q_3,hb1⟩|⟨q_3,hb1⟩
 ·obtain ⟨x_4,i1z,i1,i1x,hb1⟩:=aX (f:=(fun x=>[AC.int .i64 x])) hb1
  obtain ⟨x_5,i2z,i2,i2x,hb1⟩:=aX (f:=(fun x=>[AC.int .i64 x])) hb1
  rcases cnd_ hb1 with ⟨q_6,hb1⟩|⟨q_6,hb1⟩
  ·cases hb1
   have hx1:ig (.inr false)=some _:=hk1
   unfold ig at hx1
   dsimp only at hx1
   cases hx1
   exact go_
  cases hb1
  refine bC ?_
  exact ⟨_,rfl,fm_ bV [] rfl bE trivial⟩
 cases hb1
 have hx1:ig (.inl i_2)=some _:=hk1
 unfold ig at hx1
 dsimp only at hx1
 cases hx1
 exact go_
def iX (a_a:(List (List Val))) (a_b:(List (List Val))):(Int)->Option (Step (Int) (Bool)):=fun s=>match s with
 | i_2=>bif (decide (i_2<((a_a.length:Nat):Int))) then (aL a_a i_2).bind fun x_4=>(aL a_b i_2).bind fun x_5=>(gU x_4 x_5).bind fun r_6=>bif (!r_6) then some (.ret false) else
 some (.next (IntKind.i64.wrap (i_2+(1:Int)))) else
 some (.exit i_2)
def j6:Sum (Int) (Bool)->Option ((Bool))
 | .inl i_2=>some true
 | .inr q=>some q
def jS (a_a:(List (List Val))) (a_b:(List (List Val))):Option (Bool):=bif (decide (((a_a.length:Nat):Int)≠((a_b.length:Nat):Int))) then some false else
 (ax (iX a_a a_b) fuel (0:Int)).bind (j6)
theorem Bb {a_a:(List (List Val))} {a_b:(List (List Val))} {r:Bool} (H:jS a_a a_b=some r):Pure Tryz.prog 21 [.one (.lst (a_a.map (fun x=>[AC.lst (x.map cV)]))), .one (.lst (a_b.map (fun x=>[AC.lst (x.map cV)])))] (.val (.one (.bool r))):=by
 unfold jS at H
 refine po_ Tryz.func21 Tryz.ntmps21 ?_
 rcases cnd_ H with ⟨q_1,H⟩|⟨q_1,H⟩
 ·cases H
  exact go_
 refine bC ?_
 refine alM_ (fun s:Int=>match s with|i_2=>[(0, .one (.c (.lst (a_a.map (fun x=>[AC.lst (x.map cV)]))))),(1, .one (.c (.lst (a_b.map (fun x=>[AC.lst (x.map cV)]))))),(5, .one (.c (.int .i64 i_2)))]) (fun s=>match s with|i_2=>[]) H (fun _=>abv _)
  (fm_ bV [] rfl bE trivial) ?_
 rintro i_2 st1 hb1 hk1
 unfold iX at hb1
 dsimp only at hb1 ⊢
 rcases cnd_ hb1 with ⟨q_3,hb1⟩|⟨q_3,hb1⟩
 ·obtain ⟨x_4,i1z,i1,i1x,hb1⟩:=aX (f:=(fun x=>[AC.lst (x.map cV)])) hb1
  obtain ⟨x_5,i2z,i2,i2x,hb1⟩:=aX (f:=(fun x=>[AC.lst (x.map cV)])) hb1
  obtain ⟨r_6,c3,hb1⟩:=bd_ hb1
  replace c3:=oN c3
  rcases cnd_ hb1 with ⟨q_7,hb1⟩|⟨q_7,hb1⟩
  ·cases hb1
   have hx1:j6 (.inr false)=some _:=hk1
   unfold j6 at hx1
   dsimp only at hx1
   cases hx1
   exact go_
  cases hb1
  refine bC ?_
  exact ⟨_,rfl,fm_ bV [] rfl bE trivial⟩
 cases hb1
 have hx1:j6 (.inl i_2)=some _:=hk1
 unfold j6 at hx1
 dsimp only at hx1
 cases hx1
 exact go_
def gExactly (a_a:Bag) (a_b:Bag):Option (Bool):=(gN a_a.kinds a_b.kinds).bind fun r_1=>bif r_1 then (jS a_a.rows a_b.rows).bind fun r_3=>some r_3 else
 some false
theorem gExactly_ok {a_a:Bag} {a_b:Bag} {r:Bool} (H:gExactly a_a a_b=some r):Pure Tryz.prog 17 [.agg (cBag a_a), .agg (cBag a_b)] (.val (.one (.bool r))):=by
 unfold gExactly at H
 refine po_ Tryz.func17 Tryz.ntmps17 ?_
 obtain ⟨r_1,c1,H⟩:=bd_ H
 replace c1:=qw c1
 rcases cnd_ H with ⟨q_2,H⟩|⟨q_2,H⟩
 ·obtain ⟨r_3,c2,H⟩:=bd_ H
  replace c2:=Bb c2
  cases H
  exact go_
 cases H
 exact go_
set_option maxHeartbeats 8000000
def xK (a_p:iQ):Option (Bool):=bif (decide ((0:Int)<=a_p.lo)) then bif (decide (a_p.lo<a_p.hi)) then some (decide (a_p.hi<=(1099511627776:Int))) else
 some false else
 some false
theorem EC {a_p:iQ} {r:Bool} (H:xK a_p=some r):Pure Tryz.prog 210 [.agg (yK a_p)] (.val (.one (.bool r))):=by
 unfold xK at H
 refine po_ Tryz.func210 Tryz.ntmps210 ?_
 rcases cnd_ H with ⟨q_1,H⟩|⟨q_1,H⟩
 ·rcases cnd_ H with ⟨q_2,H⟩|⟨q_2,H⟩
  ·cases H
   exact go_
  cases H
  exact go_
 cases H
 exact go_
end Go.Proofs.YtfpbmfalamappaaGreatDoor
