/- Parts of the proof, joined. No condition. -/
import Derived.Test.YtfccopdbgfdcdaaGreatDoorKAA
import Derived.Test.YtfccopdbgfdcdaaGreatDoorKAM
set_option linter.unusedSimpArgs false
set_option linter.unusedVariables false
namespace Go.Proofs.YtfccopdbgfdcdaaGreatDoor
open Go.RowKit Go.MapKept
set_option maxRecDepth 100000
set_option maxHeartbeats 8000000
def mG (a_op:Int) (a_a:Val) (a_b:Val):Option (Int):=bif (decide (a_op=(7:Int))) then (U9 a_a a_b).bind fun r_2=>some r_2 else
 bif (decide (a_op=(8:Int))) then (U9 a_a a_b).bind fun r_4=>(JJ r_4).bind fun r_5=>some r_5 else
 bif (decide (a_op=(9:Int))) then (wR a_a a_b).bind fun r_7=>some r_7 else
 bif (decide (a_op=(11:Int))) then (wR a_b a_a).bind fun r_9=>some r_9 else
 bif (decide (a_op=(10:Int))) then (wR a_b a_a).bind fun r_11=>(JJ r_11).bind fun r_12=>some r_12 else
 (wR a_a a_b).bind fun r_13=>(JJ r_13).bind fun r_14=>some r_14
theorem GX {a_op:Int} {a_a:Val} {a_b:Val} {r:Int} (H:mG a_op a_a a_b=some r):Pure Tryz.prog 87 [.one (.int .i64 a_op), .agg (cV a_a), .agg (cV a_b)] (.val (.one (.int .i64 r))):=by
 unfold mG at H
 refine po_ Tryz.func87 Tryz.ntmps87 ?_
 rcases aa H with ⟨q_1,H⟩|⟨q_1,H⟩
 ·obtain ⟨r_2,c1,H⟩:=bd_ H
  replace c1:=TL c1
  cases H
  exact af
 rcases aa H with ⟨q_3,H⟩|⟨q_3,H⟩
 ·obtain ⟨r_4,c2,H⟩:=bd_ H
  replace c2:=TL c2
  obtain ⟨r_5,c3,H⟩:=bd_ H
  replace c3:=vV c3
  cases H
  exact af
 refine bv ?_
 rcases aa H with ⟨q_6,H⟩|⟨q_6,H⟩
 ·obtain ⟨r_7,c4,H⟩:=bd_ H
  replace c4:=yR c4
  cases H
  exact af
 rcases aa H with ⟨q_8,H⟩|⟨q_8,H⟩
 ·obtain ⟨r_9,c5,H⟩:=bd_ H
  replace c5:=yR c5
  cases H
  exact af
 rcases aa H with ⟨q_10,H⟩|⟨q_10,H⟩
 ·obtain ⟨r_11,c6,H⟩:=bd_ H
  replace c6:=yR c6
  obtain ⟨r_12,c7,H⟩:=bd_ H
  replace c7:=vV c7
  cases H
  exact af
 obtain ⟨r_13,c8,H⟩:=bd_ H
 replace c8:=yR c8
 obtain ⟨r_14,c9,H⟩:=bd_ H
 replace c9:=vV c9
 cases H
 exact af
def yP (a_l:(List Val)):(Int × ByteArray × Int)->Option (Step (Int × ByteArray × Int) (Val)):=fun s=>match s with
 | (n_1,s_2,v_3)=>bif (decide (v_3<((a_l.length:Nat):Int))) then (aA a_l v_3).bind fun x_5=>bif (decide (x_5.kind≠(2:Int))) then (ma ).bind fun r_7=>some (.ret r_7) else
 bif (decide (s_2.size+x_5.text.size<=9223372036854775807)) then (some (.next ((IntKind.i64.wrap (n_1+((x_5.text.size:Nat):Int))),(s_2++x_5.text),(IntKind.i64.wrap (v_3+(1:Int)))))) else none else
 some (.exit (n_1,s_2,v_3))
def n_ (a_op:Int):Sum (Int × ByteArray × Int) (Val)->Option ((Val))
 | .inl (n_1,s_2,v_3)=>bif (decide (a_op=(20:Int))) then (qi n_1).bind fun r_9=>some r_9 else
 (C_ s_2).bind fun r_10=>some r_10
 | .inr q=>some q
def yb (a_op:Int) (a_l:(List Val)):Option (Val):=(az (yP a_l) fuel ((0:Int),(⟨#[]⟩:ByteArray),(0:Int))).bind (n_ a_op)
theorem KM {a_op:Int} {a_l:(List Val)} {r:Val} (H:yb a_op a_l=some r):Pure Tryz.prog 84 [.one (.int .i64 a_op), .one (.lst (a_l.map cV))] (.val (.agg (cV r))):=by
 unfold yb at H
 refine po_ Tryz.func84 Tryz.ntmps84 ?_
 refine bv ?_
 refine alM_ (fun s:Int × ByteArray × Int=>match s with|(n_1,s_2,v_3)=>[(0, .one (.c (.int .i64 a_op))),(4, .one (.ptr 0 0)),(5, .one (.c (.int .i64 n_1))),(6, .one (.c (.str s_2))),(9, .one (.c (.lst (a_l.map cV)))),(10, .one (.c (.int .i64 ((a_l.length:Nat):Int)))),(11, .one (.c (.int .i64 v_3)))]) (fun s=>match s with|(n_1,s_2,v_3)=>[.box [.c (.int .i64 (0:Int)), .c (.int .i64 (0:Int)), .c (.str ByteArray.empty)]]) H (fun _=>ad4 _)
  (fm_ dL [] rfl bL cZ) ?_
 rintro ⟨n_1,s_2,v_3⟩ st1 hb1 hk1
 unfold yP at hb1
 dsimp only at hb1 ⊢
 rcases aa hb1 with ⟨q_4,hb1⟩|⟨q_4,hb1⟩
 ·obtain ⟨x_5,i1z,i1,i1x,hb1⟩:=aR (f:=cV) hb1
  rcases aa hb1 with ⟨q_6,hb1⟩|⟨q_6,hb1⟩
  ·obtain ⟨r_7,c2,hb1⟩:=bd_ hb1
   replace c2:=fG c2
   cases hb1
   have hx1:n_ a_op (.inr r_7)=some _:=hk1
   unfold n_ at hx1
   dsimp only at hx1
   cases hx1
   exact af
  obtain ⟨g3,hb1⟩:=bu hb1
  cases hb1
  refine bv ?_
  exact ⟨_,rfl,fm_ dL [_] rfl bL cZ⟩
 cases hb1
 have hx1:n_ a_op (.inl (n_1,s_2,v_3))=some _:=hk1
 unfold n_ at hx1
 dsimp only at hx1
 rcases aa hx1 with ⟨q_8,hx1⟩|⟨q_8,hx1⟩
 ·obtain ⟨r_9,c4,hx1⟩:=bd_ hx1
  replace c4:=mR c4
  cases hx1
  exact af
 obtain ⟨r_10,c5,hx1⟩:=bd_ hx1
 replace c5:=VP c5
 cases hx1
 exact af
def yg (a_a:Int) (a_b:Int):Option (Val):=bif (decide (a_a≠(0:Int))) then bif (decide ((zg a_a (IntKind.i64.wrap (0-a_a)))≠0)) then (bif (decide ((IntKind.i64.wrap ((1125899906842624:Int).tdiv (zg a_a (IntKind.i64.wrap (0-a_a)))))<(zg a_b (IntKind.i64.wrap (0-a_b))))) then (ma ).bind fun r_3=>some r_3 else
 (qi (IntKind.i64.wrap (a_a*a_b))).bind fun r_4=>some r_4) else none else
 (qi (IntKind.i64.wrap (a_a*a_b))).bind fun r_5=>some r_5
theorem Oz {a_a:Int} {a_b:Int} {r:Val} (H:yg a_a a_b=some r):Pure Tryz.prog 132 [.one (.int .i64 a_a), .one (.int .i64 a_b)] (.val (.agg (cV r))):=by
 unfold yg at H
 refine po_ Tryz.func132 Tryz.ntmps132 ?_
 rcases aa H with ⟨q_1,H⟩|⟨q_1,H⟩
 ·obtain ⟨g1,H⟩:=bu H
  rcases aa H with ⟨q_2,H⟩|⟨q_2,H⟩
  ·obtain ⟨r_3,c2,H⟩:=bd_ H
   replace c2:=fG c2
   cases H
   exact af
  obtain ⟨r_4,c3,H⟩:=bd_ H
  replace c3:=mR c3
  cases H
  exact af
 obtain ⟨r_5,c4,H⟩:=bd_ H
 replace c4:=mR c4
 cases H
 exact af
set_option maxHeartbeats 8000000
def tZ (a_l:(List Val)):(Int)->Option (Step (Int) (Val)):=fun s=>match s with
 | v_1=>bif (decide (v_1<((a_l.length:Nat):Int))) then (aA a_l v_1).bind fun x_3=>bif (decide (x_3.kind≠(1:Int))) then (ma ).bind fun r_5=>some (.ret r_5) else
 some (.next (IntKind.i64.wrap (v_1+(1:Int)))) else
 some (.exit v_1)
def oH (a_op:Int) (a_l:(List Val)):Sum (Int) (Val)->Option ((Val))
 | .inl v_1=>(aA a_l (0:Int)).bind fun x_6=>(aA a_l (IntKind.i64.wrap (((a_l.length:Nat):Int)-(1:Int)))).bind fun x_7=>bif (decide (a_op=(13:Int))) then (qi (IntKind.i64.wrap (x_6.int+x_7.int))).bind fun r_9=>some r_9 else
 bif (decide (a_op=(14:Int))) then (qi (IntKind.i64.wrap (x_6.int-x_7.int))).bind fun r_11=>some r_11 else
 bif (decide (a_op=(15:Int))) then (yg x_6.int x_7.int).bind fun r_13=>some r_13 else
 bif (decide (a_op=(18:Int))) then (qi (IntKind.i64.wrap (0-x_6.int))).bind fun r_15=>some r_15 else
 bif (decide (x_7.int=(0:Int))) then (ma ).bind fun r_17=>some r_17 else
 bif (decide (a_op=(16:Int))) then bif (decide (x_7.int≠0)) then ((qi (IntKind.i64.wrap (x_6.int.tdiv x_7.int))).bind fun r_19=>some r_19) else none else
 bif (decide (x_7.int≠0)) then ((qi (x_6.int.tmod x_7.int)).bind fun r_20=>some r_20) else none
 | .inr q=>some q
def mY (a_op:Int) (a_l:(List Val)):Option (Val):=(az (tZ a_l) fuel (0:Int)).bind (oH a_op a_l)
theorem oq {a_op:Int} {a_l:(List Val)} {r:Val} (H:mY a_op a_l=some r):Pure Tryz.prog 85 [.one (.int .i64 a_op), .one (.lst (a_l.map cV))] (.val (.agg (cV r))):=by
 unfold mY at H
 refine po_ Tryz.func85 Tryz.ntmps85 ?_
 refine bv ?_
 refine alM_ (fun s:Int=>match s with|v_1=>[(0, .one (.c (.int .i64 a_op))),(1, .one (.c (.lst (a_l.map cV)))),(4, .one (.ptr 0 0)),(9, .one (.c (.lst (a_l.map cV)))),(10, .one (.c (.int .i64 ((a_l.length:Nat):Int)))),(11, .one (.c (.int .i64 v_1)))]) (fun s=>match s with|v_1=>[.box [.c (.int .i64 (0:Int)), .c (.int .i64 (0:Int)), .c (.str ByteArray.empty)]]) H (fun _=>ad4 _)
  (fm_ dL [] rfl bL cZ) ?_
 rintro v_1 st1 hb1 hk1
 unfold tZ at hb1
 dsimp only at hb1 ⊢
 rcases aa hb1 with ⟨q_2,hb1⟩|⟨q_2,hb1⟩
 ·obtain ⟨x_3,i1z,i1,i1x,hb1⟩:=aR (f:=cV) hb1
  rcases aa hb1 with ⟨q_4,hb1⟩|⟨q_4,hb1⟩
  ·obtain ⟨r_5,c2,hb1⟩:=bd_ hb1
   replace c2:=fG c2
   cases hb1
   have hx1:oH a_op a_l (.inr r_5)=some _:=hk1
   unfold oH at hx1
   dsimp only at hx1
   cases hx1
   exact af
  cases hb1
  refine bv ?_
  exact ⟨_,rfl,fm_ dL [_] rfl bL cZ⟩
 cases hb1
 have hx1:oH a_op a_l (.inl v_1)=some _:=hk1
 unfold oH at hx1
 dsimp only at hx1
 obtain ⟨x_6,i3z,i3,i3x,hx1⟩:=aR (f:=cV) hx1
 obtain ⟨x_7,i4z,i4,i4x,hx1⟩:=aR (f:=cV) hx1
 rcases aa hx1 with ⟨q_8,hx1⟩|⟨q_8,hx1⟩
 ·obtain ⟨r_9,c5,hx1⟩:=bd_ hx1
  replace c5:=mR c5
  cases hx1
  exact af
 refine bv ?_
 rcases aa hx1 with ⟨q_10,hx1⟩|⟨q_10,hx1⟩
 ·obtain ⟨r_11,c6,hx1⟩:=bd_ hx1
  replace c6:=mR c6
  cases hx1
  exact af
 rcases aa hx1 with ⟨q_12,hx1⟩|⟨q_12,hx1⟩
 ·obtain ⟨r_13,c7,hx1⟩:=bd_ hx1
  replace c7:=Oz c7
  cases hx1
  exact af
 rcases aa hx1 with ⟨q_14,hx1⟩|⟨q_14,hx1⟩
 ·obtain ⟨r_15,c8,hx1⟩:=bd_ hx1
  replace c8:=mR c8
  cases hx1
  exact af
 refine bv ?_
 rcases aa hx1 with ⟨q_16,hx1⟩|⟨q_16,hx1⟩
 ·obtain ⟨r_17,c9,hx1⟩:=bd_ hx1
  replace c9:=fG c9
  cases hx1
  exact af
 rcases aa hx1 with ⟨q_18,hx1⟩|⟨q_18,hx1⟩
 ·obtain ⟨g10,hx1⟩:=bu hx1
  obtain ⟨r_19,c11,hx1⟩:=bd_ hx1
  replace c11:=mR c11
  cases hx1
  exact af
 obtain ⟨g12,hx1⟩:=bu hx1
 obtain ⟨r_20,c13,hx1⟩:=bd_ hx1
 replace c13:=mR c13
 cases hx1
 exact af
set_option maxHeartbeats 8000000
def yI (s_7:(List Val)):(Int × Int)->Option (Step (Int × Int) (Val)):=fun s=>match s with
 | (t_8,v_9)=>bif (decide (v_9<((s_7.length:Nat):Int))) then (aA s_7 v_9).bind fun x_11=>(lY x_11).bind fun r_12=>(QS t_8 r_12).bind fun r_13=>some (.next (r_13,(IntKind.i64.wrap (v_9+(1:Int))))) else
 some (.exit (t_8,v_9))
def Dw:Sum (Int × Int) (Val)->Option ((Val))
 | .inl (t_8,v_9)=>(Cf t_8).bind fun r_14=>some r_14
 | .inr q=>some q
def yV (s_15:(List Val)):(Int × Int)->Option (Step (Int × Int) (Val)):=fun s=>match s with
 | (t_16,v_17)=>bif (decide (v_17<((s_15.length:Nat):Int))) then (aA s_15 v_17).bind fun x_19=>(lY x_19).bind fun r_20=>(IM t_16 r_20).bind fun r_21=>some (.next (r_21,(IntKind.i64.wrap (v_17+(1:Int))))) else
 some (.exit (t_16,v_17))
def DD:Sum (Int × Int) (Val)->Option ((Val))
 | .inl (t_16,v_17)=>(Cf t_16).bind fun r_22=>some r_22
 | .inr q=>some q
def o9 (a_op:Int) (a_l:(List Val)):Option (Val):=(aA a_l (0:Int)).bind fun x_1=>(lY x_1).bind fun r_2=>bif (decide (a_op=(4:Int))) then (JJ r_2).bind fun r_4=>(Cf r_4).bind fun r_5=>some r_5 else
 bif (decide (a_op=(5:Int))) then (jI a_l (1:Int) ((a_l.length:Nat):Int)).bind fun s_7=>(az (yI s_7) fuel (r_2,(0:Int))).bind (Dw) else
 (jI a_l (1:Int) ((a_l.length:Nat):Int)).bind fun s_15=>(az (yV s_15) fuel (r_2,(0:Int))).bind (DD)
theorem Ee {a_op:Int} {a_l:(List Val)} {r:Val} (H:o9 a_op a_l=some r):Pure Tryz.prog 81 [.one (.int .i64 a_op), .one (.lst (a_l.map cV))] (.val (.agg (cV r))):=by
 unfold o9 at H
 refine po_ Tryz.func81 Tryz.ntmps81 ?_
 obtain ⟨x_1,i1z,i1,i1x,H⟩:=aR (f:=cV) H
 obtain ⟨r_2,c2,H⟩:=bd_ H
 replace c2:=pJ c2
 rcases aa H with ⟨q_3,H⟩|⟨q_3,H⟩
 ·obtain ⟨r_4,c3,H⟩:=bd_ H
  replace c3:=vV c3
  obtain ⟨r_5,c4,H⟩:=bd_ H
  replace c4:=BC c4
  cases H
  exact af
 rcases aa H with ⟨q_6,H⟩|⟨q_6,H⟩
 ·obtain ⟨s_7,u5,H⟩:=bd_ H
  obtain ⟨⟨u5a,u5b,u5c⟩,u5⟩:=fq u5
  have u5x:=EM (f:=cV) u5
  repeat' (first|refine gs_ ?_|rw [u5x]|rw [show ((0:Nat):Int)=0 from rfl])
  refine alM_ (fun s:Int × Int=>match s with|(t_8,v_9)=>[(4, .one (.ptr 0 0)),(5, .one (.c (.int .i64 t_8))),(35, .one (.c (.lst (s_7.map cV)))),(36, .one (.c (.int .i64 ((s_7.length:Nat):Int)))),(37, .one (.c (.int .i64 v_9)))]) (fun s=>match s with|(t_8,v_9)=>[.box [.c (.int .i64 (0:Int)), .c (.int .i64 (0:Int)), .c (.str ByteArray.empty)]]) H (fun _=>ad4 _)
   (fm_ dL [] rfl bL cZ) ?_
  rintro ⟨t_8,v_9⟩ st1 hb1 hk1
  unfold yI at hb1
  dsimp only at hb1 ⊢
  repeat' (first|refine gs_ ?_|rw [u5x]|rw [show ((0:Nat):Int)=0 from rfl])
  rcases aa hb1 with ⟨q_10,hb1⟩|⟨q_10,hb1⟩
  ·obtain ⟨x_11,i6z,i6,i6x,hb1⟩:=aR (f:=cV) hb1
   obtain ⟨r_12,c7,hb1⟩:=bd_ hb1
   replace c7:=pJ c7
   obtain ⟨r_13,c8,hb1⟩:=bd_ hb1
   replace c8:=YO c8
   cases hb1
   repeat' (first|refine gs_ ?_|rw [u5x]|rw [show ((0:Nat):Int)=0 from rfl])
   exact ⟨_,rfl,fm_ dL [_] rfl bL cZ⟩
  cases hb1
  have hx1:Dw (.inl (t_8,v_9))=some _:=hk1
  unfold Dw at hx1
  dsimp only at hx1
  obtain ⟨r_14,c9,hx1⟩:=bd_ hx1
  replace c9:=BC c9
  cases hx1
  repeat' (first|refine gs_ ?_|rw [u5x]|rw [show ((0:Nat):Int)=0 from rfl])
  refine bE (bR rfl ?_ ?_)
  ·repeat' (first|exact trivial|rfl|exact adS rfl|omega|apply And.intro)
  ·first|rfl|(simp only [adV,adT,adX,adN]<;>rfl)
 obtain ⟨s_15,u10,H⟩:=bd_ H
 obtain ⟨⟨u10a,u10b,u10c⟩,u10⟩:=fq u10
 have u10x:=EM (f:=cV) u10
 repeat' (first|refine gs_ ?_|rw [u10x]|rw [show ((0:Nat):Int)=0 from rfl])
 refine alM_ (fun s:Int × Int=>match s with|(t_16,v_17)=>[(4, .one (.ptr 0 0)),(5, .one (.c (.int .i64 t_16))),(16, .one (.c (.lst (s_15.map cV)))),(17, .one (.c (.int .i64 ((s_15.length:Nat):Int)))),(18, .one (.c (.int .i64 v_17)))]) (fun s=>match s with|(t_16,v_17)=>[.box [.c (.int .i64 (0:Int)), .c (.int .i64 (0:Int)), .c (.str ByteArray.empty)]]) H (fun _=>ad4 _)
  (fm_ dL [] rfl bL cZ) ?_
 rintro ⟨t_16,v_17⟩ st2 hb2 hk2
 unfold yV at hb2
 dsimp only at hb2 ⊢
 repeat' (first|refine gs_ ?_|rw [u10x]|rw [show ((0:Nat):Int)=0 from rfl])
 rcases aa hb2 with ⟨q_18,hb2⟩|⟨q_18,hb2⟩
 ·obtain ⟨x_19,i11z,i11,i11x,hb2⟩:=aR (f:=cV) hb2
  obtain ⟨r_20,c12,hb2⟩:=bd_ hb2
  replace c12:=pJ c12
  obtain ⟨r_21,c13,hb2⟩:=bd_ hb2
  replace c13:=XO c13
  cases hb2
  repeat' (first|refine gs_ ?_|rw [u10x]|rw [show ((0:Nat):Int)=0 from rfl])
  exact ⟨_,rfl,fm_ dL [_] rfl bL cZ⟩
 cases hb2
 have hx2:DD (.inl (t_16,v_17))=some _:=hk2
 unfold DD at hx2
 dsimp only at hx2
 obtain ⟨r_22,c14,hx2⟩:=bd_ hx2
 replace c14:=BC c14
 cases hx2
 repeat' (first|refine gs_ ?_|rw [u10x]|rw [show ((0:Nat):Int)=0 from rfl])
 refine bE (bR rfl ?_ ?_)
 ·repeat' (first|exact trivial|rfl|exact adS rfl|omega|apply And.intro)
 ·first|rfl|(simp only [adV,adT,adX,adN]<;>rfl)
set_option maxHeartbeats 8000000
def gAt (a_row:(List Val)) (a_i:Int):Option (Val):=bif (decide (a_i<(0:Int))) then (ma ).bind fun r_2=>some r_2 else
 bif (decide (((a_row.length:Nat):Int)<=a_i)) then (ma ).bind fun r_4=>some r_4 else
 (aA a_row a_i).bind fun x_5=>some x_5
theorem aaZ {a_row:(List Val)} {a_i:Int} {r:Val} (H:gAt a_row a_i=some r):Pure Tryz.prog 165 [.one (.lst (a_row.map cV)), .one (.int .i64 a_i)] (.val (.agg (cV r))):=by
 unfold gAt at H
 refine po_ Tryz.func165 Tryz.ntmps165 ?_
 rcases aa H with ⟨q_1,H⟩|⟨q_1,H⟩
 ·obtain ⟨r_2,c1,H⟩:=bd_ H
  replace c1:=fG c1
  cases H
  exact af
 rcases aa H with ⟨q_3,H⟩|⟨q_3,H⟩
 ·obtain ⟨r_4,c2,H⟩:=bd_ H
  replace c2:=fG c2
  cases H
  exact af
 obtain ⟨x_5,i3z,i3,i3x,H⟩:=aR (f:=cV) H
 cases H
 exact af
def BN (a_row:(List Val)) (a_l:(List Int)):((List Val) × Int)->Option (Step ((List Val) × Int) ((List Val))):=fun s=>match s with
 | (out_1,v_2)=>bif (decide (v_2<((a_l.length:Nat):Int))) then (aA a_l v_2).bind fun x_4=>(gAt a_row x_4).bind fun r_5=>bif (decide (out_1.length+1<=4398046511104)) then (some (.next ((out_1++[r_5]),(IntKind.i64.wrap (v_2+(1:Int)))))) else none else
 some (.exit (out_1,v_2))
def Il:Sum ((List Val) × Int) ((List Val))->Option (((List Val)))
 | .inl (out_1,v_2)=>some out_1
 | .inr q=>some q
def Ot (a_row:(List Val)) (a_l:(List Int)):Option ((List Val)):=bif (decide (0<=((a_l.length:Nat):Int))) then (bif (decide ((32:Int)*((a_l.length:Nat):Int)<=281474976710656)) then (bif (decide (((a_l.length:Nat):Int)<=9223372036854775807)) then ((az (BN a_row a_l) fuel ([],(0:Int))).bind (Il)) else none) else none) else none
theorem V6 {a_row:(List Val)} {a_l:(List Int)} {r:(List Val)} (H:Ot a_row a_l=some r):Pure Tryz.prog 125 [.one (.lst (a_row.map cV)), .one (.lst (a_l.map (fun x=>[AC.int .i64 x])))] (.val (.one (.lst (r.map cV)))):=by
 unfold Ot at H
 refine po_ Tryz.func125 Tryz.ntmps125 ?_
 obtain ⟨g1,H⟩:=bu H
 obtain ⟨g2,H⟩:=bu H
 obtain ⟨g3,H⟩:=bu H
 repeat' (first|refine iy rfl rfl rfl rfl rfl (qQ tab_ok (k:=3) (by_:=32) rfl rfl rfl rfl rfl rfl (by decide) (by omega) (by omega) (by omega)) ?_|refine gs_ ?_|fail)
 refine alM_ (fun s:(List Val) × Int=>match s with|(out_1,v_2)=>[(0, .one (.c (.lst (a_row.map cV)))),(5, .one (.own (out_1.map cV) 0)),(11, .one (.c (.lst (a_l.map (fun x=>[AC.int .i64 x]))))),(12, .one (.c (.int .i64 ((a_l.length:Nat):Int)))),(13, .one (.c (.int .i64 v_2)))]) (fun s=>match s with|(out_1,v_2)=>[.spare out_1.length 3]) H (fun _=>ad4 _)
  (fm_ dL [] rfl bL cZ) ?_
 rintro ⟨out_1,v_2⟩ st1 hb1 hk1
 unfold BN at hb1
 dsimp only at hb1 ⊢
 rcases aa hb1 with ⟨q_3,hb1⟩|⟨q_3,hb1⟩
 ·obtain ⟨x_4,i4z,i4,i4x,hb1⟩:=aR (f:=(fun x=>[AC.int .i64 x])) hb1
  obtain ⟨r_5,c5,hb1⟩:=bd_ hb1
  replace c5:=aaZ c5
  obtain ⟨g6,hb1⟩:=bu hb1
  cases hb1
  repeat' (first|refine iy rfl rfl rfl rfl rfl (qQ tab_ok (k:=3) (by_:=32) rfl rfl rfl rfl rfl rfl (by decide) (by omega) (by omega) (by omega)) ?_|refine gs_ ?_|fail)
  exact ⟨_,rfl,fm_ kM [] jY bL cZ⟩
 cases hb1
 have hx1:Il (.inl (out_1,v_2))=some _:=hk1
 unfold Il at hx1
 dsimp only at hx1
 cases hx1
 repeat' (first|refine iy rfl rfl rfl rfl rfl (qQ tab_ok (k:=3) (by_:=32) rfl rfl rfl rfl rfl rfl (by decide) (by omega) (by omega) (by omega)) ?_|refine gs_ ?_|fail)
 refine bE (bR rfl ?_ ?_)
 ·repeat' (first|exact trivial|rfl|exact adS rfl|omega|apply And.intro)
 ·first|rfl|(simp only [adV,adT,adX,adN]<;>rfl)
def Ci (a_row:(List Val)) (a_i:Int):Option (Val):=(Ot a_row [a_i]).bind fun r_1=>(aA r_1 (0:Int)).bind fun x_2=>(uF x_2).bind fun r_3=>bif (!r_3) then (ma ).bind fun r_5=>some r_5 else
 some x_2
theorem Qy {a_row:(List Val)} {a_i:Int} {r:Val} (H:Ci a_row a_i=some r):Pure Tryz.prog 80 [.one (.lst (a_row.map cV)), .one (.int .i64 a_i)] (.val (.agg (cV r))):=by
 unfold Ci at H
 refine po_ Tryz.func80 Tryz.ntmps80 ?_
 obtain ⟨r_1,c1,H⟩:=bd_ H
 replace c1:=V6 c1
 try simp only [adV,adT,adX,adN,aj] at c1
 obtain ⟨x_2,i2z,i2,i2x,H⟩:=aR (f:=cV) H
 obtain ⟨r_3,c3,H⟩:=bd_ H
 replace c3:=Az c3
 rcases aa H with ⟨q_4,H⟩|⟨q_4,H⟩
 ·obtain ⟨r_5,c4,H⟩:=bd_ H
  replace c4:=fG c4
  cases H
  exact af
 cases H
 exact af
set_option maxHeartbeats 8000000
def Ug (a_p:aW) (a_q:aW):Option (Int × Bool):=(YK a_p).bind fun r_1=>bif (!r_1) then some ((0:Int),false) else
 (YK a_q).bind fun r_3=>bif (!r_3) then some ((0:Int),false) else
 bif (decide (a_p.hi<a_q.lo)) then some ((0:Int),true) else
 bif (decide (a_p.hi=a_q.lo)) then some ((1:Int),true) else
 bif (decide (a_q.hi<a_p.lo)) then some ((12:Int),true) else
 bif (decide (a_q.hi=a_p.lo)) then some ((11:Int),true) else
 bif (dw [.c (.int .i64 a_p.lo), .c (.int .i64 a_p.hi)] [.c (.int .i64 a_q.lo), .c (.int .i64 a_q.hi)]) then some ((6:Int),true) else
 bif (decide (a_p.lo=a_q.lo)) then bif (decide (a_p.hi<a_q.hi)) then some ((3:Int),true) else
 some ((9:Int),true) else
 bif (decide (a_p.hi=a_q.hi)) then bif (decide (a_q.lo<a_p.lo)) then some ((5:Int),true) else
 some ((7:Int),true) else
 bif (decide (a_p.lo<a_q.lo)) then bif (decide (a_q.hi<a_p.hi)) then some ((8:Int),true) else
 bif (decide (a_q.lo<a_p.lo)) then bif (decide (a_p.hi<a_q.hi)) then some ((4:Int),true) else
 some ((2:Int),true) else
 some ((2:Int),true) else
 bif (decide (a_q.lo<a_p.lo)) then bif (decide (a_p.hi<a_q.hi)) then some ((4:Int),true) else
 some ((10:Int),true) else
 some ((10:Int),true)
theorem Tt {a_p:aW} {a_q:aW} {r:Int × Bool} (H:Ug a_p a_q=some r):Pure Tryz.prog 92 [.agg (dP a_p), .agg (dP a_q)] (.tup [.one (.int .i64 r.1), .one (.bool r.2)]):=by
 unfold Ug at H
 refine po_ Tryz.func92 Tryz.ntmps92 ?_
 obtain ⟨r_1,c1,H⟩:=bd_ H
 replace c1:=FT c1
 rcases aa H with ⟨q_2,H⟩|⟨q_2,H⟩
 ·cases H
  exact af
 obtain ⟨r_3,c2,H⟩:=bd_ H
 replace c2:=FT c2
 rcases aa H with ⟨q_4,H⟩|⟨q_4,H⟩
 ·cases H
  exact af
 refine bv ?_
 rcases aa H with ⟨q_5,H⟩|⟨q_5,H⟩
 ·cases H
  exact af
 rcases aa H with ⟨q_6,H⟩|⟨q_6,H⟩
 ·cases H
  exact af
 rcases aa H with ⟨q_7,H⟩|⟨q_7,H⟩
 ·cases H
  exact af
 refine bv ?_
 rcases aa H with ⟨q_8,H⟩|⟨q_8,H⟩
 ·cases H
  exact af
 rcases aa H with ⟨q_9,H⟩|⟨q_9,H⟩
 ·cases H
  exact af
 rcases aa H with ⟨q_10,H⟩|⟨q_10,H⟩
 ·refine bv ?_
  rcases aa H with ⟨q_11,H⟩|⟨q_11,H⟩
  ·cases H
   exact af
  cases H
  exact af
 refine bv ?_
 rcases aa H with ⟨q_12,H⟩|⟨q_12,H⟩
 ·rcases aa H with ⟨q_13,H⟩|⟨q_13,H⟩
  ·cases H
   exact af
  cases H
  exact af
 rcases aa H with ⟨q_14,H⟩|⟨q_14,H⟩
 ·rcases aa H with ⟨q_15,H⟩|⟨q_15,H⟩
  ·cases H
   exact af
  refine bv ?_
  rcases aa H with ⟨q_16,H⟩|⟨q_16,H⟩
  ·rcases aa H with ⟨q_17,H⟩|⟨q_17,H⟩
   ·cases H
    exact af
   cases H
   exact af
  cases H
  exact af
 rcases aa H with ⟨q_18,H⟩|⟨q_18,H⟩
 ·refine bv ?_
  rcases aa H with ⟨q_19,H⟩|⟨q_19,H⟩
  ·cases H
   exact af
  cases H
  exact af
 cases H
 exact af
end Go.Proofs.YtfccopdbgfdcdaaGreatDoor
