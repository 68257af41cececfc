/- Parts of the proof, joined. No condition. -/
import Derived.Test.YtfccopdbgfdcdaaGreatDoorKAA
import Derived.Test.YtfccopdbgfdcdaaGreatDoorKBQ
import Derived.Test.YtfccopdbgfdcdaaGreatDoorKBN
import Derived.Test.YtfccopdbgfdcdaaGreatDoorKBO
import Derived.Test.YtfccopdbgfdcdaaGreatDoorKBS
import Derived.Test.YtfccopdbgfdcdaaGreatDoorKBR
import Derived.Test.YtfccopdbgfdcdaaGreatDoorKBP
import Derived.Test.YtfccopdbgfdcdaaGreatDoorKBT
import Derived.Test.YtfccopdbgfdcdaaGreatDoorKBU
import Derived.Test.YtfccopdbgfdcdaaGreatDoorKBV
import Derived.Test.YtfccopdbgfdcdaaGreatDoorKBW
import Derived.Test.YtfccopdbgfdcdaaGreatDoorKBI
set_option linter.unusedSimpArgs false
set_option linter.unusedVariables false
namespace Go.Proofs.YtfccopdbgfdcdaaGreatDoor
open Go.RowKit Go.MapKept
set_option maxRecDepth 100000
theorem eB {α:Type} (p:α->Bool) : ∀ l:List α,(l.flatMap fun x=>if p x then [x] else [])=l.filter p
 | []=>rfl
 | x::l=>by
  rw [aej,eB p l]
  by_cases h:p x=true
  ·rw [if_pos h,List.filter_cons_of_pos h];rfl
  ·rw [if_neg h,List.filter_cons_of_neg h];rfl
theorem Y0 {l:List Val} {i:Nat} {x:Val} (h:l[i]?=some x):wF l (i:Int)=x:=by
 unfold wF;rw [if_pos (by omega)];show (l[i]?).getD jr=x;rw [h];rfl
set_option maxHeartbeats 8000000
def y7 (a_e:Ex) (a_kinds:(List Int)):Option (Int):=(uA a_e a_kinds).bind fun r_1=>bif (decide (r_1.2≠(0:Int))) then some r_1.2 else
 bif (decide (r_1.1≠(3:Int))) then bif (decide (r_1.1≠(0:Int))) then some (7:Int) else
 some (0:Int) else
 some (0:Int)
theorem RQ {a_e:Ex} {a_kinds:(List Int)} {r:Int} (H:y7 a_e a_kinds=some r):Pure Tryz.prog 39 [.agg (tE a_e), .one (.lst (a_kinds.map (fun x=>[AC.int .i64 x])))] (.val (.one (.int .i64 r))):=by
 unfold y7 at H
 rw [aj a_e]
 refine po_ Tryz.func39 Tryz.ntmps39 ?_
 obtain ⟨r_1,c1,H⟩:=bd_ H
 replace c1:=LC c1
 try simp only [adV,adT,adX,adN,aj] at c1
 rcases aa H with ⟨q_2,H⟩|⟨q_2,H⟩
 ·cases H
  exact af
 rcases aa H with ⟨q_3,H⟩|⟨q_3,H⟩
 ·rcases aa H with ⟨q_4,H⟩|⟨q_4,H⟩
  ·cases H
   exact af
  cases H
  exact af
 cases H
 exact af
set_option maxHeartbeats 8000000
noncomputable section
def Ck (a_e:Ex) (a_row:(List Val)):Option (Int):=(xw fuel a_e a_row).bind fun r_1=>(lY r_1).bind fun r_2=>some r_2
theorem RF {a_e:Ex} {a_row:(List Val)} {r:Int} (H:Ck a_e a_row=some r):Pure Tryz.prog 46 [.agg (tE a_e), .one (.lst (a_row.map cV))] (.val (.one (.int .i64 r))):=by
 unfold Ck at H
 rw [aj a_e]
 refine po_ Tryz.func46 Tryz.ntmps46 ?_
 obtain ⟨r_1,c1,H⟩:=bd_ H
 replace c1:=Hd fuel c1
 try simp only [adV,adT,adX,adN,aj] at c1
 obtain ⟨r_2,c2,H⟩:=bd_ H
 replace c2:=pJ c2
 cases H
 exact af
def uL (a_l:(List aG)) (a_keep:aG->Option (Bool)):((List aG) × Int)->Option (Step ((List aG) × Int) (bI)):=fun s=>match s with
 | (out_1,v_2)=>bif (decide (v_2<((a_l.length:Nat):Int))) then (aA a_l v_2).bind fun x_4=>(a_keep x_4).bind fun r_5=>bif r_5 then bif (decide (out_1.length+1<=3518437208883)) then (some (.next ((out_1++[x_4]),(IntKind.i64.wrap (v_2+(1:Int)))))) else none else
 some (.next (out_1,(IntKind.i64.wrap (v_2+(1:Int))))) else
 some (.exit (out_1,v_2))
def vX (a_kinds:(List Int)):Sum ((List aG) × Int) (bI)->Option ((bI))
 | .inl (out_1,v_2)=>(lK a_kinds out_1).bind fun r_7=>some r_7
 | .inr q=>some q
def uz (a_kinds:(List Int)) (a_l:(List aG)) (a_keep:aG->Option (Bool)):Option (bI):=(az (uL a_l a_keep) fuel ([],(0:Int))).bind (vX a_kinds)
theorem zS {a_kinds:(List Int)} {a_l:(List aG)} {a_keep:aG->Option (Bool)} {r:bI} {F_a_keep:FuncId} {caps_a_keep:List AC} (hf_a_keep : ∀ (y0:aG) (r:Bool),a_keep y0=some r->Pure Tryz.prog F_a_keep ([.agg (aY y0)]++caps_a_keep.map .one) (.val (.one (.bool r)))) (H:uz a_kinds a_l a_keep=some r):Pure Tryz.prog 44 [.one (.lst (a_kinds.map (fun x=>[AC.int .i64 x]))), .one (.lst (a_l.map aY)), .one (.fn F_a_keep caps_a_keep)] (.val (.agg (dW r))):=by
 unfold uz at H
 refine po_ Tryz.func44 Tryz.ntmps44 ?_
 refine bv ?_
 refine dz 7 3 rfl ?_
 refine alM_ (fun s:(List aG) × Int=>match s with|(out_1,v_2)=>[(0, .one (.c (.lst (a_kinds.map (fun x=>[AC.int .i64 x]))))),(2, .one (.c (.fn F_a_keep caps_a_keep))),(6, .one (.ptr 0 0)),(7, .one (.own (out_1.map aY) 1)),(10, .one (.c (.lst (a_l.map aY)))),(11, .one (.c (.int .i64 ((a_l.length:Nat):Int)))),(12, .one (.c (.int .i64 v_2)))]) (fun s=>match s with|(out_1,v_2)=>[.box [.emp, .emp], .spare out_1.length 3]) H (fun _=>ad4 _)
  (fm_ dL [] rfl bL cZ) ?_
 rintro ⟨out_1,v_2⟩ st1 hb1 hk1
 unfold uL at hb1
 dsimp only at hb1 ⊢
 rcases aa hb1 with ⟨q_3,hb1⟩|⟨q_3,hb1⟩
 ·obtain ⟨x_4,i1z,i1,i1x,hb1⟩:=aR (f:=aY) hb1
  obtain ⟨r_5,c2,hb1⟩:=bd_ hb1
  replace c2:=hf_a_keep _ _ c2
  try simp only [adV,adT,adX,adN,aj] at c2
  rcases aa hb1 with ⟨q_6,hb1⟩|⟨q_6,hb1⟩
  ·obtain ⟨g3,hb1⟩:=bu hb1
   cases hb1
   refine bv ?_
   exact ⟨_,rfl,fm_ kM [_] jY bL cZ⟩
  cases hb1
  refine bv ?_
  exact ⟨_,rfl,fm_ kM [_] jY bL cZ⟩
 cases hb1
 have hx1:vX a_kinds (.inl (out_1,v_2))=some _:=hk1
 unfold vX at hx1
 dsimp only at hx1
 obtain ⟨r_7,c4,hx1⟩:=bd_ hx1
 replace c4:=uX c4
 cases hx1
 exact af
def xU (a_f:aG) (v_0:Ex):Option (Bool):=(Ck v_0 a_f.row).bind fun r_1=>some (decide (r_1=(2:Int)))
theorem Qf {a_f:aG} {v_0:Ex} {r:Bool} (H:xU a_f v_0=some r):Pure Tryz.prog 45 [.agg (aY a_f), .one (.ref [.int .i64 v_0.op, .int .i64 v_0.int, .int .i64 v_0.v.kind, .int .i64 v_0.v.int, .str v_0.v.text, .str v_0.nm, .lst (v_0.args.map tE)])] (.val (.one (.bool r))):=by
 unfold xU at H
 refine po_ Tryz.func45 Tryz.ntmps45 ?_
 obtain ⟨r_1,c1,H⟩:=bd_ H
 replace c1:=RF c1
 try simp only [adV,adT,adX,adN,aj] at c1
 cases H
 exact af
def mH (a_r:bI) (a_e:Ex):Option (bI):=(uz a_r.kinds a_r.facts (fun x0=>xU x0 a_e)).bind fun r_1=>some r_1
theorem qj {a_r:bI} {a_e:Ex} {r:bI} (H:mH a_r a_e=some r):Pure Tryz.prog 16 [.agg (dW a_r), .agg (tE a_e)] (.val (.agg (dW r))):=by
 unfold mH at H
 rw [aj a_e]
 refine po_ Tryz.func16 Tryz.ntmps16 ?_
 repeat' (first|refine gs0_ ?_|fail)
 refine aw_region tab_ok _ rfl ?_
 repeat' (first|refine gs0_ ?_|fail)
 refine gF 1 (by rfl) (by rfl) ?_
 simp only [adT,adX,Xz,WL,YL,mK,List.drop,if_true,List.set]
 obtain ⟨r_1,c1,H⟩:=bd_ H
 replace c1:=zS (F_a_keep:=45) (caps_a_keep:=[.ref [.int .i64 a_e.op, .int .i64 a_e.int, .int .i64 a_e.v.kind, .int .i64 a_e.v.int, .str a_e.v.text, .str a_e.nm, .lst (a_e.args.map tE)]]) (fun x0 r h=>Qf h) c1
 try simp only [adV,adT,adX,adN,aj] at c1
 cases H
 exact af
end
set_option maxHeartbeats 8000000
noncomputable section
def qc (a_a:bI) (a_b:bI):Option (Bool):=(lh a_a.kinds a_b.kinds).bind fun r_1=>bif r_1 then (xu a_a.facts a_b.facts).bind fun r_3=>some r_3 else
 some false
theorem lm {a_a:bI} {a_b:bI} {r:Bool} (H:qc a_a a_b=some r):Pure Tryz.prog 15 [.agg (dW a_a), .agg (dW a_b)] (.val (.one (.bool r))):=by
 unfold qc at H
 refine po_ Tryz.func15 Tryz.ntmps15 ?_
 obtain ⟨r_1,c1,H⟩:=bd_ H
 replace c1:=zx c1
 rcases aa H with ⟨q_2,H⟩|⟨q_2,H⟩
 ·obtain ⟨r_3,c2,H⟩:=bd_ H
  replace c2:=Da c2
  cases H
  exact af
 cases H
 exact af
def jy (a_e:Ex) (a_kinds:(List Int)):Option (Bool):=(Dr [a_e] (200:Int)).bind fun r_1=>bif r_1 then (y7 a_e a_kinds).bind fun r_3=>some (decide (r_3=(0:Int))) else
 some false
theorem qY {a_e:Ex} {a_kinds:(List Int)} {r:Bool} (H:jy a_e a_kinds=some r):Pure Tryz.prog 13 [.agg (tE a_e), .one (.lst (a_kinds.map (fun x=>[AC.int .i64 x])))] (.val (.one (.bool r))):=by
 unfold jy at H
 rw [aj a_e]
 refine po_ Tryz.func13 Tryz.ntmps13 ?_
 obtain ⟨r_1,c1,H⟩:=bd_ H
 replace c1:=Lu c1
 try simp only [adV,adT,adX,adN,aj] at c1
 rcases aa H with ⟨q_2,H⟩|⟨q_2,H⟩
 ·obtain ⟨r_3,c2,H⟩:=bd_ H
  replace c2:=RQ c2
  try simp only [adV,adT,adX,adN,aj] at c2
  cases H
  exact af
 cases H
 exact af
end
open Go.RowKit
theorem lX (c:List Val->Bool) (t:Int) : ∀ l:List aG,aX (l.filter fun f=>c f.row) t=(aX l t).filter c
 | []=>rfl
 | f::l=>by
  have ih:=lX c t l
  unfold aX at ih ⊢
  rw [List.filter_cons,List.filter_cons]
  by_cases h1:c f.row=true<;>by_cases h2:cB f.valid t=true
  ·rw [if_pos h1,if_pos h2,List.filter_cons,if_pos h2,adT,adT,List.filter_cons,if_pos h1,ih]
  ·rw [if_pos h1,if_neg h2,List.filter_cons,if_neg h2,ih]
  ·rw [if_neg h1,if_pos h2,adT,List.filter_cons,if_neg h1,ih]
  ·rw [if_neg h1,if_neg h2,ih]
theorem mD {l m:List aG} (h:bM l) (hs:m.Sublist l):bM m:=⟨Nat.le_trans hs.length_le h.1,fun f hf=>h.2 f (hs.subset hf)⟩
theorem iG {r:bI} (hk:r.kinds.length<=1000000) (h:bM r.facts):qc r r=some true:=by
 unfold qc
 rw [wy _ hk,adH,adK,xC h];rfl
theorem zU {k:List Int} {l:List aG} {p:aG->Option Bool} {c:aG->Bool} (hk:k.length<=1000000) (h:bM l) (hp : ∀ f∈l,p f=some (c f)):uz k l p=some ⟨k,canon (l.filter c)⟩:=by
 have hl:=h.1
 unfold uz
 rw [bJ (l:=l) (fun f=>if c f then [f] else []) 3518437208883 ?_ ?_ (by unfold fuel;omega) [] (by rw [eB];have:=List.length_filter_le c l;simp;omega)]
 ·rw [adH,adN,eB]
  unfold vX
  dsimp only
  rw [ng hk (mD h List.filter_sublist)];rfl
 ·intro s i x hx hs
  have hi:=(adI.1 hx).1
  unfold uL
  dsimp only
  rw [aI hx,adK,gn_ hx,adH,hp x (adO hx),adH,wrapN (by omega)]
  cases hc:c x with
  | false=>simp
  | true =>
   rw [hc] at hs
   rw [adK,adM (show s.length+1<=3518437208883 from hs)];rfl
 ·intro s
  unfold uL
  dsimp only
  rw [lF_,adJ]
def jf (e:Ex) (row:List Val):Bool:=decide (tF_ (mW e row)=2)
theorem RS {e:Ex} (h:eY fuel e) (row:List Val):Ck e row=some (tF_ (mW e row)):=by
 unfold Ck
 rw [(val_ok h row).2.1,adH,jF];rfl
theorem ql {r:bI} {e:Ex} (hk:r.kinds.length<=1000000) (h:bM r.facts) (he:eY fuel e):mH r e=some ⟨r.kinds,canon (r.facts.filter fun f=>jf e f.row)⟩:=by
 unfold mH
 rw [zU (p:=fun x0=>xU x0 e) (c:=fun f=>jf e f.row) hk h (fun f _=>by unfold xU;rw [RS he];rfl)];rfl
theorem QT {e:Ex} (kinds:List Int) (h:eY fuel e) : ∃ n,y7 e kinds=some n:=by
 obtain ⟨c,c1,_⟩:=PR kinds h
 unfold y7
 rw [c1,adH]
 cases decide (c.2≠0)<;>cases decide (c.1≠3)<;>cases decide (c.1≠0)<;>exact ⟨_,rfl⟩
theorem nX (e:Ex) (kinds:List Int) : ∃ b,jy e kinds=some b/\(b=true->eY fuel e):=by
 obtain ⟨b,hb,hok⟩:=DT [e]
 unfold jy
 rw [hb,adH]
 cases b with
 | false=>exact ⟨false,rfl,fun h=>by cases h⟩
 | true =>
  have he:=J5 ((hok rfl).2 e (by simp))
  obtain ⟨n,hn⟩:=QT kinds he
  rw [adK,hn]
  exact ⟨_,rfl,fun _=>he⟩
set_option maxHeartbeats 8000000
mutual
def QF:Ex->Nat
 | .mk _ _ _ _ args=>ZJ args+1
def ZJ:List Ex->Nat
 | []=>0
 | e::l=>max (QF e) (ZJ l)
end
def qA (a_e:Ex) (a_f:Ex->Option (Ex)) (rec:Ex->(Ex->Option Ex)->Option Ex):((List Ex) × Int)->Option (Step ((List Ex) × Int) (Ex)):=fun s=>match s with
 | (args_1,v_2)=>bif (decide (v_2<((a_e.args.length:Nat):Int))) then (aA a_e.args v_2).bind fun x_4=>(rec x_4 a_f).bind fun r_5=>bif (decide (args_1.length+1<=1599289640401)) then (some (.next ((args_1++[r_5]),(IntKind.i64.wrap (v_2+(1:Int)))))) else none else
 some (.exit (args_1,v_2))
def qy (a_e:Ex) (a_f:Ex->Option (Ex)):Sum ((List Ex) × Int) (Ex)->Option ((Ex))
 | .inl (args_1,v_2)=>bif (decide (a_e.op=(2:Int))) then (a_f (Ex.mk a_e.op a_e.int a_e.v a_e.nm args_1)).bind fun r_7=>some r_7 else
 some (Ex.mk a_e.op a_e.int a_e.v a_e.nm args_1)
 | .inr q=>some q
def yc (rec:Ex->(Ex->Option Ex)->Option Ex) (a_e:Ex) (a_f:Ex->Option (Ex)):Option (Ex):=(az (qA a_e a_f rec) fuel ([],(0:Int))).bind (qy a_e a_f)
theorem O3 {rec:Ex->(Ex->Option Ex)->Option Ex}  (hrec : ∀ {x:Ex} {f:Ex->Option Ex} {F_a_f:FuncId} {caps_a_f:List AC} (hf_a_f : ∀ (y0:Ex) (r:Ex),f y0=some r->Pure Tryz.prog F_a_f ([.agg (tE y0)]++caps_a_f.map .one) (.val (.agg (tE r)))) {r:Ex}, rec x f=some r->Pure Tryz.prog 67 [.agg (tE x), .one (.fn F_a_f caps_a_f)] (.val (.agg (tE r)))) {a_e:Ex} {a_f:Ex->Option (Ex)} {r:Ex} {F_a_f:FuncId} {caps_a_f:List AC} (hf_a_f : ∀ (y0:Ex) (r:Ex),a_f y0=some r->Pure Tryz.prog F_a_f ([.agg (tE y0)]++caps_a_f.map .one) (.val (.agg (tE r)))) (H:yc rec a_e a_f=some r):Pure Tryz.prog 67 [.agg (tE a_e), .one (.fn F_a_f caps_a_f)] (.val (.agg (tE r))):=by
 unfold yc at H
 rw [aj a_e]
 rw [aj r]
 refine po_ Tryz.func67 Tryz.ntmps67 ?_
 refine bv ?_
 refine dz 5 7 rfl ?_
 refine alM_ (fun s:(List Ex) × Int=>match s with|(args_1,v_2)=>[(1, .one (.c (.fn F_a_f caps_a_f))),(2, .one (.ptr 0 0)),(4, .one (.ptr 1 0)),(5, .one (.own (args_1.map tE) 2)),(9, .one (.c (.lst (a_e.args.map tE)))),(10, .one (.c (.int .i64 ((a_e.args.length:Nat):Int)))),(11, .one (.c (.int .i64 v_2)))]) (fun s=>match s with|(args_1,v_2)=>[.box [.c (.int .i64 a_e.op), .c (.int .i64 a_e.int), .c (.int .i64 a_e.v.kind), .c (.int .i64 a_e.v.int), .c (.str a_e.v.text), .c (.str a_e.nm), .c (.lst (a_e.args.map tE))], .box [.c (.int .i64 (0:Int)), .c (.int .i64 (0:Int)), .c (.int .i64 (0:Int)), .c (.int .i64 (0:Int)), .c (.str ByteArray.empty), .c (.str ByteArray.empty), .emp], .spare args_1.length 7]) H (fun _=>ad4 _)
  (fm_ dL [] rfl bL cZ) ?_
 rintro ⟨args_1,v_2⟩ st1 hb1 hk1
 unfold qA at hb1
 dsimp only at hb1 ⊢
 rcases aa hb1 with ⟨q_3,hb1⟩|⟨q_3,hb1⟩
 ·obtain ⟨x_4,i1z,i1,i1x,hb1⟩:=aR (f:=tE) hb1
  simp only [adV,adT,adX,adN,aj] at i1x
  obtain ⟨r_5,c2,hb1⟩:=bd_ hb1
  replace c2:=hrec (caps_a_f:=caps_a_f) hf_a_f c2
  try simp only [adV,adT,adX,adN,aj] at c2
  obtain ⟨g3,hb1⟩:=bu hb1
  cases hb1
  refine bv ?_
  exact ⟨_,rfl,fm_ ⟨rfl,rfl,rfl,(by simp only [adV,adT,adX,adN,aj]<;>rfl),rfl,rfl,rfl,trivial⟩ [_] jY bL cZ⟩
 cases hb1
 have hx1:qy a_e a_f (.inl (args_1,v_2))=some _:=hk1
 unfold qy at hx1
 dsimp only at hx1
 rcases aa hx1 with ⟨q_6,hx1⟩|⟨q_6,hx1⟩
 ·obtain ⟨r_7,c4,hx1⟩:=bd_ hx1
  replace c4:=hf_a_f _ _ c4
  try simp only [adV,adT,adX,adN,aj] at c4
  cases hx1
  exact af
 cases hx1
 exact af
def eP:Nat->Ex->(Ex->Option Ex)->Option Ex
 | 0,_,_=>none
 | n+1,e,f=>yc (eP n) e f
theorem Bf : ∀ (n:Nat) {x:Ex} {f:Ex->Option Ex} {F_a_f:FuncId} {caps_a_f:List AC} (hf_a_f : ∀ (y0:Ex) (r:Ex),f y0=some r->Pure Tryz.prog F_a_f ([.agg (tE y0)]++caps_a_f.map .one) (.val (.agg (tE r)))) {r:Ex}, eP n x f=some r->Pure Tryz.prog 67 [.agg (tE x), .one (.fn F_a_f caps_a_f)] (.val (.agg (tE r)))
 | 0,_,_,_,_,_,_,h=>nomatch h
 | n+1,_,_,_,_,hf,_,h=>O3 (Bf n) hf h
def Mm (a_y:Ex):Option (Ex):=some a_y
theorem UV {a_y:Ex} {r:Ex} (H:Mm a_y=some r):Pure Tryz.prog 69 [.agg (tE a_y)] (.val (.agg (tE r))):=by
 unfold Mm at H
 rw [aj a_y]
 rw [aj r]
 refine po_ Tryz.func69 Tryz.ntmps69 ?_
 cases H
 exact af
def oJ (a_x:Ex) (v_0:(List Ex)):Option (Ex):=bif (decide ((0:Int)<((a_x.args.length:Nat):Int))) then some a_x else
 bif (!(a_x.nm.toList==(⟨#[]⟩:ByteArray).toList)) then some a_x else
 bif (!(dw [.c (.int .i64 a_x.v.kind), .c (.int .i64 a_x.v.int), .c (.str a_x.v.text)] [.c (.int .i64 (0:Int)), .c (.int .i64 (0:Int)), .c (.str ByteArray.empty)])) then some a_x else
 bif (decide (a_x.int<(0:Int))) then some a_x else
 bif (decide (((v_0.length:Nat):Int)<=a_x.int)) then some a_x else
 (aA v_0 a_x.int).bind fun x_6=>(eP (QF x_6) x_6 (fun x0=>Mm x0)).bind fun r_7=>some r_7
theorem WO {a_x:Ex} {v_0:(List Ex)} {r:Ex} (H:oJ a_x v_0=some r):Pure Tryz.prog 68 [.agg (tE a_x), .one (.ref [.lst (v_0.map tE)])] (.val (.agg (tE r))):=by
 unfold oJ at H
 rw [aj a_x]
 rw [aj r]
 refine po_ Tryz.func68 Tryz.ntmps68 ?_
 rcases aa H with ⟨q_1,H⟩|⟨q_1,H⟩
 ·cases H
  exact af
 rcases aa H with ⟨q_2,H⟩|⟨q_2,H⟩
 ·cases H
  exact af
 rcases aa H with ⟨q_3,H⟩|⟨q_3,H⟩
 ·cases H
  exact af
 rcases aa H with ⟨q_4,H⟩|⟨q_4,H⟩
 ·cases H
  exact af
 rcases aa H with ⟨q_5,H⟩|⟨q_5,H⟩
 ·cases H
  exact af
 obtain ⟨x_6,i1z,i1,i1x,H⟩:=aR (f:=tE) H
 simp only [adV,adT,adX,adN,aj] at i1x
 obtain ⟨r_7,c2,H⟩:=bd_ H
 replace c2:=Bf _ (F_a_f:=69) (caps_a_f:=[]) (fun x0 r h=>UV h) c2
 try simp only [adV,adT,adX,adN,aj] at c2
 cases H
 exact af
def Ip (a_e:Ex) (a_l:(List Ex)):Option (Ex):=(eP (QF a_e) a_e (fun x0=>oJ x0 a_l)).bind fun r_1=>some r_1
theorem VL {a_e:Ex} {a_l:(List Ex)} {r:Ex} (H:Ip a_e a_l=some r):Pure Tryz.prog 36 [.agg (tE a_e), .one (.lst (a_l.map tE))] (.val (.agg (tE r))):=by
 unfold Ip at H
 rw [aj a_e]
 rw [aj r]
 refine po_ Tryz.func36 Tryz.ntmps36 ?_
 repeat' (first|refine gs0_ ?_|fail)
 refine aw_region tab_ok _ rfl ?_
 repeat' (first|refine gs0_ ?_|fail)
 refine gF 1 (by rfl) (by rfl) ?_
 simp only [adT,adX,Xz,WL,YL,mK,List.drop,if_true,List.set]
 obtain ⟨r_1,c1,H⟩:=bd_ H
 replace c1:=Bf _ (F_a_f:=68) (caps_a_f:=[.ref [.lst (a_l.map tE)]]) (fun x0 r h=>WO h) c1
 try simp only [adV,adT,adX,adN,aj] at c1
 cases H
 exact af
open Go.RowKit Go.MapKept
set_option maxRecDepth 100000
set_option maxHeartbeats 8000000
noncomputable section
def jC (a_r:bI) (a_l:(List Ex)) (a_e:Ex):Option (Bool):=(lu a_r).bind fun r_1=>bif (!r_1) then some (true) else
 (lI a_l a_r.kinds).bind fun r_4=>bif (!r_4) then some (true) else
 (lZ a_r.kinds a_l).bind fun r_7=>(Ip a_e a_l).bind fun r_8=>(jy a_e r_7.1).bind fun r_9=>bif (!r_9) then some (true) else
 (jy r_8 a_r.kinds).bind fun r_12=>bif (!r_12) then some (true) else
 (jS a_r a_l).bind fun r_15=>(mH r_15 a_e).bind fun r_16=>(mH a_r r_8).bind fun r_17=>(jS r_17 a_l).bind fun r_18=>(qc r_16 r_18).bind fun r_19=>bif r_19 then some (true) else
 some false
theorem AA {a_r:bI} {a_l:(List Ex)} {a_e:Ex} {r:Bool} (H:jC a_r a_l a_e=some r):Pure Tryz.prog 11 [.agg (dW a_r), .one (.lst (a_l.map tE)), .agg (tE a_e)] (.val (.one (.bool r))):=by
 unfold jC at H
 rw [aj a_e]
 refine po_ Tryz.func11 Tryz.ntmps11 ?_
 obtain ⟨r_1,c1,H⟩:=bd_ H
 replace c1:=je c1
 rcases aa H with ⟨q_2,H⟩|⟨q_2,H⟩
 ·have hc_3:=Aw.aO
  try simp only [adV,adT,adX,adN,aj] at hc_3
  cases H
  exact af
 obtain ⟨r_4,c2,H⟩:=bd_ H
 replace c2:=uV c2
 rcases aa H with ⟨q_5,H⟩|⟨q_5,H⟩
 ·have hc_6:=Aw.aO
  try simp only [adV,adT,adX,adN,aj] at hc_6
  cases H
  exact af
 obtain ⟨r_7,c3,H⟩:=bd_ H
 replace c3:=wh c3
 obtain ⟨r_8,c4,H⟩:=bd_ H
 replace c4:=VL c4
 try simp only [adV,adT,adX,adN,aj] at c4
 obtain ⟨r_9,c5,H⟩:=bd_ H
 replace c5:=qY c5
 try simp only [adV,adT,adX,adN,aj] at c5
 rcases aa H with ⟨q_10,H⟩|⟨q_10,H⟩
 ·have hc_11:=Aw.aO
  try simp only [adV,adT,adX,adN,aj] at hc_11
  cases H
  exact af
 obtain ⟨r_12,c6,H⟩:=bd_ H
 replace c6:=qY c6
 try simp only [adV,adT,adX,adN,aj] at c6
 rcases aa H with ⟨q_13,H⟩|⟨q_13,H⟩
 ·have hc_14:=Aw.aO
  try simp only [adV,adT,adX,adN,aj] at hc_14
  cases H
  exact af
 obtain ⟨r_15,c7,H⟩:=bd_ H
 replace c7:=nL c7
 obtain ⟨r_16,c8,H⟩:=bd_ H
 replace c8:=qj c8
 try simp only [adV,adT,adX,adN,aj] at c8
 obtain ⟨r_17,c9,H⟩:=bd_ H
 replace c9:=qj c9
 try simp only [adV,adT,adX,adN,aj] at c9
 obtain ⟨r_18,c10,H⟩:=bd_ H
 replace c10:=nL c10
 obtain ⟨r_19,c11,H⟩:=bd_ H
 replace c11:=lm c11
 rcases aa H with ⟨q_20,H⟩|⟨q_20,H⟩
 ·have hc_21:=Aw.aO
  try simp only [adV,adT,adX,adN,aj] at hc_21
  cases H
  exact af
 cases H
 exact af
end
open Go.RowKit Go.MapKept
set_option maxRecDepth 100000
theorem Oy : ∀ {l:List Ex} {x:Ex}, x∈l->QF x<=ZJ l
 | [],_,h=>by cases h
 | y::l,x,h=>by
  rw [ZJ]
  rcases adZ.1 h with rfl|h
  ·omega
  ·have:=Oy h;omega
theorem Fg {e x:Ex} (h:x∈e.args):QF x+1<=QF e:=by
 obtain ⟨op,i,v,nm,args⟩:=e
 rw [QF]
 have:=Oy (l:=args) (x:=x) h
 omega
theorem Np (e:Ex):1<=QF e:=by
 obtain ⟨op,i,v,nm,args⟩:=e
 rw [QF];omega
theorem Ed {e:Ex} (h:l8 e):e.args.length<=1599289640400 /\ ∀ x∈e.args,l8 x:=by
 cases h with
 | @mk op i v nm args h0 h1 h2 h3 h4 g4=>exact ⟨by show args.length<=_;unfold reachBytes at h4;omega,g4⟩
theorem aaJ (e:Ex):Ex.mk e.op e.int e.v e.nm e.args=e:=by obtain ⟨_,_,_,_,_⟩:=e;rfl
def CS (e:Ex) (a:List Ex):Ex:=Ex.mk e.op e.int e.v e.nm a
theorem uD {f:Ex->Option Ex} {m:Nat} {e:Ex} {g:Ex->Ex} (hx : ∀ x∈e.args,eP m x f=some (g x)) (hl:e.args.length<=1599289640400):eP (m+1) e f=if e.op=2 then f (CS e (e.args.map g)) else some (CS e (e.args.map g)):=by
 show yc (eP m) e f=_
 unfold yc
 rw [bJ (l:=e.args) (fun x=>[g x]) 1599289640401 ?_ ?_ (by unfold fuel;omega) [] (by rw [fo_];simp;omega)]
 ·rw [adH,adN,fo_]
  unfold qy
  dsimp only
  by_cases h:e.op=2
  ·rw [adM h,adK,if_pos h]
   show (f (CS e (e.args.map g))).bind _=_
   cases f (CS e (e.args.map g))<;>rfl
  ·rw [adL h,adJ,if_neg h];rfl
 ·intro s i x hx1 hs
  have hi:=(adI.1 hx1).1
  unfold qA
  dsimp only
  rw [aI hx1,adK,gn_ hx1,adH,hx x (adO hx1),adH,wrapN (by omega),adM (show s.length+1<=1599289640401 from hs),adK]
 ·intro s
  unfold qA
  dsimp only
  rw [lF_,adJ]
theorem Ay : ∀ (n:Nat) (e:Ex),QF e<=n->l8 e->eP n e (fun x0=>Mm x0)=some e
 | 0,e,h,_=>by have:=Np e;omega
 | n+1,e,h,k=>by
  obtain ⟨hl,ha⟩:=Ed k
  rw [uD (g:=fun x=>x) (fun x hx=>Ay n x (by have:=Fg hx;omega) (ha x hx)) hl]
  have e1:CS e (e.args.map fun x=>x)=e:=by
   unfold CS
   rw [List.map_id']
   exact aaJ e
  rw [e1]
  split<;>rfl
theorem Oc {l:List Ex} (hl : ∀ x∈l,l8 x) (y:Ex) : ∃ r,oJ y l=some r:=by
 unfold oJ
 cases decide ((0:Int)<((y.args.length:Nat):Int)) with
 | true=>exact ⟨_,rfl⟩
 | false =>
 cases (!(y.nm.toList==(⟨#[]⟩:ByteArray).toList)) with
 | true=>exact ⟨_,rfl⟩
 | false =>
 cases (!(dw [.c (.int .i64 y.v.kind), .c (.int .i64 y.v.int), .c (.str y.v.text)] [.c (.int .i64 (0:Int)), .c (.int .i64 (0:Int)), .c (.str ByteArray.empty)])) with
 | true=>exact ⟨_,rfl⟩
 | false =>
 by_cases h1:y.int<0
 ·rw [adM h1];exact ⟨_,rfl⟩
 rw [adL h1]
 by_cases h2:((l.length:Nat):Int)<=y.int
 ·rw [adM h2];exact ⟨_,rfl⟩
 rw [adL h2]
 simp only [adJ]
 obtain ⟨x,hx⟩:=gol_ (l:=l) (i:=y.int.toNat) (by omega)
 have hg:aA l y.int=some x:=by unfold aA;rw [if_pos (by omega)];exact hx
 rw [hg,adH,Ay _ _ (adY _) (hl x (adO hx))]
 exact ⟨_,rfl⟩
theorem Ap {f:Ex->Option Ex} (hf : ∀ y, ∃ r,f y=some r) : ∀ (n:Nat) (e:Ex),QF e<=n->l8 e -> ∃ r,eP n e f=some r
 | 0,e,h,_=>by have:=Np e;omega
 | n+1,e,h,k=>by
  obtain ⟨hl,ha⟩:=Ed k
  rw [uD (g:=fun x=>(eP n x f).getD x) (fun x hx=>by
   obtain ⟨r,hr⟩:=Ap hf n x (by have:=Fg hx;omega) (ha x hx)
   show eP n x f=some ((eP n x f).getD x)
   rw [hr];rfl) hl]
  split
  ·exact hf _
  ·exact ⟨_,rfl⟩
theorem Hy (row:List Val) : ∀ (n m:Nat) (e:Ex),n<=m->eY n e->dE m e row=dE n e row
 | 0,_,_,_,h=>h.elim
 | n+1,0,_,h,_=>by omega
 | n+1,m+1,e,hnm,h=>by
  show jZ (dE m) e row=jZ (dE n) e row
  have hb:ed e row (dE m)=ed e row (dE n):=by
   funext s
   obtain ⟨l,i⟩:=s
   unfold ed
   dsimp only
   cases hg:aA e.args i with
   | none=>rfl
   | some x =>
    simp only [adH]
    rw [Hy row n m x (by omega) (h.2 x (adO (og hg).2))]
  unfold jZ
  rw [hb]
theorem Q4 {e:Ex} (row:List Val) (h:eY fuel e):mW e row=bif jk e then (if e.op=1 then e.v else if e.op=2 then Jk (wF row e.int) else oh e.op e.int (e.args.map fun x=>mW x row)) else jr:=by
 obtain ⟨k,hk⟩ : ∃ k,fuel=k+1:=⟨fuel-1,rfl⟩
 have h':eY (k+1) e:=hk▸h
 have hx : ∀ x∈e.args,dE k x row=some (mW x row)/\vF (mW x row)=true:=by
  intro x hx
  have hxk:eY k x:=h'.2 x hx
  have hxf:eY fuel x:=jT (by omega) hxk
  have:=val_ok hxf row
  rw [Hy row k fuel x (by omega) hxk] at this
  exact ⟨this.1,this.2.2⟩
 have hR:dE fuel e row=(bif jk e then gER_K e row (.inl (e.args.map fun x=>mW x row,((e.args.length:Nat):Int))) else some jr):=by
  rw [hk]
  show jZ (dE k) e row=_
  unfold jZ
  rw [qC h'.1,adH,bV]
  cases jk e with
  | false=>rfl
  | true =>
   rw [Bool.not_true,adJ,adK]
   have hlen:=h'.1
   have:=bJ (l:=e.args) (body:=ed e row (dE k)) (fun x=>[mW x row]) 4398046511104 ?_ ?_ (by unfold fuel;omega) [] (by rw [fo_];simp;omega)
   ·rw [this,adN,fo_];rfl
   ·intro s i x hx1 hb
    have hi:=(adI.1 hx1).1
    unfold ed
    dsimp only
    rw [aI hx1,adK,gn_ hx1,wrapN (by omega),adH,(hx x (adO hx1)).1,adH,adM (show s.length+1<=4398046511104 from hb),adK]
   ·intro s
    unfold ed
    dsimp only
    rw [lF_,adJ]
 unfold mW at hR ⊢
 rw [hR]
 cases hf:jk e with
 | false=>rfl
 | true =>
  rw [adK,adK]
  obtain ⟨hops,hlo,hhi,hrest⟩:=o6 h'.1 hf
  by_cases o1:e.op=1
  ·have hv:=I4 o1 hrest
   rw [if_pos o1]
   unfold gER_K
   dsimp only
   rw [adM o1,adK,Er e row o1 hv];rfl
  by_cases o2:e.op=2
  ·rw [if_neg o1,if_pos o2]
   unfold gER_K
   dsimp only
   rw [adL o1,adJ,adM o2,adK,KI e row o2];rfl
  rw [if_neg o1,if_neg o2]
  have A:rC e.op (e.args.map fun x=>mW x row):=by
   refine ⟨by rw [adU];exact hlo,by rw [adU];exact hhi,by rw [adU];exact h'.1,fun v hv=>?_⟩
   obtain ⟨x,hx1,rfl⟩:=aeh.1 hv
   exact (hx x hx1).2
  exact congrArg (fun o:Option Val=>o.getD jr) (N8 e row _ _ A (by omega))
theorem Q3 {kinds:List Int} {n:Nat} {e:Ex} {c:Int} (h:eY (n+1) e) (hc:df (n+1) e kinds=some (c,0)):jk e=true/\(e.op=2->0<=e.int/\e.int<((kinds.length:Nat):Int))/\(e.op≠2 -> ∀ x∈e.args, ∃ c',df n x kinds=some (c',0)):=by
 obtain ⟨a1,a2,a3,a4⟩:=qM e.op ((e.args.length:Nat):Int) (by have:=h.1;omega)
 have hc:lC (df n) e kinds=some (c,0):=hc
 unfold lC at hc
 rw [a1,adH] at hc
 by_cases h0:(kS e.op).1<0
 ·rw [adM h0] at hc
  exact absurd (show (0,7)=(c,(0:Int)) from aee hc) (by intro k;injection k with _ k;exact absurd k (by decide))
 rw [adL h0,adJ,qC h.1,adH] at hc
 cases hf:jk e with
 | false =>
  rw [hf] at hc
  exact absurd (show (0,8)=(c,(0:Int)) from aee hc) (by intro k;injection k with _ k;exact absurd k (by decide))
 | true =>
  rw [hf,Bool.not_true,adJ] at hc
  refine ⟨rfl,fun o2=>?_,fun o2=>?_⟩
  ·rw [adM o2,adK] at hc
   by_cases i0:e.int<0
   ·rw [adM i0] at hc
    exact absurd (show (0,13)=(c,(0:Int)) from aee hc) (by intro k;injection k with _ k;exact absurd k (by decide))
   rw [adL i0,adJ] at hc
   by_cases i1:((kinds.length:Nat):Int)<=e.int
   ·rw [adM i1] at hc
    exact absurd (show (0,13)=(c,(0:Int)) from aee hc) (by intro k;injection k with _ k;exact absurd k (by decide))
   omega
  ·rw [adL o2,adJ] at hc
   have hlen:=h.1
   have key : ∀ (N i:Nat) (s:List Int),i<=e.args.length->e.args.length-i<N->(az (bz e kinds (df n)) N (s,(i:Int))).bind (gG e kinds)=some (c,0) -> ∀ x∈e.args.drop i, ∃ c',df n x kinds=some (c',0):=by
    intro N
    induction N with
    | zero=>intro i s _ h;omega
    | succ N ih =>
     intro i s hi hN hl x hx
     by_cases hlt:i<e.args.length
     ·obtain ⟨y,hy⟩:=gol_ hlt
      obtain ⟨d,hd,_⟩:=zY kinds n y (h.2 y (adO hy))
      have hdr:e.args.drop i=y::e.args.drop (i+1):=by rw [aed hlt,(adI.1 hy).2]
      rw [az] at hl
      by_cases d0:d.2=0
      ·cases hg:decide (s.length+1<=17592186044416) with
       | false =>
        have hb:bz e kinds (df n) (s,(i:Int))=none:=by
         unfold bz
         dsimp only
         rw [aI hy,adK,gn_ hy,adH,hd,adH,adL (show ¬ d.2≠0 by omega),adJ,hg,adJ]
        rw [hb] at hl;cases hl
       | true =>
        have hb:bz e kinds (df n) (s,(i:Int))=some (.next (s++[d.1],((i+1:Nat):Int))):=by
         unfold bz
         dsimp only
         rw [aI hy,adK,gn_ hy,adH,hd,adH,adL (show ¬ d.2≠0 by omega),adJ,hg,adK,wrapN (by omega)]
        rw [hb] at hl
        rw [hdr] at hx
        rcases adZ.1 hx with rfl|hx
        ·exact ⟨d.1,by rw [hd, <- d0]⟩
        ·exact ih (i+1) (s++[d.1]) (by omega) (by omega) hl x hx
      ·have hb:bz e kinds (df n) (s,(i:Int))=some (.ret (0,d.2)):=by
        unfold bz
        dsimp only
        rw [aI hy,adK,gn_ hy,adH,hd,adH,adM (show d.2≠0 from d0),adK]
       rw [hb] at hl
       exact absurd (show (0,d.2)=(c,(0:Int)) from aee hl) (by intro k;injection k with _ k;exact absurd k d0)
     ·rw [List.drop_eq_nil_of_le (by omega)] at hx;cases hx
   intro x hx
   exact key fuel 0 [] (ad4 _) (by unfold fuel;omega) hc x (by rw [List.drop_zero];exact hx)
theorem QB {e:Ex} {a:List Ex} (h:a.length=e.args.length):jk (CS e a)=jk e:=by
 unfold jk jo
 show ((v_ e.op).bind _).getD false=_
 have:(CS e a).args.length=e.args.length:=h
 rw [this];rfl
theorem Wo {e:Ex} (h:e.op=2) (hr:wM e=true):(e.nm.toList==(⟨#[]⟩:ByteArray).toList)=true/\Rm e.v=true:=by
 unfold wM at hr
 rw [ad1,if_neg (by omega),if_pos h] at hr
 exact hr
theorem Ke {l:List Ex} {kinds:List Int} (row:List Val) (hk:kinds.length=l.length) (hlo : ∀ x∈l,l8 x) (hle : ∀ x∈l,eY fuel x) : ∀ (n:Nat) (e:Ex),n<=fuel->eY n e->l8 e->(∃ c,df n e kinds=some (c,0)) -> ∀ (m:Nat) (s:Ex),QF e<=m->eP m e (fun x0=>oJ x0 l)=some s->eY fuel s->mW s row=mW e (qd l row)
 | 0,_,_,h,_,_,_,_,_,_,_=>h.elim
 | n+1,e,hn,h,ho,⟨c,hc⟩,0,s,hm,_,_=>by have:=Np e;omega
 | n+1,e,hn,h,ho,⟨c,hc⟩,m+1,s,hm,hs,hsk=>by
  obtain ⟨hf,hcol,harg⟩:=Q3 h hc
  obtain ⟨hops,alo,ahi,hrest⟩:=o6 h.1 hf
  obtain ⟨hl,ha⟩:=Ed ho
  have hef:eY fuel e:=jT hn h
  have hx : ∀ x∈e.args,eP m x (fun x0=>oJ x0 l)=some ((eP m x (fun x0=>oJ x0 l)).getD x):=by
   intro x hx
   obtain ⟨r,hr⟩:=Ap (f:=fun x0=>oJ x0 l) (Oc hlo) m x (by have:=Fg hx;omega) (ha x hx)
   rw [hr];rfl
  generalize hg:(fun x=>(eP m x (fun x0=>oJ x0 l)).getD x)=g at hx
  have hx' : ∀ x∈e.args,eP m x (fun x0=>oJ x0 l)=some (g x):=by subst hg;exact hx
  rw [uD hx' hl] at hs
  by_cases o2:e.op=2
  ·rw [if_pos o2] at hs
   obtain ⟨i0,i1⟩:=hcol o2
   rw [o2,ar2] at ahi
   dsimp only at ahi
   have hz:e.args=[]:=List.length_eq_zero_iff.1 (by omega)
   obtain ⟨hnm,hnv⟩:=Wo o2 hrest
   obtain ⟨y,hy⟩:=gol_ (l:=l) (i:=e.int.toNat) (by omega)
   have hgy:aA l e.int=some y:=by unfold aA;rw [if_pos (by omega)];exact hy
   have hs2:oJ (CS e (e.args.map g)) l=some y:=by
    rw [hz]
    unfold oJ
    show (bif decide ((0:Int)<((([]:List Ex).length:Nat):Int)) then _ else bif (!(e.nm.toList==(⟨#[]⟩:ByteArray).toList)) then _ else bif (!Rm e.v) then _ else bif (decide (e.int<(0:Int))) then _ else bif (decide (((l.length:Nat):Int)<=e.int)) then _ else (aA l e.int).bind _)=_
    rw [show decide ((0:Int)<((([]:List Ex).length:Nat):Int))=false from rfl,hnm,hnv,adL (show ¬ e.int<0 by omega),adL (show ¬ ((l.length:Nat):Int)<=e.int by omega),hgy]
    simp only [Bool.not_true,adJ,adH]
    rw [Ay _ _ (adY _) (hlo y (adO hy))];rfl
   have hsy:s=y:=by
    have:=hs.symm.trans hs2
    exact aee this
   subst hsy
   rw [Q4 (qd l row) hef,hf,adK,if_neg (by omega),if_pos o2]
   have e1:wF (qd l row) e.int=mW s row:=by
    have:=Y0 (l:=qd l row) (i:=e.int.toNat) (x:=mW s row) (by unfold qd;rw [ad6,hy];rfl)
    rwa [show ((e.int.toNat:Nat):Int)=e.int by omega] at this
   rw [e1]
   unfold Jk
   rw [(val_ok hsk row).2.2];rfl
  ·rw [if_neg o2] at hs
   have hs:=aee hs
   subst hs
   rw [Q4 row hsk,Q4 (qd l row) hef,QB (by rw [adU]),hf,adK,adK]
   show (if e.op=1 then e.v else if e.op=2 then Jk (wF row e.int) else oh e.op e.int ((e.args.map g).map fun x=>mW x row))=_
   rw [if_neg o2,if_neg o2]
   have e1:((e.args.map g).map fun x=>mW x row)=e.args.map fun x=>mW x (qd l row):=by
    rw [List.map_map]
    refine List.map_congr_left fun x hx1=>?_
    refine Ke row hk hlo hle n x (by omega) (h.2 x hx1) (ha x hx1) (harg o2 x hx1) m (g x) (by have:=Fg hx1;omega) (hx' x hx1) ?_
    obtain ⟨k,hk2⟩ : ∃ k,fuel=k+1:=⟨fuel-1,rfl⟩
    rw [hk2] at hsk
    exact jT (by omega) (hsk.2 (g x) (aeh.2 ⟨x,hx1,rfl⟩))
   rw [e1]
theorem JN {e:Ex} {kinds:List Int} (he:eY fuel e) (h:jy e kinds=some true) : ∃ c,df fuel e kinds=some (c,0):=by
 unfold jy at h
 obtain ⟨b,hb,hok⟩:=DT [e]
 rw [hb,adH] at h
 cases b with
 | false=>exact absurd (show false=true from aee h) (by decide)
 | true =>
  rw [adK] at h
  obtain ⟨k,k1,k2⟩:=bd_ h
  have k2:=aea (aee k2)
  subst k2
  unfold y7 at k1
  obtain ⟨r,r1,r2⟩:=bd_ k1
  by_cases h0:r.2=0
  ·unfold uA at r1
   obtain ⟨d,d1,d2⟩:=bd_ r1
   by_cases hd:(24:Int)<d
   ·rw [adM hd] at d2
    have:r=(0,26):=(aee d2).symm
    rw [this] at h0;exact absurd h0 (by decide)
   ·rw [adL hd,adJ] at d2
    obtain ⟨q,q1,q2⟩:=bd_ d2
    have:r=(q.1,q.2):=(aee q2).symm
    rw [this] at h0
    exact ⟨q.1,by rw [q1, <- h0]⟩
  ·rw [adM (show r.2≠0 from h0)] at r2
   exact absurd (aee r2) h0
theorem VN {e:Ex} {l:List Ex} (he:l8 e) (hl : ∀ x∈l,l8 x) : ∃ s,Ip e l=some s/\eP (QF e) e (fun x0=>oJ x0 l)=some s:=by
 obtain ⟨s,hs⟩:=Ap (f:=fun x0=>oJ x0 l) (Oc hl) (QF e) e (adY _) he
 refine ⟨s,?_,hs⟩
 unfold Ip
 rw [hs];rfl
theorem xQ (r:bI) (l:List Ex) (e:Ex) (q1:zR 88 l8 l) (q2:l8 e):jC r l e=some true:=by
 obtain ⟨b,hb,hok⟩:=gK r
 unfold jC
 rw [hb,adH]
 cases b with
 | false=>rfl
 | true =>
  have H:=hok rfl
  rw [Bool.not_true,adJ]
  obtain ⟨c,hc,hok2⟩:=rO l r.kinds
  rw [hc,adH]
  cases c with
  | false=>rfl
  | true =>
   obtain ⟨hl,hle,hp⟩:=hok2 rfl
   obtain ⟨s,hs,hm⟩:=VN q2 q1.2
   rw [Bool.not_true,adJ,hp,adH,hs,adH]
   obtain ⟨d,hd,hok3⟩:=nX e (jh l r.kinds)
   dsimp only
   rw [hd,adH]
   cases d with
   | false=>rfl
   | true =>
    have he:=hok3 rfl
    obtain ⟨d2,hd2,hok4⟩:=nX s r.kinds
    rw [Bool.not_true,adJ,hd2,adH]
    cases d2 with
    | false=>rfl
    | true =>
     have hse:=hok4 rfl
     have hn:=H.len
     have hk:r.kinds.length<=1000000:=by have:=H.kinds;omega
     have hkl:(jh l r.kinds).length=l.length:=by unfold jh;rw [adU]
     have hP:=y9 H.fcts.1 hl hle
     have hF1:bM ((canon (r.facts.map (Qq l))).filter fun f=>jf e f.row):=mD (bC hP) List.filter_sublist
     have hF2:bM (r.facts.filter fun f=>jf s f.row):=mD H.fcts List.filter_sublist
     have hF3:=y9 (bC hF2).1 hl hle
     rw [Bool.not_true,adJ,nY H.fcts hl hle,adH,ql (r:=⟨jh l r.kinds,canon (r.facts.map (Qq l))⟩) (by dsimp only;omega) (bC hP) he,adH,ql hk H.fcts hse,adH,nY (r:=⟨r.kinds,canon (r.facts.filter fun f=>jf s f.row)⟩) (bC hF2) hl hle,adH]
     dsimp only
     have hsel : ∀ x:List Val,jf e (qd l x)=jf s x:=by
      intro x
      unfold jf
      rw [Ke x hkl q1.2 hle fuel e (adY _) he q2 (JN he hd) (QF e) s (adY _) hm hse]
     have e1:canon ((canon (r.facts.map (Qq l))).filter fun f=>jf e f.row)=canon ((canon (r.facts.filter fun f=>jf s f.row)).map (Qq l)):=by
      refine LJ (by have:=hF1.1;omega) (by have:=hF3.1;omega) fun t=>?_
      rw [lX]
      refine ((tO (by have:=hP.1;omega) t).filter _).trans ?_
      have a1:aX (r.facts.map (Qq l)) t=(aX r.facts t).map (qd l):=vN (qd l) t r.facts
      have a2:aX ((canon (r.facts.filter fun f=>jf s f.row)).map (Qq l)) t=(aX (canon (r.facts.filter fun f=>jf s f.row)) t).map (qd l):=vN (qd l) t _
      rw [a1,a2]
      refine List.Perm.trans ?_ ((tO (by have:=hF2.1;omega) t).map _).symm
      rw [lX,List.filter_map]
      have:(jf e∘qd l)=jf s:=funext hsel
      rw [this]
     rw [e1,iG (r:=⟨jh l r.kinds,canon ((canon (r.facts.filter fun f=>jf s f.row)).map (Qq l))⟩) (by dsimp only;omega) (bC hF3)];rfl
open Go.RowKit Go.MapKept
theorem sG {r:bI} {l:List Ex} {e:Ex} (q0:wE r) (q1:(zR 88 l8) l) (q2:l8 e):Pure Tryz.prog 11 [.agg (dW r), .one (.lst (l.map tE)), .agg (tE e)] (.val (.one (.bool true))):=AA (xQ r l e q1 q2)
end Go.Proofs.YtfccopdbgfdcdaaGreatDoor
