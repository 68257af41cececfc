/- Parts of the proof, joined. No condition. -/
import Derived.Test.YtfpbmfalamappaaGreatDoorKAA
import Derived.Test.YtfpbmfalamappaaGreatDoorKAR
import Derived.Test.YtfpbmfalamappaaGreatDoorKAS
set_option linter.unusedSimpArgs false
set_option linter.unusedVariables false
namespace Go.Proofs.YtfpbmfalamappaaGreatDoor
open Go.RowKit Go.MapKept
set_option maxRecDepth 100000
set_option maxHeartbeats 8000000
def oV (a_e:Ex) (a_row:(List Val)) (rec:Ex->List Val->Option Val):((List Val) × Int)->Option (Step ((List Val) × Int) (Val)):=fun s=>match s with
 | (l_4,i_5)=>bif (decide (i_5<((a_e.args.length:Nat):Int))) then (aL a_e.args i_5).bind fun x_7=>(rec x_7 a_row).bind fun r_8=>bif (decide (l_4.length+1<=4398046511104)) then (some (.next ((l_4++[r_8]),(IntKind.i64.wrap (i_5+(1:Int)))))) else none else
 some (.exit (l_4,i_5))
def gER_K (a_e:Ex) (a_row:(List Val)):Sum ((List Val) × Int) (Val)->Option ((Val))
 | .inl (l_4,i_5)=>bif (decide (a_e.op=(1:Int))) then (Dt a_e a_row).bind fun r_10=>some r_10 else
 bif (decide (a_e.op=(2:Int))) then (Dt a_e a_row).bind fun r_12=>some r_12 else
 bif (decide (a_e.op=(4:Int))) then (aL l_4 (0:Int)).bind fun x_14=>(iq x_14).bind fun r_15=>(Ez r_15).bind fun r_16=>(DC r_16).bind fun r_17=>some r_17 else
 bif (decide (a_e.op=(5:Int))) then (wR a_e.op l_4).bind fun r_19=>some r_19 else
 bif (decide (a_e.op=(6:Int))) then (wR a_e.op l_4).bind fun r_21=>some r_21 else
 bif (decide (a_e.op=(7:Int))) then (aL l_4 (0:Int)).bind fun x_23=>(aL l_4 (1:Int)).bind fun x_24=>(ib a_e.op x_23 x_24).bind fun r_25=>(DC r_25).bind fun r_26=>some r_26 else
 bif (decide (a_e.op=(8:Int))) then (aL l_4 (0:Int)).bind fun x_28=>(aL l_4 (1:Int)).bind fun x_29=>(ib a_e.op x_28 x_29).bind fun r_30=>(DC r_30).bind fun r_31=>some r_31 else
 bif (decide (a_e.op=(9:Int))) then (aL l_4 (0:Int)).bind fun x_33=>(aL l_4 (1:Int)).bind fun x_34=>(ib a_e.op x_33 x_34).bind fun r_35=>(DC r_35).bind fun r_36=>some r_36 else
 bif (decide (a_e.op=(10:Int))) then (aL l_4 (0:Int)).bind fun x_38=>(aL l_4 (1:Int)).bind fun x_39=>(ib a_e.op x_38 x_39).bind fun r_40=>(DC r_40).bind fun r_41=>some r_41 else
 bif (decide (a_e.op=(11:Int))) then (aL l_4 (0:Int)).bind fun x_43=>(aL l_4 (1:Int)).bind fun x_44=>(ib a_e.op x_43 x_44).bind fun r_45=>(DC r_45).bind fun r_46=>some r_46 else
 bif (decide (a_e.op=(12:Int))) then (aL l_4 (0:Int)).bind fun x_48=>(aL l_4 (1:Int)).bind fun x_49=>(ib a_e.op x_48 x_49).bind fun r_50=>(DC r_50).bind fun r_51=>some r_51 else
 bif (decide (a_e.op=(18:Int))) then (L8 l_4 (1:Int)).bind fun r_53=>bif (!r_53) then (dJ ).bind fun r_55=>some r_55 else
 (aL l_4 (0:Int)).bind fun x_56=>(lM (IntKind.i64.wrap (0-x_56.int))).bind fun r_57=>some r_57 else
 bif (decide (a_e.op=(19:Int))) then (uW a_e.op l_4).bind fun r_59=>some r_59 else
 bif (decide (a_e.op=(20:Int))) then (uW a_e.op l_4).bind fun r_61=>some r_61 else
 bif (decide (a_e.op=(21:Int))) then (aL l_4 (0:Int)).bind fun x_63=>(uq (decide (x_63.kind=(0:Int)))).bind fun r_64=>some r_64 else
 bif (decide (a_e.op=(22:Int))) then (tF a_e.op l_4).bind fun r_66=>some r_66 else
 bif (decide (a_e.op=(23:Int))) then (tF a_e.op l_4).bind fun r_68=>some r_68 else
 bif (decide (a_e.op=(24:Int))) then (qQ a_e.int l_4).bind fun r_70=>some r_70 else
 (L8 l_4 (1:Int)).bind fun r_71=>bif (!r_71) then (dJ ).bind fun r_73=>some r_73 else
 (aL l_4 (0:Int)).bind fun x_74=>(aL l_4 (1:Int)).bind fun x_75=>(dM a_e.op x_74.int x_75.int).bind fun r_76=>some r_76
 | .inr q=>some q
def wP (rec:Ex->List Val->Option Val) (a_e:Ex) (a_row:(List Val)):Option (Val):=(kC a_e).bind fun r_1=>bif (!r_1) then (dJ ).bind fun r_3=>some r_3 else
 (ax (oV a_e a_row rec) fuel ([],(0:Int))).bind (gER_K a_e a_row)
theorem O8 {rec:Ex->List Val->Option Val}  (hrec : ∀ {x:Ex} {y:List Val} {r:Val}, rec x y=some r->Pure Tryz.prog 110 [.agg (tE x), .one (.lst (y.map cV))] (.val (.agg (cV r)))) {a_e:Ex} {a_row:(List Val)} {r:Val} (H:wP rec a_e a_row=some r):Pure Tryz.prog 110 [.agg (tE a_e), .one (.lst (a_row.map cV))] (.val (.agg (cV r))):=by
 unfold wP at H
 rw [tE_eq a_e]
 refine po_ Tryz.func110 Tryz.ntmps110 ?_
 obtain ⟨r_1,c1,H⟩:=bd_ H
 replace c1:=Du c1
 try simp only [abm,abk,abo,abd,tE_eq,tP_eq] at c1
 rcases cnd_ H with ⟨q_2,H⟩|⟨q_2,H⟩
 ·obtain ⟨r_3,c2,H⟩:=bd_ H
  replace c2:=bT c2
  cases H
  exact go_
 refine bC ?_
 refine dh 5 3 rfl ?_
 refine alM_ (fun s:(List Val) × Int=>match s with|(l_4,i_5)=>[(1, .one (.c (.lst (a_row.map cV)))),(2, .one (.ptr 0 0)),(4, .one (.ptr 1 0)),(5, .one (.own (l_4.map cV) 2)),(6, .one (.c (.int .i64 i_5)))]) (fun s=>match s with|(l_4,i_5)=>[.box [.c (.int .i64 a_e.op), .c (.int .i64 a_e.int), .c (.int .i64 a_e.v.kind), .c (.int .i64 a_e.v.int), .c (.str a_e.v.text), .c (.str a_e.nm), .c (.lst (a_e.args.map tE))], .box [.c (.int .i64 (0:Int)), .c (.int .i64 (0:Int)), .c (.str ByteArray.empty)], .spare l_4.length 3]) H (fun _=>abv _)
  (fm_ bV [] rfl bE dw) ?_
 rintro ⟨l_4,i_5⟩ st1 hb1 hk1
 unfold oV at hb1
 dsimp only at hb1 ⊢
 rcases cnd_ hb1 with ⟨q_6,hb1⟩|⟨q_6,hb1⟩
 ·obtain ⟨x_7,i3z,i3,i3x,hb1⟩:=aX (f:=tE) hb1
  simp only [abm,abk,abo,abd,tE_eq] at i3x
  obtain ⟨r_8,c4,hb1⟩:=bd_ hb1
  replace c4:=hrec c4
  try simp only [abm,abk,abo,abd,tE_eq,tP_eq] at c4
  obtain ⟨g5,hb1⟩:=aK hb1
  cases hb1
  refine bC ?_
  exact ⟨_,rfl,fm_ o8 [] kJ bE dw⟩
 cases hb1
 have hx1:gER_K a_e a_row (.inl (l_4,i_5))=some _:=hk1
 unfold gER_K at hx1
 dsimp only at hx1
 refine bC ?_
 rcases cnd_ hx1 with ⟨q_9,hx1⟩|⟨q_9,hx1⟩
 ·obtain ⟨r_10,c6,hx1⟩:=bd_ hx1
  replace c6:=MI c6
  try simp only [abm,abk,abo,abd,tE_eq,tP_eq] at c6
  cases hx1
  exact go_
 rcases cnd_ hx1 with ⟨q_11,hx1⟩|⟨q_11,hx1⟩
 ·obtain ⟨r_12,c7,hx1⟩:=bd_ hx1
  replace c7:=MI c7
  try simp only [abm,abk,abo,abd,tE_eq,tP_eq] at c7
  cases hx1
  exact go_
 rcases cnd_ hx1 with ⟨q_13,hx1⟩|⟨q_13,hx1⟩
 ·obtain ⟨x_14,i8z,i8,i8x,hx1⟩:=aX (f:=cV) hx1
  obtain ⟨r_15,c9,hx1⟩:=bd_ hx1
  replace c9:=lw c9
  obtain ⟨r_16,c10,hx1⟩:=bd_ hx1
  replace c10:=zI c10
  obtain ⟨r_17,c11,hx1⟩:=bd_ hx1
  replace c11:=pQ c11
  cases hx1
  exact go_
 refine bC ?_
 rcases cnd_ hx1 with ⟨q_18,hx1⟩|⟨q_18,hx1⟩
 ·obtain ⟨r_19,c12,hx1⟩:=bd_ hx1
  replace c12:=ET c12
  cases hx1
  exact go_
 rcases cnd_ hx1 with ⟨q_20,hx1⟩|⟨q_20,hx1⟩
 ·obtain ⟨r_21,c13,hx1⟩:=bd_ hx1
  replace c13:=ET c13
  cases hx1
  exact go_
 rcases cnd_ hx1 with ⟨q_22,hx1⟩|⟨q_22,hx1⟩
 ·obtain ⟨x_23,i14z,i14,i14x,hx1⟩:=aX (f:=cV) hx1
  obtain ⟨x_24,i15z,i15,i15x,hx1⟩:=aX (f:=cV) hx1
  obtain ⟨r_25,c16,hx1⟩:=bd_ hx1
  replace c16:=iW c16
  obtain ⟨r_26,c17,hx1⟩:=bd_ hx1
  replace c17:=pQ c17
  cases hx1
  exact go_
 refine bC ?_
 rcases cnd_ hx1 with ⟨q_27,hx1⟩|⟨q_27,hx1⟩
 ·obtain ⟨x_28,i18z,i18,i18x,hx1⟩:=aX (f:=cV) hx1
  obtain ⟨x_29,i19z,i19,i19x,hx1⟩:=aX (f:=cV) hx1
  obtain ⟨r_30,c20,hx1⟩:=bd_ hx1
  replace c20:=iW c20
  obtain ⟨r_31,c21,hx1⟩:=bd_ hx1
  replace c21:=pQ c21
  cases hx1
  exact go_
 rcases cnd_ hx1 with ⟨q_32,hx1⟩|⟨q_32,hx1⟩
 ·obtain ⟨x_33,i22z,i22,i22x,hx1⟩:=aX (f:=cV) hx1
  obtain ⟨x_34,i23z,i23,i23x,hx1⟩:=aX (f:=cV) hx1
  obtain ⟨r_35,c24,hx1⟩:=bd_ hx1
  replace c24:=iW c24
  obtain ⟨r_36,c25,hx1⟩:=bd_ hx1
  replace c25:=pQ c25
  cases hx1
  exact go_
 rcases cnd_ hx1 with ⟨q_37,hx1⟩|⟨q_37,hx1⟩
 ·obtain ⟨x_38,i26z,i26,i26x,hx1⟩:=aX (f:=cV) hx1
  obtain ⟨x_39,i27z,i27,i27x,hx1⟩:=aX (f:=cV) hx1
  obtain ⟨r_40,c28,hx1⟩:=bd_ hx1
  replace c28:=iW c28
  obtain ⟨r_41,c29,hx1⟩:=bd_ hx1
  replace c29:=pQ c29
  cases hx1
  exact go_
 refine bC ?_
 rcases cnd_ hx1 with ⟨q_42,hx1⟩|⟨q_42,hx1⟩
 ·obtain ⟨x_43,i30z,i30,i30x,hx1⟩:=aX (f:=cV) hx1
  obtain ⟨x_44,i31z,i31,i31x,hx1⟩:=aX (f:=cV) hx1
  obtain ⟨r_45,c32,hx1⟩:=bd_ hx1
  replace c32:=iW c32
  obtain ⟨r_46,c33,hx1⟩:=bd_ hx1
  replace c33:=pQ c33
  cases hx1
  exact go_
 rcases cnd_ hx1 with ⟨q_47,hx1⟩|⟨q_47,hx1⟩
 ·obtain ⟨x_48,i34z,i34,i34x,hx1⟩:=aX (f:=cV) hx1
  obtain ⟨x_49,i35z,i35,i35x,hx1⟩:=aX (f:=cV) hx1
  obtain ⟨r_50,c36,hx1⟩:=bd_ hx1
  replace c36:=iW c36
  obtain ⟨r_51,c37,hx1⟩:=bd_ hx1
  replace c37:=pQ c37
  cases hx1
  exact go_
 rcases cnd_ hx1 with ⟨q_52,hx1⟩|⟨q_52,hx1⟩
 ·obtain ⟨r_53,c38,hx1⟩:=bd_ hx1
  replace c38:=DW c38
  refine bC ?_
  rcases cnd_ hx1 with ⟨q_54,hx1⟩|⟨q_54,hx1⟩
  ·obtain ⟨r_55,c39,hx1⟩:=bd_ hx1
   replace c39:=bT c39
   cases hx1
   exact go_
  obtain ⟨x_56,i40z,i40,i40x,hx1⟩:=aX (f:=cV) hx1
  obtain ⟨r_57,c41,hx1⟩:=bd_ hx1
  replace c41:=iK c41
  cases hx1
  exact go_
 refine bC ?_
 rcases cnd_ hx1 with ⟨q_58,hx1⟩|⟨q_58,hx1⟩
 ·obtain ⟨r_59,c42,hx1⟩:=bd_ hx1
  replace c42:=IM c42
  cases hx1
  exact go_
 rcases cnd_ hx1 with ⟨q_60,hx1⟩|⟨q_60,hx1⟩
 ·obtain ⟨r_61,c43,hx1⟩:=bd_ hx1
  replace c43:=IM c43
  cases hx1
  exact go_
 rcases cnd_ hx1 with ⟨q_62,hx1⟩|⟨q_62,hx1⟩
 ·obtain ⟨x_63,i44z,i44,i44x,hx1⟩:=aX (f:=cV) hx1
  obtain ⟨r_64,c45,hx1⟩:=bd_ hx1
  replace c45:=nD c45
  cases hx1
  exact go_
 refine bC ?_
 rcases cnd_ hx1 with ⟨q_65,hx1⟩|⟨q_65,hx1⟩
 ·obtain ⟨r_66,c46,hx1⟩:=bd_ hx1
  replace c46:=GX c46
  cases hx1
  exact go_
 rcases cnd_ hx1 with ⟨q_67,hx1⟩|⟨q_67,hx1⟩
 ·obtain ⟨r_68,c47,hx1⟩:=bd_ hx1
  replace c47:=GX c47
  cases hx1
  exact go_
 rcases cnd_ hx1 with ⟨q_69,hx1⟩|⟨q_69,hx1⟩
 ·obtain ⟨r_70,c48,hx1⟩:=bd_ hx1
  replace c48:=KA c48
  cases hx1
  exact go_
 obtain ⟨r_71,c49,hx1⟩:=bd_ hx1
 replace c49:=DW c49
 refine bC ?_
 rcases cnd_ hx1 with ⟨q_72,hx1⟩|⟨q_72,hx1⟩
 ·obtain ⟨r_73,c50,hx1⟩:=bd_ hx1
  replace c50:=bT c50
  cases hx1
  exact go_
 obtain ⟨x_74,i51z,i51,i51x,hx1⟩:=aX (f:=cV) hx1
 obtain ⟨x_75,i52z,i52,i52x,hx1⟩:=aX (f:=cV) hx1
 obtain ⟨r_76,c53,hx1⟩:=bd_ hx1
 replace c53:=K3 c53
 cases hx1
 exact go_
def jc:Nat->Ex->List Val->Option Val
 | 0,_,_=>none
 | n+1,e,r=>wP (jc n) e r
theorem Bu : ∀ (n:Nat) {x:Ex} {y:List Val} {r:Val}, jc n x y=some r->Pure Tryz.prog 110 [.agg (tE x), .one (.lst (y.map cV))] (.val (.agg (cV r)))
 | 0,_,_,_,h=>nomatch h
 | n+1,_,_,_,h=>O8 (Bu n) h
theorem Mx {α β ρ:Type} {l:List α} {body:(List β × Int)->Option (Step (List β × Int) ρ)} (g:α->β) (h1 : ∀ (c:List β) (i:Nat) x,l[i]?=some x->i<c.length->body (c,(i:Int))=some (.next (c.set i (g x),((i+1:Nat):Int)))) (h2 : ∀ c:List β,body (c,((l.length:Nat):Int))=some (.exit (c,((l.length:Nat):Int)))) :
  ∀ (n i:Nat) (c:List β),c.length=l.length->i<=l.length->l.length-i<n->ax body n (c,(i:Int))=some (.inl (c.take i++(l.drop i).map g,((l.length:Nat):Int)))
 | 0,i,c,_,_,h=>by omega
 | n+1,i,c,hc,hi,hn=>by
  rw [ax]
  by_cases hlt:i<l.length
  ·obtain ⟨x,hx⟩:=gol_ hlt
   have e1:=(aa9.1 hx).2
   rw [h1 c i x hx (by omega)]
   show ax body n (c.set i (g x),((i+1:Nat):Int))=_
   rw [Mx g h1 h2 n (i+1) (c.set i (g x)) (by rw [List.length_set];exact hc) (by omega) (by omega),abG hlt,e1,abk]
   congr 3
   rw [List.take_succ_eq_append_getElem (by rw [List.length_set];omega),List.getElem_set_self,abB,List.take_set_of_le (abp i)]
   rfl
  ·have:i=l.length:=by omega
   subst this
   rw [h2,ab1,abo,abJ, <- hc,List.take_length]
def gY:Nat->Ex->Prop
 | 0,_=>False
 | n+1,e=>e.args.length<=100000 /\ ∀ x∈e.args,gY n x
theorem rV : ∀ {n m:Nat} {e:Ex}, n<=m->gY n e->gY m e
 | 0,_,_,_,h=>h.elim
 | n+1,0,_,h,_=>by omega
 | n+1,m+1,e,h,k=>⟨k.1,fun x hx=>rV (by omega) (k.2 x hx)⟩
def AY (l:List Val):Val:=(l.find? fun v=>decide (v.kind≠0)).getD gH
theorem BF : ∀ l:List Val,dE (ρ:=Val) (fun (_:Unit) (v:Val)=>some (if v.kind≠0 then .inr v else .inl ())) () l=some (match l.find? fun v=>decide (v.kind≠0) with|some v => .inr v|none => .inl ())
 | []=>rfl
 | v::l=>by
  rw [dE]
  by_cases h:v.kind=0
  ·simp only [ne_eq,h,not_true_eq_false,if_false]
   rw [BF l,List.find?_cons_of_neg (by simp [h])]
  ·rw [List.find?_cons_of_pos (by simp [h])]
   simp [h]
theorem Km (l:List Val) (hl:l.length<=100000):tF 23 l=some (AY l):=by
 unfold tF
 rw [show decide ((23:Int)=22)=false from rfl,aa_]
 rw [dx (l:=l) (mk:=fun (_:Unit) i=>i) (f:=fun _ v=>some (if v.kind≠0 then .inr v else .inl ())) ?_ ?_ (by unfold fuel;omega) ()]
 ·rw [BF]
  unfold AY
  cases l.find? fun v=>decide (v.kind≠0) with
  | none=>exact congrArg (fun o:Option Val=>o.bind fun r=>some r) bR
  | some v=>rfl
 ·intro s i x hx
  have hi:=(aa9.1 hx).1
  unfold sQ
  dsimp only
  rw [aY hx,aa',gn_ hx,wrapN (by omega)]
  simp only [aa8]
  by_cases h:x.kind=0
  ·simp [h,rf]
  ·simp [h,rf]
 ·intro s
  unfold sQ
  dsimp only
  rw [lF_,aa_]
theorem O5 (l:List Val) (hl:l.length<=100000):(ax (qY l) fuel (0:Int)).bind nA=some (AY l):=by
 rw [dx (l:=l) (mk:=fun (_:Unit) i=>i) (f:=fun _ v=>some (if v.kind≠0 then .inr v else .inl ())) ?_ ?_ (by unfold fuel;omega) ()]
 ·rw [BF]
  unfold AY
  cases l.find? fun v=>decide (v.kind≠0) with
  | none=>exact congrArg (fun o:Option Val=>o.bind fun r=>some r) mf
  | some v=>rfl
 ·intro s i x hx
  have hi:=(aa9.1 hx).1
  unfold qY
  dsimp only
  rw [aY hx,aa',gn_ hx,wrapN (by omega)]
  simp only [aa8]
  by_cases h:x.kind=0
  ·simp [h,rf]
  ·simp [h,rf]
 ·intro s
  unfold qY
  dsimp only
  rw [lF_,aa_]
theorem WE {l:List Val} (h : ∀ v∈l,vF v=true):vF (AY l)=true:=by
 unfold AY
 cases e:l.find? fun v=>decide (v.kind≠0) with
 | none=>exact mG
 | some v=>exact h v (List.mem_of_find?_eq_some e)
theorem qV {op:Int} {a b:Val} (h:VV a):vF (fU op a b)=true:=by
 unfold fU
 cases fD [a,b] 1 with
 | false=>exact mG
 | true=>exact (gP h.int).2
theorem Yl (a:Val):vF (MO a)=true:=by
 unfold MO
 cases fD [a] 1 with
 | false=>exact mG
 | true=>exact qj _
theorem XH (a b:Val):vF (Kj a b)=true:=by
 unfold Kj
 cases fD [a,b] 2 with
 | false=>exact mG
 | true=>exact qj _
theorem Xq (a:Val):vF (KG a)=true:=by
 unfold KG
 cases fD [a] 2 with
 | false=>exact mG
 | true=>exact qj _
theorem Xz (r:Int) (a b c d:Val):vF (J3 r a b c d)=true:=by
 unfold J3
 cases fD [a,b,c,d] 1 with
 | false=>exact mG
 | true =>
  rw [aa']
  split
  ·exact Eh _
  ·exact mG
def o7 (op k:Int) (l:List Val):Val :=
 if op=4 then zw (Gf (tF_ (vv l 0))) else if op=5 then zw (A8 H5 l.tail (tF_ (vv l 0))) else if op=6 then zw (A8 Vm l.tail (tF_ (vv l 0)))
 else if op=7\/op=8\/op=9\/op=10\/op=11\/op=12 then zw (sP op (vv l 0) (vv l 1))
 else if op=18 then MO (vv l 0) else if op=19 then Kj (vv l 0) (vv l 1) else if op=20 then KG (vv l 0) else if op=21 then mM (decide ((vv l 0).kind=0))
 else if op=22 then (bif decide (tF_ (vv l 0)=2) then vv l 1 else vv l 2) else if op=23 then AY l else if op=24 then J3 k (vv l 0) (vv l 1) (vv l 2) (vv l 3)
 else fU op (vv l 0) (vv l 1)
theorem aaz {α:Type} {l:List α} (h:l.length=1) : ∃ a,l=[a]:=match l,h with|[a],_=>⟨a,rfl⟩
theorem len2 {α:Type} {l:List α} (h:l.length=2) : ∃ a b,l=[a,b]:=match l,h with|[a,b],_=>⟨a,b,rfl⟩
theorem Vw {α:Type} {l:List α} (h:l.length=3) : ∃ a b c,l=[a,b,c]:=match l,h with|[a,b,c],_=>⟨a,b,c,rfl⟩
theorem aaF {α:Type} {l:List α} (h:l.length=4) : ∃ a b c d,l=[a,b,c,d]:=match l,h with|[a,b,c,d],_=>⟨a,b,c,d,rfl⟩
theorem aal {α:Type} {l:List α} (h:1<=l.length) : ∃ a m,l=a::m:=match l,h with|a::m,_=>⟨a,m,rfl⟩
structure tH (op:Int) (l:List Val):Prop where
 lo:(lJ op).1<=((l.length:Nat):Int)
 hi:((l.length:Nat):Int)<=(lJ op).2
 len:l.length<=100000
 vf : ∀ v∈l,vF v=true
theorem WO {op:Int} {l:List Val} (A:tH op l) (h:lJ op=(1,1)) : ∃ a,l=[a]/\VV a:=by
 have h1:=A.lo
 have h2:=A.hi
 rw [h] at h1 h2
 dsimp only at h1 h2
 obtain ⟨a,rfl⟩:=aaz (l:=l) (by omega)
 exact ⟨a,rfl,uF (A.vf a (by simp))⟩
theorem Ea {op:Int} {l:List Val} (A:tH op l) (h:lJ op=(2,2)) : ∃ a b,l=[a,b]/\VV a/\VV b:=by
 have h1:=A.lo
 have h2:=A.hi
 rw [h] at h1 h2
 dsimp only at h1 h2
 obtain ⟨a,b,rfl⟩:=len2 (l:=l) (by omega)
 exact ⟨a,b,rfl,uF (A.vf a (by simp)),uF (A.vf b (by simp))⟩
theorem sh3 {op:Int} {l:List Val} (A:tH op l) (h:lJ op=(3,3)) : ∃ a b c,l=[a,b,c]:=by
 have h1:=A.lo
 have h2:=A.hi
 rw [h] at h1 h2
 dsimp only at h1 h2
 exact Vw (l:=l) (by omega)
theorem sh4 {op:Int} {l:List Val} (A:tH op l) (h:lJ op=(4,4)) : ∃ a b c d,l=[a,b,c,d]:=by
 have h1:=A.lo
 have h2:=A.hi
 rw [h] at h1 h2
 dsimp only at h1 h2
 exact aaF (l:=l) (by omega)
theorem R3 {op:Int} {l:List Val} (A:tH op l) (h:1<=(lJ op).1) : ∃ a m,l=a::m/\VV a/\m.length<=1000000:=by
 have h1:=A.lo
 have h3:=A.len
 obtain ⟨a,m,rfl⟩:=aal (l:=l) (by omega)
 exact ⟨a,m,rfl,uF (A.vf a (by simp)),by rw [abw] at h3;omega⟩
theorem Tt (e:Ex) (row l:List Val) (i:Int) (A:tH e.op l) (ho:e.op=4\/e.op=5\/e.op=6\/e.op=7\/e.op=8\/e.op=9\/e.op=10\/e.op=11\/e.op=12\/e.op=13\/e.op=14\/e.op=15\/e.op=16\/e.op=17\/e.op=18\/e.op=19\/e.op=20\/e.op=21\/e.op=22\/e.op=23\/e.op=24):gER_K e row (.inl (l,i))=some (o7 e.op e.int l):=by
 rcases ho with ho|ho|ho|ho|ho|ho|ho|ho|ho|ho|ho|ho|ho|ho|ho|ho|ho|ho|ho|ho|ho
 ·obtain ⟨a,rfl,va⟩:=WO A (by rw [ho];rfl)
  have hv:o7 4 e.int [a]=zw (Gf (tF_ a)):=rfl
  rw [ho,hv]
  unfold gER_K
  dsimp only
  simp only [ho,Int.reduceEq,decide_false,decide_true,aa',aa_]
  rw [show aL [a] (0:Int)=some a from rfl,aa8,og,aa8,Ak (iT a),aa8,qc (sW _)];rfl
 ·obtain ⟨a,m,rfl,va,hm⟩:=R3 A (by rw [ho];decide)
  have hv:o7 5 e.int (a::m)=zw (A8 H5 m (tF_ a)):=rfl
  rw [ho,hv]
  unfold gER_K
  dsimp only
  simp only [ho,Int.reduceEq,decide_false,decide_true,aa',aa_]
  rw [EY 5 H5 Kv (fun a b ha hb=>by rw [show decide ((5:Int)=5)=true from rfl];exact TB ha hb) a m hm];rfl
 ·obtain ⟨a,m,rfl,va,hm⟩:=R3 A (by rw [ho];decide)
  have hv:o7 6 e.int (a::m)=zw (A8 Vm m (tF_ a)):=rfl
  rw [ho,hv]
  unfold gER_K
  dsimp only
  simp only [ho,Int.reduceEq,decide_false,decide_true,aa',aa_]
  rw [EY 6 Vm N0 (fun a b ha hb=>by rw [show decide ((6:Int)=5)=false from rfl];exact Vo ha hb) a m hm];rfl
 ·obtain ⟨a,b,rfl,va,vb⟩:=Ea A (by rw [ho];rfl)
  have hv:o7 7 e.int [a,b]=zw (sP 7 a b):=rfl
  rw [ho,hv]
  unfold gER_K
  dsimp only
  simp only [ho,Int.reduceEq,decide_false,decide_true,aa',aa_]
  rw [show aL [a,b] (0:Int)=some a from rfl,aa8,show aL [a,b] (1:Int)=some b from rfl,aa8,iV,aa8,qc (jq _ _ _)];rfl
 ·obtain ⟨a,b,rfl,va,vb⟩:=Ea A (by rw [ho];rfl)
  have hv:o7 8 e.int [a,b]=zw (sP 8 a b):=rfl
  rw [ho,hv]
  unfold gER_K
  dsimp only
  simp only [ho,Int.reduceEq,decide_false,decide_true,aa',aa_]
  rw [show aL [a,b] (0:Int)=some a from rfl,aa8,show aL [a,b] (1:Int)=some b from rfl,aa8,iV,aa8,qc (jq _ _ _)];rfl
 ·obtain ⟨a,b,rfl,va,vb⟩:=Ea A (by rw [ho];rfl)
  have hv:o7 9 e.int [a,b]=zw (sP 9 a b):=rfl
  rw [ho,hv]
  unfold gER_K
  dsimp only
  simp only [ho,Int.reduceEq,decide_false,decide_true,aa',aa_]
  rw [show aL [a,b] (0:Int)=some a from rfl,aa8,show aL [a,b] (1:Int)=some b from rfl,aa8,iV,aa8,qc (jq _ _ _)];rfl
 ·obtain ⟨a,b,rfl,va,vb⟩:=Ea A (by rw [ho];rfl)
  have hv:o7 10 e.int [a,b]=zw (sP 10 a b):=rfl
  rw [ho,hv]
  unfold gER_K
  dsimp only
  simp only [ho,Int.reduceEq,decide_false,decide_true,aa',aa_]
  rw [show aL [a,b] (0:Int)=some a from rfl,aa8,show aL [a,b] (1:Int)=some b from rfl,aa8,iV,aa8,qc (jq _ _ _)];rfl
 ·obtain ⟨a,b,rfl,va,vb⟩:=Ea A (by rw [ho];rfl)
  have hv:o7 11 e.int [a,b]=zw (sP 11 a b):=rfl
  rw [ho,hv]
  unfold gER_K
  dsimp only
  simp only [ho,Int.reduceEq,decide_false,decide_true,aa',aa_]
  rw [show aL [a,b] (0:Int)=some a from rfl,aa8,show aL [a,b] (1:Int)=some b from rfl,aa8,iV,aa8,qc (jq _ _ _)];rfl
 ·obtain ⟨a,b,rfl,va,vb⟩:=Ea A (by rw [ho];rfl)
  have hv:o7 12 e.int [a,b]=zw (sP 12 a b):=rfl
  rw [ho,hv]
  unfold gER_K
  dsimp only
  simp only [ho,Int.reduceEq,decide_false,decide_true,aa',aa_]
  rw [show aL [a,b] (0:Int)=some a from rfl,aa8,show aL [a,b] (1:Int)=some b from rfl,aa8,iV,aa8,qc (jq _ _ _)];rfl
 ·obtain ⟨a,b,rfl,va,vb⟩:=Ea A (by rw [ho];rfl)
  have hv:o7 13 e.int [a,b]=fU 13 a b:=rfl
  rw [ho,hv]
  unfold gER_K
  dsimp only
  simp only [ho,Int.reduceEq,decide_false,decide_true,aa',aa_]
  unfold fU
  rw [mZ _ _ (by simp),aa8]
  cases fD [a,b] 1 with
  | false=>exact congrArg (fun o:Option Val=>o.bind fun r=>some r) bR
  | true=>exact congrArg (fun o:Option Val=>o.bind fun r=>some r) (gP va.int).1
 ·obtain ⟨a,b,rfl,va,vb⟩:=Ea A (by rw [ho];rfl)
  have hv:o7 14 e.int [a,b]=fU 14 a b:=rfl
  rw [ho,hv]
  unfold gER_K
  dsimp only
  simp only [ho,Int.reduceEq,decide_false,decide_true,aa',aa_]
  unfold fU
  rw [mZ _ _ (by simp),aa8]
  cases fD [a,b] 1 with
  | false=>exact congrArg (fun o:Option Val=>o.bind fun r=>some r) bR
  | true=>exact congrArg (fun o:Option Val=>o.bind fun r=>some r) (gP va.int).1
 ·obtain ⟨a,b,rfl,va,vb⟩:=Ea A (by rw [ho];rfl)
  have hv:o7 15 e.int [a,b]=fU 15 a b:=rfl
  rw [ho,hv]
  unfold gER_K
  dsimp only
  simp only [ho,Int.reduceEq,decide_false,decide_true,aa',aa_]
  unfold fU
  rw [mZ _ _ (by simp),aa8]
  cases fD [a,b] 1 with
  | false=>exact congrArg (fun o:Option Val=>o.bind fun r=>some r) bR
  | true=>exact congrArg (fun o:Option Val=>o.bind fun r=>some r) (gP va.int).1
 ·obtain ⟨a,b,rfl,va,vb⟩:=Ea A (by rw [ho];rfl)
  have hv:o7 16 e.int [a,b]=fU 16 a b:=rfl
  rw [ho,hv]
  unfold gER_K
  dsimp only
  simp only [ho,Int.reduceEq,decide_false,decide_true,aa',aa_]
  unfold fU
  rw [mZ _ _ (by simp),aa8]
  cases fD [a,b] 1 with
  | false=>exact congrArg (fun o:Option Val=>o.bind fun r=>some r) bR
  | true=>exact congrArg (fun o:Option Val=>o.bind fun r=>some r) (gP va.int).1
 ·obtain ⟨a,b,rfl,va,vb⟩:=Ea A (by rw [ho];rfl)
  have hv:o7 17 e.int [a,b]=fU 17 a b:=rfl
  rw [ho,hv]
  unfold gER_K
  dsimp only
  simp only [ho,Int.reduceEq,decide_false,decide_true,aa',aa_]
  unfold fU
  rw [mZ _ _ (by simp),aa8]
  cases fD [a,b] 1 with
  | false=>exact congrArg (fun o:Option Val=>o.bind fun r=>some r) bR
  | true=>exact congrArg (fun o:Option Val=>o.bind fun r=>some r) (gP va.int).1
 ·obtain ⟨a,rfl,va⟩:=WO A (by rw [ho];rfl)
  have hv:o7 18 e.int [a]=MO a:=rfl
  rw [ho,hv]
  unfold gER_K
  dsimp only
  simp only [ho,Int.reduceEq,decide_false,decide_true,aa',aa_]
  unfold MO
  rw [mZ _ _ (by simp),aa8]
  cases fD [a] 1 with
  | false=>exact congrArg (fun o:Option Val=>o.bind fun r=>some r) bR
  | true=>exact congrArg (fun o:Option Val=>o.bind fun r=>some r) (kE _)
 ·obtain ⟨a,b,rfl,va,vb⟩:=Ea A (by rw [ho];rfl)
  have hv:o7 19 e.int [a,b]=Kj a b:=rfl
  rw [ho,hv]
  unfold gER_K
  dsimp only
  simp only [ho,Int.reduceEq,decide_false,decide_true,aa',aa_]
  rw [Ox va vb];rfl
 ·obtain ⟨a,rfl,va⟩:=WO A (by rw [ho];rfl)
  have hv:o7 20 e.int [a]=KG a:=rfl
  rw [ho,hv]
  unfold gER_K
  dsimp only
  simp only [ho,Int.reduceEq,decide_false,decide_true,aa',aa_]
  rw [OJ];rfl
 ·obtain ⟨a,rfl,va⟩:=WO A (by rw [ho];rfl)
  have hv:o7 21 e.int [a]=mM (decide (a.kind=0)):=rfl
  rw [ho,hv]
  unfold gER_K
  dsimp only
  simp only [ho,Int.reduceEq,decide_false,decide_true,aa',aa_]
  rw [show aL [a] (0:Int)=some a from rfl,aa8,xL];rfl
 ·obtain ⟨a,b,c,rfl⟩:=sh3 A (by rw [ho];rfl)
  have hv:o7 22 e.int [a,b,c]=(bif decide (tF_ a=2) then b else c):=rfl
  rw [ho,hv]
  unfold gER_K
  dsimp only
  simp only [ho,Int.reduceEq,decide_false,decide_true,aa',aa_]
  unfold tF
  rw [show decide ((22:Int)=22)=true from rfl,aa',show aL [a,b,c] (0:Int)=some a from rfl,aa8,og,aa8]
  cases decide (tF_ a=2)<;>rfl
 ·obtain ⟨a,m,rfl,va,hm⟩:=R3 A (by rw [ho];decide)
  have hv:o7 23 e.int (a::m)=AY (a::m):=rfl
  rw [ho,hv]
  unfold gER_K
  dsimp only
  simp only [ho,Int.reduceEq,decide_false,decide_true,aa',aa_]
  rw [Km _ A.len];rfl
 ·obtain ⟨a,b,c,d,rfl⟩:=sh4 A (by rw [ho];rfl)
  have hv:o7 24 e.int [a,b,c,d]=J3 e.int a b c d:=rfl
  rw [ho,hv]
  unfold gER_K
  dsimp only
  simp only [ho,Int.reduceEq,decide_false,decide_true,aa',aa_]
  rw [JY];rfl
theorem UE (e:Ex) (l:List Val) (i:Int) (A:tH e.op l) (hle:l.length=e.args.length) (ho:e.op=4\/e.op=5\/e.op=6\/e.op=7\/e.op=8\/e.op=9\/e.op=10\/e.op=11\/e.op=12\/e.op=13\/e.op=14\/e.op=15\/e.op=16\/e.op=17\/e.op=18\/e.op=19\/e.op=20\/e.op=21\/e.op=23\/e.op=24):bI e (.inl (l,i))=some (o7 e.op e.int l):=by
 rcases ho with ho|ho|ho|ho|ho|ho|ho|ho|ho|ho|ho|ho|ho|ho|ho|ho|ho|ho|ho|ho
 ·obtain ⟨a,rfl,va⟩:=WO A (by rw [ho];rfl)
  have hv:o7 4 e.int [a]=zw (Gf (tF_ a)):=rfl
  rw [ho,hv]
  unfold bI
  dsimp only
  rw [abb hle,aa']
  simp only [ho,Int.reduceEq,decide_false,decide_true,aa',aa_]
  rw [OW];rfl
 ·obtain ⟨a,m,rfl,va,hm⟩:=R3 A (by rw [ho];decide)
  have hv:o7 5 e.int (a::m)=zw (A8 H5 m (tF_ a)):=rfl
  rw [ho,hv]
  unfold bI
  dsimp only
  rw [abb hle,aa']
  simp only [ho,Int.reduceEq,decide_false,decide_true,aa',aa_]
  rw [Pm a m hm];rfl
 ·obtain ⟨a,m,rfl,va,hm⟩:=R3 A (by rw [ho];decide)
  have hv:o7 6 e.int (a::m)=zw (A8 Vm m (tF_ a)):=rfl
  rw [ho,hv]
  unfold bI
  dsimp only
  rw [abb hle,aa']
  simp only [ho,Int.reduceEq,decide_false,decide_true,aa',aa_]
  rw [Sa a m hm];rfl
 ·obtain ⟨a,b,rfl,va,vb⟩:=Ea A (by rw [ho];rfl)
  have hv:o7 7 e.int [a,b]=zw (sP 7 a b):=rfl
  rw [ho,hv]
  unfold bI
  dsimp only
  rw [abb hle,aa']
  simp only [ho,Int.reduceEq,decide_false,decide_true,aa',aa_]
  rw [show aL [a,b] (0:Int)=some a from rfl,aa8,show aL [a,b] (1:Int)=some b from rfl,aa8,fK,aa8,kG (jq _ _ _)];rfl
 ·obtain ⟨a,b,rfl,va,vb⟩:=Ea A (by rw [ho];rfl)
  have hv:o7 8 e.int [a,b]=zw (sP 8 a b):=rfl
  rw [ho,hv]
  unfold bI
  dsimp only
  rw [abb hle,aa']
  simp only [ho,Int.reduceEq,decide_false,decide_true,aa',aa_]
  rw [show aL [a,b] (0:Int)=some a from rfl,aa8,show aL [a,b] (1:Int)=some b from rfl,aa8,fK,aa8,kG (jq _ _ _)];rfl
 ·obtain ⟨a,b,rfl,va,vb⟩:=Ea A (by rw [ho];rfl)
  have hv:o7 9 e.int [a,b]=zw (sP 9 a b):=rfl
  rw [ho,hv]
  unfold bI
  dsimp only
  rw [abb hle,aa']
  simp only [ho,Int.reduceEq,decide_false,decide_true,aa',aa_]
  rw [show aL [a,b] (0:Int)=some a from rfl,aa8,show aL [a,b] (1:Int)=some b from rfl,aa8,fK,aa8,kG (jq _ _ _)];rfl
 ·obtain ⟨a,b,rfl,va,vb⟩:=Ea A (by rw [ho];rfl)
  have hv:o7 10 e.int [a,b]=zw (sP 10 a b):=rfl
  rw [ho,hv]
  unfold bI
  dsimp only
  rw [abb hle,aa']
  simp only [ho,Int.reduceEq,decide_false,decide_true,aa',aa_]
  rw [show aL [a,b] (0:Int)=some a from rfl,aa8,show aL [a,b] (1:Int)=some b from rfl,aa8,fK,aa8,kG (jq _ _ _)];rfl
 ·obtain ⟨a,b,rfl,va,vb⟩:=Ea A (by rw [ho];rfl)
  have hv:o7 11 e.int [a,b]=zw (sP 11 a b):=rfl
  rw [ho,hv]
  unfold bI
  dsimp only
  rw [abb hle,aa']
  simp only [ho,Int.reduceEq,decide_false,decide_true,aa',aa_]
  rw [show aL [a,b] (0:Int)=some a from rfl,aa8,show aL [a,b] (1:Int)=some b from rfl,aa8,fK,aa8,kG (jq _ _ _)];rfl
 ·obtain ⟨a,b,rfl,va,vb⟩:=Ea A (by rw [ho];rfl)
  have hv:o7 12 e.int [a,b]=zw (sP 12 a b):=rfl
  rw [ho,hv]
  unfold bI
  dsimp only
  rw [abb hle,aa']
  simp only [ho,Int.reduceEq,decide_false,decide_true,aa',aa_]
  rw [show aL [a,b] (0:Int)=some a from rfl,aa8,show aL [a,b] (1:Int)=some b from rfl,aa8,fK,aa8,kG (jq _ _ _)];rfl
 ·obtain ⟨a,b,rfl,va,vb⟩:=Ea A (by rw [ho];rfl)
  have hv:o7 13 e.int [a,b]=fU 13 a b:=rfl
  rw [ho,hv]
  unfold bI
  dsimp only
  rw [abb hle,aa']
  simp only [ho,Int.reduceEq,decide_false,decide_true,aa',aa_]
  rw [nN va (by omega)];rfl
 ·obtain ⟨a,b,rfl,va,vb⟩:=Ea A (by rw [ho];rfl)
  have hv:o7 14 e.int [a,b]=fU 14 a b:=rfl
  rw [ho,hv]
  unfold bI
  dsimp only
  rw [abb hle,aa']
  simp only [ho,Int.reduceEq,decide_false,decide_true,aa',aa_]
  rw [nN va (by omega)];rfl
 ·obtain ⟨a,b,rfl,va,vb⟩:=Ea A (by rw [ho];rfl)
  have hv:o7 15 e.int [a,b]=fU 15 a b:=rfl
  rw [ho,hv]
  unfold bI
  dsimp only
  rw [abb hle,aa']
  simp only [ho,Int.reduceEq,decide_false,decide_true,aa',aa_]
  rw [nN va (by omega)];rfl
 ·obtain ⟨a,b,rfl,va,vb⟩:=Ea A (by rw [ho];rfl)
  have hv:o7 16 e.int [a,b]=fU 16 a b:=rfl
  rw [ho,hv]
  unfold bI
  dsimp only
  rw [abb hle,aa']
  simp only [ho,Int.reduceEq,decide_false,decide_true,aa',aa_]
  rw [nN va (by omega)];rfl
 ·obtain ⟨a,b,rfl,va,vb⟩:=Ea A (by rw [ho];rfl)
  have hv:o7 17 e.int [a,b]=fU 17 a b:=rfl
  rw [ho,hv]
  unfold bI
  dsimp only
  rw [abb hle,aa']
  simp only [ho,Int.reduceEq,decide_false,decide_true,aa',aa_]
  rw [nN va (by omega)];rfl
 ·obtain ⟨a,rfl,va⟩:=WO A (by rw [ho];rfl)
  have hv:o7 18 e.int [a]=MO a:=rfl
  rw [ho,hv]
  unfold bI
  dsimp only
  rw [abb hle,aa']
  simp only [ho,Int.reduceEq,decide_false,decide_true,aa',aa_]
  rw [OQ];rfl
 ·obtain ⟨a,b,rfl,va,vb⟩:=Ea A (by rw [ho];rfl)
  have hv:o7 19 e.int [a,b]=Kj a b:=rfl
  rw [ho,hv]
  unfold bI
  dsimp only
  rw [abb hle,aa']
  simp only [ho,Int.reduceEq,decide_false,decide_true,aa',aa_]
  rw [Ou va vb];rfl
 ·obtain ⟨a,rfl,va⟩:=WO A (by rw [ho];rfl)
  have hv:o7 20 e.int [a]=KG a:=rfl
  rw [ho,hv]
  unfold bI
  dsimp only
  rw [abb hle,aa']
  simp only [ho,Int.reduceEq,decide_false,decide_true,aa',aa_]
  rw [Ps va];rfl
 ·obtain ⟨a,rfl,va⟩:=WO A (by rw [ho];rfl)
  have hv:o7 21 e.int [a]=mM (decide (a.kind=0)):=rfl
  rw [ho,hv]
  unfold bI
  dsimp only
  rw [abb hle,aa']
  simp only [ho,Int.reduceEq,decide_false,decide_true,aa',aa_]
  rw [show aL [a] (0:Int)=some a from rfl,aa8,Jf];rfl
 ·obtain ⟨a,m,rfl,va,hm⟩:=R3 A (by rw [ho];decide)
  have hv:o7 23 e.int (a::m)=AY (a::m):=rfl
  rw [ho,hv]
  unfold bI
  dsimp only
  rw [abb hle,aa']
  simp only [ho,Int.reduceEq,decide_false,decide_true,aa',aa_]
  exact O5 _ A.len
 ·obtain ⟨a,b,c,d,rfl⟩:=sh4 A (by rw [ho];rfl)
  have hv:o7 24 e.int [a,b,c,d]=J3 e.int a b c d:=rfl
  rw [ho,hv]
  unfold bI
  dsimp only
  rw [abb hle,aa']
  simp only [ho,Int.reduceEq,decide_false,decide_true,aa',aa_]
  rw [Nq];rfl
theorem Y5 (k:Int) {op:Int} {l:List Val} (A:tH op l) (ho:op=4\/op=5\/op=6\/op=7\/op=8\/op=9\/op=10\/op=11\/op=12\/op=13\/op=14\/op=15\/op=16\/op=17\/op=18\/op=19\/op=20\/op=21\/op=22\/op=23\/op=24):vF (o7 op k l)=true:=by
 rcases ho with rfl|rfl|rfl|rfl|rfl|rfl|rfl|rfl|rfl|rfl|rfl|rfl|rfl|rfl|rfl|rfl|rfl|rfl|rfl|rfl|rfl
 ·exact tZ _
 ·exact tZ _
 ·exact tZ _
 ·exact tZ _
 ·exact tZ _
 ·exact tZ _
 ·exact tZ _
 ·exact tZ _
 ·exact tZ _
 ·have hlo:=A.lo
  have hhi:=A.hi
  rw [ZC] at hlo hhi
  dsimp only at hlo hhi
  obtain ⟨a,b,rfl⟩:=len2 (l:=l) (by omega)
  exact qV (uF (A.vf a (by simp)))
 ·have hlo:=A.lo
  have hhi:=A.hi
  rw [Y4] at hlo hhi
  dsimp only at hlo hhi
  obtain ⟨a,b,rfl⟩:=len2 (l:=l) (by omega)
  exact qV (uF (A.vf a (by simp)))
 ·have hlo:=A.lo
  have hhi:=A.hi
  rw [Zk] at hlo hhi
  dsimp only at hlo hhi
  obtain ⟨a,b,rfl⟩:=len2 (l:=l) (by omega)
  exact qV (uF (A.vf a (by simp)))
 ·have hlo:=A.lo
  have hhi:=A.hi
  rw [ZF] at hlo hhi
  dsimp only at hlo hhi
  obtain ⟨a,b,rfl⟩:=len2 (l:=l) (by omega)
  exact qV (uF (A.vf a (by simp)))
 ·have hlo:=A.lo
  have hhi:=A.hi
  rw [YJ] at hlo hhi
  dsimp only at hlo hhi
  obtain ⟨a,b,rfl⟩:=len2 (l:=l) (by omega)
  exact qV (uF (A.vf a (by simp)))
 ·exact Yl _
 ·exact XH _ _
 ·exact Xq _
 ·exact Eh _
 ·have hlo:=A.lo
  have hhi:=A.hi
  rw [Xw] at hlo hhi
  dsimp only at hlo hhi
  obtain ⟨a,b,c,rfl⟩:=Vw (l:=l) (by omega)
  show vF (bif decide (tF_ a=2) then b else c)=true
  cases decide (tF_ a=2)
  ·exact A.vf c (by simp)
  ·exact A.vf b (by simp)
 ·exact WE A.vf
 ·exact Xz _ _ _ _ _
theorem I6 (row:List Val) : ∀ (n:Nat) (e:Ex),gY n e -> ∃ v,jc n e row=some v/\uR n e row=some v/\vF v=true
 | 0,_,h=>h.elim
 | n+1,e,h=>by
  have hx : ∀ x∈e.args,jc n x row=some ((jc n x row).getD gH)/\uR n x row=some ((jc n x row).getD gH)/\vF ((jc n x row).getD gH)=true:=by
   intro x hx
   obtain ⟨v,h1,h2,h3⟩:=I6 row n x (h.2 x hx)
   rw [h1];exact ⟨rfl,h2,h3⟩
  generalize hg:(fun x=>(jc n x row).getD gH)=g at hx
  have hx' : ∀ x∈e.args,jc n x row=some (g x)/\uR n x row=some (g x)/\vF (g x)=true:=by subst hg;exact hx
  show ∃ v,wP (jc n) e row=some v/\Ce (uR n) e row=some v/\vF v=true
  have hR:wP (jc n) e row=(bif uC e then gER_K e row (.inl (e.args.map g,((e.args.length:Nat):Int))) else some gH):=by
   unfold wP
   rw [Dp h.1,aa8,bR]
   cases uC e with
   | false=>rfl
   | true =>
    rw [Bool.not_true,aa_,aa']
    have:=eu (l:=e.args) (body:=oV e row (jc n)) (fun x=>[g x]) 4398046511104 ?_ ?_ (by unfold fuel;have:=h.1;omega) [] ?_
    ·rw [this,abd, <- List.map_eq_flatMap];rfl
    ·intro s i x hx1 hb
     have hi:=(aa9.1 hx1).1
     have hlen:=h.1
     unfold oV
     dsimp only
     rw [aY hx1,aa',gn_ hx1,wrapN (by omega),aa8,(hx' x (abe hx1)).1,aa8,abb (show s.length+1<=4398046511104 from hb),aa']
    ·intro s
     unfold oV
     dsimp only
     rw [lF_,aa_]
    ·have:=h.1
     rw [<- List.map_eq_flatMap,abl];simp;omega
  have hP:Ce (uR n) e row=(bif uC e then (if e.op=1 then some e.v else if e.op=2 then some (Lf (vv row e.int)) else if e.op=22 then some (o7 22 e.int (e.args.map g)) else bI e (.inl (e.args.map g,((e.args.length:Nat):Int)))) else some gH):=by
   unfold Ce
   rw [GU h.1,aa8,mf]
   cases hf:uC e with
   | false=>rfl
   | true =>
    rw [Bool.not_true,aa_,aa']
    by_cases o1:e.op=1
    ·rw [abb o1,aa',if_pos o1]
    rw [aba o1,aa_,if_neg o1]
    by_cases o2:e.op=2
    ·rw [abb o2,aa',if_pos o2,Pp];rfl
    rw [aba o2,aa_,if_neg o2]
    by_cases o3:e.op=22
    ·rw [abb o3,aa',if_pos o3]
     obtain ⟨_,hlo,hhi,_⟩:=yF h.1 hf
     rw [o3,Xw] at hlo hhi
     dsimp only at hlo hhi
     obtain ⟨a,b,c,ha⟩:=Vw (l:=e.args) (by omega)
     rw [ha] at hx' ⊢
     unfold Ef
     rw [show aL [a,b,c] (0:Int)=some a from rfl,show aL [a,b,c] (1:Int)=some b from rfl,show aL [a,b,c] (2:Int)=some c from rfl]
     simp only [aa8]
     rw [(hx' a (by simp)).2.1,aa8,jH,(hx' b (by simp)).2.1,(hx' c (by simp)).2.1]
     show _=some (bif decide (tF_ (g a)=2) then g b else g c)
     simp only [aa8]
     cases decide (tF_ (g a)=2)<;>rfl
    ·rw [aba o3,aa_,if_neg o3]
     have hlen:=h.1
     rw [abb (show (0:Int)<=((e.args.length:Nat):Int) by omega),abb (show (32:Int)*((e.args.length:Nat):Int)<=281474976710656 by omega),abb (show ((e.args.length:Nat):Int)<=9223372036854775807 by omega),aa',aa',aa']
     have:=Mx (l:=e.args) (body:=rF e row (uR n)) g ?_ ?_ fuel 0 (List.replicate e.args.length ⟨0,0,ByteArray.empty⟩) (by simp) (abv _) (by unfold fuel;omega)
     ·rw [show ((0:Nat):Int)=0 from rfl] at this
      rw [this,List.take_zero,abd,List.drop_zero];rfl
     ·intro c i x hx1 hb
      have hi:=(aa9.1 hx1).1
      unfold rF
      dsimp only
      rw [aY hx1,aa',gn_ hx1,wrapN (by omega),aa8,(hx' x (abe hx1)).2.1,aa8,abb (show (0:Int)<=(i:Int) by omega),aa',aa',show 0+((i:Int)).toNat=i by omega,abb hb,aa']
     ·intro c
      unfold rF
      dsimp only
      rw [lF_,aa_]
  rw [hR,hP]
  cases hf:uC e with
  | false=>exact ⟨_,rfl,rfl,mG⟩
  | true =>
   rw [aa',aa']
   obtain ⟨hops,hlo,hhi,hrest⟩:=yF h.1 hf
   by_cases o1:e.op=1
   ·have hv:=OT o1 hrest
    refine ⟨e.v,?_,by rw [if_pos o1],hv⟩
    unfold gER_K
    dsimp only
    rw [abb o1,aa',Md e row o1 hv];rfl
   by_cases o2:e.op=2
   ·refine ⟨Lf (vv row e.int),?_,by rw [if_neg o1,if_pos o2],qj _⟩
    unfold gER_K
    dsimp only
    rw [aba o1,aa_,abb o2,aa',Q4 e row o2];rfl
   have A:tH e.op (e.args.map g):=by
    refine ⟨by rw [abl];exact hlo,by rw [abl];exact hhi,by rw [abl];exact h.1,fun v hv=>?_⟩
    obtain ⟨x,hx1,rfl⟩:=abK.1 hv
    exact (hx' x hx1).2.2
   have hops2:e.op=4\/e.op=5\/e.op=6\/e.op=7\/e.op=8\/e.op=9\/e.op=10\/e.op=11\/e.op=12\/e.op=13\/e.op=14\/e.op=15\/e.op=16\/e.op=17\/e.op=18\/e.op=19\/e.op=20\/e.op=21\/e.op=22\/e.op=23\/e.op=24:=by omega
   refine ⟨o7 e.op e.int (e.args.map g),Tt e row _ _ A hops2,?_,Y5 _ A hops2⟩
   rw [if_neg o1,if_neg o2]
   by_cases o3:e.op=22
   ·rw [if_pos o3,o3]
   ·rw [if_neg o3]
    exact UE e _ _ A (by rw [abl]) (by omega)
end Go.Proofs.YtfpbmfalamappaaGreatDoor
