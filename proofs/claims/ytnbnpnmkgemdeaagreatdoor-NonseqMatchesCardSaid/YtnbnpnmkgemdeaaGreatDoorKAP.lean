/- Parts of the proof, joined. No condition. -/
import Derived.Test.YtnbnpnmkgemdeaaGreatDoorKAA
import Derived.Test.YtnbnpnmkgemdeaaGreatDoorKAO
set_option linter.unusedSimpArgs false
set_option linter.unusedVariables false
namespace Go.Proofs.YtnbnpnmkgemdeaaGreatDoor
open Go.RowKit Go.MapKept
set_option maxRecDepth 100000
set_option maxHeartbeats 8000000
def uD (a_l:(List Int)):(Int × Int)->Option (Step (Int × Int) (Int × Bool)):=fun s=>match s with
 | (kind_1,v_2)=>bif (decide (v_2<((a_l.length:Nat):Int))) then (au a_l v_2).bind fun x_4=>bif (decide (x_4=(0:Int))) then some (.next (kind_1,(IntKind.i64.wrap (v_2+(1:Int))))) else
 bif (decide (kind_1≠(0:Int))) then bif (decide (kind_1≠x_4)) then some (.ret ((0:Int),false)) else
 some (.next (x_4,(IntKind.i64.wrap (v_2+(1:Int))))) else
 some (.next (x_4,(IntKind.i64.wrap (v_2+(1:Int))))) else
 some (.exit (kind_1,v_2))
def oO:Sum (Int × Int) (Int × Bool)->Option ((Int × Bool))
 | .inl (kind_1,v_2)=>some (kind_1,true)
 | .inr q=>some q
def jl (a_l:(List Int)):Option (Int × Bool):=(ah (uD a_l) fuel ((0:Int),(0:Int))).bind (oO)
theorem ik {a_l:(List Int)} {r:Int × Bool} (H:jl a_l=some r):Pure Tryz.prog 302 [.one (.lst (a_l.map (fun x=>[AC.int .i64 x])))] (.tup [.one (.int .i64 r.1), .one (.bool r.2)]):=by
 unfold jl at H
 refine po_ Tryz.func302 Tryz.ntmps302 ?_
 refine bf ?_
 refine alM_ (fun s:Int × Int=>match s with|(kind_1,v_2)=>[(4, .one (.c (.int .i64 kind_1))),(7, .one (.c (.lst (a_l.map (fun x=>[AC.int .i64 x]))))),(8, .one (.c (.int .i64 ((a_l.length:Nat):Int)))),(9, .one (.c (.int .i64 v_2)))]) (fun s=>match s with|(kind_1,v_2)=>[]) H (fun _=>Zj _)
  (fm_ bL [] rfl bq trivial) ?_
 rintro ⟨kind_1,v_2⟩ st1 hb1 hk1
 unfold uD at hb1
 dsimp only at hb1 ⊢
 rcases aa hb1 with ⟨q_3,hb1⟩|⟨q_3,hb1⟩
 ·obtain ⟨x_4,i1z,i1,i1x,hb1⟩:=aI (f:=(fun x=>[AC.int .i64 x])) hb1
  rcases aa hb1 with ⟨q_5,hb1⟩|⟨q_5,hb1⟩
  ·cases hb1
   refine bf ?_
   exact ⟨_,rfl,fm_ bL [] rfl bq trivial⟩
  rcases aa hb1 with ⟨q_6,hb1⟩|⟨q_6,hb1⟩
  ·rcases aa hb1 with ⟨q_7,hb1⟩|⟨q_7,hb1⟩
   ·cases hb1
    have hx1:oO (.inr ((0:Int),false))=some _:=hk1
    unfold oO at hx1
    dsimp only at hx1
    cases hx1
    exact aj
   cases hb1
   refine bf ?_
   exact ⟨_,rfl,fm_ bL [] rfl bq trivial⟩
  cases hb1
  refine bf ?_
  exact ⟨_,rfl,fm_ bL [] rfl bq trivial⟩
 cases hb1
 have hx1:oO (.inl (kind_1,v_2))=some _:=hk1
 unfold oO at hx1
 dsimp only at hx1
 cases hx1
 exact aj
def X5:TI := { tab with owns:=fun f=>f==311||tab.owns f }
theorem MV:TIok Tryz.prog X5:=⟨tab_ok.size,tab_ok.agg,tab_ok.elem,tab_ok.field,tab_ok.zero,tab_ok.bytes,tab_ok.kind,tab_ok.struct,tab_ok.zok,tab_ok.eqs⟩
theorem NC (l:List Int) : ∀ e∈l.map (fun x=>[AC.int .i64 x]),e.length=1:=by intro e he;obtain ⟨x,_,rfl⟩:=Zz.1 he;rfl
theorem LC (l:List Int) (h0:l≠[]) (hl:l.length<=1000000):Run Tryz.prog 311 [] [.one (.c (CZ l))] [.spare l.length 1] (.one (.own (l.map fun x=>[AC.int .i64 x]) 0)):=by
 refine bI tab_ok Tryz.func311 rfl rfl Tryz.ntmps311 (by simp) ?_
 simp only [jG]
 obtain ⟨x,r,rfl⟩ : ∃ x r',l=x::r':=by cases l with|nil=>exact absurd rfl h0|cons x r=>exact ⟨x,r,rfl⟩
 have hw:=NC (x::r)
 have hlen:((x::r).map fun x=>[AC.int .i64 x]).length=r.length+1:=by simp
 simp only [Zk] at hl
 repeat' (first
  | refine st_nil ?_
  | (refine aL rfl rfl rfl rfl ?_ ?_; · (repeat' (first|exact trivial|rfl|exact Y8 rfl|omega|exact hw|(rw [hlen];omega)|apply And.intro)))
  | (refine aP rfl rfl rfl rfl ?_ ?_; · (repeat' (first|exact trivial|rfl|exact Y8 rfl|omega|exact hw|(rw [hlen];omega)|apply And.intro)))
  | (refine sS_ rfl rfl rfl ?_ ?_; · (repeat' (first|exact trivial|rfl|exact Y8 rfl|omega|exact hw|(rw [hlen];omega)|apply And.intro)))
  | (refine aO rfl rfl rfl rfl ?_ ?_; · (repeat' (first|exact trivial|rfl|exact Y8 rfl|omega|exact hw|(rw [hlen];omega)|apply And.intro)))
  | refine aH rfl rfl rfl ?_
  | refine sk0_ rfl rfl ?_
  | (refine bn rfl (fun hb=>?_) (fun hb=>?_)<;>(first|exact (fx_ hb).elim|rw [hb]))
  | refine aw_seq ?_
  | refine aw_region tab_ok _ rfl ?_
  | refine aw_drawn2 tabS_ok _ rfl mixed (by decide +kernel) ?_
  | (refine aG rfl (fun hb=>?_) (fun hb=>?_)<;>(try exact (fx_ hb).elim))
  | refine aw_block ?_
  | refine aw_exit ?_
  | refine aw_ret ?_
  | refine aw_skip ?_
  | (refine eH rfl rfl rfl rfl rfl (wH rfl rfl (tab_ok.kind 34 _ rfl)) ?_))
 all_goals exact ⟨.inr rfl,⟨.inl ⟨2,rfl,rfl⟩,⟨[],by rw [Zy];exact congrArg (fun n=>[Ob.spare n 1]) (by simp)⟩,Zj _,cu ⟨trivial,trivial⟩,by show 0<1;omega⟩⟩
def JY (l:List Int):Bool := !l.isEmpty&&decide (l.length<=100000)
theorem QP {l:List Int} (h:JY l=true):l≠[]/\l.length<=100000:=by
 unfold JY at h
 rw [Zg] at h
 refine ⟨?_,Zr h.2⟩
 rintro rfl
 exact absurd h.1 (by decide)
theorem OY {a b:Bool} (h:a=b):(CV.val (.one (.bool a))) = .val (.one (.bool b)):=by rw [h]
def rP (l:List Int) (k:Int):Option Bool:=bif JY l then (jl (l++[k])).bind fun r=>some (bif r.2 then decide (r.1=k) else false) else none
theorem kS {l:List Int} {k:Int} {r:Bool} (H:rP l k=some r):Pure Tryz.prog 301 [.one (.lst (l.map (fun x=>[AC.int .i64 x]))), .one (.int .i64 k)] (.val (.one (.bool r))):=by
 unfold rP at H
 obtain ⟨g,H⟩:=xg H
 refine pa_ MV Tryz.func301 rfl rfl Tryz.ntmps301 (by simp) ?_
 simp only [argT,PV.av,Y9,Zd]
 obtain ⟨h0,hl⟩:=QP g
 obtain ⟨⟨u1,u2⟩,hun,H⟩:=bd_ H
 replace hun:=ik hun
 have htI:(l++[k]).map (fun x=>[AC.int .i64 x])=(l.map fun x=>[AC.int .i64 x])++[[.int .i64 k]]:=by simp
 rw [htI] at hun
 have hun':Pure Tryz.prog 302 [.one (.lst ((l.map fun x=>[AC.int .i64 x])++[[.int .i64 k]]))] (.tup [.one (.int .i64 u1), .one (.bool u2)]):=hun
 obtain rfl:=Zw H
 have hlm:(l.map fun x=>[AC.int .i64 x]).length=l.length:=by simp
 repeat' (first
  | refine st_nil ?_
  | (refine aL rfl rfl rfl rfl ?_ ?_; · (repeat' (first|exact trivial|rfl|exact Y8 rfl|omega|(intro e he;simp at he;subst he;rfl)|exact hlm|(show (_+1)*8<=_;omega)|(show _+1<=_;omega)|apply And.intro)))
  | (refine aP rfl rfl rfl rfl ?_ ?_; · (repeat' (first|exact trivial|rfl|exact Y8 rfl|omega|(intro e he;simp at he;subst he;rfl)|exact hlm|(show (_+1)*8<=_;omega)|(show _+1<=_;omega)|apply And.intro)))
  | (refine sS_ rfl rfl rfl ?_ ?_; · (repeat' (first|exact trivial|rfl|exact Y8 rfl|omega|(intro e he;simp at he;subst he;rfl)|exact hlm|(show (_+1)*8<=_;omega)|(show _+1<=_;omega)|apply And.intro)))
  | (refine aO rfl rfl rfl rfl ?_ ?_; · (repeat' (first|exact trivial|rfl|exact Y8 rfl|omega|(intro e he;simp at he;subst he;rfl)|exact hlm|(show (_+1)*8<=_;omega)|(show _+1<=_;omega)|apply And.intro)))
  | refine aH rfl rfl rfl ?_
  | refine sk0_ rfl rfl ?_
  | refine aJ rfl rfl rfl rfl hun' rfl ?_
  | (refine cZ [] (r' := .one (.own (l.map fun x=>[AC.int .i64 x]) 0)) (L':=[.spare l.length 1]) rfl rfl rfl rfl (LC l h0 (by omega)) rfl ⟨rfl,by simp,fun i x hx=>by simp at hx,fun x hx=>by simp at hx,nK ⟨trivial,trivial⟩⟩ rfl rfl ?_)
  | (refine bn rfl (fun hb=>?_) (fun hb=>?_)<;>(first|exact (fx_ hb).elim|rw [hb]))
  | refine aw_seq ?_
  | refine aw_region MV _ rfl ?_
  | refine aw_drawn2 tabS_ok _ rfl mixed (by decide +kernel) ?_
  | (refine aG rfl (fun hb=>?_) (fun hb=>?_)<;>(try exact (fx_ hb).elim))
  | refine aw_block ?_
  | refine aw_exit ?_
  | refine aw_ret ?_
  | refine aw_skip ?_)
 all_goals (refine aV (aX rfl (by trivial) (OY ?_));simp only [*, Y0,YZ])
def gRsP (a_e:Ex) (a_l:(List Int)):Option (Int × Bool):=bif (decide (a_e.op=(1:Int))) then some (a_e.v.kind,true) else
 bif (decide (a_e.op=(4:Int))) then (rP a_l (3:Int)).bind fun r_3=>some ((3:Int),r_3) else
 bif (decide (a_e.op=(5:Int))) then (rP a_l (3:Int)).bind fun r_5=>some ((3:Int),r_5) else
 bif (decide (a_e.op=(6:Int))) then (rP a_l (3:Int)).bind fun r_7=>some ((3:Int),r_7) else
 bif (decide (a_e.op=(7:Int))) then (jl a_l).bind fun r_9=>some ((3:Int),r_9.2) else
 bif (decide (a_e.op=(8:Int))) then (jl a_l).bind fun r_11=>some ((3:Int),r_11.2) else
 bif (decide (a_e.op=(9:Int))) then (jl a_l).bind fun r_13=>some ((3:Int),r_13.2) else
 bif (decide (a_e.op=(10:Int))) then (jl a_l).bind fun r_15=>some ((3:Int),r_15.2) else
 bif (decide (a_e.op=(11:Int))) then (jl a_l).bind fun r_17=>some ((3:Int),r_17.2) else
 bif (decide (a_e.op=(12:Int))) then (jl a_l).bind fun r_19=>some ((3:Int),r_19.2) else
 bif (decide (a_e.op=(19:Int))) then (rP a_l (2:Int)).bind fun r_21=>some ((2:Int),r_21) else
 bif (decide (a_e.op=(20:Int))) then (rP a_l (2:Int)).bind fun r_23=>some ((1:Int),r_23) else
 bif (decide (a_e.op=(21:Int))) then some ((3:Int),true) else
 bif (decide (a_e.op=(22:Int))) then (pK a_l (1:Int) ((a_l.length:Nat):Int)).bind fun s_26=>(jl s_26).bind fun r_27=>bif r_27.2 then (pK a_l (0:Int) (1:Int)).bind fun s_29=>(rP s_29 (3:Int)).bind fun r_30=>some (r_27.1,r_30) else
 some (r_27.1,false) else
 bif (decide (a_e.op=(23:Int))) then (jl a_l).bind fun r_32=>some (r_32.1,r_32.2) else
 bif (decide (a_e.op=(24:Int))) then (rP a_l (1:Int)).bind fun r_34=>some ((3:Int),r_34) else
 (rP a_l (1:Int)).bind fun r_35=>some ((1:Int),r_35)
theorem Ju {a_e:Ex} {a_l:(List Int)} {r:Int × Bool} (H:gRsP a_e a_l=some r):Pure Tryz.prog 283 [.agg (tE a_e), .one (.lst (a_l.map (fun x=>[AC.int .i64 x])))] (.tup [.one (.int .i64 r.1), .one (.bool r.2)]):=by
 unfold gRsP at H
 rw [aF a_e]
 refine po_ Tryz.func283 Tryz.ntmps283 ?_
 rcases aa H with ⟨q_1,H⟩|⟨q_1,H⟩
 ·cases H
  exact aj
 rcases aa H with ⟨q_2,H⟩|⟨q_2,H⟩
 ·obtain ⟨r_3,c1,H⟩:=bd_ H
  replace c1:=kS c1
  cases H
  exact aj
 refine bf ?_
 rcases aa H with ⟨q_4,H⟩|⟨q_4,H⟩
 ·obtain ⟨r_5,c2,H⟩:=bd_ H
  replace c2:=kS c2
  cases H
  exact aj
 rcases aa H with ⟨q_6,H⟩|⟨q_6,H⟩
 ·obtain ⟨r_7,c3,H⟩:=bd_ H
  replace c3:=kS c3
  cases H
  exact aj
 rcases aa H with ⟨q_8,H⟩|⟨q_8,H⟩
 ·obtain ⟨r_9,c4,H⟩:=bd_ H
  replace c4:=ik c4
  cases H
  exact aj
 refine bf ?_
 rcases aa H with ⟨q_10,H⟩|⟨q_10,H⟩
 ·obtain ⟨r_11,c5,H⟩:=bd_ H
  replace c5:=ik c5
  cases H
  exact aj
 rcases aa H with ⟨q_12,H⟩|⟨q_12,H⟩
 ·obtain ⟨r_13,c6,H⟩:=bd_ H
  replace c6:=ik c6
  cases H
  exact aj
 rcases aa H with ⟨q_14,H⟩|⟨q_14,H⟩
 ·obtain ⟨r_15,c7,H⟩:=bd_ H
  replace c7:=ik c7
  cases H
  exact aj
 refine bf ?_
 rcases aa H with ⟨q_16,H⟩|⟨q_16,H⟩
 ·obtain ⟨r_17,c8,H⟩:=bd_ H
  replace c8:=ik c8
  cases H
  exact aj
 rcases aa H with ⟨q_18,H⟩|⟨q_18,H⟩
 ·obtain ⟨r_19,c9,H⟩:=bd_ H
  replace c9:=ik c9
  cases H
  exact aj
 rcases aa H with ⟨q_20,H⟩|⟨q_20,H⟩
 ·obtain ⟨r_21,c10,H⟩:=bd_ H
  replace c10:=kS c10
  cases H
  exact aj
 refine bf ?_
 rcases aa H with ⟨q_22,H⟩|⟨q_22,H⟩
 ·obtain ⟨r_23,c11,H⟩:=bd_ H
  replace c11:=kS c11
  cases H
  exact aj
 rcases aa H with ⟨q_24,H⟩|⟨q_24,H⟩
 ·cases H
  exact aj
 rcases aa H with ⟨q_25,H⟩|⟨q_25,H⟩
 ·obtain ⟨s_26,u12,H⟩:=bd_ H
  obtain ⟨⟨u12a,u12b,u12c⟩,u12⟩:=iZ u12
  have u12x:=Jg (f:=(fun x=>[AC.int .i64 x])) u12
  obtain ⟨r_27,c13,H⟩:=bd_ H
  replace c13:=ik c13
  repeat' (first|refine gs_ ?_|rw [u12x]|rw [show ((0:Nat):Int)=0 from rfl])
  rcases aa H with ⟨q_28,H⟩|⟨q_28,H⟩
  ·obtain ⟨s_29,u14,H⟩:=bd_ H
   obtain ⟨⟨u14a,u14b,u14c⟩,u14⟩:=iZ u14
   have u14x:=Jg (f:=(fun x=>[AC.int .i64 x])) u14
   obtain ⟨r_30,c15,H⟩:=bd_ H
   replace c15:=kS c15
   cases H
   repeat' (first|refine gs_ ?_|rw [u12x]|rw [u14x]|rw [show ((0:Nat):Int)=0 from rfl])
   refine aV (aX rfl ?_ ?_)
   ·repeat' (first|exact trivial|rfl|exact Y8 rfl|omega|apply And.intro)
   ·first|rfl|(simp only [Zb,Y9,Zd,Y3]<;>rfl)
  cases H
  repeat' (first|refine gs_ ?_|rw [u12x]|rw [show ((0:Nat):Int)=0 from rfl])
  refine aV (aX rfl ?_ ?_)
  ·repeat' (first|exact trivial|rfl|exact Y8 rfl|omega|apply And.intro)
  ·first|rfl|(simp only [Zb,Y9,Zd,Y3]<;>rfl)
 refine bf ?_
 rcases aa H with ⟨q_31,H⟩|⟨q_31,H⟩
 ·obtain ⟨r_32,c16,H⟩:=bd_ H
  replace c16:=ik c16
  cases H
  exact aj
 rcases aa H with ⟨q_33,H⟩|⟨q_33,H⟩
 ·obtain ⟨r_34,c17,H⟩:=bd_ H
  replace c17:=kS c17
  cases H
  exact aj
 obtain ⟨r_35,c18,H⟩:=bd_ H
 replace c18:=kS c18
 cases H
 exact aj
def dB (a_e:Ex) (a_most:Int) (rec:Ex->Int->Option Int):(Int × Int)->Option (Step (Int × Int) (Int)):=fun s=>match s with
 | (n_2,v_3)=>bif (decide (v_3<((a_e.args.length:Nat):Int))) then (au a_e.args v_3).bind fun x_5=>(rec x_5 (IntKind.i64.wrap (a_most-(1:Int)))).bind fun r_6=>some (.next ((M4 n_2 (IntKind.i64.wrap ((1:Int)+r_6))),(IntKind.i64.wrap (v_3+(1:Int))))) else
 some (.exit (n_2,v_3))
def tY:Sum (Int × Int) (Int)->Option ((Int))
 | .inl (n_2,v_3)=>some n_2
 | .inr q=>some q
def jv (rec:Ex->Int->Option Int) (a_e:Ex) (a_most:Int):Option (Int):=bif (decide (a_most<=(1:Int))) then some (1:Int) else
 (ah (dB a_e a_most rec) fuel ((1:Int),(0:Int))).bind (tY)
theorem I9 {rec:Ex->Int->Option Int}  (hrec : ∀ {x:Ex} {y:Int} {r:Int}, rec x y=some r->Pure Tryz.prog 282 [.agg (tE x), .one (.int .i64 y)] (.val (.one (.int .i64 r)))) {a_e:Ex} {a_most:Int} {r:Int} (H:jv rec a_e a_most=some r):Pure Tryz.prog 282 [.agg (tE a_e), .one (.int .i64 a_most)] (.val (.one (.int .i64 r))):=by
 unfold jv at H
 rw [aF a_e]
 refine po_ Tryz.func282 Tryz.ntmps282 ?_
 rcases aa H with ⟨q_1,H⟩|⟨q_1,H⟩
 ·cases H
  exact aj
 refine bf ?_
 refine alM_ (fun s:Int × Int=>match s with|(n_2,v_3)=>[(1, .one (.c (.int .i64 a_most))),(5, .one (.c (.int .i64 n_2))),(11, .one (.c (.lst (a_e.args.map tE)))),(12, .one (.c (.int .i64 ((a_e.args.length:Nat):Int)))),(13, .one (.c (.int .i64 v_3)))]) (fun s=>match s with|(n_2,v_3)=>[.box [.c (.int .i64 a_e.op), .c (.int .i64 a_e.int), .c (.int .i64 a_e.v.kind), .c (.int .i64 a_e.v.int), .c (.str a_e.v.text), .c (.str a_e.nm), .c (.lst (a_e.args.map tE))]]) H (fun _=>Zj _)
  (fm_ bL [] rfl bq cO) ?_
 rintro ⟨n_2,v_3⟩ st1 hb1 hk1
 unfold dB at hb1
 dsimp only at hb1 ⊢
 rcases aa hb1 with ⟨q_4,hb1⟩|⟨q_4,hb1⟩
 ·obtain ⟨x_5,i1z,i1,i1x,hb1⟩:=aI (f:=tE) hb1
  simp only [Zb,Y9,Zd,Y3,aF] at i1x
  obtain ⟨r_6,c2,hb1⟩:=bd_ hb1
  replace c2:=hrec c2
  try simp only [Zb,Y9,Zd,Y3,aF,aQ] at c2
  cases hb1
  refine bf ?_
  exact ⟨_,rfl,fm_ bL [_] rfl bq cO⟩
 cases hb1
 have hx1:tY (.inl (n_2,v_3))=some _:=hk1
 unfold tY at hx1
 dsimp only at hx1
 cases hx1
 exact aj
def iE:Nat->Ex->Int->Option Int
 | 0,_,_=>none
 | n+1,x,y=>jv (iE n) x y
theorem CW : ∀ (n:Nat) {x:Ex} {y:Int} {r:Int}, iE n x y=some r->Pure Tryz.prog 282 [.agg (tE x), .one (.int .i64 y)] (.val (.one (.int .i64 r)))
 | 0,_,_,_,h=>nomatch h
 | n+1,_,_,_,h=>I9 (CW n) h
def E8 (a_e:Ex):Option (Int):=(iE fuel a_e (25:Int)).bind fun r_1=>some r_1
theorem QN {a_e:Ex} {r:Int} (H:E8 a_e=some r):Pure Tryz.prog 247 [.agg (tE a_e)] (.val (.one (.int .i64 r))):=by
 unfold E8 at H
 rw [aF a_e]
 refine po_ Tryz.func247 Tryz.ntmps247 ?_
 obtain ⟨r_1,c1,H⟩:=bd_ H
 replace c1:=CW fuel c1
 try simp only [Zb,Y9,Zd,Y3,aF,aQ] at c1
 cases H
 exact aj
def gL (a_e:Ex) (a_kinds:(List Int)) (rec:Ex->List Int->Option (Int × Int)):((List Int) × Int)->Option (Step ((List Int) × Int) (Int × Int)):=fun s=>match s with
 | (l_9,v_10)=>bif (decide (v_10<((a_e.args.length:Nat):Int))) then (au a_e.args v_10).bind fun x_12=>(rec x_12 a_kinds).bind fun r_13=>bif (decide (r_13.2≠(0:Int))) then some (.ret ((0:Int),r_13.2)) else
 bif (decide (l_9.length+1<=17592186044416)) then (some (.next ((l_9++[r_13.1]),(IntKind.i64.wrap (v_10+(1:Int)))))) else none else
 some (.exit (l_9,v_10))
def ja (a_e:Ex):Sum ((List Int) × Int) (Int × Int)->Option ((Int × Int))
 | .inl (l_9,v_10)=>(gRsP a_e l_9).bind fun r_15=>bif (!r_15.2) then some ((0:Int),(7:Int)) else
 some (r_15.1,(0:Int))
 | .inr q=>some q
def jJ (rec:Ex->List Int->Option (Int × Int)) (a_e:Ex) (a_kinds:(List Int)):Option (Int × Int):=(lK a_e.op ((a_e.args.length:Nat):Int)).bind fun r_1=>bif (!r_1.2) then some ((0:Int),(7:Int)) else
 (om a_e).bind fun r_3=>bif (!r_3) then some ((0:Int),(8:Int)) else
 bif (decide (a_e.op=(2:Int))) then bif (decide (a_e.int<(0:Int))) then some ((0:Int),(13:Int)) else
 bif (decide (((a_kinds.length:Nat):Int)<=a_e.int)) then some ((0:Int),(13:Int)) else
 (au a_kinds a_e.int).bind fun x_8=>some (x_8,(0:Int)) else
 (ah (gL a_e a_kinds rec) fuel ([],(0:Int))).bind (ja a_e)
theorem IW {rec:Ex->List Int->Option (Int × Int)}  (hrec : ∀ {x:Ex} {y:List Int} {r:Int × Int}, rec x y=some r->Pure Tryz.prog 248 [.agg (tE x), .one (.lst (y.map (fun x=>[AC.int .i64 x])))] (.tup [.one (.int .i64 r.1), .one (.int .i64 r.2)])) {a_e:Ex} {a_kinds:(List Int)} {r:Int × Int} (H:jJ rec a_e a_kinds=some r):Pure Tryz.prog 248 [.agg (tE a_e), .one (.lst (a_kinds.map (fun x=>[AC.int .i64 x])))] (.tup [.one (.int .i64 r.1), .one (.int .i64 r.2)]):=by
 unfold jJ at H
 rw [aF a_e]
 refine po_ Tryz.func248 Tryz.ntmps248 ?_
 obtain ⟨r_1,c1,H⟩:=bd_ H
 replace c1:=Db c1
 rcases aa H with ⟨q_2,H⟩|⟨q_2,H⟩
 ·cases H
  exact aj
 obtain ⟨r_3,c2,H⟩:=bd_ H
 replace c2:=Cq c2
 try simp only [Zb,Y9,Zd,Y3,aF,aQ] at c2
 rcases aa H with ⟨q_4,H⟩|⟨q_4,H⟩
 ·cases H
  exact aj
 rcases aa H with ⟨q_5,H⟩|⟨q_5,H⟩
 ·rcases aa H with ⟨q_6,H⟩|⟨q_6,H⟩
  ·cases H
   exact aj
  rcases aa H with ⟨q_7,H⟩|⟨q_7,H⟩
  ·cases H
   exact aj
  obtain ⟨x_8,i3z,i3,i3x,H⟩:=aI (f:=(fun x=>[AC.int .i64 x])) H
  cases H
  exact aj
 refine bf ?_
 refine dM 8 1 rfl ?_
 refine alM_ (fun s:(List Int) × Int=>match s with|(l_9,v_10)=>[(1, .one (.c (.lst (a_kinds.map (fun x=>[AC.int .i64 x]))))),(2, .one (.ptr 0 0)),(8, .one (.own (l_9.map (fun x=>[AC.int .i64 x])) 1)),(48, .one (.c (.lst (a_e.args.map tE)))),(49, .one (.c (.int .i64 ((a_e.args.length:Nat):Int)))),(50, .one (.c (.int .i64 v_10)))]) (fun s=>match s with|(l_9,v_10)=>[.box [.c (.int .i64 a_e.op), .c (.int .i64 a_e.int), .c (.int .i64 a_e.v.kind), .c (.int .i64 a_e.v.int), .c (.str a_e.v.text), .c (.str a_e.nm), .c (.lst (a_e.args.map tE))], .spare l_9.length 1]) H (fun _=>Zj _)
  (fm_ bL [] rfl bq cO) ?_
 rintro ⟨l_9,v_10⟩ st1 hb1 hk1
 unfold gL at hb1
 dsimp only at hb1 ⊢
 rcases aa hb1 with ⟨q_11,hb1⟩|⟨q_11,hb1⟩
 ·obtain ⟨x_12,i4z,i4,i4x,hb1⟩:=aI (f:=tE) hb1
  simp only [Zb,Y9,Zd,Y3,aF] at i4x
  obtain ⟨r_13,c5,hb1⟩:=bd_ hb1
  replace c5:=hrec c5
  try simp only [Zb,Y9,Zd,Y3,aF,aQ] at c5
  rcases aa hb1 with ⟨q_14,hb1⟩|⟨q_14,hb1⟩
  ·cases hb1
   have hx1:ja a_e (.inr ((0:Int),r_13.2))=some _:=hk1
   unfold ja at hx1
   dsimp only at hx1
   cases hx1
   exact aj
  obtain ⟨g6,hb1⟩:=az hb1
  cases hb1
  refine bf ?_
  exact ⟨_,rfl,fm_ oH [_] kI bq cO⟩
 cases hb1
 have hx1:ja a_e (.inl (l_9,v_10))=some _:=hk1
 unfold ja at hx1
 dsimp only at hx1
 obtain ⟨r_15,c7,hx1⟩:=bd_ hx1
 replace c7:=Ju c7
 try simp only [Zb,Y9,Zd,Y3,aF,aQ] at c7
 rcases aa hx1 with ⟨q_16,hx1⟩|⟨q_16,hx1⟩
 ·cases hx1
  exact aj
 cases hx1
 exact aj
def g_:Nat->Ex->List Int->Option (Int × Int)
 | 0,_,_=>none
 | n+1,x,y=>jJ (g_ n) x y
theorem Dj : ∀ (n:Nat) {x:Ex} {y:List Int} {r:Int × Int}, g_ n x y=some r->Pure Tryz.prog 248 [.agg (tE x), .one (.lst (y.map (fun x=>[AC.int .i64 x])))] (.tup [.one (.int .i64 r.1), .one (.int .i64 r.2)])
 | 0,_,_,_,h=>nomatch h
 | n+1,_,_,_,h=>IW (Dj n) h
def qd (a_e:Ex) (a_kinds:(List Int)):Option (Int × Int):=(E8 a_e).bind fun r_1=>bif (decide ((24:Int)<r_1)) then some ((0:Int),(26:Int)) else
 (g_ fuel a_e a_kinds).bind fun r_3=>some (r_3.1,r_3.2)
theorem Ja {a_e:Ex} {a_kinds:(List Int)} {r:Int × Int} (H:qd a_e a_kinds=some r):Pure Tryz.prog 205 [.agg (tE a_e), .one (.lst (a_kinds.map (fun x=>[AC.int .i64 x])))] (.tup [.one (.int .i64 r.1), .one (.int .i64 r.2)]):=by
 unfold qd at H
 rw [aF a_e]
 refine po_ Tryz.func205 Tryz.ntmps205 ?_
 obtain ⟨r_1,c1,H⟩:=bd_ H
 replace c1:=QN c1
 try simp only [Zb,Y9,Zd,Y3,aF,aQ] at c1
 rcases aa H with ⟨q_2,H⟩|⟨q_2,H⟩
 ·cases H
  exact aj
 obtain ⟨r_3,c2,H⟩:=bd_ H
 replace c2:=Dj fuel c2
 try simp only [Zb,Y9,Zd,Y3,aF,aQ] at c2
 cases H
 exact aj
end Go.Proofs.YtnbnpnmkgemdeaaGreatDoor
