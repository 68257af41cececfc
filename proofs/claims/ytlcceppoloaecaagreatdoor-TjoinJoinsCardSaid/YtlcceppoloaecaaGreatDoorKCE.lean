/- Parts of the proof, joined. No condition. -/
import Derived.Test.YtlcceppoloaecaaGreatDoorKAA
import Derived.Test.YtlcceppoloaecaaGreatDoorKBW
import Derived.Test.YtlcceppoloaecaaGreatDoorKBU
import Derived.Test.YtlcceppoloaecaaGreatDoorKBK
import Derived.Test.YtlcceppoloaecaaGreatDoorKCC
set_option linter.unusedSimpArgs false
set_option linter.unusedVariables false
namespace Go.Proofs.YtlcceppoloaecaaGreatDoor
open Go.RowKit Go.MapKept
set_option maxRecDepth 100000
set_option maxHeartbeats 8000000
noncomputable section
def apd:TI := { tab with owns:=fun f=>f==57||tab.owns f }
theorem ajm:TIok Tryz.prog apd:=⟨tab_ok.size,tab_ok.agg,tab_ok.elem,tab_ok.field,tab_ok.zero,tab_ok.bytes,tab_ok.kind,tab_ok.struct,tab_ok.zok,tab_ok.eqs⟩
def anx:TI := { tab with owns:=fun f=>f==57||tab.owns f,soft:=true }
theorem agN:TIok Tryz.prog anx:=⟨tab_ok.size,tab_ok.agg,tab_ok.elem,tab_ok.field,tab_ok.zero,tab_ok.bytes,tab_ok.kind,tab_ok.struct,tab_ok.zok,tab_ok.eqs⟩
def Wy (a_a:(List aP)) (a_b:(List aP)):Option ((List aP)):=(I_ (3:Int) a_a a_b).bind fun r_1=>some r_1
theorem afZ {a_a:(List aP)} {a_b:(List aP)} {r:(List aP)} (H:Wy a_a a_b=some r):Pure Tryz.prog 98 [.one (.lst (a_a.map bv)), .one (.lst (a_b.map bv))] (.val (.one (.lst (r.map bv)))):=by
 unfold Wy at H
 refine po_ Tryz.func98 Tryz.ntmps98 ?_
 obtain ⟨r_1,c1,H⟩:=bd_ H
 replace c1:=Su c1
 cases H
 exact aK
def lC (a_a:(List Val)) (a_b:(List Val)):Option ((List Val)):=bif (decide (a_a.length<=4398046511104)) then (bif (decide (a_a.length+a_b.length<=4398046511104)) then (some (a_a++a_b)) else none) else none
theorem kg {a_a:(List Val)} {a_b:(List Val)} {r:(List Val)} (H:lC a_a a_b=some r):Pure Tryz.prog 30 [.one (.lst (a_a.map cV)), .one (.lst (a_b.map cV))] (.val (.one (.lst (r.map cV)))):=by
 unfold lC at H
 refine po_ Tryz.func30 Tryz.ntmps30 ?_
 obtain ⟨g1,H⟩:=aS H
 obtain ⟨g2,H⟩:=aS H
 cases H
 exact aK
def l5 (a_n:Int):((List Val) × Int)->Option (Step ((List Val) × Int) ((List Val))):=fun s=>match s with
 | (out_1,i_2)=>bif (decide (i_2<a_n)) then bif (decide (a_n<=(4096:Int))) then (gp ).bind fun r_5=>bif (decide (out_1.length+1<=4398046511104)) then (some (.next ((out_1++[r_5]),(IntKind.i64.wrap (i_2+(1:Int)))))) else none else
 some (.exit (out_1,i_2)) else
 some (.exit (out_1,i_2))
def sQ:Sum ((List Val) × Int) ((List Val))->Option (((List Val)))
 | .inl (out_1,i_2)=>some out_1
 | .inr q=>some q
def yc (a_n:Int):Option ((List Val)):=(az (l5 a_n) fuel ([],(0:Int))).bind (sQ)
theorem Et {a_n:Int} {r:(List Val)} (H:yc a_n=some r):Pure Tryz.prog 31 [.one (.int .i64 a_n)] (.val (.one (.lst (r.map cV)))):=by
 unfold yc at H
 refine po_ Tryz.func31 Tryz.ntmps31 ?_
 refine bz ?_
 refine dC 3 3 rfl ?_
 refine alM_ (fun s:(List Val) × Int=>match s with|(out_1,i_2)=>[(0, .one (.c (.int .i64 a_n))),(3, .one (.own (out_1.map cV) 0)),(4, .one (.c (.int .i64 i_2)))]) (fun s=>match s with|(out_1,i_2)=>[.spare out_1.length 3]) H (fun _=>aqj _)
  (fm_ bY [] rfl bA cz) ?_
 rintro ⟨out_1,i_2⟩ st1 hb1 hk1
 unfold l5 at hb1
 dsimp only at hb1 ⊢
 rcases af hb1 with ⟨q_3,hb1⟩|⟨q_3,hb1⟩
 ·rcases af hb1 with ⟨q_4,hb1⟩|⟨q_4,hb1⟩
  ·obtain ⟨r_5,c1,hb1⟩:=bd_ hb1
   replace c1:=dD c1
   obtain ⟨g2,hb1⟩:=aS hb1
   cases hb1
   refine bz ?_
   exact ⟨_,rfl,fm_ jD [] iR bA cz⟩
  cases hb1
  have hx1:sQ (.inl (out_1,i_2))=some _:=hk1
  unfold sQ at hx1
  dsimp only at hx1
  cases hx1
  exact aK
 cases hb1
 have hx1:sQ (.inl (out_1,i_2))=some _:=hk1
 unfold sQ at hx1
 dsimp only at hx1
 cases hx1
 exact aK
def uB (a_a:bH) (a_b:bH):Option ((List Int)):=bif (decide (a_a.kinds.length<=17592186044416)) then (bif (decide (a_a.kinds.length+a_b.kinds.length<=17592186044416)) then (some (a_a.kinds++a_b.kinds)) else none) else none
theorem En {a_a:bH} {a_b:bH} {r:(List Int)} (H:uB a_a a_b=some r):Pure Tryz.prog 55 [.agg (bD a_a), .agg (bD a_b)] (.val (.one (.lst (r.map (fun x=>[AC.int .i64 x]))))):=by
 unfold uB at H
 refine po_ Tryz.func55 Tryz.ntmps55 ?_
 obtain ⟨g1,H⟩:=aS H
 obtain ⟨g2,H⟩:=aS H
 cases H
 exact aK
def Du (a_f:aC) (a_b:bH) (a_e:Ex):((List aP) × Int)->Option (Step ((List aP) × Int) ((List aP))):=fun s=>match s with
 | (out_1,k_2)=>bif (decide (k_2<((a_b.facts.length:Nat):Int))) then (aT a_b.facts k_2).bind fun x_4=>(lC a_f.row x_4.row).bind fun r_5=>(oI a_e r_5).bind fun r_6=>bif (decide (r_6=(2:Int))) then bif (decide (out_1.length+1<=8796093022208)) then (some (.next ((out_1++[x_4.valid]),(IntKind.i64.wrap (k_2+(1:Int)))))) else none else
 some (.next (out_1,(IntKind.i64.wrap (k_2+(1:Int))))) else
 some (.exit (out_1,k_2))
def Jq:Sum ((List aP) × Int) ((List aP))->Option (((List aP)))
 | .inl (out_1,k_2)=>some out_1
 | .inr q=>some q
def IW (a_f:aC) (a_b:bH) (a_e:Ex):Option ((List aP)):=(az (Du a_f a_b a_e) fuel ([],(0:Int))).bind (Jq)
theorem Ta {a_f:aC} {a_b:bH} {a_e:Ex} {r:(List aP)} (H:IW a_f a_b a_e=some r):Pure Tryz.prog 66 [.agg (aU a_f), .agg (bD a_b), .agg (tE a_e)] (.val (.one (.lst (r.map bv)))):=by
 unfold IW at H
 rw [aL a_e]
 refine po_ Tryz.func66 Tryz.ntmps66 ?_
 refine bz ?_
 refine dC 7 2 rfl ?_
 refine alM_ (fun s:(List aP) × Int=>match s with|(out_1,k_2)=>[(3, .one (.ptr 0 0)),(4, .one (.ptr 1 0)),(5, .one (.ptr 2 0)),(7, .one (.own (out_1.map bv) 3)),(8, .one (.c (.int .i64 k_2)))]) (fun s=>match s with|(out_1,k_2)=>[.box [.c (.lst (a_f.row.map cV)), .c (.int .i64 a_f.valid.lo), .c (.int .i64 a_f.valid.hi)], .box [.c (.lst (a_b.kinds.map (fun x=>[AC.int .i64 x]))), .c (.lst (a_b.facts.map aU))], .box [.c (.int .i64 a_e.op), .c (.int .i64 a_e.int), .c (.int .i64 a_e.v.kind), .c (.int .i64 a_e.v.int), .c (.str a_e.v.text), .c (.str a_e.nm), .c (.lst (a_e.args.map tE))], .spare out_1.length 2]) H (fun _=>aqj _)
  (fm_ bY [] rfl bA cz) ?_
 rintro ⟨out_1,k_2⟩ st1 hb1 hk1
 unfold Du at hb1
 dsimp only at hb1 ⊢
 rcases af hb1 with ⟨q_3,hb1⟩|⟨q_3,hb1⟩
 ·obtain ⟨x_4,i1z,i1,i1x,hb1⟩:=bn (f:=aU) hb1
  obtain ⟨r_5,c2,hb1⟩:=bd_ hb1
  replace c2:=kg c2
  obtain ⟨r_6,c3,hb1⟩:=bd_ hb1
  replace c3:=qJ c3
  try simp only [aqb,ap',aqd,ap5,aL] at c3
  rcases af hb1 with ⟨q_7,hb1⟩|⟨q_7,hb1⟩
  ·obtain ⟨g4,hb1⟩:=aS hb1
   cases hb1
   refine bz ?_
   exact ⟨_,rfl,fm_ jD [] iR bA cz⟩
  cases hb1
  refine bz ?_
  exact ⟨_,rfl,fm_ jD [] iR bA cz⟩
 cases hb1
 have hx1:Jq (.inl (out_1,k_2))=some _:=hk1
 unfold Jq at hx1
 dsimp only at hx1
 cases hx1
 exact aK
def wh (a_a:bH) (a_b:bH) (a_e:Ex) (i_2:Int):((List aC) × Int)->Option (Step ((List aC) × Int) ((List aC))):=fun s=>match s with
 | (out_4,k_5)=>bif (decide (k_5<((a_b.facts.length:Nat):Int))) then (aT a_a.facts i_2).bind fun x_7=>(aT a_b.facts k_5).bind fun x_8=>(lC x_7.row x_8.row).bind fun r_9=>(GV x_7.valid x_8.valid).bind fun r_10=>bif r_10.2 then (oI a_e r_9).bind fun r_12=>bif (decide (r_12=(2:Int))) then bif (decide (out_4.length+1<=3518437208883)) then (some (.next ((out_4++[(⟨r_9,r_10.1⟩:aC)]),(IntKind.i64.wrap (k_5+(1:Int)))))) else none else
 some (.next (out_4,(IntKind.i64.wrap (k_5+(1:Int))))) else
 some (.next (out_4,(IntKind.i64.wrap (k_5+(1:Int))))) else
 some (.exit (out_4,k_5))
def wM (i_2:Int):Sum ((List aC) × Int) ((List aC))->Option (Step ((List aC) × Int) ((List aC)))
 | .inl (out_4,k_5)=>some (.next (out_4,(IntKind.i64.wrap (i_2+(1:Int)))))
 | .inr q=>some (.ret q)
def xw (a_a:bH) (a_b:bH) (a_e:Ex):((List aC) × Int)->Option (Step ((List aC) × Int) ((List aC))):=fun s=>match s with
 | (out_1,i_2)=>bif (decide (i_2<((a_a.facts.length:Nat):Int))) then (az (wh a_a a_b a_e i_2) fuel (out_1,(0:Int))).bind (wM i_2) else
 some (.exit (out_1,i_2))
def wD:Sum ((List aC) × Int) ((List aC))->Option (((List aC)))
 | .inl (out_1,i_2)=>some out_1
 | .inr q=>some q
def Cb (a_a:bH) (a_b:bH) (a_e:Ex):Option ((List aC)):=(az (xw a_a a_b a_e) fuel ([],(0:Int))).bind (wD)
theorem adv {a_a:bH} {a_b:bH} {a_e:Ex} {r:(List aC)} (H:Cb a_a a_b a_e=some r):Pure Tryz.prog 57 [.agg (bD a_a), .agg (bD a_b), .agg (tE a_e)] (.val (.one (.lst (r.map aU)))):=by
 unfold Cb at H
 rw [aL a_e]
 refine po_ Tryz.func57 Tryz.ntmps57 ?_
 refine bz ?_
 refine dC 7 3 rfl ?_
 refine alM_ (fun s:(List aC) × Int=>match s with|(out_1,i_2)=>[(3, .one (.ptr 0 0)),(4, .one (.ptr 1 0)),(5, .one (.ptr 2 0)),(7, .one (.own (out_1.map aU) 3)),(8, .one (.c (.int .i64 i_2)))]) (fun s=>match s with|(out_1,i_2)=>[.box [.c (.lst (a_a.kinds.map (fun x=>[AC.int .i64 x]))), .c (.lst (a_a.facts.map aU))], .box [.c (.lst (a_b.kinds.map (fun x=>[AC.int .i64 x]))), .c (.lst (a_b.facts.map aU))], .box [.c (.int .i64 a_e.op), .c (.int .i64 a_e.int), .c (.int .i64 a_e.v.kind), .c (.int .i64 a_e.v.int), .c (.str a_e.v.text), .c (.str a_e.nm), .c (.lst (a_e.args.map tE))], .spare out_1.length 3]) H (fun _=>aqj _)
  (fm_ bY [] rfl bA cz) ?_
 rintro ⟨out_1,i_2⟩ st3 hb3 hk3
 unfold xw at hb3
 dsimp only at hb3 ⊢
 rcases af hb3 with ⟨q_3,hb3⟩|⟨q_3,hb3⟩
 ·refine bz ?_
  refine alM_ (fun s:(List aC) × Int=>match s with|(out_4,k_5)=>[(3, .one (.ptr 0 0)),(4, .one (.ptr 1 0)),(5, .one (.ptr 2 0)),(7, .one (.own (out_4.map aU) 3)),(8, .one (.c (.int .i64 i_2))),(9, .one (.c (.int .i64 k_5)))]) (fun s=>match s with|(out_4,k_5)=>[.box [.c (.lst (a_a.kinds.map (fun x=>[AC.int .i64 x]))), .c (.lst (a_a.facts.map aU))], .box [.c (.lst (a_b.kinds.map (fun x=>[AC.int .i64 x]))), .c (.lst (a_b.facts.map aU))], .box [.c (.int .i64 a_e.op), .c (.int .i64 a_e.int), .c (.int .i64 a_e.v.kind), .c (.int .i64 a_e.v.int), .c (.str a_e.v.text), .c (.str a_e.nm), .c (.lst (a_e.args.map tE))], .spare out_4.length 3]) hb3 (fun _=>aqj _)
   (fm_ bY [] rfl bA cz) ?_
  rintro ⟨out_4,k_5⟩ st4 hb4 hk4
  unfold wh at hb4
  dsimp only at hb4 ⊢
  rcases af hb4 with ⟨q_6,hb4⟩|⟨q_6,hb4⟩
  ·obtain ⟨x_7,i1z,i1,i1x,hb4⟩:=bn (f:=aU) hb4
   obtain ⟨x_8,i2z,i2,i2x,hb4⟩:=bn (f:=aU) hb4
   obtain ⟨r_9,c3,hb4⟩:=bd_ hb4
   replace c3:=kg c3
   obtain ⟨r_10,c4,hb4⟩:=bd_ hb4
   replace c4:=Qm c4
   rcases af hb4 with ⟨q_11,hb4⟩|⟨q_11,hb4⟩
   ·obtain ⟨r_12,c5,hb4⟩:=bd_ hb4
    replace c5:=qJ c5
    try simp only [aqb,ap',aqd,ap5,aL] at c5
    rcases af hb4 with ⟨q_13,hb4⟩|⟨q_13,hb4⟩
    ·obtain ⟨g6,hb4⟩:=aS hb4
     cases hb4
     refine bz ?_
     exact ⟨_,rfl,fm_ jD [_] iR bA cz⟩
    cases hb4
    refine bz ?_
    exact ⟨_,rfl,fm_ jD [_] iR bA cz⟩
   cases hb4
   refine bz ?_
   exact ⟨_,rfl,fm_ jD [_] iR bA cz⟩
  cases hb4
  have hx4:wM i_2 (.inl (out_4,k_5))=some _:=hk4
  unfold wM at hx4
  dsimp only at hx4
  cases hx4
  refine bz ?_
  exact ⟨_,rfl,fm_ jD [] iR bA cz⟩
 cases hb3
 have hx3:wD (.inl (out_1,i_2))=some _:=hk3
 unfold wD at hx3
 dsimp only at hx3
 cases hx3
 exact aK
theorem ZZ {a_a:bH} {a_b:bH} {a_e:Ex} {r:(List aC)} (H:Cb a_a a_b a_e=some r):Run Tryz.prog 57 [] [.agg [.c (.lst (a_a.kinds.map (fun x=>[AC.int .i64 x]))), .c (.lst (a_a.facts.map aU))], .agg [.c (.lst (a_b.kinds.map (fun x=>[AC.int .i64 x]))), .c (.lst (a_b.facts.map aU))], .agg [.c (.int .i64 a_e.op), .c (.int .i64 a_e.int), .c (.int .i64 a_e.v.kind), .c (.int .i64 a_e.v.int), .c (.str a_e.v.text), .c (.str a_e.nm), .c (.lst (a_e.args.map tE))]] [.dead, .dead, .dead, .spare r.length 3] (.one (.own (r.map aU) 3)):=by
 unfold Cb at H
 refine bP tab_ok Tryz.func57 rfl rfl Tryz.ntmps57 (by simp) ?_
 simp only [iH]
 refine bz ?_
 refine dC 7 3 rfl ?_
 refine alM_ (fun s:(List aC) × Int=>match s with|(out_1,i_2)=>[(3, .one (.ptr 0 0)),(4, .one (.ptr 1 0)),(5, .one (.ptr 2 0)),(7, .one (.own (out_1.map aU) 3)),(8, .one (.c (.int .i64 i_2)))]) (fun s=>match s with|(out_1,i_2)=>[.box [.c (.lst (a_a.kinds.map (fun x=>[AC.int .i64 x]))), .c (.lst (a_a.facts.map aU))], .box [.c (.lst (a_b.kinds.map (fun x=>[AC.int .i64 x]))), .c (.lst (a_b.facts.map aU))], .box [.c (.int .i64 a_e.op), .c (.int .i64 a_e.int), .c (.int .i64 a_e.v.kind), .c (.int .i64 a_e.v.int), .c (.str a_e.v.text), .c (.str a_e.nm), .c (.lst (a_e.args.map tE))], .spare out_1.length 3]) H (fun _=>aqj _)
  (fm_ bY [] rfl bA cz) ?_
 rintro ⟨out_1,i_2⟩ st3 hb3 hk3
 unfold xw at hb3
 dsimp only at hb3 ⊢
 rcases af hb3 with ⟨q_3,hb3⟩|⟨q_3,hb3⟩
 ·refine bz ?_
  refine alM_ (fun s:(List aC) × Int=>match s with|(out_4,k_5)=>[(3, .one (.ptr 0 0)),(4, .one (.ptr 1 0)),(5, .one (.ptr 2 0)),(7, .one (.own (out_4.map aU) 3)),(8, .one (.c (.int .i64 i_2))),(9, .one (.c (.int .i64 k_5)))]) (fun s=>match s with|(out_4,k_5)=>[.box [.c (.lst (a_a.kinds.map (fun x=>[AC.int .i64 x]))), .c (.lst (a_a.facts.map aU))], .box [.c (.lst (a_b.kinds.map (fun x=>[AC.int .i64 x]))), .c (.lst (a_b.facts.map aU))], .box [.c (.int .i64 a_e.op), .c (.int .i64 a_e.int), .c (.int .i64 a_e.v.kind), .c (.int .i64 a_e.v.int), .c (.str a_e.v.text), .c (.str a_e.nm), .c (.lst (a_e.args.map tE))], .spare out_4.length 3]) hb3 (fun _=>aqj _)
   (fm_ bY [] rfl bA cz) ?_
  rintro ⟨out_4,k_5⟩ st4 hb4 hk4
  unfold wh at hb4
  dsimp only at hb4 ⊢
  rcases af hb4 with ⟨q_6,hb4⟩|⟨q_6,hb4⟩
  ·obtain ⟨x_7,i1z,i1,i1x,hb4⟩:=bn (f:=aU) hb4
   obtain ⟨x_8,i2z,i2,i2x,hb4⟩:=bn (f:=aU) hb4
   obtain ⟨r_9,c3,hb4⟩:=bd_ hb4
   replace c3:=kg c3
   obtain ⟨r_10,c4,hb4⟩:=bd_ hb4
   replace c4:=Qm c4
   rcases af hb4 with ⟨q_11,hb4⟩|⟨q_11,hb4⟩
   ·obtain ⟨r_12,c5,hb4⟩:=bd_ hb4
    replace c5:=qJ c5
    try simp only [aqb,ap',aqd,ap5,aL] at c5
    rcases af hb4 with ⟨q_13,hb4⟩|⟨q_13,hb4⟩
    ·obtain ⟨g6,hb4⟩:=aS hb4
     cases hb4
     refine bz ?_
     exact ⟨_,rfl,fm_ jD [_] iR bA cz⟩
    cases hb4
    refine bz ?_
    exact ⟨_,rfl,fm_ jD [_] iR bA cz⟩
   cases hb4
   refine bz ?_
   exact ⟨_,rfl,fm_ jD [_] iR bA cz⟩
  cases hb4
  have hx4:wM i_2 (.inl (out_4,k_5))=some _:=hk4
  unfold wM at hx4
  dsimp only at hx4
  cases hx4
  refine bz ?_
  exact ⟨_,rfl,fm_ jD [] iR bA cz⟩
 cases hb3
 have hx3:wD (.inl (out_1,i_2))=some _:=hk3
 unfold wD at hx3
 dsimp only at hx3
 cases hx3
 refine bu 0 rfl rfl ?_
 refine bu 1 rfl rfl ?_
 refine bu 2 rfl rfl ?_
 exact am3
def Cw (a_a:bH) (a_b:bH) (a_e:Ex) (a_n:Int):((List aC) × Int)->Option (Step ((List aC) × Int) ((List aC))):=fun s=>match s with
 | (out_1,i_2)=>bif (decide (i_2<((a_a.facts.length:Nat):Int))) then (aT a_a.facts i_2).bind fun x_4=>(yc a_n).bind fun r_5=>(lC x_4.row r_5).bind fun r_6=>(IW x_4 a_b a_e).bind fun r_7=>(Wy [x_4.valid] r_7).bind fun r_8=>(qC r_6 r_8).bind fun r_9=>bif (decide (out_1.length+r_9.length<=3518437208883)) then (some (.next ((out_1++r_9),(IntKind.i64.wrap (i_2+(1:Int)))))) else none else
 some (.exit (out_1,i_2))
def JA:Sum ((List aC) × Int) ((List aC))->Option (((List aC)))
 | .inl (out_1,i_2)=>some out_1
 | .inr q=>some q
def JZ (a_a:bH) (a_b:bH) (a_e:Ex) (a_n:Int):Option ((List aC)):=(az (Cw a_a a_b a_e a_n) fuel ([],(0:Int))).bind (JA)
theorem SA {a_a:bH} {a_b:bH} {a_e:Ex} {a_n:Int} {r:(List aC)} (H:JZ a_a a_b a_e a_n=some r):Pure Tryz.prog 61 [.agg (bD a_a), .agg (bD a_b), .agg (tE a_e), .one (.int .i64 a_n)] (.val (.one (.lst (r.map aU)))):=by
 unfold JZ at H
 rw [aL a_e]
 refine po_ Tryz.func61 Tryz.ntmps61 ?_
 refine bz ?_
 refine dC 9 3 rfl ?_
 refine alM_ (fun s:(List aC) × Int=>match s with|(out_1,i_2)=>[(3, .one (.c (.int .i64 a_n))),(4, .one (.ptr 0 0)),(5, .one (.ptr 1 0)),(6, .one (.ptr 2 0)),(9, .one (.own (out_1.map aU) 3)),(10, .one (.c (.int .i64 i_2)))]) (fun s=>match s with|(out_1,i_2)=>[.box [.c (.lst (a_a.kinds.map (fun x=>[AC.int .i64 x]))), .c (.lst (a_a.facts.map aU))], .box [.c (.lst (a_b.kinds.map (fun x=>[AC.int .i64 x]))), .c (.lst (a_b.facts.map aU))], .box [.c (.int .i64 a_e.op), .c (.int .i64 a_e.int), .c (.int .i64 a_e.v.kind), .c (.int .i64 a_e.v.int), .c (.str a_e.v.text), .c (.str a_e.nm), .c (.lst (a_e.args.map tE))], .spare out_1.length 3]) H (fun _=>aqj _)
  (fm_ bY [] rfl bA cz) ?_
 rintro ⟨out_1,i_2⟩ st1 hb1 hk1
 unfold Cw at hb1
 dsimp only at hb1 ⊢
 rcases af hb1 with ⟨q_3,hb1⟩|⟨q_3,hb1⟩
 ·obtain ⟨x_4,i1z,i1,i1x,hb1⟩:=bn (f:=aU) hb1
  obtain ⟨r_5,c2,hb1⟩:=bd_ hb1
  replace c2:=Et c2
  obtain ⟨r_6,c3,hb1⟩:=bd_ hb1
  replace c3:=kg c3
  obtain ⟨r_7,c4,hb1⟩:=bd_ hb1
  replace c4:=Ta c4
  try simp only [aqb,ap',aqd,ap5,aL] at c4
  obtain ⟨r_8,c5,hb1⟩:=bd_ hb1
  replace c5:=afZ c5
  try simp only [aqb,ap',aqd,ap5,aL] at c5
  obtain ⟨r_9,c6,hb1⟩:=bd_ hb1
  replace c6:=EN c6
  obtain ⟨g7,hb1⟩:=aS hb1
  cases hb1
  refine bz ?_
  exact ⟨_,rfl,fm_ jD [_] iR bA cz⟩
 cases hb1
 have hx1:JA (.inl (out_1,i_2))=some _:=hk1
 unfold JA at hx1
 dsimp only at hx1
 cases hx1
 exact aK
def F4 (a_a:bH) (a_b:bH) (a_e:Ex):Option (bH):=(uB a_a a_b).bind fun r_1=>(Cb a_a a_b a_e).bind fun r_2=>(tJ r_2).bind fun r_3=>some (⟨r_1,r_3⟩:bH)
theorem Zk {a_a:bH} {a_b:bH} {a_e:Ex} {r:bH} (H:F4 a_a a_b a_e=some r):Pure Tryz.prog 19 [.agg (bD a_a), .agg (bD a_b), .agg (tE a_e)] (.val (.agg (bD r))):=by
 unfold F4 at H
 rw [aL a_e]
 refine po_ Tryz.func19 Tryz.ntmps19 ?_
 obtain ⟨r_1,c1,H⟩:=bd_ H
 replace c1:=En c1
 obtain ⟨r_2,c2,H⟩:=bd_ H
 replace c2:=adv c2
 try simp only [aqb,ap',aqd,ap5,aL] at c2
 obtain ⟨r_3,c3,H⟩:=bd_ H
 replace c3:=sZ c3
 cases H
 exact aK
def F8 (a_a:bH) (a_b:bH) (a_e:Ex):Option (bH):=(Cb a_a a_b a_e).bind fun r_1=>(JZ a_a a_b a_e ((a_b.kinds.length:Nat):Int)).bind fun r_2=>bif (decide (r_1.length+r_2.length<=3518437208883)) then ((uB a_a a_b).bind fun r_3=>(tJ (r_1++r_2)).bind fun r_4=>some (⟨r_3,r_4⟩:bH)) else none
theorem abB {a_a:bH} {a_b:bH} {a_e:Ex} {r:bH} (H:F8 a_a a_b a_e=some r):Pure Tryz.prog 21 [.agg (bD a_a), .agg (bD a_b), .agg (tE a_e)] (.val (.agg (bD r))):=by
 unfold F8 at H
 rw [aL a_e]
 refine po_ Tryz.func21 Tryz.ntmps21 ?_
 obtain ⟨r_1,c1,H⟩:=bd_ H
 replace c1:=ZZ c1
 try simp only [aqb,ap',aqd,ap5,aL] at c1
 obtain ⟨r_2,c2,H⟩:=bd_ H
 replace c2:=SA c2
 try simp only [aqb,ap',aqd,ap5,aL] at c2
 obtain ⟨g3,H⟩:=aS H
 obtain ⟨r_3,c4,H⟩:=bd_ H
 replace c4:=En c4
 obtain ⟨r_4,c5,H⟩:=bd_ H
 replace c5:=sZ c5
 try simp only [aqb,ap',aqd,ap5,aL] at c5
 cases H
 repeat' (first
  | refine st_nil ?_
  | rw [aqa]
  | (refine eP [] rfl rfl rfl rfl c1 rfl ⟨rfl,List.nodup_nil,fun i y hy=>by simp at hy,fun x hx=>(by cases hx),xK rfl⟩ rfl rfl ?_)
  | (refine aM rfl rfl rfl rfl ?_ ?_; · (repeat' (first|exact trivial|rfl|exact ap_ rfl|omega|exact aqa .. | (simp only [aqk,aqu];omega)|exact aF (by intro _;rfl) _|(intro e he;obtain ⟨q,_,rfl⟩:=aqz.1 he;rfl)|(simp only [aqa,ap8,aqk,aqu]<;>omega)|apply And.intro)))
  | (refine aN rfl rfl rfl rfl ?_ ?_; · (repeat' (first|exact trivial|rfl|exact ap_ rfl|omega|exact aqa .. | (simp only [aqk,aqu];omega)|exact aF (by intro _;rfl) _|(intro e he;obtain ⟨q,_,rfl⟩:=aqz.1 he;rfl)|(simp only [aqa,ap8,aqk,aqu]<;>omega)|apply And.intro)))
  | (refine sS_ rfl rfl rfl ?_ ?_; · (repeat' (first|exact trivial|rfl|exact ap_ rfl|omega|exact aqa .. | (simp only [aqk,aqu];omega)|exact aF (by intro _;rfl) _|(intro e he;obtain ⟨q,_,rfl⟩:=aqz.1 he;rfl)|(simp only [aqa,ap8,aqk,aqu]<;>omega)|apply And.intro)))
  | (refine aO rfl rfl rfl rfl ?_ ?_; · (repeat' (first|exact trivial|rfl|exact ap_ rfl|omega|exact aqa .. | (simp only [aqk,aqu];omega)|exact aF (by intro _;rfl) _|(intro e he;obtain ⟨q,_,rfl⟩:=aqz.1 he;rfl)|(simp only [aqa,ap8,aqk,aqu]<;>omega)|apply And.intro)))
  | refine aH rfl rfl rfl ?_
  | refine sk0_ rfl rfl ?_
  | refine aZ rfl rfl rfl rfl c2 rfl ?_
  | refine aZ rfl rfl rfl rfl c4 rfl ?_
  | refine aZ rfl rfl rfl rfl c5 rfl ?_
  | (refine aV rfl (fun hb=>?_) (fun hb=>?_)<;>(first|exact (fx_ hb).elim|rw [hb]))
  | refine aw_seq ?_
  | refine aw_region ajm _ rfl ?_
  | refine aw_drawn2 agN _ rfl mixed (by decide +kernel) ?_
  | (refine aG rfl (fun hb=>?_) (fun hb=>?_)<;>(try exact (fx_ hb).elim))
  | refine aw_block ?_
  | refine aw_exit ?_
  | refine aw_ret ?_
  | refine aw_skip ?_)
 exact ⟨.inr rfl,bR rfl (by repeat' (first|exact trivial|rfl|exact ap_ rfl|omega|apply And.intro)) rfl⟩
def BK (a_a:bH) (a_b:bH):Option ((List Int)):=(uB a_a a_b).bind fun r_1=>some r_1
theorem Xl {a_a:bH} {a_b:bH} {r:(List Int)} (H:BK a_a a_b=some r):Pure Tryz.prog 50 [.agg (bD a_a), .agg (bD a_b)] (.val (.one (.lst (r.map (fun x=>[AC.int .i64 x]))))):=by
 unfold BK at H
 refine po_ Tryz.func50 Tryz.ntmps50 ?_
 obtain ⟨r_1,c1,H⟩:=bd_ H
 replace c1:=En c1
 cases H
 exact aK
def nO (a_a:bH) (a_b:bH) (a_e:Ex):Option (Bool):=bif (decide ((12:Int)<((a_a.facts.length:Nat):Int))) then some false else
 bif (decide ((12:Int)<((a_b.facts.length:Nat):Int))) then some false else
 bif (decide ((48:Int)<((a_a.kinds.length:Nat):Int))) then some false else
 bif (decide ((48:Int)<((a_b.kinds.length:Nat):Int))) then some false else
 bif (decide ((48:Int)<(IntKind.i64.wrap (((a_a.kinds.length:Nat):Int)+((a_b.kinds.length:Nat):Int))))) then some false else
 (EW a_a).bind fun r_6=>bif r_6 then (EW a_b).bind fun r_8=>bif r_8 then (Py [a_e] (200:Int)).bind fun r_10=>bif r_10 then (BK a_a a_b).bind fun r_12=>(Db a_e r_12).bind fun r_13=>some (decide (r_13=(0:Int))) else
 some false else
 some false else
 some false
theorem pM {a_a:bH} {a_b:bH} {a_e:Ex} {r:Bool} (H:nO a_a a_b a_e=some r):Pure Tryz.prog 16 [.agg (bD a_a), .agg (bD a_b), .agg (tE a_e)] (.val (.one (.bool r))):=by
 unfold nO at H
 rw [aL a_e]
 refine po_ Tryz.func16 Tryz.ntmps16 ?_
 rcases af H with ⟨q_1,H⟩|⟨q_1,H⟩
 ·cases H
  exact aK
 rcases af H with ⟨q_2,H⟩|⟨q_2,H⟩
 ·cases H
  exact aK
 rcases af H with ⟨q_3,H⟩|⟨q_3,H⟩
 ·cases H
  exact aK
 rcases af H with ⟨q_4,H⟩|⟨q_4,H⟩
 ·cases H
  exact aK
 rcases af H with ⟨q_5,H⟩|⟨q_5,H⟩
 ·cases H
  exact aK
 obtain ⟨r_6,c1,H⟩:=bd_ H
 replace c1:=TK c1
 rcases af H with ⟨q_7,H⟩|⟨q_7,H⟩
 ·obtain ⟨r_8,c2,H⟩:=bd_ H
  replace c2:=TK c2
  rcases af H with ⟨q_9,H⟩|⟨q_9,H⟩
  ·obtain ⟨r_10,c3,H⟩:=bd_ H
   replace c3:=ae7 c3
   try simp only [aqb,ap',aqd,ap5,aL] at c3
   rcases af H with ⟨q_11,H⟩|⟨q_11,H⟩
   ·obtain ⟨r_12,c4,H⟩:=bd_ H
    replace c4:=Xl c4
    obtain ⟨r_13,c5,H⟩:=bd_ H
    replace c5:=abg c5
    try simp only [aqb,ap',aqd,ap5,aL] at c5
    cases H
    exact aK
   cases H
   exact aK
  cases H
  exact aK
 cases H
 exact aK
end
end Go.Proofs.YtlcceppoloaecaaGreatDoor
