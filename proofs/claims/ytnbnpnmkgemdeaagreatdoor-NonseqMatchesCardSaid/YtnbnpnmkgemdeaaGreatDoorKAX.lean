/- Parts of the proof, joined. No condition. -/
import Derived.Test.YtnbnpnmkgemdeaaGreatDoorKAA
import Derived.Test.YtnbnpnmkgemdeaaGreatDoorKAW
import Derived.Test.YtnbnpnmkgemdeaaGreatDoorKAJ
set_option linter.unusedSimpArgs false
set_option linter.unusedVariables false
namespace Go.Proofs.YtnbnpnmkgemdeaaGreatDoor
open Go.RowKit Go.MapKept
set_option maxRecDepth 100000
set_option maxHeartbeats 8000000
noncomputable section
def p8 (inn:List (List Int)):List Ob:=[.box [.clo 117 [.ptr 0 0, .ptr 1 0]], .box [.c (.lst (inn.map (fun x=>[AC.lst (x.map (fun x=>[AC.int .i64 x]))])))]]
theorem Nu {P:Program} {ti:TI} {N:Nat} {ds:List (Option Tmp)} {K:Tm->List Ob->Prop} {rest:List Oper} {o:Oper} {T:Tm} {L:List Ob} (σ:List Nat) {g:FuncId} {L0 L1:List Ob} {args as0:List AV} {r:AV} {d:Nat} (hd:o.dst=some d) (hN:Nat.blt d N=true) (hg:iR ds T o.guard=some true) (hp:eO ti (look T) o.op=some (g,as0)) (hc:Run P g L0 args L1 r) (ha:as0=args.map (AV.ren σ)) (hF:jD σ L0 args L)
  (hr:r.ren (eU σ L.length L1.length)=r) (hL:joinL σ L L1=L) (h:aM P ti N ds K rest ((d,r)::T) L):aM P ti N ds K (o::rest) T L:=cZ σ hd hN hg hp hc ha hF hr hL h
theorem uX {n f:Nat} (h:2<=n):(Ob.box [.clo f [.ptr 0 0, .ptr 1 0]]).below n:=by
 intro x hx
 simp only [Zf,List.not_mem_nil,or_false] at hx
 subst hx
 intro c hc
 simp only [Zf,List.not_mem_nil,or_false] at hc
 rcases hc with rfl|rfl
 ·show 0<n;omega
 ·show 1<n;omega
theorem fJ (inn:List (List Int)) : ∀ x∈p8 inn,x.below (p8 inn).length:=by
 intro x hx
 simp only [p8,Zf,List.not_mem_nil,or_false] at hx
 rcases hx with rfl|rfl
 ·exact uX (Ze 2)
 ·exact gH rfl
theorem FQ {n:Nat} : ∀ (l:List AC),(AV.agg (l.map .c)).below n:=fun l x hx=>by
 simp only [Zz] at hx
 obtain ⟨y,_,rfl⟩:=hx
 trivial
theorem Pb {inn:List (List Int)} (l:List AC) (Lr:List Ob):jD [0,1] (p8 inn) [.agg (l.map .c), .one (.ptr 0 0), .one (.ptr 1 0)] (p8 inn++Lr):=by
 refine ⟨rfl,by decide,?_,fJ inn,?_⟩
 ·intro i x hx
  match i,hx with
  | 0,hx=>obtain rfl:=Zw hx;rfl
  | 1,hx=>obtain rfl:=Zw hx;rfl
  | _+2,hx=>cases hx
 ·intro x hx
  simp only [Zf,List.not_mem_nil,or_false] at hx
  rcases hx with rfl|rfl|rfl
  ·exact FQ l
  ·show 0<2;omega
  ·show 1<2;omega
def iU (a_p:Pl) (rec:Pl->Option (List Int × Int)):((List (List Int)) × Int)->Option (Step ((List (List Int)) × Int) ((List Int) × Int)):=fun s=>match s with
 | (sub_4,v_5)=>bif (decide (v_5<((a_p.inputs.length:Nat):Int))) then (au a_p.inputs v_5).bind fun x_7=>(rec x_7).bind fun r_8=>bif (decide (r_8.2≠(0:Int))) then some (.ret ([],r_8.2)) else
 bif (decide (sub_4.length+1<=5864062014805)) then (some (.next ((sub_4++[r_8.1]),(IntKind.i64.wrap (v_5+(1:Int)))))) else none else
 some (.exit (sub_4,v_5))
def iW (a_p:Pl) (inn:List (List Int)):Sum ((List (List Int)) × Int) ((List Int) × Int)->Option (((List Int) × Int))
 | .inl (sub_4,v_5)=>(wB a_p inn sub_4).bind fun r_10=>bif (decide (r_10.2≠(0:Int))) then some ([],r_10.2) else
 bif (decide (((r_10.1.length:Nat):Int)<(1:Int))) then some ([],(13:Int)) else
 bif (decide ((48:Int)<((r_10.1.length:Nat):Int))) then some ([],(13:Int)) else
 some (r_10.1,(0:Int))
 | .inr q=>some q
def wN (rec:Pl->Option (List Int × Int)) (inn:List (List Int)) (a_p:Pl):Option ((List Int) × Int):=(sj a_p.op).bind fun r_1=>bif (decide (r_1<(0:Int))) then some ([],(7:Int)) else
 bif (decide (r_1≠((a_p.inputs.length:Nat):Int))) then some ([],(8:Int)) else
 (ah (iU a_p rec) fuel ([],(0:Int))).bind (iW a_p inn)
theorem NN {rec:Pl->Option (List Int × Int)} {inn:List (List Int)}  (hrec : ∀ {x:Pl} {r:List Int × Int}, rec x=some r->Run Tryz.prog 117 (p8 inn) [.agg ((tP x).map .c), .one (.ptr 0 0), .one (.ptr 1 0)] (p8 inn) (.tup [.one (.lst (r.1.map (fun x=>[AC.int .i64 x]))), .one (.int .i64 r.2)])) {a_p:Pl} {r:(List Int) × Int} (H:wN rec inn a_p=some r):Run Tryz.prog 117 (p8 inn) [.agg ((tP a_p).map .c), .one (.ptr 0 0), .one (.ptr 1 0)] (p8 inn) (.tup [.one (.lst (r.1.map (fun x=>[AC.int .i64 x]))), .one (.int .i64 r.2)]):=by
 unfold wN at H
 rw [aQ a_p]
 refine bI bQ Tryz.func117 rfl rfl Tryz.ntmps117 (by simp) ?_
 simp only [jG,p8,Y9,Zd]
 obtain ⟨r_1,c1,H⟩:=bd_ H
 replace c1:=IQ c1
 rcases aa H with ⟨q_2,H⟩|⟨q_2,H⟩
 ·cases H
  repeat' (first|refine st_nil ?_|refine p_ rfl rfl rfl rfl rfl ?_|refine st_nil ?_|refine x_ rfl rfl rfl rfl rfl rfl rfl rfl ?_|refine l_ rfl rfl rfl rfl ?_|refine s_ rfl rfl rfl ?_|refine t_ rfl rfl rfl rfl ?_|refine k_ rfl rfl rfl ?_|refine k0_ rfl rfl ?_|refine c_ rfl rfl rfl rfl ?_|refine pick_t rfl rfl rfl rfl rfl rfl rfl ?_|refine pick_f rfl rfl rfl rfl rfl rfl rfl ?_|refine aw_seq ?_|refine aw_region bQ _ rfl ?_|refine aw_drawn2 cK _ rfl mixed (by decide +kernel) ?_|refine aw_condT rfl ?_|refine aw_condF rfl ?_|refine aw_block ?_|refine aw_exit ?_|refine aw_ret ?_|refine aw_skip ?_|rw [Y_]|rw [mn_norm]|rw [mx_norm])
  exact ⟨.inr rfl,⟨.inr ⟨_,aX rfl (by repeat' (first|exact trivial|apply And.intro)) rfl,rfl⟩,⟨_,rfl⟩,Ze _,fJ inn,trivial⟩⟩
 rcases aa H with ⟨q_3,H⟩|⟨q_3,H⟩
 ·cases H
  repeat' (first|refine st_nil ?_|refine p_ rfl rfl rfl rfl rfl ?_|refine st_nil ?_|refine x_ rfl rfl rfl rfl rfl rfl rfl rfl ?_|refine l_ rfl rfl rfl rfl ?_|refine s_ rfl rfl rfl ?_|refine t_ rfl rfl rfl rfl ?_|refine k_ rfl rfl rfl ?_|refine k0_ rfl rfl ?_|refine c_ rfl rfl rfl rfl ?_|refine pick_t rfl rfl rfl rfl rfl rfl rfl ?_|refine pick_f rfl rfl rfl rfl rfl rfl rfl ?_|refine aw_seq ?_|refine aw_region bQ _ rfl ?_|refine aw_drawn2 cK _ rfl mixed (by decide +kernel) ?_|refine aw_condT rfl ?_|refine aw_condF rfl ?_|refine aw_block ?_|refine aw_exit ?_|refine aw_ret ?_|refine aw_skip ?_|rw [Y_]|rw [mn_norm]|rw [mx_norm])
  exact ⟨.inr rfl,⟨.inr ⟨_,aX rfl (by repeat' (first|exact trivial|apply And.intro)) rfl,rfl⟩,⟨_,rfl⟩,Ze _,fJ inn,trivial⟩⟩
 repeat' (first|refine st_nil ?_|refine p_ rfl rfl rfl rfl rfl ?_|refine st_nil ?_|refine x_ rfl rfl rfl rfl rfl rfl rfl rfl ?_|refine l_ rfl rfl rfl rfl ?_|refine s_ rfl rfl rfl ?_|refine t_ rfl rfl rfl rfl ?_|refine k_ rfl rfl rfl ?_|refine k0_ rfl rfl ?_|refine c_ rfl rfl rfl rfl ?_|refine pick_t rfl rfl rfl rfl rfl rfl rfl ?_|refine pick_f rfl rfl rfl rfl rfl rfl rfl ?_|refine aw_seq ?_|refine aw_region bQ _ rfl ?_|refine aw_drawn2 cK _ rfl mixed (by decide +kernel) ?_|refine aw_condT rfl ?_|refine aw_condF rfl ?_|refine aw_block ?_|refine aw_exit ?_|refine aw_ret ?_|refine aw_skip ?_|rw [Y_]|rw [mn_norm]|rw [mx_norm])
 refine dM 7 1 rfl ?_
 refine alM_ (fun s:(List (List Int)) × Int=>match s with|(sub_4,v_5)=>[(1, .one (.ptr 0 0)),(2, .one (.ptr 1 0)),(3, .one (.ptr 2 0)),(7, .one (.own (sub_4.map (fun x=>[AC.lst (x.map (fun x=>[AC.int .i64 x]))])) 3)),(25, .one (.c (.lst (a_p.inputs.map tP)))),(26, .one (.c (.int .i64 ((a_p.inputs.length:Nat):Int)))),(27, .one (.c (.int .i64 v_5)))]) (fun s=>match s with|(sub_4,v_5)=>[.box [.clo 117 [.ptr 0 0, .ptr 1 0]], .box [.c (.lst (inn.map (fun x=>[AC.lst (x.map (fun x=>[AC.int .i64 x]))])))], .box [.c (.int .i64 a_p.op), .c (.int .i64 a_p.int), .c (.lst (a_p.kinds.map (fun x=>[AC.int .i64 x]))), .c (.lst (a_p.rows.map (fun x=>[AC.lst (x.map cV)]))), .c (.int .i64 a_p.pred.op), .c (.int .i64 a_p.pred.int), .c (.int .i64 a_p.pred.v.kind), .c (.int .i64 a_p.pred.v.int), .c (.str a_p.pred.v.text), .c (.str a_p.pred.nm), .c (.lst (a_p.pred.args.map tE)), .c (.lst (a_p.exprs.map tE)), .c (.lst (a_p.keys.map (fun x=>[AC.int .i64 x]))), .c (.lst (a_p.aggs.map Km)), .c (.lst (a_p.inputs.map tP))], .spare sub_4.length 1]) H (fun s=>by obtain ⟨_,_⟩:=s;exact Y8 rfl)
  (fm_ bL [] rfl bq ⟨uX (Y8 rfl),gH (by rfl),gH (by rfl),trivial,trivial⟩) ?_
 rintro ⟨sub_4,v_5⟩ st1 hb1 hk1
 unfold iU at hb1
 dsimp only at hb1 ⊢
 rcases aa hb1 with ⟨q_6,hb1⟩|⟨q_6,hb1⟩
 ·obtain ⟨x_7,i2z,i2,i2x,hb1⟩:=aI (f:=tP) hb1
  simp only [Zb,Y9,Zd,Y3,aQ] at i2x
  obtain ⟨r_8,c3,hb1⟩:=bd_ hb1
  replace c3:=hrec c3
  try simp only [Zb,Y9,Zd,Y3,aF,aQ] at c3
  have c3f := @Pb inn (tP x_7)
  simp only [Zb,Y9,Zd,Y3,aF,aQ] at c3f
  rcases aa hb1 with ⟨q_9,hb1⟩|⟨q_9,hb1⟩
  ·cases hb1
   have hx1:iW a_p inn (.inr ([],r_8.2))=some _:=hk1
   unfold iW at hx1
   dsimp only at hx1
   cases hx1
   repeat' (first|refine st_nil ?_|refine Nu [0,1] rfl rfl rfl rfl c3 rfl (c3f _) rfl rfl ?_|refine p_ rfl rfl rfl rfl rfl ?_|refine st_nil ?_|refine x_ rfl rfl rfl rfl rfl rfl rfl rfl ?_|refine l_ rfl rfl rfl rfl ?_|refine s_ rfl rfl rfl ?_|refine t_ rfl rfl rfl rfl ?_|refine k_ rfl rfl rfl ?_|refine k0_ rfl rfl ?_|refine c_ rfl rfl rfl rfl ?_|refine pick_t rfl rfl rfl rfl rfl rfl rfl ?_|refine pick_f rfl rfl rfl rfl rfl rfl rfl ?_|refine aw_seq ?_|refine aw_region bQ _ rfl ?_|refine aw_drawn2 cK _ rfl mixed (by decide +kernel) ?_|refine aw_condT rfl ?_|refine aw_condF rfl ?_|refine aw_block ?_|refine aw_exit ?_|refine aw_ret ?_|refine aw_skip ?_|rw [Y_]|rw [mn_norm]|rw [mx_norm])
   exact ⟨.inr rfl,⟨.inr ⟨_,aX rfl (by repeat' (first|exact trivial|apply And.intro)) rfl,rfl⟩,⟨_,rfl⟩,Ze _,fJ inn,trivial⟩⟩
  obtain ⟨g4,hb1⟩:=az hb1
  cases hb1
  repeat' (first|refine st_nil ?_|refine Nu [0,1] rfl rfl rfl rfl c3 rfl (c3f _) rfl rfl ?_|refine p_ rfl rfl rfl rfl rfl ?_|refine st_nil ?_|refine x_ rfl rfl rfl rfl rfl rfl rfl rfl ?_|refine l_ rfl rfl rfl rfl ?_|refine s_ rfl rfl rfl ?_|refine t_ rfl rfl rfl rfl ?_|refine k_ rfl rfl rfl ?_|refine k0_ rfl rfl ?_|refine c_ rfl rfl rfl rfl ?_|refine pick_t rfl rfl rfl rfl rfl rfl rfl ?_|refine pick_f rfl rfl rfl rfl rfl rfl rfl ?_|refine aw_seq ?_|refine aw_region bQ _ rfl ?_|refine aw_drawn2 cK _ rfl mixed (by decide +kernel) ?_|refine aw_condT rfl ?_|refine aw_condF rfl ?_|refine aw_block ?_|refine aw_exit ?_|refine aw_ret ?_|refine aw_skip ?_|rw [Y_]|rw [mn_norm]|rw [mx_norm])
  exact ⟨_,rfl,fm_ oH [_] kI bq ⟨uX (Y8 rfl),gH (by rfl),gH (by rfl),trivial,trivial⟩⟩
 cases hb1
 have hx1:iW a_p inn (.inl (sub_4,v_5))=some _:=hk1
 unfold iW at hx1
 dsimp only at hx1
 obtain ⟨r_10,c5,hx1⟩:=bd_ hx1
 replace c5:=Oh c5
 try simp only [Zb,Y9,Zd,Y3,aF,aQ] at c5
 rcases aa hx1 with ⟨q_11,hx1⟩|⟨q_11,hx1⟩
 ·cases hx1
  repeat' (first|refine st_nil ?_|refine p_ rfl rfl rfl rfl rfl ?_|refine st_nil ?_|refine x_ rfl rfl rfl rfl rfl rfl rfl rfl ?_|refine l_ rfl rfl rfl rfl ?_|refine s_ rfl rfl rfl ?_|refine t_ rfl rfl rfl rfl ?_|refine k_ rfl rfl rfl ?_|refine k0_ rfl rfl ?_|refine c_ rfl rfl rfl rfl ?_|refine pick_t rfl rfl rfl rfl rfl rfl rfl ?_|refine pick_f rfl rfl rfl rfl rfl rfl rfl ?_|refine aw_seq ?_|refine aw_region bQ _ rfl ?_|refine aw_drawn2 cK _ rfl mixed (by decide +kernel) ?_|refine aw_condT rfl ?_|refine aw_condF rfl ?_|refine aw_block ?_|refine aw_exit ?_|refine aw_ret ?_|refine aw_skip ?_|rw [Y_]|rw [mn_norm]|rw [mx_norm])
  exact ⟨.inr rfl,⟨.inr ⟨_,aX rfl (by repeat' (first|exact trivial|apply And.intro)) rfl,rfl⟩,⟨_,rfl⟩,Ze _,fJ inn,trivial⟩⟩
 rcases aa hx1 with ⟨q_12,hx1⟩|⟨q_12,hx1⟩
 ·cases hx1
  repeat' (first|refine st_nil ?_|refine p_ rfl rfl rfl rfl rfl ?_|refine st_nil ?_|refine x_ rfl rfl rfl rfl rfl rfl rfl rfl ?_|refine l_ rfl rfl rfl rfl ?_|refine s_ rfl rfl rfl ?_|refine t_ rfl rfl rfl rfl ?_|refine k_ rfl rfl rfl ?_|refine k0_ rfl rfl ?_|refine c_ rfl rfl rfl rfl ?_|refine pick_t rfl rfl rfl rfl rfl rfl rfl ?_|refine pick_f rfl rfl rfl rfl rfl rfl rfl ?_|refine aw_seq ?_|refine aw_region bQ _ rfl ?_|refine aw_drawn2 cK _ rfl mixed (by decide +kernel) ?_|refine aw_condT rfl ?_|refine aw_condF rfl ?_|refine aw_block ?_|refine aw_exit ?_|refine aw_ret ?_|refine aw_skip ?_|rw [Y_]|rw [mn_norm]|rw [mx_norm])
  exact ⟨.inr rfl,⟨.inr ⟨_,aX rfl (by repeat' (first|exact trivial|apply And.intro)) rfl,rfl⟩,⟨_,rfl⟩,Ze _,fJ inn,trivial⟩⟩
 rcases aa hx1 with ⟨q_13,hx1⟩|⟨q_13,hx1⟩
 ·cases hx1
  repeat' (first|refine st_nil ?_|refine p_ rfl rfl rfl rfl rfl ?_|refine st_nil ?_|refine x_ rfl rfl rfl rfl rfl rfl rfl rfl ?_|refine l_ rfl rfl rfl rfl ?_|refine s_ rfl rfl rfl ?_|refine t_ rfl rfl rfl rfl ?_|refine k_ rfl rfl rfl ?_|refine k0_ rfl rfl ?_|refine c_ rfl rfl rfl rfl ?_|refine pick_t rfl rfl rfl rfl rfl rfl rfl ?_|refine pick_f rfl rfl rfl rfl rfl rfl rfl ?_|refine aw_seq ?_|refine aw_region bQ _ rfl ?_|refine aw_drawn2 cK _ rfl mixed (by decide +kernel) ?_|refine aw_condT rfl ?_|refine aw_condF rfl ?_|refine aw_block ?_|refine aw_exit ?_|refine aw_ret ?_|refine aw_skip ?_|rw [Y_]|rw [mn_norm]|rw [mx_norm])
  exact ⟨.inr rfl,⟨.inr ⟨_,aX rfl (by repeat' (first|exact trivial|apply And.intro)) rfl,rfl⟩,⟨_,rfl⟩,Ze _,fJ inn,trivial⟩⟩
 cases hx1
 repeat' (first|refine st_nil ?_|refine p_ rfl rfl rfl rfl rfl ?_|refine st_nil ?_|refine x_ rfl rfl rfl rfl rfl rfl rfl rfl ?_|refine l_ rfl rfl rfl rfl ?_|refine s_ rfl rfl rfl ?_|refine t_ rfl rfl rfl rfl ?_|refine k_ rfl rfl rfl ?_|refine k0_ rfl rfl ?_|refine c_ rfl rfl rfl rfl ?_|refine pick_t rfl rfl rfl rfl rfl rfl rfl ?_|refine pick_f rfl rfl rfl rfl rfl rfl rfl ?_|refine aw_seq ?_|refine aw_region bQ _ rfl ?_|refine aw_drawn2 cK _ rfl mixed (by decide +kernel) ?_|refine aw_condT rfl ?_|refine aw_condF rfl ?_|refine aw_block ?_|refine aw_exit ?_|refine aw_ret ?_|refine aw_skip ?_|rw [Y_]|rw [mn_norm]|rw [mx_norm])
 exact ⟨.inr rfl,⟨.inr ⟨_,aX rfl (by repeat' (first|exact trivial|apply And.intro)) rfl,rfl⟩,⟨_,rfl⟩,Ze _,fJ inn,trivial⟩⟩
end
set_option maxHeartbeats 8000000
noncomputable section
def gQ (a_p:Pl) (a_most:Int) (rec:Pl->Int->Option Int):(Int × Int)->Option (Step (Int × Int) (Int)):=fun s=>match s with
 | (n_2,v_3)=>bif (decide (v_3<((a_p.inputs.length:Nat):Int))) then (au a_p.inputs v_3).bind fun x_5=>(rec x_5 (IntKind.i64.wrap (a_most-(1:Int)))).bind fun r_6=>some (.next ((M4 n_2 r_6),(IntKind.i64.wrap (v_3+(1:Int))))) else
 some (.exit (n_2,v_3))
def sQ:Sum (Int × Int) (Int)->Option ((Int))
 | .inl (n_2,v_3)=>some (IntKind.i64.wrap (n_2+(1:Int)))
 | .inr q=>some q
def ng (rec:Pl->Int->Option Int) (a_p:Pl) (a_most:Int):Option (Int):=bif (decide (a_most<=(0:Int))) then some (1:Int) else
 (ah (gQ a_p a_most rec) fuel ((0:Int),(0:Int))).bind (sQ)
theorem JA {rec:Pl->Int->Option Int}  (hrec : ∀ {x:Pl} {y:Int} {r:Int}, rec x y=some r->Pure Tryz.prog 116 [.agg (tP x), .one (.int .i64 y)] (.val (.one (.int .i64 r)))) {a_p:Pl} {a_most:Int} {r:Int} (H:ng rec a_p a_most=some r):Pure Tryz.prog 116 [.agg (tP a_p), .one (.int .i64 a_most)] (.val (.one (.int .i64 r))):=by
 unfold ng at H
 rw [aQ a_p]
 refine po_ Tryz.func116 Tryz.ntmps116 ?_
 rcases aa H with ⟨q_1,H⟩|⟨q_1,H⟩
 ·cases H
  exact aj
 refine bf ?_
 refine alM_ (fun s:Int × Int=>match s with|(n_2,v_3)=>[(1, .one (.c (.int .i64 a_most))),(5, .one (.c (.int .i64 n_2))),(11, .one (.c (.lst (a_p.inputs.map tP)))),(12, .one (.c (.int .i64 ((a_p.inputs.length:Nat):Int)))),(13, .one (.c (.int .i64 v_3)))]) (fun s=>match s with|(n_2,v_3)=>[.box [.c (.int .i64 a_p.op), .c (.int .i64 a_p.int), .c (.lst (a_p.kinds.map (fun x=>[AC.int .i64 x]))), .c (.lst (a_p.rows.map (fun x=>[AC.lst (x.map cV)]))), .c (.int .i64 a_p.pred.op), .c (.int .i64 a_p.pred.int), .c (.int .i64 a_p.pred.v.kind), .c (.int .i64 a_p.pred.v.int), .c (.str a_p.pred.v.text), .c (.str a_p.pred.nm), .c (.lst (a_p.pred.args.map tE)), .c (.lst (a_p.exprs.map tE)), .c (.lst (a_p.keys.map (fun x=>[AC.int .i64 x]))), .c (.lst (a_p.aggs.map Km)), .c (.lst (a_p.inputs.map tP))]]) H (fun _=>Zj _)
  (fm_ bL [] rfl bq cO) ?_
 rintro ⟨n_2,v_3⟩ st1 hb1 hk1
 unfold gQ at hb1
 dsimp only at hb1 ⊢
 rcases aa hb1 with ⟨q_4,hb1⟩|⟨q_4,hb1⟩
 ·obtain ⟨x_5,i1z,i1,i1x,hb1⟩:=aI (f:=tP) hb1
  simp only [Zb,Y9,Zd,Y3,aQ] at i1x
  obtain ⟨r_6,c2,hb1⟩:=bd_ hb1
  replace c2:=hrec c2
  try simp only [Zb,Y9,Zd,Y3,aF,aQ] at c2
  cases hb1
  refine bf ?_
  exact ⟨_,rfl,fm_ bL [_] rfl bq cO⟩
 cases hb1
 have hx1:sQ (.inl (n_2,v_3))=some _:=hk1
 unfold sQ at hx1
 dsimp only at hx1
 cases hx1
 exact aj
def kE:Nat->Pl->Int->Option Int
 | 0,_,_=>none
 | n+1,x,y=>ng (kE n) x y
theorem DZ : ∀ (n:Nat) {x:Pl} {y:Int} {r:Int}, kE n x y=some r->Pure Tryz.prog 116 [.agg (tP x), .one (.int .i64 y)] (.val (.one (.int .i64 r)))
 | 0,_,_,_,h=>nomatch h
 | n+1,_,_,_,h=>JA (DZ n) h
end
set_option maxHeartbeats 8000000
noncomputable section
def jO (inn:List (List Int)):Nat->Pl->Option (List Int × Int)
 | 0,_=>none
 | n+1,p=>wN (jO inn n) inn p
theorem Gg {inn:List (List Int)} : ∀ (n:Nat) {x:Pl} {r:List Int × Int}, jO inn n x=some r->Run Tryz.prog 117 (p8 inn) [.agg ((tP x).map .c), .one (.ptr 0 0), .one (.ptr 1 0)] (p8 inn) (.tup [.one (.lst (r.1.map (fun x=>[AC.int .i64 x]))), .one (.int .i64 r.2)])
 | 0,_,_,h=>nomatch h
 | n+1,_,_,h=>NN (Gg n) h
def tK (p:Pl) (inn:List (List Int)):Option (List Int × Int):=(kE fuel p 24).bind fun dd =>
 bif decide (24<dd) then some ([],26) else (jO inn fuel p).bind fun r=>bif decide (r.2≠0) then some ([],r.2) else bif decide (r.1.length<=17592186044416) then some (r.1,0) else none
theorem Mh {inn:List (List Int)} (l:List AC) (A:Ob):jD [2,1] (p8 inn) [.agg (l.map .c), .one (.ptr 0 0), .one (.ptr 1 0)] [A, .box [.c (.lst (inn.map (fun x=>[AC.lst (x.map (fun x=>[AC.int .i64 x]))])))], .box [.clo 117 [.ptr 2 0, .ptr 1 0]]]:=by
 refine ⟨rfl,by decide,?_,fJ inn,?_⟩
 ·intro i x hx
  match i,hx with
  | 0,hx=>obtain rfl:=Zw hx;rfl
  | 1,hx=>obtain rfl:=Zw hx;rfl
  | _+2,hx=>cases hx
 ·intro x hx
  simp only [Zf,List.not_mem_nil,or_false] at hx
  rcases hx with rfl|rfl|rfl
  ·exact FQ l
  ·show 0<2;omega
  ·show 1<2;omega
theorem J3 {p:Pl} {inn:List (List Int)} {r:List Int × Int} (H:tK p inn=some r):Pure Tryz.prog 90 [.agg (tP p), .one (.lst (inn.map (fun x=>[AC.lst (x.map (fun x=>[AC.int .i64 x]))])))] (.tup [.one (.lst (r.1.map (fun x=>[AC.int .i64 x]))), .one (.int .i64 r.2)]):=by
 unfold tK at H
 obtain ⟨dd,hd',H⟩:=bd_ H
 replace hd':=DZ fuel hd'
 rw [aQ] at hd' ⊢
 refine pa_ bQ Tryz.func90 rfl rfl Tryz.ntmps90 (by simp) ?_
 simp only [argT,PV.av,Y9,Zd]
 rcases Bool.eq_false_or_eq_true (decide (24<dd)) with q|q
 ·rw [q,Y0] at H
  obtain rfl:=Zw H
  repeat' (first|refine p_ rfl rfl rfl rfl rfl ?_|refine st_nil ?_|refine x_ rfl rfl rfl rfl rfl rfl rfl rfl ?_|refine l_ rfl rfl rfl rfl ?_|refine s_ rfl rfl rfl ?_|refine t_ rfl rfl rfl rfl ?_|refine k_ rfl rfl rfl ?_|refine k0_ rfl rfl ?_|refine c_ rfl rfl rfl rfl ?_|refine pick_t rfl rfl rfl rfl rfl rfl rfl ?_|refine pick_f rfl rfl rfl rfl rfl rfl rfl ?_|refine aw_seq ?_|refine aw_region bQ _ rfl ?_|refine aw_drawn2 cK _ rfl mixed (by decide +kernel) ?_|refine aw_condT rfl ?_|refine aw_condF rfl ?_|refine aw_block ?_|refine aw_exit ?_|refine aw_ret ?_|refine aw_skip ?_|rw [Y_]|rw [mn_norm]|rw [mx_norm])
  exact aV (aX rfl (by repeat' (first|exact trivial|apply And.intro)) rfl)
 ·rw [q,YZ] at H
  obtain ⟨v,c1,H⟩:=bd_ H
  replace c1:=Gg fuel c1
  have hfit := @Mh inn (tP p)
  rw [aQ] at c1 hfit
  simp only [Y9,Zd] at c1 hfit
  rcases Bool.eq_false_or_eq_true (decide (v.2≠0)) with q2|q2
  ·rw [q2,Y0] at H
   obtain rfl:=Zw H
   repeat' (first|refine fG rfl rfl rfl rfl rfl (qo rfl) ?_|refine Nu [2,1] rfl rfl rfl rfl c1 rfl (hfit _) rfl rfl ?_|refine p_ rfl rfl rfl rfl rfl ?_|refine st_nil ?_|refine x_ rfl rfl rfl rfl rfl rfl rfl rfl ?_|refine l_ rfl rfl rfl rfl ?_|refine s_ rfl rfl rfl ?_|refine t_ rfl rfl rfl rfl ?_|refine k_ rfl rfl rfl ?_|refine k0_ rfl rfl ?_|refine c_ rfl rfl rfl rfl ?_|refine pick_t rfl rfl rfl rfl rfl rfl rfl ?_|refine pick_f rfl rfl rfl rfl rfl rfl rfl ?_|refine aw_seq ?_|refine aw_region bQ _ rfl ?_|refine aw_drawn2 cK _ rfl mixed (by decide +kernel) ?_|refine aw_condT rfl ?_|refine aw_condF rfl ?_|refine aw_block ?_|refine aw_exit ?_|refine aw_ret ?_|refine aw_skip ?_|rw [Y_]|rw [mn_norm]|rw [mx_norm])
   exact aV (aX rfl (by repeat' (first|exact trivial|apply And.intro)) rfl)
  ·rw [q2,YZ] at H
   obtain ⟨g1,H⟩:=xg H
   replace g1:=Zr g1
   obtain rfl:=Zw H
   repeat' (first|refine fG rfl rfl rfl rfl rfl (qo rfl) ?_|refine Nu [2,1] rfl rfl rfl rfl c1 rfl (hfit _) rfl rfl ?_|refine p_ rfl rfl rfl rfl rfl ?_|refine st_nil ?_|refine x_ rfl rfl rfl rfl rfl rfl rfl rfl ?_|refine l_ rfl rfl rfl rfl ?_|refine s_ rfl rfl rfl ?_|refine t_ rfl rfl rfl rfl ?_|refine k_ rfl rfl rfl ?_|refine k0_ rfl rfl ?_|refine c_ rfl rfl rfl rfl ?_|refine pick_t rfl rfl rfl rfl rfl rfl rfl ?_|refine pick_f rfl rfl rfl rfl rfl rfl rfl ?_|refine aw_seq ?_|refine aw_region bQ _ rfl ?_|refine aw_drawn2 cK _ rfl mixed (by decide +kernel) ?_|refine aw_condT rfl ?_|refine aw_condF rfl ?_|refine aw_block ?_|refine aw_exit ?_|refine aw_ret ?_|refine aw_skip ?_|rw [Y_]|rw [mn_norm]|rw [mx_norm])
   exact aV (aX rfl (by repeat' (first|exact trivial|apply And.intro)) rfl)
end
set_option maxHeartbeats 8000000
noncomputable section
def Fv (a:aW) (b:Ex):Option aW:=none
theorem Hf {a:aW} {b:Ex} {r:aW} (H:Fv a b=some r):Pure Tryz.prog 121 [.agg (bJ a), .agg (tE b)] (.val (.agg (bJ r))):=nomatch H
def Cn (a:aW) (b:List Ex):Option aW:=none
theorem Eu {a:aW} {b:List Ex} {r:aW} (H:Cn a b=some r):Pure Tryz.prog 122 [.agg (bJ a), .one (.lst (b.map tE))] (.val (.agg (bJ r))):=nomatch H
def zR (a:aW):Option aW:=none
theorem Dk {a:aW} {r:aW} (H:zR a=some r):Pure Tryz.prog 123 [.agg (bJ a)] (.val (.agg (bJ r))):=nomatch H
def JB (a:aW) (b:List Int) (c:List Ag):Option aW:=none
theorem J8 {a:aW} {b:List Int} {c:List Ag} {r:aW} (H:JB a b c=some r):Pure Tryz.prog 124 [.agg (bJ a), .one (.lst (b.map (fun x=>[AC.int .i64 x]))), .one (.lst (c.map Km))] (.val (.agg (bJ r))):=nomatch H
def Jw (a:aW) (b:aW):Option aW:=none
theorem Kb {a:aW} {b:aW} {r:aW} (H:Jw a b=some r):Pure Tryz.prog 126 [.agg (bJ a), .agg (bJ b)] (.val (.agg (bJ r))):=nomatch H
def Gn (a:aW) (b:aW):Option aW:=none
theorem Hy {a:aW} {b:aW} {r:aW} (H:Gn a b=some r):Pure Tryz.prog 127 [.agg (bJ a), .agg (bJ b)] (.val (.agg (bJ r))):=nomatch H
def xL (a:aW) (b:aW):Option aW:=none
theorem AA {a:aW} {b:aW} {r:aW} (H:xL a b=some r):Pure Tryz.prog 128 [.agg (bJ a), .agg (bJ b)] (.val (.agg (bJ r))):=nomatch H
def kP (a_p:Pl) (a_in:(List aW)) (rec:Pl->List aW->Option aW):((List aW) × Int)->Option (Step ((List aW) × Int) (aW)):=fun s=>match s with
 | (l_1,v_2)=>bif (decide (v_2<((a_p.inputs.length:Nat):Int))) then (au a_p.inputs v_2).bind fun x_4=>(rec x_4 a_in).bind fun r_5=>bif (decide (l_1.length+1<=2932031007402)) then (some (.next ((l_1++[r_5]),(IntKind.i64.wrap (v_2+(1:Int)))))) else none else
 some (.exit (l_1,v_2))
def oL (a_p:Pl) (a_in:(List aW)):Sum ((List aW) × Int) (aW)->Option ((aW))
 | .inl (l_1,v_2)=>bif (decide (a_p.op=(1:Int))) then (au a_in a_p.int).bind fun x_7=>(vL x_7.kinds x_7.rows).bind fun r_8=>some r_8 else
 bif (decide (a_p.op=(2:Int))) then (vL a_p.kinds a_p.rows).bind fun r_10=>some r_10 else
 bif (decide (a_p.op=(3:Int))) then (au l_1 (0:Int)).bind fun x_12=>(Fv x_12 a_p.pred).bind fun r_13=>some r_13 else
 bif (decide (a_p.op=(4:Int))) then (au l_1 (0:Int)).bind fun x_15=>(Cn x_15 a_p.exprs).bind fun r_16=>some r_16 else
 bif (decide (a_p.op=(10:Int))) then (au l_1 (0:Int)).bind fun x_18=>(zR x_18).bind fun r_19=>some r_19 else
 bif (decide (a_p.op=(11:Int))) then (au l_1 (0:Int)).bind fun x_21=>(JB x_21 a_p.keys a_p.aggs).bind fun r_22=>some r_22 else
 bif (decide (a_p.op=(5:Int))) then (au l_1 (0:Int)).bind fun x_24=>(au l_1 (1:Int)).bind fun x_25=>(yU x_24 x_25 a_p.pred (decide (a_p.op=(6:Int)))).bind fun r_27=>some r_27 else
 bif (decide (a_p.op=(6:Int))) then (au l_1 (0:Int)).bind fun x_29=>(au l_1 (1:Int)).bind fun x_30=>(yU x_29 x_30 a_p.pred (decide (a_p.op=(6:Int)))).bind fun r_31=>some r_31 else
 bif (decide (a_p.op=(7:Int))) then (au l_1 (0:Int)).bind fun x_33=>(au l_1 (1:Int)).bind fun x_34=>(Jw x_33 x_34).bind fun r_35=>some r_35 else
 bif (decide (a_p.op=(8:Int))) then (au l_1 (0:Int)).bind fun x_37=>(au l_1 (1:Int)).bind fun x_38=>(Gn x_37 x_38).bind fun r_39=>some r_39 else
 (au l_1 (0:Int)).bind fun x_40=>(au l_1 (1:Int)).bind fun x_41=>(xL x_40 x_41).bind fun r_42=>some r_42
 | .inr q=>some q
def BX (rec:Pl->List aW->Option aW) (a_p:Pl) (a_in:(List aW)):Option (aW):=(ah (kP a_p a_in rec) fuel ([],(0:Int))).bind (oL a_p a_in)
theorem Qx {rec:Pl->List aW->Option aW}  (hrec : ∀ {x:Pl} {y:List aW} {r:aW}, rec x y=some r->Pure Tryz.prog 91 [.agg (tP x), .one (.lst (y.map bJ))] (.val (.agg (bJ r)))) {a_p:Pl} {a_in:(List aW)} {r:aW} (H:BX rec a_p a_in=some r):Pure Tryz.prog 91 [.agg (tP a_p), .one (.lst (a_in.map bJ))] (.val (.agg (bJ r))):=by
 unfold BX at H
 rw [aQ a_p]
 refine po_ Tryz.func91 Tryz.ntmps91 ?_
 refine bf ?_
 refine dM 5 2 rfl ?_
 refine alM_ (fun s:(List aW) × Int=>match s with|(l_1,v_2)=>[(1, .one (.c (.lst (a_in.map bJ)))),(2, .one (.ptr 0 0)),(4, .one (.ptr 1 0)),(5, .one (.own (l_1.map bJ) 2)),(9, .one (.c (.lst (a_p.inputs.map tP)))),(10, .one (.c (.int .i64 ((a_p.inputs.length:Nat):Int)))),(11, .one (.c (.int .i64 v_2)))]) (fun s=>match s with|(l_1,v_2)=>[.box [.c (.int .i64 a_p.op), .c (.int .i64 a_p.int), .c (.lst (a_p.kinds.map (fun x=>[AC.int .i64 x]))), .c (.lst (a_p.rows.map (fun x=>[AC.lst (x.map cV)]))), .c (.int .i64 a_p.pred.op), .c (.int .i64 a_p.pred.int), .c (.int .i64 a_p.pred.v.kind), .c (.int .i64 a_p.pred.v.int), .c (.str a_p.pred.v.text), .c (.str a_p.pred.nm), .c (.lst (a_p.pred.args.map tE)), .c (.lst (a_p.exprs.map tE)), .c (.lst (a_p.keys.map (fun x=>[AC.int .i64 x]))), .c (.lst (a_p.aggs.map Km)), .c (.lst (a_p.inputs.map tP))], .box [.emp, .emp], .spare l_1.length 2]) H (fun _=>Zj _)
  (fm_ bL [] rfl bq cO) ?_
 rintro ⟨l_1,v_2⟩ st1 hb1 hk1
 unfold kP at hb1
 dsimp only at hb1 ⊢
 rcases aa hb1 with ⟨q_3,hb1⟩|⟨q_3,hb1⟩
 ·obtain ⟨x_4,i1z,i1,i1x,hb1⟩:=aI (f:=tP) hb1
  simp only [Zb,Y9,Zd,Y3,aQ] at i1x
  obtain ⟨r_5,c2,hb1⟩:=bd_ hb1
  replace c2:=hrec c2
  try simp only [Zb,Y9,Zd,Y3,aF,aQ] at c2
  obtain ⟨g3,hb1⟩:=az hb1
  cases hb1
  refine bf ?_
  exact ⟨_,rfl,fm_ oH [_] kI bq cO⟩
 cases hb1
 have hx1:oL a_p a_in (.inl (l_1,v_2))=some _:=hk1
 unfold oL at hx1
 dsimp only at hx1
 rcases aa hx1 with ⟨q_6,hx1⟩|⟨q_6,hx1⟩
 ·obtain ⟨x_7,i4z,i4,i4x,hx1⟩:=aI (f:=bJ) hx1
  obtain ⟨r_8,c5,hx1⟩:=bd_ hx1
  replace c5:=p9 c5
  cases hx1
  exact aj
 rcases aa hx1 with ⟨q_9,hx1⟩|⟨q_9,hx1⟩
 ·obtain ⟨r_10,c6,hx1⟩:=bd_ hx1
  replace c6:=p9 c6
  cases hx1
  exact aj
 rcases aa hx1 with ⟨q_11,hx1⟩|⟨q_11,hx1⟩
 ·obtain ⟨x_12,i7z,i7,i7x,hx1⟩:=aI (f:=bJ) hx1
  obtain ⟨r_13,c8,hx1⟩:=bd_ hx1
  replace c8:=Hf c8
  try simp only [Zb,Y9,Zd,Y3,aF,aQ] at c8
  cases hx1
  exact aj
 rcases aa hx1 with ⟨q_14,hx1⟩|⟨q_14,hx1⟩
 ·obtain ⟨x_15,i9z,i9,i9x,hx1⟩:=aI (f:=bJ) hx1
  obtain ⟨r_16,c10,hx1⟩:=bd_ hx1
  replace c10:=Eu c10
  cases hx1
  exact aj
 rcases aa hx1 with ⟨q_17,hx1⟩|⟨q_17,hx1⟩
 ·obtain ⟨x_18,i11z,i11,i11x,hx1⟩:=aI (f:=bJ) hx1
  obtain ⟨r_19,c12,hx1⟩:=bd_ hx1
  replace c12:=Dk c12
  cases hx1
  exact aj
 rcases aa hx1 with ⟨q_20,hx1⟩|⟨q_20,hx1⟩
 ·obtain ⟨x_21,i13z,i13,i13x,hx1⟩:=aI (f:=bJ) hx1
  obtain ⟨r_22,c14,hx1⟩:=bd_ hx1
  replace c14:=J8 c14
  cases hx1
  exact aj
 rcases aa hx1 with ⟨q_23,hx1⟩|⟨q_23,hx1⟩
 ·obtain ⟨x_24,i15z,i15,i15x,hx1⟩:=aI (f:=bJ) hx1
  obtain ⟨x_25,i16z,i16,i16x,hx1⟩:=aI (f:=bJ) hx1
  have q_26:(decide (a_p.op=(6:Int)))=false:=by rw [Zr q_23];decide
  obtain ⟨r_27,c17,hx1⟩:=bd_ hx1
  replace c17:=Fb c17
  try simp only [Zb,Y9,Zd,Y3,aF,aQ] at c17
  cases hx1
  exact aj
 rcases aa hx1 with ⟨q_28,hx1⟩|⟨q_28,hx1⟩
 ·obtain ⟨x_29,i18z,i18,i18x,hx1⟩:=aI (f:=bJ) hx1
  obtain ⟨x_30,i19z,i19,i19x,hx1⟩:=aI (f:=bJ) hx1
  obtain ⟨r_31,c20,hx1⟩:=bd_ hx1
  replace c20:=Fb c20
  try simp only [Zb,Y9,Zd,Y3,aF,aQ] at c20
  cases hx1
  exact aj
 rcases aa hx1 with ⟨q_32,hx1⟩|⟨q_32,hx1⟩
 ·obtain ⟨x_33,i21z,i21,i21x,hx1⟩:=aI (f:=bJ) hx1
  obtain ⟨x_34,i22z,i22,i22x,hx1⟩:=aI (f:=bJ) hx1
  obtain ⟨r_35,c23,hx1⟩:=bd_ hx1
  replace c23:=Kb c23
  cases hx1
  exact aj
 rcases aa hx1 with ⟨q_36,hx1⟩|⟨q_36,hx1⟩
 ·obtain ⟨x_37,i24z,i24,i24x,hx1⟩:=aI (f:=bJ) hx1
  obtain ⟨x_38,i25z,i25,i25x,hx1⟩:=aI (f:=bJ) hx1
  obtain ⟨r_39,c26,hx1⟩:=bd_ hx1
  replace c26:=Hy c26
  cases hx1
  exact aj
 obtain ⟨x_40,i27z,i27,i27x,hx1⟩:=aI (f:=bJ) hx1
 obtain ⟨x_41,i28z,i28,i28x,hx1⟩:=aI (f:=bJ) hx1
 obtain ⟨r_42,c29,hx1⟩:=bd_ hx1
 replace c29:=AA c29
 cases hx1
 exact aj
def qf:Nat->Pl->List aW->Option aW
 | 0,_,_=>none
 | n+1,x,y=>BX (qf n) x y
theorem JP : ∀ (n:Nat) {x:Pl} {y:List aW} {r:aW}, qf n x y=some r->Pure Tryz.prog 91 [.agg (tP x), .one (.lst (y.map bJ))] (.val (.agg (bJ r)))
 | 0,_,_,_,h=>nomatch h
 | n+1,_,_,_,h=>Qx (JP n) h
end
set_option maxHeartbeats 8000000
noncomputable section
def Dx (a_in:(List aW)):((List (List Int)) × Int)->Option (Step ((List (List Int)) × Int) (aW × Int)):=fun s=>match s with
 | (kinds_1,v_2)=>bif (decide (v_2<((a_in.length:Nat):Int))) then (au a_in v_2).bind fun x_4=>bif (decide (kinds_1.length+1<=5864062014805)) then (some (.next ((kinds_1++[x_4.kinds]),(IntKind.i64.wrap (v_2+(1:Int)))))) else none else
 some (.exit (kinds_1,v_2))
def yz (a_p:Pl) (a_in:(List aW)):Sum ((List (List Int)) × Int) (aW × Int)->Option ((aW × Int))
 | .inl (kinds_1,v_2)=>(tK a_p kinds_1).bind fun r_5=>bif (decide (r_5.2≠(0:Int))) then some ((⟨[],[]⟩:aW),r_5.2) else
 (qf fuel a_p a_in).bind fun r_7=>some (r_7,(0:Int))
 | .inr q=>some q
def JW (a_p:Pl) (a_in:(List aW)):Option (aW × Int):=(ah (Dx a_in) fuel ([],(0:Int))).bind (yz a_p a_in)
theorem QG {a_p:Pl} {a_in:(List aW)} {r:aW × Int} (H:JW a_p a_in=some r):Pure Tryz.prog 62 [.agg (tP a_p), .one (.lst (a_in.map bJ))] (.tup [.agg (bJ r.1), .one (.int .i64 r.2)]):=by
 unfold JW at H
 rw [aQ a_p]
 refine po_ Tryz.func62 Tryz.ntmps62 ?_
 refine bf ?_
 refine dM 6 1 rfl ?_
 refine alM_ (fun s:(List (List Int)) × Int=>match s with|(kinds_1,v_2)=>[(1, .one (.c (.lst (a_in.map bJ)))),(2, .one (.ptr 0 0)),(4, .one (.ptr 1 0)),(6, .one (.own (kinds_1.map (fun x=>[AC.lst (x.map (fun x=>[AC.int .i64 x]))])) 2)),(11, .one (.c (.lst (a_in.map bJ)))),(12, .one (.c (.int .i64 ((a_in.length:Nat):Int)))),(13, .one (.c (.int .i64 v_2)))]) (fun s=>match s with|(kinds_1,v_2)=>[.box [.c (.int .i64 a_p.op), .c (.int .i64 a_p.int), .c (.lst (a_p.kinds.map (fun x=>[AC.int .i64 x]))), .c (.lst (a_p.rows.map (fun x=>[AC.lst (x.map cV)]))), .c (.int .i64 a_p.pred.op), .c (.int .i64 a_p.pred.int), .c (.int .i64 a_p.pred.v.kind), .c (.int .i64 a_p.pred.v.int), .c (.str a_p.pred.v.text), .c (.str a_p.pred.nm), .c (.lst (a_p.pred.args.map tE)), .c (.lst (a_p.exprs.map tE)), .c (.lst (a_p.keys.map (fun x=>[AC.int .i64 x]))), .c (.lst (a_p.aggs.map Km)), .c (.lst (a_p.inputs.map tP))], .box [.emp, .emp], .spare kinds_1.length 1]) H (fun _=>Zj _)
  (fm_ bL [] rfl bq cO) ?_
 rintro ⟨kinds_1,v_2⟩ st1 hb1 hk1
 unfold Dx at hb1
 dsimp only at hb1 ⊢
 rcases aa hb1 with ⟨q_3,hb1⟩|⟨q_3,hb1⟩
 ·obtain ⟨x_4,i1z,i1,i1x,hb1⟩:=aI (f:=bJ) hb1
  obtain ⟨g2,hb1⟩:=az hb1
  cases hb1
  refine bf ?_
  exact ⟨_,rfl,fm_ oH [_] kI bq cO⟩
 cases hb1
 have hx1:yz a_p a_in (.inl (kinds_1,v_2))=some _:=hk1
 unfold yz at hx1
 dsimp only at hx1
 obtain ⟨r_5,c3,hx1⟩:=bd_ hx1
 replace c3:=J3 c3
 try simp only [Zb,Y9,Zd,Y3,aF,aQ] at c3
 rcases aa hx1 with ⟨q_6,hx1⟩|⟨q_6,hx1⟩
 ·cases hx1
  exact aj
 obtain ⟨r_7,c4,hx1⟩:=bd_ hx1
 replace c4:=JP fuel c4
 try simp only [Zb,Y9,Zd,Y3,aF,aQ] at c4
 cases hx1
 exact aj
end
set_option maxHeartbeats 8000000
noncomputable section
def Ba (a_l:(List Int)):((List Val) × Int)->Option (Step ((List Val) × Int) ((List Val))):=fun s=>match s with
 | (out_1,v_2)=>bif (decide (v_2<((a_l.length:Nat):Int))) then (au a_l v_2).bind fun x_4=>(jN x_4).bind fun r_5=>bif (decide (out_1.length+1<=4398046511104)) then (some (.next ((out_1++[r_5]),(IntKind.i64.wrap (v_2+(1:Int)))))) else none else
 some (.exit (out_1,v_2))
def GX:Sum ((List Val) × Int) ((List Val))->Option (((List Val)))
 | .inl (out_1,v_2)=>some out_1
 | .inr q=>some q
def Iw (a_row:(List Val)) (a_l:(List Int)):Option ((List Val)):=bif (decide (a_row.length<=4398046511104)) then ((ah (Ba a_l) fuel (a_row,(0:Int))).bind (GX)) else none
theorem R3 {a_row:(List Val)} {a_l:(List Int)} {r:(List Val)} (H:Iw a_row a_l=some r):Pure Tryz.prog 50 [.one (.lst (a_row.map cV)), .one (.lst (a_l.map (fun x=>[AC.int .i64 x])))] (.val (.one (.lst (r.map cV)))):=by
 unfold Iw at H
 refine po_ Tryz.func50 Tryz.ntmps50 ?_
 obtain ⟨g1,H⟩:=az H
 refine bf ?_
 refine alM_ (fun s:(List Val) × Int=>match s with|(out_1,v_2)=>[(5, .one (.own (out_1.map cV) 0)),(11, .one (.c (.lst (a_l.map (fun x=>[AC.int .i64 x]))))),(12, .one (.c (.int .i64 ((a_l.length:Nat):Int)))),(13, .one (.c (.int .i64 v_2)))]) (fun s=>match s with|(out_1,v_2)=>[.spare out_1.length 3]) H (fun _=>Zj _)
  (fm_ bL [] rfl bq cO) ?_
 rintro ⟨out_1,v_2⟩ st1 hb1 hk1
 unfold Ba at hb1
 dsimp only at hb1 ⊢
 rcases aa hb1 with ⟨q_3,hb1⟩|⟨q_3,hb1⟩
 ·obtain ⟨x_4,i2z,i2,i2x,hb1⟩:=aI (f:=(fun x=>[AC.int .i64 x])) hb1
  obtain ⟨r_5,c3,hb1⟩:=bd_ hb1
  replace c3:=jw c3
  obtain ⟨g4,hb1⟩:=az hb1
  cases hb1
  refine bf ?_
  exact ⟨_,rfl,fm_ oH [] kI bq cO⟩
 cases hb1
 have hx1:GX (.inl (out_1,v_2))=some _:=hk1
 unfold GX at hx1
 dsimp only at hx1
 cases hx1
 exact aj
def vw (a_l:(List zl)):((List (List Val)) × Int)->Option (Step ((List (List Val)) × Int) (aW)):=fun s=>match s with
 | (c_4,v_5)=>bif (decide (v_5<((a_l.length:Nat):Int))) then (au a_l v_5).bind fun x_7=>(Iw x_7.row [x_7.valid.lo,x_7.valid.hi,x_7.system.lo,x_7.system.hi,x_7.by_]).bind fun r_8=>bif (decide (c_4.length+1<=5864062014805)) then (some (.next ((c_4++[r_8]),(IntKind.i64.wrap (v_5+(1:Int)))))) else none else
 some (.exit (c_4,v_5))
def pX (c_1:(List Int)):Sum ((List (List Val)) × Int) (aW)->Option ((aW))
 | .inl (c_4,v_5)=>(yM c_4).bind fun r_9=>some (⟨c_1,r_9⟩:aW)
 | .inr q=>some q
def uO:((List Int) × Int)->Option (Step ((List Int) × Int) (aW)):=fun s=>match s with
 | (c_1,v_2)=>bif (decide (v_2<(5:Int))) then bif (decide (c_1.length+1<=17592186044416)) then (some (.next ((c_1++[(1:Int)]),(IntKind.i64.wrap (v_2+(1:Int)))))) else none else
 some (.exit (c_1,v_2))
def pW (a_l:(List zl)):Sum ((List Int) × Int) (aW)->Option ((aW))
 | .inl (c_1,v_2)=>(ah (vw a_l) fuel ([],(0:Int))).bind (pX c_1)
 | .inr q=>some q
def wh (a_kinds:(List Int)) (a_l:(List zl)):Option (aW):=bif (decide (a_kinds.length<=17592186044416)) then ((ah (uO) fuel (a_kinds,(0:Int))).bind (pW a_l)) else none
theorem Pg {a_kinds:(List Int)} {a_l:(List zl)} {r:aW} (H:wh a_kinds a_l=some r):Pure Tryz.prog 22 [.one (.lst (a_kinds.map (fun x=>[AC.int .i64 x]))), .one (.lst (a_l.map rY))] (.val (.agg (bJ r))):=by
 unfold wh at H
 refine po_ Tryz.func22 Tryz.ntmps22 ?_
 obtain ⟨g1,H⟩:=az H
 repeat' (first|refine gs5_ ?_|refine b_ rfl rfl rfl rfl rfl rfl rfl ?_)
 refine alM_ (fun s:(List Int) × Int=>match s with|(c_1,v_2)=>[(1, .one (.c (.lst (a_l.map rY)))),(4, .one (.ptr 0 0)),(5, .one (.ptr 2 0)),(12, .one (.c (.int .i64 v_2)))]) (fun s=>match s with|(c_1,v_2)=>[.box [.emp, .emp], .spare c_1.length 1, .box [.own (c_1.map (fun x=>[AC.int .i64 x])) 1, .emp]]) H (fun _=>Zj _)
  (fm_ bL [] rfl bq cO) ?_
 rintro ⟨c_1,v_2⟩ st1 hb1 hk1
 unfold uO at hb1
 dsimp only at hb1 ⊢
 rcases aa hb1 with ⟨q_3,hb1⟩|⟨q_3,hb1⟩
 ·obtain ⟨g2,hb1⟩:=az hb1
  cases hb1
  repeat' (first|refine gs5_ ?_|refine b_ rfl rfl rfl rfl rfl rfl rfl ?_)
  exact ⟨_,rfl,fm_ bL [] kI bq cO⟩
 cases hb1
 have hx1:pW a_l (.inl (c_1,v_2))=some _:=hk1
 unfold pW at hx1
 dsimp only at hx1
 repeat' (first|refine gs5_ ?_|refine b_ rfl rfl rfl rfl rfl rfl rfl ?_)
 refine uZ 2 1 1 rfl rfl ?_
 refine alM_ (fun s:(List (List Val)) × Int=>match s with|(c_4,v_5)=>[(4, .one (.ptr 0 0)),(5, .one (.ptr 2 0)),(20, .one (.c (.lst (a_l.map rY)))),(21, .one (.c (.int .i64 ((a_l.length:Nat):Int)))),(22, .one (.c (.int .i64 v_5)))]) (fun s=>match s with|(c_4,v_5)=>[.box [.emp, .emp], .spare c_1.length 1, .box [.own (c_1.map (fun x=>[AC.int .i64 x])) 1, .own (c_4.map (fun x=>[AC.lst (x.map cV)])) 3], .spare c_4.length 1]) hx1 (fun _=>Zj _)
  (fm_ bL [] rfl bq cO) ?_
 rintro ⟨c_4,v_5⟩ st2 hb2 hk2
 unfold vw at hb2
 dsimp only at hb2 ⊢
 rcases aa hb2 with ⟨q_6,hb2⟩|⟨q_6,hb2⟩
 ·obtain ⟨x_7,i3z,i3,i3x,hb2⟩:=aI (f:=rY) hb2
  obtain ⟨r_8,c4,hb2⟩:=bd_ hb2
  replace c4:=R3 c4
  try simp only [Zb,Y9,Zd,Y3,aF,aQ] at c4
  obtain ⟨g5,hb2⟩:=az hb2
  cases hb2
  repeat' (first|refine gs5_ ?_|refine b_ rfl rfl rfl rfl rfl rfl rfl ?_)
  exact ⟨_,rfl,fm_ bL [_] kI bq cO⟩
 cases hb2
 have hx2:pX c_1 (.inl (c_4,v_5))=some _:=hk2
 unfold pX at hx2
 dsimp only at hx2
 obtain ⟨r_9,c6,hx2⟩:=bd_ hx2
 replace c6:=Gj c6
 cases hx2
 repeat' (first|refine gs5_ ?_|refine b_ rfl rfl rfl rfl rfl rfl rfl ?_)
 refine aV (aX rfl ?_ ?_)
 ·repeat' (first|exact trivial|rfl|exact Y8 rfl|omega|apply And.intro)
 ·first|rfl|(simp only [Zb,Y9,Zd,Y3]<;>rfl)
def nJ (a_in:(List Ip)):((List aW) × Int)->Option (Step ((List aW) × Int) (aW × Int)):=fun s=>match s with
 | (bags_1,v_2)=>bif (decide (v_2<((a_in.length:Nat):Int))) then (au a_in v_2).bind fun x_4=>(wh x_4.kinds x_4.versions).bind fun r_5=>bif (decide (bags_1.length+1<=2932031007402)) then (some (.next ((bags_1++[r_5]),(IntKind.i64.wrap (v_2+(1:Int)))))) else none else
 some (.exit (bags_1,v_2))
def tV (a_p:Pl):Sum ((List aW) × Int) (aW × Int)->Option ((aW × Int))
 | .inl (bags_1,v_2)=>(JW a_p bags_1).bind fun r_6=>some (r_6.1,r_6.2)
 | .inr q=>some q
def FU (a_p:Pl) (a_in:(List Ip)):Option (aW × Int):=(ah (nJ a_in) fuel ([],(0:Int))).bind (tV a_p)
theorem Qs {a_p:Pl} {a_in:(List Ip)} {r:aW × Int} (H:FU a_p a_in=some r):Pure Tryz.prog 35 [.agg (tP a_p), .one (.lst (a_in.map Aq))] (.tup [.agg (bJ r.1), .one (.int .i64 r.2)]):=by
 unfold FU at H
 rw [aQ a_p]
 refine po_ Tryz.func35 Tryz.ntmps35 ?_
 refine bf ?_
 refine dM 6 2 rfl ?_
 refine alM_ (fun s:(List aW) × Int=>match s with|(bags_1,v_2)=>[(2, .one (.ptr 0 0)),(4, .one (.ptr 1 0)),(6, .one (.own (bags_1.map bJ) 2)),(9, .one (.c (.lst (a_in.map Aq)))),(10, .one (.c (.int .i64 ((a_in.length:Nat):Int)))),(11, .one (.c (.int .i64 v_2)))]) (fun s=>match s with|(bags_1,v_2)=>[.box [.c (.int .i64 a_p.op), .c (.int .i64 a_p.int), .c (.lst (a_p.kinds.map (fun x=>[AC.int .i64 x]))), .c (.lst (a_p.rows.map (fun x=>[AC.lst (x.map cV)]))), .c (.int .i64 a_p.pred.op), .c (.int .i64 a_p.pred.int), .c (.int .i64 a_p.pred.v.kind), .c (.int .i64 a_p.pred.v.int), .c (.str a_p.pred.v.text), .c (.str a_p.pred.nm), .c (.lst (a_p.pred.args.map tE)), .c (.lst (a_p.exprs.map tE)), .c (.lst (a_p.keys.map (fun x=>[AC.int .i64 x]))), .c (.lst (a_p.aggs.map Km)), .c (.lst (a_p.inputs.map tP))], .box [.emp, .emp], .spare bags_1.length 2]) H (fun _=>Zj _)
  (fm_ bL [] rfl bq cO) ?_
 rintro ⟨bags_1,v_2⟩ st1 hb1 hk1
 unfold nJ at hb1
 dsimp only at hb1 ⊢
 rcases aa hb1 with ⟨q_3,hb1⟩|⟨q_3,hb1⟩
 ·obtain ⟨x_4,i1z,i1,i1x,hb1⟩:=aI (f:=Aq) hb1
  obtain ⟨r_5,c2,hb1⟩:=bd_ hb1
  replace c2:=Pg c2
  obtain ⟨g3,hb1⟩:=az hb1
  cases hb1
  refine bf ?_
  exact ⟨_,rfl,fm_ oH [_] kI bq cO⟩
 cases hb1
 have hx1:tV a_p (.inl (bags_1,v_2))=some _:=hk1
 unfold tV at hx1
 dsimp only at hx1
 obtain ⟨r_6,c4,hx1⟩:=bd_ hx1
 replace c4:=QG c4
 try simp only [Zb,Y9,Zd,Y3,aF,aQ] at c4
 cases hx1
 exact aj
def rE (a_l:(List zl)):((List tZ) × Int)->Option (Step ((List tZ) × Int) ((List tZ))):=fun s=>match s with
 | (out_1,v_2)=>bif (decide (v_2<((a_l.length:Nat):Int))) then (au a_l v_2).bind fun x_4=>bif (decide (x_4.row.length<=4398046511104)) then (bif (decide (out_1.length+1<=3518437208883)) then (some (.next ((out_1++[(⟨x_4.row,x_4.valid⟩:tZ)]),(IntKind.i64.wrap (v_2+(1:Int)))))) else none) else none else
 some (.exit (out_1,v_2))
def wm:Sum ((List tZ) × Int) ((List tZ))->Option (((List tZ)))
 | .inl (out_1,v_2)=>some out_1
 | .inr q=>some q
def uF (a_l:(List zl)):Option ((List tZ)):=(ah (rE a_l) fuel ([],(0:Int))).bind (wm)
theorem Cv {a_l:(List zl)} {r:(List tZ)} (H:uF a_l=some r):Pure Tryz.prog 16 [.one (.lst (a_l.map rY))] (.val (.one (.lst (r.map xV)))):=by
 unfold uF at H
 refine po_ Tryz.func16 Tryz.ntmps16 ?_
 refine bf ?_
 refine dM 3 3 rfl ?_
 refine alM_ (fun s:(List tZ) × Int=>match s with|(out_1,v_2)=>[(3, .one (.own (out_1.map xV) 0)),(6, .one (.c (.lst (a_l.map rY)))),(7, .one (.c (.int .i64 ((a_l.length:Nat):Int)))),(8, .one (.c (.int .i64 v_2)))]) (fun s=>match s with|(out_1,v_2)=>[.spare out_1.length 3]) H (fun _=>Zj _)
  (fm_ bL [] rfl bq cO) ?_
 rintro ⟨out_1,v_2⟩ st1 hb1 hk1
 unfold rE at hb1
 dsimp only at hb1 ⊢
 rcases aa hb1 with ⟨q_3,hb1⟩|⟨q_3,hb1⟩
 ·obtain ⟨x_4,i1z,i1,i1x,hb1⟩:=aI (f:=rY) hb1
  obtain ⟨g2,hb1⟩:=az hb1
  obtain ⟨g3,hb1⟩:=az hb1
  cases hb1
  refine bf ?_
  exact ⟨_,rfl,fm_ oH [_,_] kI bq cO⟩
 cases hb1
 have hx1:wm (.inl (out_1,v_2))=some _:=hk1
 unfold wm at hx1
 dsimp only at hx1
 cases hx1
 exact aj
def yb (a_rel:Int) (a_p:eG) (a_q:eG):Option (Bool):=(Ph a_p a_q).bind fun r_1=>bif r_1.2 then some (decide (r_1.1=a_rel)) else
 some false
theorem KY {a_rel:Int} {a_p:eG} {a_q:eG} {r:Bool} (H:yb a_rel a_p a_q=some r):Pure Tryz.prog 64 [.one (.int .i64 a_rel), .agg (oC a_p), .agg (oC a_q)] (.val (.one (.bool r))):=by
 unfold yb at H
 refine po_ Tryz.func64 Tryz.ntmps64 ?_
 obtain ⟨r_1,c1,H⟩:=bd_ H
 replace c1:=MQ c1
 rcases aa H with ⟨q_2,H⟩|⟨q_2,H⟩
 ·cases H
  exact aj
 cases H
 exact aj
def ko (a_b:(List tZ)) (a_rel:Int) (v_2:Int) (x_4:tZ):((List Az) × Int)->Option (Step ((List Az) × Int) ((List Az))):=fun s=>match s with
 | (out_5,v_6)=>bif (decide (v_6<((a_b.length:Nat):Int))) then (au a_b v_6).bind fun x_8=>(yb a_rel x_4.valid x_8.valid).bind fun r_9=>bif r_9 then bif (decide (out_5.length+1<=8796093022208)) then (some (.next ((out_5++[(⟨v_2,v_6⟩:Az)]),(IntKind.i64.wrap (v_6+(1:Int)))))) else none else
 some (.next (out_5,(IntKind.i64.wrap (v_6+(1:Int))))) else
 some (.exit (out_5,v_6))
def uC (v_2:Int):Sum ((List Az) × Int) ((List Az))->Option (Step ((List Az) × Int) ((List Az)))
 | .inl (out_5,v_6)=>some (.next (out_5,(IntKind.i64.wrap (v_2+(1:Int)))))
 | .inr q=>some (.ret q)
def kg (a_a:(List tZ)) (a_b:(List tZ)) (a_rel:Int):((List Az) × Int)->Option (Step ((List Az) × Int) ((List Az))):=fun s=>match s with
 | (out_1,v_2)=>bif (decide (v_2<((a_a.length:Nat):Int))) then (au a_a v_2).bind fun x_4=>(ah (ko a_b a_rel v_2 x_4) fuel (out_1,(0:Int))).bind (uC v_2) else
 some (.exit (out_1,v_2))
def zf:Sum ((List Az) × Int) ((List Az))->Option (((List Az)))
 | .inl (out_1,v_2)=>some out_1
 | .inr q=>some q
def DW (a_a:(List tZ)) (a_b:(List tZ)) (a_rel:Int):Option ((List Az)):=(ah (kg a_a a_b a_rel) fuel ([],(0:Int))).bind (zf)
theorem Om {a_a:(List tZ)} {a_b:(List tZ)} {a_rel:Int} {r:(List Az)} (H:DW a_a a_b a_rel=some r):Pure Tryz.prog 38 [.one (.lst (a_a.map xV)), .one (.lst (a_b.map xV)), .one (.int .i64 a_rel)] (.val (.one (.lst (r.map OC)))):=by
 unfold DW at H
 refine po_ Tryz.func38 Tryz.ntmps38 ?_
 refine bf ?_
 refine dM 7 2 rfl ?_
 refine alM_ (fun s:(List Az) × Int=>match s with|(out_1,v_2)=>[(1, .one (.c (.lst (a_b.map xV)))),(2, .one (.c (.int .i64 a_rel))),(7, .one (.own (out_1.map OC) 0)),(12, .one (.c (.lst (a_a.map xV)))),(13, .one (.c (.int .i64 ((a_a.length:Nat):Int)))),(14, .one (.c (.int .i64 v_2)))]) (fun s=>match s with|(out_1,v_2)=>[.spare out_1.length 2]) H (fun _=>Zj _)
  (fm_ bL [] rfl bq cO) ?_
 rintro ⟨out_1,v_2⟩ st3 hb3 hk3
 unfold kg at hb3
 dsimp only at hb3 ⊢
 rcases aa hb3 with ⟨q_3,hb3⟩|⟨q_3,hb3⟩
 ·obtain ⟨x_4,i1z,i1,i1x,hb3⟩:=aI (f:=xV) hb3
  refine bf ?_
  refine alM_ (fun s:(List Az) × Int=>match s with|(out_5,v_6)=>[(1, .one (.c (.lst (a_b.map xV)))),(2, .one (.c (.int .i64 a_rel))),(7, .one (.own (out_5.map OC) 0)),(8, .one (.c (.int .i64 v_2))),(9, .one (.ptr 1 0)),(12, .one (.c (.lst (a_a.map xV)))),(13, .one (.c (.int .i64 ((a_a.length:Nat):Int)))),(14, .one (.c (.int .i64 v_2))),(19, .one (.c (.lst (a_b.map xV)))),(20, .one (.c (.int .i64 ((a_b.length:Nat):Int)))),(21, .one (.c (.int .i64 v_6)))]) (fun s=>match s with|(out_5,v_6)=>[.spare out_5.length 2, .box [.c (.lst (x_4.row.map cV)), .c (.int .i64 x_4.valid.lo), .c (.int .i64 x_4.valid.hi)]]) hb3 (fun _=>Zj _)
   (fm_ bL [] rfl bq cO) ?_
  rintro ⟨out_5,v_6⟩ st4 hb4 hk4
  unfold ko at hb4
  dsimp only at hb4 ⊢
  rcases aa hb4 with ⟨q_7,hb4⟩|⟨q_7,hb4⟩
  ·obtain ⟨x_8,i2z,i2,i2x,hb4⟩:=aI (f:=xV) hb4
   obtain ⟨r_9,c3,hb4⟩:=bd_ hb4
   replace c3:=KY c3
   rcases aa hb4 with ⟨q_10,hb4⟩|⟨q_10,hb4⟩
   ·obtain ⟨g4,hb4⟩:=az hb4
    cases hb4
    refine bf ?_
    exact ⟨_,rfl,fm_ oH [_] kI bq cO⟩
   cases hb4
   refine bf ?_
   exact ⟨_,rfl,fm_ oH [_] kI bq cO⟩
  cases hb4
  have hx4:uC v_2 (.inl (out_5,v_6))=some _:=hk4
  unfold uC at hx4
  dsimp only at hx4
  cases hx4
  refine bf ?_
  exact ⟨_,rfl,fm_ oH [_] kI bq cO⟩
 cases hb3
 have hx3:zf (.inl (out_1,v_2))=some _:=hk3
 unfold zf at hx3
 dsimp only at hx3
 cases hx3
 exact aj
end
set_option maxHeartbeats 8000000
def oz (a_p:eG):Option (Bool):=bif (decide ((0:Int)<=a_p.lo)) then bif (decide (a_p.lo<a_p.hi)) then some (decide (a_p.hi<=(1099511627776:Int))) else
 some false else
 some false
theorem wC {a_p:eG} {r:Bool} (H:oz a_p=some r):Pure Tryz.prog 53 [.agg (oC a_p)] (.val (.one (.bool r))):=by
 unfold oz at H
 refine po_ Tryz.func53 Tryz.ntmps53 ?_
 rcases aa H with ⟨q_1,H⟩|⟨q_1,H⟩
 ·rcases aa H with ⟨q_2,H⟩|⟨q_2,H⟩
  ·cases H
   exact aj
  cases H
  exact aj
 cases H
 exact aj
end Go.Proofs.YtnbnpnmkgemdeaaGreatDoor
