/- Parts of the proof, joined. No condition. -/
import Derived.Test.YtlcceppoloaecaaGreatDoorKAA
import Derived.Test.YtlcceppoloaecaaGreatDoorKBK
import Derived.Test.YtlcceppoloaecaaGreatDoorKBH
import Derived.Test.YtlcceppoloaecaaGreatDoorKAK
import Derived.Test.YtlcceppoloaecaaGreatDoorKBQ
import Derived.Test.YtlcceppoloaecaaGreatDoorKBR
import Derived.Test.YtlcceppoloaecaaGreatDoorKBG
set_option linter.unusedSimpArgs false
set_option linter.unusedVariables false
namespace Go.Proofs.YtlcceppoloaecaaGreatDoor
open Go.RowKit Go.MapKept
theorem vo {α:Type} (q:α->α->Bool) (b:List α) : ∀ (a:List α) (i:Nat),(cO q b a i).length=(a.map fun x=>b.countP (q x)).sum
 | [],_=>rfl
 | x::a,i=>by
  rw [cO,Vk,vo q b a (i+1),lS,Vo,wG,Vn,List.sum_cons]
theorem J5 {α:Type} (q:α->α->Bool) (b:List α) : ∀ (a:List α) (i:Nat),(cO q b a i).length<=a.length*b.length
 | [],_=>by simp [cO]
 | x::a,i=>by
  have h1:=J5 q b a (i+1)
  have h2:=qP (q x) b 0
  rw [cO,Vk,lS,Vo,Vy,Nat.succ_mul]
  omega
theorem DC (p q:bD) : ∃ n:Nat,n<13/\bF p q=(n:Int):=by
 unfold bF
 repeat' split
 all_goals first
  | exact ⟨0,by omega,rfl⟩|exact ⟨1,by omega,rfl⟩|exact ⟨2,by omega,rfl⟩|exact ⟨3,by omega,rfl⟩|exact ⟨4,by omega,rfl⟩|exact ⟨5,by omega,rfl⟩|exact ⟨6,by omega,rfl⟩
  | exact ⟨7,by omega,rfl⟩|exact ⟨8,by omega,rfl⟩|exact ⟨9,by omega,rfl⟩|exact ⟨10,by omega,rfl⟩|exact ⟨11,by omega,rfl⟩|exact ⟨12,by omega,rfl⟩
def dS (r:Int):Bool:=decide (r=0)||(decide (r=1)||(decide (r=11)||decide (r=12)))
theorem KD {p q:bD} (hp:ay p=true) (hq:ay q=true):yK p q = !dS (bF p q):=by
 unfold yK
 rw [hp,hq,Bool.true_and,Bool.true_and]
 simp only [ay,Vu,decide_eq_true_eq] at hp hq
 have key:(p.lo<q.hi/\q.lo<p.hi) ↔ ¬ (bF p q=0\/bF p q=1\/bF p q=11\/bF p q=12):=by
  unfold bF
  repeat' split
  all_goals omega
 unfold dS
 rw [<- Bool.decide_and, <- Bool.decide_or, <- Bool.decide_or, <- Bool.decide_or, <- decide_not]
 exact decide_eq_decide.2 key
def bC (f:Nat->Nat):Nat->Nat
 | 0=>0
 | n+1=>bC f n+f n
theorem q9 (f g:Nat->Nat) : ∀ n,bC (fun r=>f r+g r) n=bC f n+bC g n
 | 0=>rfl
 | n+1=>by simp only [bC];rw [q9 f g n];omega
theorem oV : ∀ n,bC (fun _=>0) n=0
 | 0=>rfl
 | n+1=>by simp only [bC];rw [oV n]
theorem fw {f g:Nat->Nat} : ∀ n,(∀ r,r<n->f r=g r)->bC f n=bC g n
 | 0,_=>rfl
 | n+1,h=>by simp only [bC];rw [fw n fun r hr=>h r (by omega),h n (by omega)]
theorem Et (k:Nat) (w:Nat->Nat) : ∀ n,bC (fun r=>if k=r then w r else 0) n=if k<n then w k else 0
 | 0=>by simp [bC]
 | n+1=>by
  simp only [bC]
  rw [Et k w n]
  by_cases h1:k<n
  ·rw [if_pos h1,if_neg (by omega),if_pos (by omega)];rfl
  ·by_cases h2:k=n
   ·subst h2;rw [if_neg h1,if_pos rfl,if_pos (by omega)];omega
   ·rw [if_neg h1,if_neg h2,if_neg (by omega)]
theorem vK (w:Nat->Nat) (p:bD) : ∀ b:List aV,bC (fun r=>w r*b.countP fun y=>holdB (r:Int) p y.valid) 13=(b.map fun y=>bif ay p&&ay y.valid then w (bF p y.valid).toNat else 0).sum
 | []=>by simp [oV]
 | y::b=>by
  rw [Vn,List.sum_cons, <- vK w p b]
  have e:(fun r:Nat=>w r*(y::b).countP fun y=>holdB (r:Int) p y.valid)=fun r=>(w r*b.countP fun y=>holdB (r:Int) p y.valid)+(if holdB (r:Int) p y.valid=true then w r else 0):=by
   funext r
   rw [List.countP_cons]
   by_cases h:holdB (r:Int) p y.valid=true
   ·rw [if_pos h,if_pos h,Nat.mul_add,Nat.mul_one]
   ·rw [if_neg h,if_neg h,Nat.add_zero,Nat.add_zero]
  rw [e,q9,Nat.add_comm]
  congr 1
  cases hv:ay p&&ay y.valid with
  | false =>
   rw [Vd, <- oV 13]
   exact fw 13 fun r _=>by unfold holdB;rw [hv];rfl
  | true =>
   obtain ⟨k,hk,e2⟩:=DC p y.valid
   rw [Ve,e2,Int.toNat_natCast]
   have:=Et k w 13
   rw [if_pos hk] at this
   rw [<- this]
   refine fw 13 fun r _=>?_
   unfold holdB
   rw [hv,Bool.true_and,e2]
   by_cases h:k=r
   ·subst h;rw [if_pos rfl];simp
   ·rw [if_neg h,if_neg (by simp;omega)]
theorem xV {α:Type} (f:Nat->α->Nat) (n:Nat) : ∀ a:List α,bC (fun r=>(a.map (f r)).sum) n=(a.map fun x=>bC (fun r=>f r x) n).sum
 | []=>by simp [oV]
 | x::a=>by
  simp only [Vn,List.sum_cons]
  rw [q9,xV f n a]
theorem BX (c:Nat) {α:Type} (f:α->Nat) : ∀ a:List α,(a.map fun x=>c*f x).sum=c*(a.map f).sum
 | []=>by simp
 | x::a=>by simp only [Vn,List.sum_cons];rw [BX c f a,Nat.mul_add]
theorem sum_nil {α:Type} : ∀ b:List α,(b.map fun _=>0).sum=0
 | []=>rfl
 | y::b=>by rw [Vn,List.sum_cons,sum_nil b]
theorem vD {α:Type} (q:α->Bool) : ∀ b:List α,(b.map fun y=>bif q y then 1 else 0).sum=b.countP q
 | []=>rfl
 | y::b=>by
  rw [Vn,List.sum_cons,vD q b,List.countP_cons]
  cases q y<;>simp<;>omega
theorem AJ (a b:List aV):bC (fun r=>(cO (fun x y:aV=>holdB (r:Int) x.valid y.valid) b a 0).length) 13=(a.countP fun x=>ay x.valid)*b.countP fun y=>ay y.valid:=by
 have e : ∀ r:Nat,(cO (fun x y:aV=>holdB (r:Int) x.valid y.valid) b a 0).length=(a.map fun x=>b.countP fun y=>holdB (r:Int) x.valid y.valid).sum:=fun r=>vo _ b a 0
 rw [fw 13 fun r _=>e r,xV (fun (r:Nat) (x:aV)=>b.countP fun y=>holdB (r:Int) x.valid y.valid) 13 a]
 have e2 : ∀ x:aV,bC (fun r=>b.countP fun y=>holdB (r:Int) x.valid y.valid) 13=(b.countP fun y=>ay y.valid)*(bif ay x.valid then 1 else 0):=fun x=>by
  have:=vK (fun _=>1) x.valid b
  rw [fw 13 (g:=fun r=>1*b.countP fun y=>holdB (r:Int) x.valid y.valid) fun r _=>(Nat.one_mul _).symm,this]
  cases ay x.valid with
  | false=>simp only [Bool.false_and,Vd,Nat.mul_zero];exact sum_nil b
  | true=>simp only [Bool.true_and,Ve,Nat.mul_one];exact vD (fun y:aV=>ay y.valid) b
 rw [List.map_congr_left fun x _=>e2 x,BX,vD,Nat.mul_comm]
theorem KP (a b:List aV):(cO (fun x y:aV=>yK x.valid y.valid) b a 0).length+bC (fun r=>(bif dS (r:Int) then 1 else 0)*(cO (fun x y:aV=>holdB (r:Int) x.valid y.valid) b a 0).length) 13=(a.countP fun x=>ay x.valid)*b.countP fun y=>ay y.valid:=by
 rw [<- AJ]
 have hov:(cO (fun x y:aV=>yK x.valid y.valid) b a 0).length=bC (fun r=>(bif dS (r:Int) then 0 else 1)*(cO (fun x y:aV=>holdB (r:Int) x.valid y.valid) b a 0).length) 13:=by
  have e : ∀ r:Nat,(bif dS (r:Int) then 0 else 1)*(cO (fun x y:aV=>holdB (r:Int) x.valid y.valid) b a 0).length=(a.map fun x=>(bif dS (r:Int) then 0 else 1)*b.countP fun y=>holdB (r:Int) x.valid y.valid).sum:=fun r=>by
   rw [vo,BX]
  rw [fw 13 fun r _=>e r,xV (fun (r:Nat) (x:aV)=>(bif dS (r:Int) then 0 else 1)*b.countP fun y=>holdB (r:Int) x.valid y.valid) 13 a,vo]
  congr 1
  refine List.map_congr_left fun x _=>?_
  rw [vK (fun r=>bif dS (r:Int) then 0 else 1) x.valid b, <- vD (fun y:aV=>yK x.valid y.valid) b]
  congr 1
  refine List.map_congr_left fun y _=>?_
  cases hx:ay x.valid with
  | false=>unfold yK;rw [hx];rfl
  | true =>
   cases hy:ay y.valid with
   | false=>unfold yK;rw [hx,hy];rfl
   | true =>
    obtain ⟨k,hk,e2⟩:=DC x.valid y.valid
    rw [KD hx hy,e2,Int.toNat_natCast]
    cases dS (k:Int)<;>rfl
 rw [hov, <- q9]
 refine fw 13 fun r _=>?_
 rw [<- Nat.add_mul]
 cases dS (r:Int)<;>simp
set_option maxRecDepth 100000
set_option maxHeartbeats 8000000
noncomputable section
def aY (a_a:(List aV)) (a_b:(List aV)):(Int × Int × Int)->Option (Step (Int × Int × Int) (Bool)):=fun s=>match s with
 | (all_17,apart_18,rel_19)=>bif (decide (rel_19<(13:Int))) then (r_ a_a a_b rel_19).bind fun r_21=>bif (decide (rel_19=(0:Int))) then some (.next ((IntKind.i64.wrap (all_17+((r_21.length:Nat):Int))),(IntKind.i64.wrap (apart_18+((r_21.length:Nat):Int))),(IntKind.i64.wrap (rel_19+(1:Int))))) else
 bif (decide (rel_19=(1:Int))) then some (.next ((IntKind.i64.wrap (all_17+((r_21.length:Nat):Int))),(IntKind.i64.wrap (apart_18+((r_21.length:Nat):Int))),(IntKind.i64.wrap (rel_19+(1:Int))))) else
 bif (decide (rel_19=(11:Int))) then some (.next ((IntKind.i64.wrap (all_17+((r_21.length:Nat):Int))),(IntKind.i64.wrap (apart_18+((r_21.length:Nat):Int))),(IntKind.i64.wrap (rel_19+(1:Int))))) else
 bif (decide (rel_19=(12:Int))) then some (.next ((IntKind.i64.wrap (all_17+((r_21.length:Nat):Int))),(IntKind.i64.wrap (apart_18+((r_21.length:Nat):Int))),(IntKind.i64.wrap (rel_19+(1:Int))))) else
 some (.next ((IntKind.i64.wrap (all_17+((r_21.length:Nat):Int))),apart_18,(IntKind.i64.wrap (rel_19+(1:Int))))) else
 some (.exit (all_17,apart_18,rel_19))
def eD (a_a:(List aV)) (a_b:(List aV)) (x_5:Int) (y_11:Int):Sum (Int × Int × Int) (Bool)->Option ((Bool))
 | .inl (all_17,apart_18,rel_19)=>bif (decide (all_17=(IntKind.i64.wrap (x_5*y_11)))) then (om a_a a_b).bind fun r_27=>bif (decide (((r_27.length:Nat):Int)=(IntKind.i64.wrap (all_17-apart_18)))) then some (true) else
 some false else
 some false
 | .inr q=>some q
def bJ (a_b:(List aV)):(Int × Int)->Option (Step (Int × Int) (Bool)):=fun s=>match s with
 | (y_11,i_12)=>bif (decide (i_12<((a_b.length:Nat):Int))) then (aT a_b i_12).bind fun x_14=>(dM x_14.valid).bind fun r_15=>bif r_15 then some (.next ((IntKind.i64.wrap (y_11+(1:Int))),(IntKind.i64.wrap (i_12+(1:Int))))) else
 some (.next (y_11,(IntKind.i64.wrap (i_12+(1:Int))))) else
 some (.exit (y_11,i_12))
def eF (a_a:(List aV)) (a_b:(List aV)) (x_5:Int):Sum (Int × Int) (Bool)->Option ((Bool))
 | .inl (y_11,i_12)=>(az (aY a_a a_b) fuel ((0:Int),(0:Int),(0:Int))).bind (eD a_a a_b x_5 y_11)
 | .inr q=>some q
def bI (a_a:(List aV)):(Int × Int)->Option (Step (Int × Int) (Bool)):=fun s=>match s with
 | (x_5,i_6)=>bif (decide (i_6<((a_a.length:Nat):Int))) then (aT a_a i_6).bind fun x_8=>(dM x_8.valid).bind fun r_9=>bif r_9 then some (.next ((IntKind.i64.wrap (x_5+(1:Int))),(IntKind.i64.wrap (i_6+(1:Int))))) else
 some (.next (x_5,(IntKind.i64.wrap (i_6+(1:Int))))) else
 some (.exit (x_5,i_6))
def d_ (a_a:(List aV)) (a_b:(List aV)):Sum (Int × Int) (Bool)->Option ((Bool))
 | .inl (x_5,i_6)=>(az (bJ a_b) fuel ((0:Int),(0:Int))).bind (eF a_a a_b x_5)
 | .inr q=>some q
def gW (a_a:(List aV)) (a_b:(List aV)):Option (Bool):=bif (decide ((24:Int)<((a_a.length:Nat):Int))) then some (true) else
 bif (decide ((24:Int)<((a_b.length:Nat):Int))) then some (true) else
 (az (bI a_a) fuel ((0:Int),(0:Int))).bind (d_ a_a a_b)
theorem sQ {a_a:(List aV)} {a_b:(List aV)} {r:Bool} (H:gW a_a a_b=some r):Pure Tryz.prog 8 [.one (.lst (a_a.map a_)), .one (.lst (a_b.map a_))] (.val (.one (.bool r))):=by
 unfold gW at H
 refine po_ Tryz.func8 Tryz.ntmps8 ?_
 rcases aa H with ⟨q_1,H⟩|⟨q_1,H⟩
 ·have hc_2:=Aw.gy
  try simp only [Vp,Vn,Vr,Vh,fD] at hc_2
  cases H
  exact ah
 rcases aa H with ⟨q_3,H⟩|⟨q_3,H⟩
 ·have hc_4:=Aw.gy
  try simp only [Vp,Vn,Vr,Vh,fD] at hc_4
  cases H
  exact ah
 refine bv ?_
 refine alM_ (fun s:Int × Int=>match s with|(x_5,i_6)=>[(0, .one (.c (.lst (a_a.map a_)))),(1, .one (.c (.lst (a_b.map a_)))),(5, .one (.c (.int .i64 x_5))),(6, .one (.c (.int .i64 (0:Int)))),(7, .one (.c (.int .i64 i_6)))]) (fun s=>match s with|(x_5,i_6)=>[]) H (fun _=>Vx _)
  (fm_ fE [] rfl dC trivial) ?_
 rintro ⟨x_5,i_6⟩ st1 hb1 hk1
 unfold bI at hb1
 dsimp only at hb1 ⊢
 rcases aa hb1 with ⟨q_7,hb1⟩|⟨q_7,hb1⟩
 ·obtain ⟨x_8,i1z,i1,i1x,hb1⟩:=aX (f:=a_) hb1
  obtain ⟨r_9,c2,hb1⟩:=bd_ hb1
  replace c2:=gH c2
  rcases aa hb1 with ⟨q_10,hb1⟩|⟨q_10,hb1⟩
  ·cases hb1
   refine bv ?_
   exact ⟨_,rfl,fm_ fE [] rfl dC trivial⟩
  cases hb1
  refine bv ?_
  exact ⟨_,rfl,fm_ fE [] rfl dC trivial⟩
 cases hb1
 have hx1:d_ a_a a_b (.inl (x_5,i_6))=some _:=hk1
 unfold d_ at hx1
 dsimp only at hx1
 refine bv ?_
 refine alM_ (fun s:Int × Int=>match s with|(y_11,i_12)=>[(0, .one (.c (.lst (a_a.map a_)))),(1, .one (.c (.lst (a_b.map a_)))),(5, .one (.c (.int .i64 x_5))),(6, .one (.c (.int .i64 y_11))),(8, .one (.c (.int .i64 i_12)))]) (fun s=>match s with|(y_11,i_12)=>[]) hx1 (fun _=>Vx _)
  (fm_ fE [] rfl dC trivial) ?_
 rintro ⟨y_11,i_12⟩ st2 hb2 hk2
 unfold bJ at hb2
 dsimp only at hb2 ⊢
 rcases aa hb2 with ⟨q_13,hb2⟩|⟨q_13,hb2⟩
 ·obtain ⟨x_14,i3z,i3,i3x,hb2⟩:=aX (f:=a_) hb2
  obtain ⟨r_15,c4,hb2⟩:=bd_ hb2
  replace c4:=gH c4
  rcases aa hb2 with ⟨q_16,hb2⟩|⟨q_16,hb2⟩
  ·cases hb2
   refine bv ?_
   exact ⟨_,rfl,fm_ fE [] rfl dC trivial⟩
  cases hb2
  refine bv ?_
  exact ⟨_,rfl,fm_ fE [] rfl dC trivial⟩
 cases hb2
 have hx2:eF a_a a_b x_5 (.inl (y_11,i_12))=some _:=hk2
 unfold eF at hx2
 dsimp only at hx2
 refine bv ?_
 refine alM_ (fun s:Int × Int × Int=>match s with|(all_17,apart_18,rel_19)=>[(0, .one (.c (.lst (a_a.map a_)))),(1, .one (.c (.lst (a_b.map a_)))),(5, .one (.c (.int .i64 x_5))),(6, .one (.c (.int .i64 y_11))),(9, .one (.c (.int .i64 all_17))),(10, .one (.c (.int .i64 apart_18))),(11, .one (.c (.int .i64 rel_19)))]) (fun s=>match s with|(all_17,apart_18,rel_19)=>[]) hx2 (fun _=>Vx _)
  (fm_ fE [] rfl dC trivial) ?_
 rintro ⟨all_17,apart_18,rel_19⟩ st3 hb3 hk3
 unfold aY at hb3
 dsimp only at hb3 ⊢
 rcases aa hb3 with ⟨q_20,hb3⟩|⟨q_20,hb3⟩
 ·obtain ⟨r_21,c5,hb3⟩:=bd_ hb3
  replace c5:=zq c5
  rcases aa hb3 with ⟨q_22,hb3⟩|⟨q_22,hb3⟩
  ·cases hb3
   refine bv ?_
   exact ⟨_,rfl,fm_ fE [] rfl dC trivial⟩
  rcases aa hb3 with ⟨q_23,hb3⟩|⟨q_23,hb3⟩
  ·cases hb3
   refine bv ?_
   exact ⟨_,rfl,fm_ fE [] rfl dC trivial⟩
  rcases aa hb3 with ⟨q_24,hb3⟩|⟨q_24,hb3⟩
  ·cases hb3
   refine bv ?_
   exact ⟨_,rfl,fm_ fE [] rfl dC trivial⟩
  rcases aa hb3 with ⟨q_25,hb3⟩|⟨q_25,hb3⟩
  ·cases hb3
   refine bv ?_
   exact ⟨_,rfl,fm_ fE [] rfl dC trivial⟩
  cases hb3
  refine bv ?_
  exact ⟨_,rfl,fm_ fE [] rfl dC trivial⟩
 cases hb3
 have hx3:eD a_a a_b x_5 y_11 (.inl (all_17,apart_18,rel_19))=some _:=hk3
 unfold eD at hx3
 dsimp only at hx3
 rcases aa hx3 with ⟨q_26,hx3⟩|⟨q_26,hx3⟩
 ·obtain ⟨r_27,c6,hx3⟩:=bd_ hx3
  replace c6:=yg c6
  rcases aa hx3 with ⟨q_28,hx3⟩|⟨q_28,hx3⟩
  ·have hc_29:=Aw.gy
   try simp only [Vp,Vn,Vr,Vh,fD] at hc_29
   cases hx3
   exact ah
  cases hx3
  exact ah
 cases hx3
 exact ah
end
theorem q8 {a:List aV} {body:(Int × Int)->Option (Step (Int × Int) Bool)}
  (h1 : ∀ (i:Nat) x (c:Nat),a[i]?=some x->c<=1000->body ((c:Int),(i:Int))=bif ay x.valid then some (.next (((c+1:Nat):Int),((i+1:Nat):Int))) else some (.next ((c:Int),((i+1:Nat):Int))))
  (h2 : ∀ c:Nat,body ((c:Int),((a.length:Nat):Int))=some (.exit ((c:Int),((a.length:Nat):Int)))) :
  ∀ (n i c:Nat),i<=a.length->a.length-i<n->c+(a.length-i)<=1000->az body n ((c:Int),(i:Int))=some (.inl (((c+(a.drop i).countP fun x=>ay x.valid:Nat):Int),((a.length:Nat):Int)))
 | 0,i,c,_,h,_=>by omega
 | n+1,i,c,hi,hn,ho=>by
  rw [az]
  by_cases hlt:i<a.length
  ·obtain ⟨x,hx⟩:=gol_ hlt
   have hd:a.drop i=x::a.drop (i+1):=by rw [VH hlt,(Vb.1 hx).2]
   rw [h1 i x c hx (by omega),hd,List.countP_cons]
   cases hv:ay x.valid with
   | false =>
    have:=q8 h1 h2 n (i+1) c (by omega) (by omega) (by omega)
    simp only [Vd]
    rw [this]
    simp
   | true =>
    have:=q8 h1 h2 n (i+1) (c+1) (by omega) (by omega) (by omega)
    simp only [Ve]
    rw [this]
    simp only [if_true,Option.some.injEq,Sum.inl.injEq,Prod.mk.injEq,and_true]
    omega
  ·have:i=a.length:=by omega
   subst this
   rw [h2]
   show some (Sum.inl _)=_
   rw [List.drop_length,List.countP_nil,Nat.add_zero]
theorem BU {f:Nat->Nat} {k:Nat} (h : ∀ r,f r<=k) : ∀ n,bC f n<=n*k
 | 0=>by simp [bC]
 | n+1=>by
  have:=BU h n
  have:=h n
  rw [bC,Nat.add_mul];omega
def jc (a b:List aV) (r:Nat):Nat:=(cO (fun x y:aV=>holdB (r:Int) x.valid y.valid) b a 0).length
def uN (a b:List aV) (r:Nat):Nat:=(bif dS (r:Int) then 1 else 0)*jc a b r
theorem CX {a b:List aV} (ha:a.length<=24) (hb:b.length<=24) : ∀ (n r:Nat),r<=13->13-r<n->az (aY a b) n (((bC (jc a b) r:Nat):Int),((bC (uN a b) r:Nat):Int),(r:Int))=some (.inl (((bC (jc a b) 13:Nat):Int),((bC (uN a b) 13:Nat):Int),13))
 | 0,r,_,h=>by omega
 | n+1,r,hr,hn=>by
  have hm : ∀ r,jc a b r<=576:=fun r=>by
   have h1:=J5 (fun x y:aV=>holdB (r:Int) x.valid y.valid) b a 0
   have h3:a.length*b.length<=24*24:=Nat.mul_le_mul ha hb
   unfold jc;omega
  have hp : ∀ r,uN a b r<=576:=fun r=>by
   have:=hm r
   unfold uN
   cases dS (r:Int)<;>simp<;>omega
  have s1:=BU hm r
  have s2:=BU hp r
  have s3:=hm r
  rw [az]
  by_cases hlt:r<13
  ·have ih:=CX ha hb n (r+1) (by omega) (by omega)
   have hs:aY a b (((bC (jc a b) r:Nat):Int),((bC (uN a b) r:Nat):Int),(r:Int))=some (.next (((bC (jc a b) (r+1):Nat):Int),((bC (uN a b) (r+1):Nat):Int),((r+1:Nat):Int))):=by
    unfold aY
    dsimp only
    rw [Vg (show (r:Int)<13 by omega),Ve,z_ (r:Int) a b (by omega) (by omega),Va,show cO (xk (r:Int)) b a 0=cO (fun x y:aV=>holdB (r:Int) x.valid y.valid) b a 0 from rfl,
     show (cO (fun x y:aV=>holdB (r:Int) x.valid y.valid) b a 0).length=jc a b r from rfl,wrapN (by omega),
     show IntKind.i64.wrap (((bC (jc a b) r:Nat):Int)+((jc a b r:Nat):Int))=((bC (jc a b) (r+1):Nat):Int) from dm (by rw [bC];omega) (by rw [bC];omega)]
    have hw:IntKind.i64.wrap (((bC (uN a b) r:Nat):Int)+((jc a b r:Nat):Int))=((bC (uN a b) r+jc a b r:Nat):Int):=dm (by omega) (by omega)
    rw [hw]
    have hz:bC (uN a b) (r+1)=bC (uN a b) r+uN a b r:=rfl
    rw [hz]
    cases h0:decide ((r:Int)=0) with
    | true=>rw [Ve,show uN a b r=jc a b r by unfold uN dS;rw [h0];simp]
    | false =>
     rw [Vd]
     cases h1:decide ((r:Int)=1) with
     | true=>rw [Ve,show uN a b r=jc a b r by unfold uN dS;rw [h0,h1];simp]
     | false =>
      rw [Vd]
      cases h2:decide ((r:Int)=11) with
      | true=>rw [Ve,show uN a b r=jc a b r by unfold uN dS;rw [h0,h1,h2];simp]
      | false =>
       rw [Vd]
       cases h3:decide ((r:Int)=12) with
       | true=>rw [Ve,show uN a b r=jc a b r by unfold uN dS;rw [h0,h1,h2,h3];simp]
       | false=>rw [Vd,show uN a b r=0 by unfold uN dS;rw [h0,h1,h2,h3];simp];rfl
   rw [hs]
   exact ih
  ·have:r=13:=by omega
   subst this
   have hs:aY a b (((bC (jc a b) 13:Nat):Int),((bC (uN a b) 13:Nat):Int),((13:Nat):Int))=some (.exit (((bC (jc a b) 13:Nat):Int),((bC (uN a b) 13:Nat):Int),13)):=by
    unfold aY
    dsimp only
    rfl
   rw [hs]
theorem qh (a b:List aV):gW a b=some true:=by
 unfold gW
 by_cases h1:(24:Int)<((a.length:Nat):Int)
 ·rw [Vg h1];rfl
 rw [Vf h1,Vd]
 by_cases h2:(24:Int)<((b.length:Nat):Int)
 ·rw [Vg h2];rfl
 rw [Vf h2,Vd]
 have ha:a.length<=24:=by omega
 have hb:b.length<=24:=by omega
 have e1:az (bI a) fuel ((0:Int),(0:Int))=some (.inl (((a.countP fun x=>ay x.valid:Nat):Int),((a.length:Nat):Int))):=by
  have:=q8 (a:=a) (body:=bI a) ?_ ?_ fuel 0 0 (Vx _) (by unfold fuel;omega) (by omega)
  ·rw [VQ,List.drop_zero] at this;exact this
  ·intro i x c hx hc
   have hi:=(Vb.1 hx).1
   unfold bI
   dsimp only
   rw [bM hx,Ve,gn_ hx,Va,show dM x.valid=MC x.valid from rfl,nP,Va,wrapN (by omega),wrapN (by omega)]
  ·intro c
   unfold bI
   dsimp only
   rw [lF_,Vd]
 have e2:az (bJ b) fuel ((0:Int),(0:Int))=some (.inl (((b.countP fun x=>ay x.valid:Nat):Int),((b.length:Nat):Int))):=by
  have:=q8 (a:=b) (body:=bJ b) ?_ ?_ fuel 0 0 (Vx _) (by unfold fuel;omega) (by omega)
  ·rw [VQ,List.drop_zero] at this;exact this
  ·intro i x c hx hc
   have hi:=(Vb.1 hx).1
   unfold bJ
   dsimp only
   rw [bM hx,Ve,gn_ hx,Va,show dM x.valid=MC x.valid from rfl,nP,Va,wrapN (by omega),wrapN (by omega)]
  ·intro c
   unfold bJ
   dsimp only
   rw [lF_,Vd]
 have e3:az (aY a b) fuel ((0:Int),(0:Int),(0:Int))=some (.inl (((bC (jc a b) 13:Nat):Int),((bC (uN a b) 13:Nat):Int),13)):=CX ha hb fuel 0 (by omega) (by unfold fuel;omega)
 have k1:bC (jc a b) 13=(a.countP fun x=>ay x.valid)*b.countP fun y=>ay y.valid:=AJ a b
 have k2:(cO Ai b a 0).length+bC (uN a b) 13=(a.countP fun x=>ay x.valid)*b.countP fun y=>ay y.valid:=KP a b
 have c1:(a.countP fun x=>ay x.valid)<=24:=Nat.le_trans List.countP_le_length ha
 have c2:(b.countP fun x=>ay x.valid)<=24:=Nat.le_trans List.countP_le_length hb
 have c3:(a.countP fun x=>ay x.valid)*(b.countP fun y=>ay y.valid)<=24*24:=Nat.mul_le_mul c1 c2
 rw [e1,Va]
 unfold d_
 dsimp only
 rw [e2,Va]
 unfold eF
 dsimp only
 rw [e3,Va]
 unfold eD
 dsimp only
 rw [Vg (show ((bC (jc a b) 13:Nat):Int)=IntKind.i64.wrap (((a.countP fun x=>ay x.valid:Nat):Int)*((b.countP fun x=>ay x.valid:Nat):Int)) from (dm (by rw [k1];exact (Int.natCast_mul _ _).symm) (by omega)).symm),Ve]
 unfold om
 rw [Vg (show a.length<=1000 by omega),Vg (show b.length<=1000 by omega),Bool.and_self,Ve,Va,
  Vg (show (((cO Ai b a 0).length:Nat):Int)=IntKind.i64.wrap (((bC (jc a b) 13:Nat):Int)-((bC (uN a b) 13:Nat):Int)) from (dm (by omega) (by omega)).symm),Ve]
theorem oW {a b:List aV} (q0:mE 40 mF a) (q1:mE 40 mF b):Pure Tryz.prog 8 [.one (.lst (a.map a_)), .one (.lst (b.map a_))] (.val (.one (.bool true))):=sQ (qh a b)
end Go.Proofs.YtlcceppoloaecaaGreatDoor
