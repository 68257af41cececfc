/- Parts of the proof, joined. No condition. -/
import Derived.Test.YtcehmafobkhdbaaGreatDoorKBM
set_option linter.unusedSimpArgs false
set_option linter.unusedVariables false
namespace Go.Proofs.YtcehmafobkhdbaaGreatDoor
open Go.RowKit Go.MapKept
set_option maxRecDepth 100000
theorem fe (p:aI):aL p=true↔0<=p.lo/\p.lo<p.hi/\p.hi<=1099511627776:=by
 constructor
 ·exact qW
 ·rintro ⟨a,b,c⟩
  unfold aL
  rw [agZ a,agZ b,agZ c];rfl
def BL (p q:aI):Bool:=aL p&&(aL q&&(decide (p.lo<q.hi)&&decide (q.lo<p.hi)))
theorem Aq (p q:aI):BL p q=true↔aL p=true/\aL q=true/\p.lo<q.hi/\q.lo<p.hi:=by
 unfold BL
 generalize aL p=a
 generalize aL q=b
 rw [ahb,ahb,ahb,decide_eq_true_iff,decide_eq_true_iff]
def Ay (p q:aI):aI:=⟨max p.lo q.lo,min p.hi q.hi⟩
def EF (p q:aI):List aI:=(if p.lo<q.lo then [⟨p.lo,q.lo⟩] else [])++(if q.hi<p.hi then [⟨q.hi,p.hi⟩] else [])
theorem Jm {a b:Bool} (h:a=true↔b=true):a=b:=by
 cases a<;>cases b<;>simp_all
def mW (r:List Val) (ps:List aI):List aj:=ps.map fun p=>⟨r,p⟩
def Ej (e:Ex) (p:aI) (f:aj):Bool:=BL f.valid p&&oZ e f.row
def iO (e:Ex) (p:aI) (f:aj):List aj:=if Ej e p f=true then mW f.row (EF f.valid p) else [f]
def oH (e:Ex) (p:aI) (f:aj):List aj:=if Ej e p f=true then [⟨f.row,Ay f.valid p⟩] else []
def D5 (e:Ex) (s:List Ex) (p:aI) (f:aj):List aj:=if Ej e p f=true then [⟨qB s f.row,Ay f.valid p⟩] else []
theorem ja {α β:Type} (c:α->Bool) (g:α->β) : ∀ l:List α,(l.flatMap fun x=>if c x=true then [g x] else [])=(l.filter c).map g
 | []=>rfl
 | x::l=>by
  have e:((x::l).flatMap fun x=>if c x=true then [g x] else [])=(if c x=true then [g x] else [])++l.flatMap fun x=>if c x=true then [g x] else []:=by simp
  rw [e,ja c g l,List.filter_cons]
  cases c x<;>rfl
def mo (rows:List (List Val)) (p:aI):List aj:=rows.map fun r=>⟨r,p⟩
theorem bv {α β:Type} (g:α->List β) (k:Nat) (h : ∀ x,(g x).length<=k) : ∀ l:List α,(l.flatMap g).length<=k*l.length
 | []=>by simp
 | x::l=>by
  have e:(x::l).flatMap g=g x++l.flatMap g:=by simp
  rw [e,ag3,ahf,Nat.mul_succ]
  have:=bv g k h l
  have:=h x
  omega
theorem gV (e:Ex) (p:aI) (f:aj):(iO e p f).length<=2:=by
 unfold iO
 split
 ·unfold mW EF
  rw [ag7,ag3]
  split<;>split<;>simp
 ·simp
theorem wO (e:Ex) (p:aI) (f:aj):(oH e p f).length<=1:=by unfold oH;split<;>simp
theorem GQ (e:Ex) (s:List Ex) (p:aI) (f:aj):(D5 e s p f).length<=1:=by unfold D5;split<;>simp
theorem Vi {e:Ex} {p:aI} {f x:aj} (h:x∈iO e p f):x.row=f.row:=by
 unfold iO at h
 split at h
 ·unfold mW at h
  obtain ⟨q,_,rfl⟩:=aht.1 h;rfl
 ·rw [ahz.1 h]
theorem VU {e:Ex} {s:List Ex} {p:aI} {f x:aj} (h:x∈D5 e s p f):x.row=qB s f.row:=by
 unfold D5 at h
 split at h
 ·rw [ahz.1 h]
 ·cases h
theorem VE {l:List aj} (h:l.length<=300) (hr : ∀ f∈l,f.row.length<=1000 /\ ∀ v∈f.row,VOK v):bM l:=⟨h,hr⟩
theorem o9 {l:List aj} (h:bM l) (hn:l.length<=100) (e:Ex) (p:aI):bM (l.flatMap (iO e p)):=by
 refine ⟨?_,?_⟩
 ·have:=bv _ 2 (gV e p) l;omega
 ·intro x hx
  obtain ⟨f,hf,hx⟩:=List.mem_flatMap.1 hx
  rw [Vi hx];exact h.2 f hf
theorem Oq {s:List Ex} (hs:s.length<=1000) (he : ∀ e∈s,fH fuel e) (row:List Val):(qB s row).length<=1000 /\ ∀ v∈qB s row,VOK v:=by
 refine ⟨by unfold qB;rw [ag7];exact hs,?_⟩
 intro v hv
 unfold qB at hv
 obtain ⟨x,hx,rfl⟩:=aht.1 hv
 exact (xL (val_ok (he x hx) row).2.2).vok
theorem Y1 {l:List aj} (hn:l.length<=100) (e:Ex) {s:List Ex} (hs:s.length<=1000) (he : ∀ e∈s,fH fuel e) (p:aI):bM (l.flatMap (D5 e s p)):=by
 refine ⟨?_,?_⟩
 ·have:=bv _ 1 (GQ e s p) l;omega
 ·intro x hx
  obtain ⟨f,hf,hx⟩:=List.mem_flatMap.1 hx
  rw [VU hx];exact Oq hs he f.row
theorem Jw {a b:List aj} (ha:bM a) (hb:bM b) (h:a.length+b.length<=300):bM (a++b):=by
 refine ⟨by rw [ag3];exact h,?_⟩
 intro x hx
 rcases ahl.1 hx with hx|hx
 ·exact ha.2 x hx
 ·exact hb.2 x hx
def Bt (e:Ex) (s:List Ex) (p:aI) (f:aj):List aj:=iO e p f++D5 e s p f
theorem rZ (e:Ex) (s:List Ex) (p:aI) (f:aj):(Bt e s p f).length<=3:=by
 unfold Bt;rw [ag3];have:=gV e p f;have:=GQ e s p f;omega
theorem EQ {α β:Type} (g k:α->List β) : ∀ l:List α,(l.flatMap fun x=>g x++k x).Perm (l.flatMap g++l.flatMap k)
 | [] => .refl _
 | x::l=>by
  have e1:((x::l).flatMap fun x=>g x++k x)=(g x++k x)++l.flatMap fun x=>g x++k x:=by simp
  have e2:(x::l).flatMap g=g x++l.flatMap g:=by simp
  have e3:(x::l).flatMap k=k x++l.flatMap k:=by simp
  rw [e1,e2,e3,ahk,ahk]
  refine List.Perm.append_left _ ?_
  refine ((EQ g k l).append_left _).trans ?_
  rw [<- ahk, <- ahk]
  exact List.Perm.append_right _ List.perm_append_comm
theorem FW {l m:List aj} (h:l.Perm m) (t:Int):(aS l t).Perm (aS m t):=(h.filter _).map _
theorem WJ {l:List aj} (hn:l.length<=100) (e:Ex) (s:List Ex) (p:aI):canon (l.flatMap (Bt e s p))=canon (l.flatMap (iO e p)++l.flatMap (D5 e s p)):=by
 have h1:=bv _ 3 (rZ e s p) l
 have h2:=bv _ 2 (gV e p) l
 have h3:=bv _ 1 (GQ e s p) l
 exact kg (by omega) (by rw [ag3];omega) fun t=>FW (EQ _ _ l) t
set_option maxHeartbeats 8000000
def K6 (a_p:aI) (a_q:aI):Option (Bool):=(UI a_p).bind fun r_1=>bif r_1 then (UI a_q).bind fun r_3=>bif r_3 then bif (decide (a_p.lo<a_q.hi)) then some (decide (a_q.lo<a_p.hi)) else
 some false else
 some false else
 some false
theorem X6 {a_p:aI} {a_q:aI} {r:Bool} (H:K6 a_p a_q=some r):Pure Tryz.prog 120 [.agg (bE a_p), .agg (bE a_q)] (.val (.one (.bool r))):=by
 unfold K6 at H
 refine po_ Tryz.func120 Tryz.ntmps120 ?_
 obtain ⟨r_1,c1,H⟩:=bd_ H
 replace c1:=CK c1
 rcases af H with ⟨q_2,H⟩|⟨q_2,H⟩
 ·obtain ⟨r_3,c2,H⟩:=bd_ H
  replace c2:=CK c2
  rcases af H with ⟨q_4,H⟩|⟨q_4,H⟩
  ·rcases af H with ⟨q_5,H⟩|⟨q_5,H⟩
   ·cases H
    exact aD
   cases H
   exact aD
  cases H
  exact aD
 cases H
 exact aD
def rU (a_p:aI) (a_q:aI):Option (aI × Bool):=(K6 a_p a_q).bind fun r_1=>bif (!r_1) then some ((⟨(0:Int),(0:Int)⟩:aI),false) else
 some ((⟨(CY a_p.lo a_q.lo),(Mg a_p.hi a_q.hi)⟩:aI),true)
theorem xn {a_p:aI} {a_q:aI} {r:aI × Bool} (H:rU a_p a_q=some r):Pure Tryz.prog 72 [.agg (bE a_p), .agg (bE a_q)] (.tup [.agg (bE r.1), .one (.bool r.2)]):=by
 unfold rU at H
 refine po_ Tryz.func72 Tryz.ntmps72 ?_
 obtain ⟨r_1,c1,H⟩:=bd_ H
 replace c1:=X6 c1
 rcases af H with ⟨q_2,H⟩|⟨q_2,H⟩
 ·cases H
  exact aD
 cases H
 exact aD
section
variable {P:Program} {ti:TI} {N:Nat} {ds:List (Option Tmp)} {K:Tm->List Ob->Prop} {rest:List Oper} {o:Oper} {T:Tm} {L:List Ob}
theorem agG (L:List Ob) (x:Ob) (hx:x.ren [L.length]=x):joinL [] L [x]=L++[x]:=by
 simp [joinL,join,jV,dR,mE,hx]
theorem co_ {g:FuncId} {asx:List AV} {es:List (List AC)} {n k d:Nat} (hd:o.dst=some d) (hN:Nat.blt d N=true) (hg:kJ ds T o.guard=some true) (hp:fJ ti (look T) o.op=some (g,asx)) (h:aQ P ti N ds K rest ((d, .one (.own es L.length))::T) (L++[.spare n k]))
  (hc:Run P g [] asx [.spare n k] (.one (.own es 0)):=by assumption) (ha:asx=asx.map (AV.ren []):=by rfl) (hb:KJ 0 asx=true:=by rfl):aQ P ti N ds K (o::rest) T L :=
 kN [] hd hN hg hp hc ha ⟨rfl,List.nodup_nil,fun i y hy=>by simp at hy,fun x hx=>(by cases hx),yL hb⟩ (by simp [AV.ren,SV.ren,dR,mE,nC]) (agG L _ rfl) h
theorem agt {g:FuncId} {asx:List AV} {es fs:List (List AC)} {n k m q d:Nat} (hd:o.dst=some d) (hN:Nat.blt d N=true) (hg:kJ ds T o.guard=some true) (hp:fJ ti (look T) o.op=some (g,asx)) (h:aQ P ti N ds K rest ((d, .tupS [.own es L.length, .own fs (L.length+1)])::T) (L++[.spare n k, .spare m q]))
  (hc:Run P g [] asx [.spare n k, .spare m q] (.tupS [.own es 0, .own fs 1]):=by assumption) (ha:asx=asx.map (AV.ren []):=by rfl) (hb:KJ 0 asx=true:=by rfl):aQ P ti N ds K (o::rest) T L :=
 kN [] hd hN hg hp hc ha ⟨rfl,List.nodup_nil,fun i y hy=>by simp at hy,fun x hx=>(by cases hx),yL hb⟩ (by simp [AV.ren,SV.ren,dR,mE,nC,List.range_succ]) (by simp [joinL,join,jV,dR,mE,Ob.ren]) h
theorem ae8 {g:FuncId} {asx:List AV} {es fs:List (List AC)} {n k m q d:Nat} (hd:o.dst=some d) (hN:Nat.blt d N=true) (hg:kJ ds T o.guard=some true) (hp:fJ ti (look T) o.op=some (g,asx)) (h:aQ P ti N ds K rest ((d, .tupS [.own es (L.length+2), .own fs (L.length+3)])::T) (L++[.dead, .dead, .spare n k, .spare m q]))
  (hc:Run P g [] asx [.dead, .dead, .spare n k, .spare m q] (.tupS [.own es 2, .own fs 3]):=by assumption) (ha:asx=asx.map (AV.ren []):=by rfl) (hb:KJ 0 asx=true:=by rfl):aQ P ti N ds K (o::rest) T L :=
 kN [] hd hN hg hp hc ha ⟨rfl,List.nodup_nil,fun i y hy=>by simp at hy,fun x hx=>(by cases hx),yL hb⟩ (by simp [AV.ren,SV.ren,dR,mE,nC,List.range_succ]) (by simp [joinL,join,jV,dR,mE,Ob.ren]) h
theorem ai_ {t e:TypeId} {x ix:Operand} {zs v:List SV} {k0:IntKind} {i:Int} {n k d:Nat} (hd:o.dst=some d) (hN:Nat.blt d N=true) {g0:Bool} (hg:kJ ds T o.guard=some g0) (ho:o.op = .index t x ix) (hx:look T x=some (.agg zs)) (hi:look T ix=some (.one (.c (.int k0 i))))
  (hk:ti.kind t=some (.array n e)) (ha:ti.agg e=some true) (hs:ti.size e=some k) (hl:zs.length=n*k) (h:aQ P ti N ds K rest ((d, .agg v)::T) L) (hv:List.take k (List.drop (i.toNat*k) zs)=v:=by assumption) (h0:0<=i:=by assumption) (h1:i<(n:Int):=by assumption) (hg1:g0=true:=by first|rfl|exact nU (by first|assumption|exact oD (by assumption))|exact nH (by first|assumption|exact oF (by assumption))):aQ P ti N ds K (o::rest) T L:=by
 subst hg1 hv
 have hm:i.toNat*k+k<=zs.length:=by
  rw [hl, <- Nat.succ_mul]
  exact ahv k (by omega)
 refine aZ (φ:=(0<=i/\i<(n:Int))/\i.toNat*k+k<=zs.length) hd hN hg ?_ ⟨⟨h0,h1⟩,hm⟩ h
 rw [ho]
 simp only [pop,hx,hi,rE,hk,ha,hs]
end
theorem afn {α β:Type} {l:List α} {f:α->List AC} {k:Nat} (hf : ∀ x,(f x).length=k) {i:Int} {q:α->Option β} {r:β} (H:(aH l i).bind q=some r) : ∃ x,0<=i/\i<((l.length:Nat):Int)/\List.take k (List.drop (i.toNat*k) (List.map SV.c (l.flatMap f)))=List.map SV.c (f x)/\q x=some r:=by
 obtain ⟨x,h,K⟩:=bd_ H
 obtain ⟨h0,h1⟩:=nE h
 have hlt:=(agV.1 h1).1
 refine ⟨x,h0,by omega,?_,K⟩
 rw [<- List.map_drop, <- List.map_take]
 congr 1
 have key : ∀ (l:List α) (j:Nat) (x:α),l[j]?=some x->List.take k (List.drop (j*k) (l.flatMap f))=f x:=by
  intro l
  induction l with
  | nil=>intro j x h;simp at h
  | cons y l ih =>
   intro j x h
   cases j with
   | zero =>
    simp at h;subst h
    rw [Nat.zero_mul,List.drop_zero,ahw,List.take_append_of_le_length (by rw [hf];exact ag' _),ahy (by rw [hf];exact ag' _)]
   | succ j =>
    rw [ahw,Nat.succ_mul,Nat.add_comm (j*k) k, <- List.drop_drop,List.drop_append_of_le_length (by rw [hf];exact ag' _),List.drop_of_length_le (show (f y).length<=k by rw [hf];exact ag' _),ag0]
    exact ih j x (by simpa using h)
 exact key l _ x h1
theorem gx_ {p q:Prop} (k:q) (h:Bx q->p:=by
 intro hq
 repeat' (first|refine co_ rfl rfl rfl rfl ?_|refine agt rfl rfl rfl rfl ?_|refine ae8 rfl rfl rfl rfl ?_|refine p_ rfl rfl rfl rfl rfl ?_|refine st_nil ?_|refine x_ rfl rfl rfl rfl rfl rfl rfl rfl ?_|refine l_ rfl rfl rfl rfl ?_|refine s_ rfl rfl rfl ?_|refine t_ rfl rfl rfl rfl ?_|refine k_ rfl rfl rfl ?_|refine k0_ rfl rfl ?_|refine c_ rfl rfl rfl rfl ?_|refine pick_t rfl rfl rfl rfl rfl rfl rfl ?_|refine pick_f rfl rfl rfl rfl rfl rfl rfl ?_|refine aw_seq ?_|refine aw_region ay _ rfl ?_|refine aw_drawn2 bf _ rfl mixed (by decide +kernel) ?_|refine aw_condT rfl ?_|refine aw_condF rfl ?_|refine aw_block ?_|refine aw_exit ?_|refine aw_ret ?_|refine aw_skip ?_|rw [ag7]|rw [mn_norm]|rw [mx_norm])
 exact hq.out):p:=h ⟨k⟩
theorem XY {p:Prop} (h:p:=by
 refine gx_ ?_
 refine bO (bZ rfl ?_ ?_)
 ·repeat' (first|exact trivial|rfl|exact ag5 rfl|omega|apply And.intro)
 ·first|rfl|(simp only [ag8,ag6,ag_,ag0]<;>rfl)):p:=h
theorem ga_ {p q:Prop} (k:q) (h:Bx q->p:=by
 intro hq
 repeat' (first|refine ai_ rfl rfl rfl rfl rfl rfl rfl rfl rfl rfl ?_|refine gs_ ?_|fail)
 exact hq.out):p:=h ⟨k⟩
theorem agf {p:Prop} (h:p:=by
 refine ga_ ?_
 refine bO (bZ rfl ?_ ?_)
 ·repeat' (first|exact trivial|rfl|exact ag5 rfl|omega|apply And.intro)
 ·first|rfl|(simp only [ag8,ag6,ag_,ag0]<;>rfl)):p:=h
theorem acT {p:Prop} (h:p:=by repeat' (first|refine ⟨?_,?_⟩|exact trivial|exact lt_|exact p8 (by rfl)|omega)):p:=h
theorem adX {p:Prop} (h:p:=by
 refine bF ?_
 first
  | exact ⟨.inl rfl,⟨.inl ⟨_,rfl,rfl⟩,⟨[],rfl⟩,ahe _,o8 rfl,p8 rfl⟩⟩
  | exact ⟨.inr rfl,⟨.inl ⟨_,rfl,rfl⟩,⟨[],rfl⟩,ahe _,o8 rfl,p8 rfl⟩⟩):p:=h
theorem aeR {p:Prop} (h:p:=by
 refine bF ?_
 first
  | exact ⟨.inl rfl,⟨⟨_,_,_,_,rfl,rfl,rfl,rfl⟩,⟨[],rfl⟩,ahe _,o8 rfl,p8 rfl⟩⟩
  | exact ⟨.inr rfl,⟨⟨_,_,_,_,rfl,rfl,rfl,rfl⟩,⟨[],rfl⟩,ahe _,o8 rfl,p8 rfl⟩⟩):p:=h
set_option maxHeartbeats 8000000
noncomputable section
def xW (a_p:aI) (r_3:aI × Bool):((List aI) × Int)->Option (Step ((List aI) × Int) ((List aI))):=fun s=>match s with
 | (out_5,v_6)=>bif (decide (v_6<(2:Int))) then (aH ([(⟨a_p.lo,r_3.1.lo⟩:aI),(⟨r_3.1.hi,a_p.hi⟩:aI)]:List aI) v_6).bind fun x_8=>bif (!(dL [.c (.int .i64 x_8.lo), .c (.int .i64 x_8.hi)] [.c (.int .i64 (0:Int)), .c (.int .i64 (0:Int))])) then (UI x_8).bind fun r_10=>bif r_10 then bif (decide (out_5.length+1<=8796093022208)) then (some (.next ((out_5++[x_8]),(IntKind.i64.wrap (v_6+(1:Int)))))) else none else
 some (.next (out_5,(IntKind.i64.wrap (v_6+(1:Int))))) else
 some (.next (out_5,(IntKind.i64.wrap (v_6+(1:Int))))) else
 some (.exit (out_5,v_6))
def yY:Sum ((List aI) × Int) ((List aI))->Option (((List aI)))
 | .inl (out_5,v_6)=>some out_5
 | .inr q=>some q
def xP (a_p:aI) (a_q:aI):Option ((List aI)):=(UI a_p).bind fun r_1=>bif (!r_1) then some [] else
 (rU a_p a_q).bind fun r_3=>bif (!r_3.2) then some [a_p] else
 (ax (xW a_p r_3) fuel ([],(0:Int))).bind (yY)
theorem uU {a_p:aI} {a_q:aI} {r:(List aI)} (H:xP a_p a_q=some r):Pure Tryz.prog 46 [.agg (bE a_p), .agg (bE a_q)] (.val (.one (.lst (r.map bE)))):=by
 unfold xP at H
 refine po_ Tryz.func46 Tryz.ntmps46 ?_
 obtain ⟨r_1,c1,H⟩:=bd_ H
 replace c1:=CK c1
 rcases af H with ⟨q_2,H⟩|⟨q_2,H⟩
 ·cases H
  exact aD
 obtain ⟨r_3,c2,H⟩:=bd_ H
 replace c2:=xn c2
 rcases af H with ⟨q_4,H⟩|⟨q_4,H⟩
 ·cases H
  exact aD
 refine bF ?_
 refine bX 8 2 rfl ?_
 refine alM_ (fun s:(List aI) × Int=>match s with|(out_5,v_6)=>[(8, .one (.own (out_5.map bE) 4)),(35, .agg [.c (.int .i64 a_p.lo), .c (.int .i64 r_3.1.lo), .c (.int .i64 r_3.1.hi), .c (.int .i64 a_p.hi)]),(36, .one (.c (.int .i64 v_6)))]) (fun s=>match s with|(out_5,v_6)=>[.box [.c (.int .i64 a_p.lo), .c (.int .i64 a_p.hi)], .box [.c (.int .i64 a_q.lo), .c (.int .i64 a_q.hi)], .box [.c (.int .i64 r_3.1.lo), .c (.int .i64 r_3.1.hi)], .box [.c (.int .i64 a_p.lo), .c (.int .i64 r_3.1.lo), .c (.int .i64 r_3.1.hi), .c (.int .i64 a_p.hi)], .spare out_5.length 2]) H (fun _=>ahe _)
  (fm_ dh [] rfl acT dw) ?_
 rintro ⟨out_5,v_6⟩ st1 hb1 hk1
 unfold xW at hb1
 dsimp only at hb1 ⊢
 rcases af hb1 with ⟨q_7,hb1⟩|⟨q_7,hb1⟩
 ·obtain ⟨x_8,i3,i3b,i3v,hb1⟩:=afn (f:=bE) (k:=2) (fun _=>rfl) hb1
  replace i3b:v_6<((2:Nat):Int):=i3b
  replace i3v:List.take 2 (List.drop ((v_6).toNat*2) [SV.c (.int .i64 a_p.lo),SV.c (.int .i64 r_3.1.lo),SV.c (.int .i64 r_3.1.hi),SV.c (.int .i64 a_p.hi)])=[SV.c (.int .i64 x_8.lo),SV.c (.int .i64 x_8.hi)]:=i3v
  rcases af hb1 with ⟨q_9,hb1⟩|⟨q_9,hb1⟩
  ·obtain ⟨r_10,c4,hb1⟩:=bd_ hb1
   replace c4:=CK c4
   rcases af hb1 with ⟨q_11,hb1⟩|⟨q_11,hb1⟩
   ·obtain ⟨g5,hb1⟩:=aG hb1
    cases hb1
    refine ga_ ?_
    exact ⟨_,rfl,fm_ lC [_] lD acT dw⟩
   cases hb1
   refine ga_ ?_
   exact ⟨_,rfl,fm_ lC [_] lD acT dw⟩
  cases hb1
  refine ga_ ?_
  exact ⟨_,rfl,fm_ lC [_] lD acT dw⟩
 cases hb1
 have hx1:yY (.inl (out_5,v_6))=some _:=hk1
 unfold yY at hx1
 dsimp only at hx1
 cases hx1
 exact agf
end
set_option maxHeartbeats 8000000
noncomputable section
def dQ (a_row:(List Val)) (a_l:(List aI)):((List aj) × Int)->Option (Step ((List aj) × Int) ((List aj))):=fun s=>match s with
 | (out_1,v_2)=>bif (decide (v_2<((a_l.length:Nat):Int))) then (aH a_l v_2).bind fun x_4=>bif (decide (out_1.length+1<=3518437208883)) then (some (.next ((out_1++[(⟨a_row,x_4⟩:aj)]),(IntKind.i64.wrap (v_2+(1:Int)))))) else none else
 some (.exit (out_1,v_2))
def cz:Sum ((List aj) × Int) ((List aj))->Option (((List aj)))
 | .inl (out_1,v_2)=>some out_1
 | .inr q=>some q
def bu (a_row:(List Val)) (a_l:(List aI)):Option ((List aj)):=(ax (dQ a_row a_l) fuel ([],(0:Int))).bind (cz)
theorem dY {a_row:(List Val)} {a_l:(List aI)} {r:(List aj)} (H:bu a_row a_l=some r):Run Tryz.prog 40 [] [.one (.c (.lst (a_row.map cV))), .one (.c (.lst (a_l.map bE)))] [.spare r.length 3] (.one (.own (r.map aJ) 0)):=by
 unfold bu at H
 refine bN tab_ok Tryz.func40 rfl rfl Tryz.ntmps40 (by simp) ?_
 simp only [kP]
 refine bF ?_
 refine bX 5 3 rfl ?_
 refine alM_ (fun s:(List aj) × Int=>match s with|(out_1,v_2)=>[(0, .one (.c (.lst (a_row.map cV)))),(5, .one (.own (out_1.map aJ) 0)),(8, .one (.c (.lst (a_l.map bE)))),(9, .one (.c (.int .i64 ((a_l.length:Nat):Int)))),(10, .one (.c (.int .i64 v_2)))]) (fun s=>match s with|(out_1,v_2)=>[.spare out_1.length 3]) H (fun _=>ahe _)
  (fm_ dh [] rfl bH dw) ?_
 rintro ⟨out_1,v_2⟩ st1 hb1 hk1
 unfold dQ at hb1
 dsimp only at hb1 ⊢
 rcases af hb1 with ⟨q_3,hb1⟩|⟨q_3,hb1⟩
 ·obtain ⟨x_4,i1z,i1,i1x,hb1⟩:=aY (f:=bE) hb1
  obtain ⟨g2,hb1⟩:=aG hb1
  cases hb1
  refine bF ?_
  exact ⟨_,rfl,fm_ lC [_] lD bH dw⟩
 cases hb1
 have hx1:cz (.inl (out_1,v_2))=some _:=hk1
 unfold cz at hx1
 dsimp only at hx1
 cases hx1
 exact adX
def eX (a_f:aj) (a_e:Ex) (a_p:aI):Option (aI × Bool):=(rU a_f.valid a_p).bind fun r_1=>bif r_1.2 then (jA a_e a_f.row).bind fun r_3=>some (r_1.1,(decide (r_3=(2:Int)))) else
 some (r_1.1,false)
theorem fE {a_f:aj} {a_e:Ex} {a_p:aI} {r:aI × Bool} (H:eX a_f a_e a_p=some r):Pure Tryz.prog 45 [.agg (aJ a_f), .agg (tE a_e), .agg (bE a_p)] (.tup [.agg (bE r.1), .one (.bool r.2)]):=by
 unfold eX at H
 rw [aC a_e]
 refine po_ Tryz.func45 Tryz.ntmps45 ?_
 obtain ⟨r_1,c1,H⟩:=bd_ H
 replace c1:=xn c1
 rcases af H with ⟨q_2,H⟩|⟨q_2,H⟩
 ·obtain ⟨r_3,c2,H⟩:=bd_ H
  replace c2:=qI c2
  try simp only [ag8,ag6,ag_,ag0,aC] at c2
  cases H
  exact aD
 cases H
 exact aD
def jg (a_l:(List Ex)) (a_f:Ex->Option ((List Val))):((List Val) × Int)->Option (Step ((List Val) × Int) ((List Val))):=fun s=>match s with
 | (out_1,v_2)=>bif (decide (v_2<((a_l.length:Nat):Int))) then (aH a_l v_2).bind fun x_4=>(a_f x_4).bind fun r_5=>bif (decide (out_1.length+r_5.length<=4398046511104)) then (some (.next ((out_1++r_5),(IntKind.i64.wrap (v_2+(1:Int)))))) else none else
 some (.exit (out_1,v_2))
def gX:Sum ((List Val) × Int) ((List Val))->Option (((List Val)))
 | .inl (out_1,v_2)=>some out_1
 | .inr q=>some q
def mr (a_l:(List Ex)) (a_f:Ex->Option ((List Val))):Option ((List Val)):=(ax (jg a_l a_f) fuel ([],(0:Int))).bind (gX)
theorem vB {a_l:(List Ex)} {a_f:Ex->Option ((List Val))} {r:(List Val)} {F_a_f:FuncId} {caps_a_f:List AC} (hf_a_f : ∀ (y0:Ex) (r:(List Val)),a_f y0=some r->Pure Tryz.prog F_a_f ([.agg (tE y0)]++caps_a_f.map .one) (.val (.one (.lst (r.map cV))))) (H:mr a_l a_f=some r):Pure Tryz.prog 50 [.one (.lst (a_l.map tE)), .one (.fn F_a_f caps_a_f)] (.val (.one (.lst (r.map cV)))):=by
 unfold mr at H
 refine po_ Tryz.func50 Tryz.ntmps50 ?_
 refine bF ?_
 refine bX 5 3 rfl ?_
 refine alM_ (fun s:(List Val) × Int=>match s with|(out_1,v_2)=>[(1, .one (.c (.fn F_a_f caps_a_f))),(5, .one (.own (out_1.map cV) 0)),(8, .one (.c (.lst (a_l.map tE)))),(9, .one (.c (.int .i64 ((a_l.length:Nat):Int)))),(10, .one (.c (.int .i64 v_2)))]) (fun s=>match s with|(out_1,v_2)=>[.spare out_1.length 3]) H (fun _=>ahe _)
  (fm_ dh [] rfl bH dw) ?_
 rintro ⟨out_1,v_2⟩ st1 hb1 hk1
 unfold jg at hb1
 dsimp only at hb1 ⊢
 rcases af hb1 with ⟨q_3,hb1⟩|⟨q_3,hb1⟩
 ·obtain ⟨x_4,i1z,i1,i1x,hb1⟩:=aY (f:=tE) hb1
  simp only [ag8,ag6,ag_,ag0,aC] at i1x
  obtain ⟨r_5,c2,hb1⟩:=bd_ hb1
  replace c2:=hf_a_f _ _ c2
  try simp only [ag8,ag6,ag_,ag0,aC] at c2
  obtain ⟨g3,hb1⟩:=aG hb1
  cases hb1
  refine bF ?_
  exact ⟨_,rfl,fm_ lC [_] lD bH dw⟩
 cases hb1
 have hx1:gX (.inl (out_1,v_2))=some _:=hk1
 unfold gX at hx1
 dsimp only at hx1
 cases hx1
 exact aD
def jf (a_l:(List aj)) (a_f:aj->Option ((List aj))):((List aj) × Int)->Option (Step ((List aj) × Int) ((List aj))):=fun s=>match s with
 | (out_1,v_2)=>bif (decide (v_2<((a_l.length:Nat):Int))) then (aH a_l v_2).bind fun x_4=>(a_f x_4).bind fun r_5=>bif (decide (out_1.length+r_5.length<=3518437208883)) then (some (.next ((out_1++r_5),(IntKind.i64.wrap (v_2+(1:Int)))))) else none else
 some (.exit (out_1,v_2))
def h_:Sum ((List aj) × Int) ((List aj))->Option (((List aj)))
 | .inl (out_1,v_2)=>some out_1
 | .inr q=>some q
def nJ (a_l:(List aj)) (a_f:aj->Option ((List aj))):Option ((List aj)):=(ax (jf a_l a_f) fuel ([],(0:Int))).bind (h_)
theorem uN {a_l:(List aj)} {a_f:aj->Option ((List aj))} {r:(List aj)} {F_a_f:FuncId} {caps_a_f:List AC} (hf_a_f : ∀ (y0:aj) (r:(List aj)),a_f y0=some r->Pure Tryz.prog F_a_f ([.agg (aJ y0)]++caps_a_f.map .one) (.val (.one (.lst (r.map aJ))))) (H:nJ a_l a_f=some r):Pure Tryz.prog 43 [.one (.lst (a_l.map aJ)), .one (.fn F_a_f caps_a_f)] (.val (.one (.lst (r.map aJ)))):=by
 unfold nJ at H
 refine po_ Tryz.func43 Tryz.ntmps43 ?_
 refine bF ?_
 refine bX 5 3 rfl ?_
 refine alM_ (fun s:(List aj) × Int=>match s with|(out_1,v_2)=>[(1, .one (.c (.fn F_a_f caps_a_f))),(5, .one (.own (out_1.map aJ) 0)),(8, .one (.c (.lst (a_l.map aJ)))),(9, .one (.c (.int .i64 ((a_l.length:Nat):Int)))),(10, .one (.c (.int .i64 v_2)))]) (fun s=>match s with|(out_1,v_2)=>[.spare out_1.length 3]) H (fun _=>ahe _)
  (fm_ dh [] rfl bH dw) ?_
 rintro ⟨out_1,v_2⟩ st1 hb1 hk1
 unfold jf at hb1
 dsimp only at hb1 ⊢
 rcases af hb1 with ⟨q_3,hb1⟩|⟨q_3,hb1⟩
 ·obtain ⟨x_4,i1z,i1,i1x,hb1⟩:=aY (f:=aJ) hb1
  obtain ⟨r_5,c2,hb1⟩:=bd_ hb1
  replace c2:=hf_a_f _ _ c2
  try simp only [ag8,ag6,ag_,ag0,aC] at c2
  obtain ⟨g3,hb1⟩:=aG hb1
  cases hb1
  refine bF ?_
  exact ⟨_,rfl,fm_ lC [_] lD bH dw⟩
 cases hb1
 have hx1:h_ (.inl (out_1,v_2))=some _:=hk1
 unfold h_ at hx1
 dsimp only at hx1
 cases hx1
 exact aD
def eZ (a_x:Ex) (v_0:aj):Option ((List Val)):=(pK fuel a_x v_0.row).bind fun r_1=>some [r_1]
theorem mI {a_x:Ex} {v_0:aj} {r:(List Val)} (H:eZ a_x v_0=some r):Pure Tryz.prog 51 [.agg (tE a_x), .one (.ref [.lst (v_0.row.map cV), .int .i64 v_0.valid.lo, .int .i64 v_0.valid.hi])] (.val (.one (.lst (r.map cV)))):=by
 unfold eZ at H
 rw [aC a_x]
 refine po_ Tryz.func51 Tryz.ntmps51 ?_
 obtain ⟨r_1,c1,H⟩:=bd_ H
 replace c1:=rC fuel c1
 try simp only [ag8,ag6,ag_,ag0,aC] at c1
 cases H
 exact aD
def jP (a_f:aj) (v_0:Ex) (v_1:aI) (v_2:(List Ex)):Option ((List aj)):=(eX a_f v_0 v_1).bind fun r_1=>bif (!r_1.2) then (bu a_f.row [a_f.valid]).bind fun r_3=>some r_3 else
 (mr v_2 (fun x0=>eZ x0 a_f)).bind fun r_4=>(xP a_f.valid r_1.1).bind fun r_5=>(bu a_f.row r_5).bind fun r_6=>(bu r_4 [r_1.1]).bind fun r_7=>bif (decide (r_6.length+r_7.length<=3518437208883)) then (some (r_6++r_7)) else none
theorem ym {a_f:aj} {v_0:Ex} {v_1:aI} {v_2:(List Ex)} {r:(List aj)} (H:jP a_f v_0 v_1 v_2=some r):Pure Tryz.prog 49 [.agg (aJ a_f), .one (.ref [.int .i64 v_0.op, .int .i64 v_0.int, .int .i64 v_0.v.kind, .int .i64 v_0.v.int, .str v_0.v.text, .str v_0.nm, .lst (v_0.args.map tE)]), .one (.ref [.int .i64 v_1.lo, .int .i64 v_1.hi]), .one (.ref [.lst (v_2.map tE)])] (.val (.one (.lst (r.map aJ)))):=by
 unfold jP at H
 refine po_ Tryz.func49 Tryz.ntmps49 ?_
 obtain ⟨r_1,c1,H⟩:=bd_ H
 replace c1:=fE c1
 try simp only [ag8,ag6,ag_,ag0,aC] at c1
 rcases af H with ⟨q_2,H⟩|⟨q_2,H⟩
 ·obtain ⟨r_3,c2,H⟩:=bd_ H
  replace c2:=dY c2
  try simp only [ag8,ag6,ag_,ag0,aC] at c2
  cases H
  exact XY
 repeat' (first|refine gs0_ ?_|fail)
 refine aw_region tab_ok _ rfl ?_
 repeat' (first|refine gs0_ ?_|fail)
 refine aw_region tab_ok _ rfl ?_
 repeat' (first|refine gs0_ ?_|fail)
 refine aw_region tab_ok _ rfl ?_
 repeat' (first|refine gs0_ ?_|fail)
 refine bI 0 (by rfl) (by rfl) ?_
 simp only [ag6,ag_,Md,Ns,OI,iF,List.drop,if_true,List.set]
 obtain ⟨r_4,c3,H⟩:=bd_ H
 replace c3:=vB (F_a_f:=51) (caps_a_f:=[.ref [.lst (a_f.row.map cV), .int .i64 a_f.valid.lo, .int .i64 a_f.valid.hi]]) (fun x0 r h=>mI h) c3
 try simp only [ag8,ag6,ag_,ag0,aC] at c3
 obtain ⟨r_5,c4,H⟩:=bd_ H
 replace c4:=uU c4
 obtain ⟨r_6,c5,H⟩:=bd_ H
 replace c5:=dY c5
 obtain ⟨r_7,c6,H⟩:=bd_ H
 replace c6:=dY c6
 try simp only [ag8,ag6,ag_,ag0,aC] at c6
 obtain ⟨g7,H⟩:=aG H
 cases H
 refine gx_ ?_
 refine bI 1 (by rfl) (by rfl) ?_
 simp only [ag6,ag_,Md,Ns,OI,iF,List.drop,if_true,List.set]
 refine uR [6] bf _ rfl mixed (by decide +kernel) (by rfl) ?_
 exact XY
def qa (a_l:(List aj)) (a_e:Ex) (a_sets:(List Ex)) (a_p:aI):Option ((List aj)):=(nJ a_l (fun x0=>jP x0 a_e a_p a_sets)).bind fun r_1=>(Dw r_1).bind fun r_2=>some r_2
theorem qK {a_l:(List aj)} {a_e:Ex} {a_sets:(List Ex)} {a_p:aI} {r:(List aj)} (H:qa a_l a_e a_sets a_p=some r):Pure Tryz.prog 18 [.one (.lst (a_l.map aJ)), .agg (tE a_e), .one (.lst (a_sets.map tE)), .agg (bE a_p)] (.val (.one (.lst (r.map aJ)))):=by
 unfold qa at H
 rw [aC a_e]
 refine po_ Tryz.func18 Tryz.ntmps18 ?_
 repeat' (first|refine gs0_ ?_|fail)
 refine aw_region tab_ok _ rfl ?_
 repeat' (first|refine gs0_ ?_|fail)
 refine bI 0 (by rfl) (by rfl) ?_
 simp only [ag6,ag_,Md,Ns,OI,iF,List.drop,if_true,List.set]
 repeat' (first|refine gs0_ ?_|fail)
 refine bI 2 (by rfl) (by rfl) ?_
 simp only [ag6,ag_,Md,Ns,OI,iF,List.drop,if_true,List.set]
 repeat' (first|refine gs0_ ?_|fail)
 refine bI 1 (by rfl) (by rfl) ?_
 simp only [ag6,ag_,Md,Ns,OI,iF,List.drop,if_true,List.set]
 obtain ⟨r_1,c1,H⟩:=bd_ H
 replace c1:=uN (F_a_f:=49) (caps_a_f:=[.ref [.int .i64 a_e.op, .int .i64 a_e.int, .int .i64 a_e.v.kind, .int .i64 a_e.v.int, .str a_e.v.text, .str a_e.nm, .lst (a_e.args.map tE)], .ref [.int .i64 a_p.lo, .int .i64 a_p.hi], .ref [.lst (a_sets.map tE)]]) (fun x0 r h=>ym h) c1
 try simp only [ag8,ag6,ag_,ag0,aC] at c1
 obtain ⟨r_2,c2,H⟩:=bd_ H
 replace c2:=GN c2
 cases H
 exact aD
end
set_option maxHeartbeats 8000000
noncomputable section
def BD (a_p:aI) (a_q:aI):Option (Bool):=(iP a_p).bind fun r_1=>bif r_1 then (iP a_q).bind fun r_3=>bif r_3 then bif (decide (a_p.lo<a_q.hi)) then some (decide (a_q.lo<a_p.hi)) else
 some false else
 some false else
 some false
theorem FC {a_p:aI} {a_q:aI} {r:Bool} (H:BD a_p a_q=some r):Pure Tryz.prog 61 [.agg (bE a_p), .agg (bE a_q)] (.val (.one (.bool r))):=by
 unfold BD at H
 refine po_ Tryz.func61 Tryz.ntmps61 ?_
 obtain ⟨r_1,c1,H⟩:=bd_ H
 replace c1:=fw c1
 rcases af H with ⟨q_2,H⟩|⟨q_2,H⟩
 ·obtain ⟨r_3,c2,H⟩:=bd_ H
  replace c2:=fw c2
  rcases af H with ⟨q_4,H⟩|⟨q_4,H⟩
  ·rcases af H with ⟨q_5,H⟩|⟨q_5,H⟩
   ·cases H
    exact aD
   cases H
   exact aD
  cases H
  exact aD
 cases H
 exact aD
def Dj (a_p:aI) (a_q:aI):Option (aI × Bool):=(BD a_p a_q).bind fun r_1=>bif (!r_1) then some ((⟨(0:Int),(0:Int)⟩:aI),false) else
 some ((⟨(CY a_p.lo a_q.lo),(Mg a_p.hi a_q.hi)⟩:aI),true)
theorem Ko {a_p:aI} {a_q:aI} {r:aI × Bool} (H:Dj a_p a_q=some r):Pure Tryz.prog 75 [.agg (bE a_p), .agg (bE a_q)] (.tup [.agg (bE r.1), .one (.bool r.2)]):=by
 unfold Dj at H
 refine po_ Tryz.func75 Tryz.ntmps75 ?_
 obtain ⟨r_1,c1,H⟩:=bd_ H
 replace c1:=FC c1
 rcases af H with ⟨q_2,H⟩|⟨q_2,H⟩
 ·cases H
  exact aD
 cases H
 exact aD
def KU (a_p:aI) (a_q:aI):Option ((List aI)):=(iP a_p).bind fun r_1=>bif (!r_1) then some [] else
 (BD a_p a_q).bind fun r_3=>bif (!r_3) then some [a_p] else
 bif (decide (a_p.lo<a_q.lo)) then bif (decide (1<=8796093022208)) then (bif (decide (a_q.hi<a_p.hi)) then bif (decide (2<=8796093022208)) then (some [(⟨a_p.lo,a_q.lo⟩:aI),(⟨a_q.hi,a_p.hi⟩:aI)]) else none else
 some [(⟨a_p.lo,a_q.lo⟩:aI)]) else none else
 bif (decide (a_q.hi<a_p.hi)) then bif (decide (1<=8796093022208)) then (some [(⟨a_q.hi,a_p.hi⟩:aI)]) else none else
 some []
theorem NP {a_p:aI} {a_q:aI} {r:(List aI)} (H:KU a_p a_q=some r):Pure Tryz.prog 76 [.agg (bE a_p), .agg (bE a_q)] (.val (.one (.lst (r.map bE)))):=by
 unfold KU at H
 refine po_ Tryz.func76 Tryz.ntmps76 ?_
 obtain ⟨r_1,c1,H⟩:=bd_ H
 replace c1:=fw c1
 rcases af H with ⟨q_2,H⟩|⟨q_2,H⟩
 ·cases H
  exact aD
 obtain ⟨r_3,c2,H⟩:=bd_ H
 replace c2:=FC c2
 rcases af H with ⟨q_4,H⟩|⟨q_4,H⟩
 ·cases H
  exact aD
 rcases af H with ⟨q_5,H⟩|⟨q_5,H⟩
 ·obtain ⟨g3,H⟩:=aG H
  rcases af H with ⟨q_6,H⟩|⟨q_6,H⟩
  ·obtain ⟨g4,H⟩:=aG H
   cases H
   exact aD
  cases H
  exact aD
 rcases af H with ⟨q_7,H⟩|⟨q_7,H⟩
 ·obtain ⟨g5,H⟩:=aG H
  cases H
  exact aD
 cases H
 exact aD
def iD (a_l:(List aj)) (a_e:Ex) (a_p:aI):((List aj) × (List aj) × Int)->Option (Step ((List aj) × (List aj) × Int) ((List aj) × (List aj))):=fun s=>match s with
 | (outside_1,inside_2,i_3)=>bif (decide (i_3<((a_l.length:Nat):Int))) then (aH a_l i_3).bind fun x_5=>(Dj x_5.valid a_p).bind fun r_6=>bif (!r_6.2) then bif (decide (outside_1.length+1<=3518437208883)) then (some (.next ((outside_1++[x_5]),inside_2,(IntKind.i64.wrap (i_3+(1:Int)))))) else none else
 (l8 a_e x_5.row).bind fun r_8=>bif (decide (r_8≠(2:Int))) then bif (decide (outside_1.length+1<=3518437208883)) then (some (.next ((outside_1++[x_5]),inside_2,(IntKind.i64.wrap (i_3+(1:Int)))))) else none else
 bif (decide (inside_2.length+1<=3518437208883)) then ((KU x_5.valid a_p).bind fun r_10=>(wL x_5.row r_10).bind fun r_11=>bif (decide (outside_1.length+r_11.length<=3518437208883)) then (some (.next ((outside_1++r_11),(inside_2++[(⟨x_5.row,r_6.1⟩:aj)]),(IntKind.i64.wrap (i_3+(1:Int)))))) else none) else none else
 some (.exit (outside_1,inside_2,i_3))
def o6:Sum ((List aj) × (List aj) × Int) ((List aj) × (List aj))->Option (((List aj) × (List aj)))
 | .inl (outside_1,inside_2,i_3)=>some (outside_1,inside_2)
 | .inr q=>some q
def mF (a_l:(List aj)) (a_e:Ex) (a_p:aI):Option ((List aj) × (List aj)):=(ax (iD a_l a_e a_p) fuel ([],[],(0:Int))).bind (o6)
theorem Py {a_l:(List aj)} {a_e:Ex} {a_p:aI} {r:(List aj) × (List aj)} (H:mF a_l a_e a_p=some r):Run Tryz.prog 47 [] [.one (.c (.lst (a_l.map aJ))), .agg [.c (.int .i64 a_e.op), .c (.int .i64 a_e.int), .c (.int .i64 a_e.v.kind), .c (.int .i64 a_e.v.int), .c (.str a_e.v.text), .c (.str a_e.nm), .c (.lst (a_e.args.map tE))], .agg [.c (.int .i64 a_p.lo), .c (.int .i64 a_p.hi)]] [.dead, .dead, .spare r.1.length 3, .spare r.2.length 3] (.tupS [.own (r.1.map aJ) 2, .own (r.2.map aJ) 3]):=by
 unfold mF at H
 refine Ik tab_ok Tryz.func47 rfl rfl Tryz.ntmps47 (by simp) ?_
 simp only [kP]
 refine bF ?_
 refine bX 8 3 rfl ?_
 refine bX 9 3 rfl ?_
 refine alM_ (fun s:(List aj) × (List aj) × Int=>match s with|(outside_1,inside_2,i_3)=>[(0, .one (.c (.lst (a_l.map aJ)))),(4, .one (.ptr 0 0)),(5, .one (.ptr 1 0)),(8, .one (.own (outside_1.map aJ) 2)),(9, .one (.own (inside_2.map aJ) 3)),(10, .one (.c (.int .i64 i_3)))]) (fun s=>match s with|(outside_1,inside_2,i_3)=>[.box [.c (.int .i64 a_e.op), .c (.int .i64 a_e.int), .c (.int .i64 a_e.v.kind), .c (.int .i64 a_e.v.int), .c (.str a_e.v.text), .c (.str a_e.nm), .c (.lst (a_e.args.map tE))], .box [.c (.int .i64 a_p.lo), .c (.int .i64 a_p.hi)], .spare outside_1.length 3, .spare inside_2.length 3]) H (fun _=>ahe _)
  (fm_ dh [] rfl bH dw) ?_
 rintro ⟨outside_1,inside_2,i_3⟩ st1 hb1 hk1
 unfold iD at hb1
 dsimp only at hb1 ⊢
 rcases af hb1 with ⟨q_4,hb1⟩|⟨q_4,hb1⟩
 ·obtain ⟨x_5,i1z,i1,i1x,hb1⟩:=aY (f:=aJ) hb1
  obtain ⟨r_6,c2,hb1⟩:=bd_ hb1
  replace c2:=Ko c2
  rcases af hb1 with ⟨q_7,hb1⟩|⟨q_7,hb1⟩
  ·obtain ⟨g3,hb1⟩:=aG hb1
   cases hb1
   refine bF ?_
   exact ⟨_,rfl,fm_ lC [_] lD bH dw⟩
  obtain ⟨r_8,c4,hb1⟩:=bd_ hb1
  replace c4:=xB c4
  try simp only [ag8,ag6,ag_,ag0,aC] at c4
  rcases af hb1 with ⟨q_9,hb1⟩|⟨q_9,hb1⟩
  ·obtain ⟨g5,hb1⟩:=aG hb1
   cases hb1
   refine bF ?_
   exact ⟨_,rfl,fm_ lC [_] lD bH dw⟩
  obtain ⟨g6,hb1⟩:=aG hb1
  obtain ⟨r_10,c7,hb1⟩:=bd_ hb1
  replace c7:=NP c7
  obtain ⟨r_11,c8,hb1⟩:=bd_ hb1
  replace c8:=BU c8
  obtain ⟨g9,hb1⟩:=aG hb1
  cases hb1
  refine bF ?_
  exact ⟨_,rfl,fm_ lC [_] lD bH dw⟩
 cases hb1
 have hx1:o6 (.inl (outside_1,inside_2,i_3))=some _:=hk1
 unfold o6 at hx1
 dsimp only at hx1
 cases hx1
 refine bI 0 rfl rfl ?_
 refine bI 1 rfl rfl ?_
 exact aeR
def um (a_sets:(List Ex)) (r_1:(List aj) × (List aj)):((List aj) × Int)->Option (Step ((List aj) × Int) ((List aj))):=fun s=>match s with
 | (out_2,i_3)=>bif (decide (i_3<((r_1.2.length:Nat):Int))) then (aH r_1.2 i_3).bind fun x_5=>(sG a_sets x_5.row).bind fun r_6=>bif (decide (out_2.length+1<=3518437208883)) then (some (.next ((out_2++[(⟨r_6,x_5.valid⟩:aj)]),(IntKind.i64.wrap (i_3+(1:Int)))))) else none else
 some (.exit (out_2,i_3))
def zU:Sum ((List aj) × Int) ((List aj))->Option (((List aj)))
 | .inl (out_2,i_3)=>(kU out_2).bind fun r_7=>some r_7
 | .inr q=>some q
def Io (a_l:(List aj)) (a_e:Ex) (a_sets:(List Ex)) (a_p:aI):Option ((List aj)):=(mF a_l a_e a_p).bind fun r_1=>(ax (um a_sets r_1) fuel (r_1.1,(0:Int))).bind (zU)
theorem XF {a_l:(List aj)} {a_e:Ex} {a_sets:(List Ex)} {a_p:aI} {r:(List aj)} (H:Io a_l a_e a_sets a_p=some r):Pure Tryz.prog 19 [.one (.lst (a_l.map aJ)), .agg (tE a_e), .one (.lst (a_sets.map tE)), .agg (bE a_p)] (.val (.one (.lst (r.map aJ)))):=by
 unfold Io at H
 rw [aC a_e]
 refine po_ Tryz.func19 Tryz.ntmps19 ?_
 obtain ⟨r_1,c1,H⟩:=bd_ H
 replace c1:=Py c1
 try simp only [ag8,ag6,ag_,ag0,aC] at c1
 refine gx_ ?_
 refine alM_ (fun s:(List aj) × Int=>match s with|(out_2,i_3)=>[(2, .one (.c (.lst (a_sets.map tE)))),(9, .one (.own (out_2.map aJ) 4)),(10, .one (.own (r_1.2.map aJ) 5)),(11, .one (.c (.int .i64 i_3)))]) (fun s=>match s with|(out_2,i_3)=>[.box [.c (.int .i64 a_e.op), .c (.int .i64 a_e.int), .c (.int .i64 a_e.v.kind), .c (.int .i64 a_e.v.int), .c (.str a_e.v.text), .c (.str a_e.nm), .c (.lst (a_e.args.map tE))], .box [.c (.int .i64 a_p.lo), .c (.int .i64 a_p.hi)], .dead, .dead, .spare out_2.length 3, .spare r_1.2.length 3]) H (fun _=>ahe _)
  (fm_ dh [] rfl bH dw) ?_
 rintro ⟨out_2,i_3⟩ st1 hb1 hk1
 unfold um at hb1
 dsimp only at hb1 ⊢
 rcases af hb1 with ⟨q_4,hb1⟩|⟨q_4,hb1⟩
 ·obtain ⟨x_5,i2z,i2,i2x,hb1⟩:=aY (f:=aJ) hb1
  obtain ⟨r_6,c3,hb1⟩:=bd_ hb1
  replace c3:=Ce c3
  obtain ⟨g4,hb1⟩:=aG hb1
  cases hb1
  refine gx_ ?_
  exact ⟨_,rfl,fm_ lC [] lD bH dw⟩
 cases hb1
 have hx1:zU (.inl (out_2,i_3))=some _:=hk1
 unfold zU at hx1
 dsimp only at hx1
 obtain ⟨r_7,c5,hx1⟩:=bd_ hx1
 replace c5:=oW c5
 cases hx1
 exact XY
def oI (a_r:dA) (a_w:cO):(Int)->Option (Step (Int) (Bool)):=fun s=>match s with
 | i_19=>bif (decide (i_19<((a_w.sets.length:Nat):Int))) then (aH a_w.sets i_19).bind fun x_21=>(vW x_21 a_r.kinds).bind fun r_22=>bif (decide (r_22.2≠(0:Int))) then some (.ret false) else
 some (.next (IntKind.i64.wrap (i_19+(1:Int)))) else
 some (.exit i_19)
def o_:Sum (Int) (Bool)->Option ((Bool))
 | .inl i_19=>some true
 | .inr q=>some q
def o7 (a_r:dA) (a_w:cO):(Int)->Option (Step (Int) (Bool)):=fun s=>match s with
 | i_14=>bif (decide (i_14<((a_w.rows.length:Nat):Int))) then (aH a_w.rows i_14).bind fun x_16=>(wS x_16 a_r.kinds).bind fun r_17=>bif (!r_17) then some (.ret false) else
 some (.next (IntKind.i64.wrap (i_14+(1:Int)))) else
 some (.exit i_14)
def lY (a_r:dA) (a_w:cO):Sum (Int) (Bool)->Option ((Bool))
 | .inl i_14=>(ax (oI a_r a_w) fuel (0:Int)).bind (o_)
 | .inr q=>some q
def kS (a_r:dA) (a_w:cO):Option (Bool):=bif (decide ((16:Int)<((a_r.facts.length:Nat):Int))) then some false else
 bif (decide ((16:Int)<((a_w.rows.length:Nat):Int))) then some false else
 bif (decide ((20:Int)<((a_w.sets.length:Nat):Int))) then some false else
 bif (decide ((20:Int)<((a_r.kinds.length:Nat):Int))) then some false else
 (JU a_r).bind fun r_5=>bif (!r_5) then some false else
 (yG [a_w.pred] (200:Int)).bind fun r_7=>bif (!r_7) then some false else
 (yG a_w.sets (200:Int)).bind fun r_9=>bif (!r_9) then some false else
 (Af a_w.pred a_r.kinds).bind fun r_11=>bif (decide (r_11≠(0:Int))) then some false else
 bif (decide (((a_w.sets.length:Nat):Int)=(0:Int))) then some false else
 (ax (o7 a_r a_w) fuel (0:Int)).bind (lY a_r a_w)
theorem mf {a_r:dA} {a_w:cO} {r:Bool} (H:kS a_r a_w=some r):Pure Tryz.prog 9 [.agg (tL a_r), .agg (iB a_w)] (.val (.one (.bool r))):=by
 unfold kS at H
 refine po_ Tryz.func9 Tryz.ntmps9 ?_
 rcases af H with ⟨q_1,H⟩|⟨q_1,H⟩
 ·cases H
  exact aD
 rcases af H with ⟨q_2,H⟩|⟨q_2,H⟩
 ·cases H
  exact aD
 rcases af H with ⟨q_3,H⟩|⟨q_3,H⟩
 ·cases H
  exact aD
 rcases af H with ⟨q_4,H⟩|⟨q_4,H⟩
 ·cases H
  exact aD
 obtain ⟨r_5,c1,H⟩:=bd_ H
 replace c1:=Yp c1
 rcases af H with ⟨q_6,H⟩|⟨q_6,H⟩
 ·cases H
  exact aD
 obtain ⟨r_7,c2,H⟩:=bd_ H
 replace c2:=NK c2
 try simp only [ag8,ag6,ag_,ag0,aC] at c2
 rcases af H with ⟨q_8,H⟩|⟨q_8,H⟩
 ·cases H
  exact aD
 obtain ⟨r_9,c3,H⟩:=bd_ H
 replace c3:=NK c3
 rcases af H with ⟨q_10,H⟩|⟨q_10,H⟩
 ·cases H
  exact aD
 obtain ⟨r_11,c4,H⟩:=bd_ H
 replace c4:=Ut c4
 try simp only [ag8,ag6,ag_,ag0,aC] at c4
 rcases af H with ⟨q_12,H⟩|⟨q_12,H⟩
 ·cases H
  exact aD
 rcases af H with ⟨q_13,H⟩|⟨q_13,H⟩
 ·cases H
  exact aD
 refine bF ?_
 refine alM_ (fun s:Int=>match s with|i_14=>[(2, .one (.ptr 0 0)),(3, .one (.ptr 1 0)),(5, .one (.c (.int .i64 i_14)))]) (fun s=>match s with|i_14=>[.box [.c (.lst (a_r.kinds.map (fun x=>[AC.int .i64 x]))), .c (.lst (a_r.facts.map aJ))], .box [.c (.int .i64 a_w.pred.op), .c (.int .i64 a_w.pred.int), .c (.int .i64 a_w.pred.v.kind), .c (.int .i64 a_w.pred.v.int), .c (.str a_w.pred.v.text), .c (.str a_w.pred.nm), .c (.lst (a_w.pred.args.map tE)), .c (.lst (a_w.sets.map tE)), .c (.lst (a_w.rows.map (fun x=>[AC.lst (x.map cV)]))), .c (.int .i64 a_w.during.lo), .c (.int .i64 a_w.during.hi)]]) H (fun _=>ahe _)
  (fm_ dh [] rfl bH dw) ?_
 rintro i_14 st1 hb1 hk1
 unfold o7 at hb1
 dsimp only at hb1 ⊢
 rcases af hb1 with ⟨q_15,hb1⟩|⟨q_15,hb1⟩
 ·obtain ⟨x_16,i5z,i5,i5x,hb1⟩:=aY (f:=(fun x=>[AC.lst (x.map cV)])) hb1
  obtain ⟨r_17,c6,hb1⟩:=bd_ hb1
  replace c6:=MG c6
  rcases af hb1 with ⟨q_18,hb1⟩|⟨q_18,hb1⟩
  ·cases hb1
   have hx1:lY a_r a_w (.inr false)=some _:=hk1
   unfold lY at hx1
   dsimp only at hx1
   cases hx1
   exact aD
  cases hb1
  refine bF ?_
  exact ⟨_,rfl,fm_ dh [] rfl bH dw⟩
 cases hb1
 have hx1:lY a_r a_w (.inl i_14)=some _:=hk1
 unfold lY at hx1
 dsimp only at hx1
 refine bF ?_
 refine alM_ (fun s:Int=>match s with|i_19=>[(2, .one (.ptr 0 0)),(3, .one (.ptr 1 0)),(6, .one (.c (.int .i64 i_19)))]) (fun s=>match s with|i_19=>[.box [.c (.lst (a_r.kinds.map (fun x=>[AC.int .i64 x]))), .c (.lst (a_r.facts.map aJ))], .box [.c (.int .i64 a_w.pred.op), .c (.int .i64 a_w.pred.int), .c (.int .i64 a_w.pred.v.kind), .c (.int .i64 a_w.pred.v.int), .c (.str a_w.pred.v.text), .c (.str a_w.pred.nm), .c (.lst (a_w.pred.args.map tE)), .c (.lst (a_w.sets.map tE)), .c (.lst (a_w.rows.map (fun x=>[AC.lst (x.map cV)]))), .c (.int .i64 a_w.during.lo), .c (.int .i64 a_w.during.hi)]]) hx1 (fun _=>ahe _)
  (fm_ dh [] rfl bH dw) ?_
 rintro i_19 st2 hb2 hk2
 unfold oI at hb2
 dsimp only at hb2 ⊢
 rcases af hb2 with ⟨q_20,hb2⟩|⟨q_20,hb2⟩
 ·obtain ⟨x_21,i7z,i7,i7x,hb2⟩:=aY (f:=tE) hb2
  simp only [ag8,ag6,ag_,ag0,aC] at i7x
  obtain ⟨r_22,c8,hb2⟩:=bd_ hb2
  replace c8:=Na c8
  try simp only [ag8,ag6,ag_,ag0,aC] at c8
  rcases af hb2 with ⟨q_23,hb2⟩|⟨q_23,hb2⟩
  ·cases hb2
   have hx2:o_ (.inr false)=some _:=hk2
   unfold o_ at hx2
   dsimp only at hx2
   cases hx2
   exact aD
  cases hb2
  refine bF ?_
  exact ⟨_,rfl,fm_ dh [] rfl bH dw⟩
 cases hb2
 have hx2:o_ (.inl i_19)=some _:=hk2
 unfold o_ at hx2
 dsimp only at hx2
 cases hx2
 exact aD
end
theorem QR {α ρ:Type} {l:List α} {body:Int->Option (Step Int ρ)} {no:ρ} (c:α->Bool) (h1 : ∀ (i:Nat) x,l[i]?=some x->body (i:Int)=some (if c x=true then .next ((i+1:Nat):Int) else .ret no)) (h2:body ((l.length:Nat):Int)=some (.exit ((l.length:Nat):Int))) (hl:l.length<fuel) :
  ax body fuel (0:Int)=some (if l.all c=true then .inl ((l.length:Nat):Int) else .inr no):=by
 have key : ∀ (n i:Nat),i<=l.length->l.length-i<n->ax body n (i:Int)=some (if (l.drop i).all c=true then .inl ((l.length:Nat):Int) else .inr no):=by
  intro n
  induction n with
  | zero=>intro i _ h;omega
  | succ n ih =>
   intro i hi hn
   rw [ax]
   by_cases hlt:i<l.length
   ·obtain ⟨x,hx⟩:=gol_ hlt
    have e1:=(agV.1 hx).2
    rw [ahp hlt,e1,h1 i x hx,List.all_cons]
    cases hc:c x with
    | false=>rfl
    | true =>
     show ax body n _=_
     rw [ih (i+1) (by omega) (by omega),ahr]
   ·have:i=l.length:=by omega
    subst this
    rw [h2,ahO]
    rfl
 have:=key fuel 0 (ahe _) (by omega)
 simpa using this
theorem Ph (a b:Int):CY a b=max a b:=by unfold CY;split<;>omega
theorem OO (a b:Int):Mg a b=min a b:=by unfold Mg;split<;>omega
theorem WB (p q:aI):K6 p q=some (BL p q):=by
 unfold K6 BL
 rw [Bj,agU]
 cases aL p with
 | false=>rfl
 | true =>
  rw [agX,Bj,agU,ahr]
  cases aL q with
  | false=>rfl
  | true =>
   rw [agX,ahr]
   by_cases h:p.lo<q.hi
   ·rw [agZ h,agX,ahr]
   ·rw [agY h];rfl
theorem EZ (p q:aI):BD p q=some (BL p q):=by
 unfold BD BL
 rw [eH,agU]
 cases aL p with
 | false=>rfl
 | true =>
  rw [agX,eH,agU,ahr]
  cases aL q with
  | false=>rfl
  | true =>
   rw [agX,ahr]
   by_cases h:p.lo<q.hi
   ·rw [agZ h,agX,ahr]
   ·rw [agY h];rfl
theorem JZ (p q:aI):rU p q=some (if BL p q=true then (Ay p q,true) else (⟨0,0⟩,false)):=by
 unfold rU
 rw [WB,agU]
 cases BL p q with
 | false=>rfl
 | true=>rw [Ph,OO];rfl
theorem UN (p q:aI):Dj p q=some (if BL p q=true then (Ay p q,true) else (⟨0,0⟩,false)):=by
 unfold Dj
 rw [EZ,agU]
 cases BL p q with
 | false=>rfl
 | true=>rw [Ph,OO];rfl
theorem MK (p:aI):aL p=decide (0<=p.lo/\p.lo<p.hi/\p.hi<=1099511627776):=by
 refine Jm ?_
 rw [fe,decide_eq_true_iff]
theorem Wq (p:aI) (c:aI × Bool):(ax (xW p c) fuel ([],(0:Int))).bind yY=some (([⟨p.lo,c.1.lo⟩,⟨c.1.hi,p.hi⟩]:List aI).filter fun x=>aL x):=by
 rw [df (l:=([⟨p.lo,c.1.lo⟩,⟨c.1.hi,p.hi⟩]:List aI)) (fun x=>if aL x=true then [id x] else []) 8796093022208 ?_ ?_ (by unfold fuel;simp) [] (by rw [ja aL id,ag7];have:=List.length_filter_le aL ([⟨p.lo,c.1.lo⟩,⟨c.1.hi,p.hi⟩]:List aI);simp only [ahf,aho] at this ⊢;omega)]
 ·rw [agU,ag0,ja aL id,List.map_id];rfl
 ·intro s i x hx hs
  have hi:i<2:=(agV.1 hx).1
  have hz:dL [.c (.int .i64 x.lo), .c (.int .i64 x.hi)] [.c (.int .i64 (0:Int)), .c (.int .i64 (0:Int))]=decide (x.lo=0/\x.hi=0):=dV x ⟨0,0⟩
  unfold xW
  dsimp only
  rw [agZ (show (i:Int)<2 by omega),agX,gn_ hx,agU,hz,wrapN (by omega)]
  by_cases h0:x.lo=0/\x.hi=0
  ·have hn:aL x=false:=by
    cases h:aL x with
    | false=>rfl
    | true=>have:=(fe x).1 h;omega
   rw [agZ h0,hn,if_neg (by intro q;cases q),ahs];rfl
  ·rw [agY h0]
   show ((UI x).bind _)=_
   rw [Bj,agU]
   cases h:aL x with
   | false=>rw [if_neg (by intro q;cases q),ahs];rfl
   | true =>
    rw [h] at hs
    rw [agZ (show s.length+1<=8796093022208 from hs)];rfl
 ·intro s;rfl
theorem RN {p q:aI} (h:BL p q=true):xP p (Ay p q)=some (EF p q):=by
 obtain ⟨hp,hq,h1,h2⟩:=(Aq p q).1 h
 have hp':=(fe p).1 hp
 have hq':=(fe q).1 hq
 have ho:BL p (Ay p q)=true:=(Aq _ _).2 ⟨hp,(fe _).2 (by show 0<=max p.lo q.lo/\max p.lo q.lo<min p.hi q.hi/\min p.hi q.hi<=_;omega),by show p.lo<min p.hi q.hi;omega,by show max p.lo q.lo<p.hi;omega⟩
 unfold xP
 rw [Bj,agU,hp,JZ,ho]
 show (ax (xW p (Ay p (Ay p q),true)) fuel ([],(0:Int))).bind yY=_
 rw [Wq]
 show some (List.filter (fun x=>aL x) [⟨p.lo,max p.lo (max p.lo q.lo)⟩,⟨min p.hi (min p.hi q.hi),p.hi⟩])=_
 rw [show max p.lo (max p.lo q.lo)=max p.lo q.lo by omega,show min p.hi (min p.hi q.hi)=min p.hi q.hi by omega]
 unfold EF
 rw [List.filter_cons,List.filter_cons,List.filter_nil,MK,MK]
 dsimp only
 by_cases ha:p.lo<q.lo
 ·rw [if_pos ha,if_pos (by rw [decide_eq_true_iff];omega),show max p.lo q.lo=q.lo by omega]
  by_cases hb:q.hi<p.hi
  ·rw [if_pos hb,if_pos (by rw [decide_eq_true_iff];omega),show min p.hi q.hi=q.hi by omega];rfl
  ·rw [if_neg hb,if_neg (by rw [decide_eq_true_iff];omega)];rfl
 ·rw [if_neg ha,if_neg (by rw [decide_eq_true_iff];omega)]
  by_cases hb:q.hi<p.hi
  ·rw [if_pos hb,if_pos (by rw [decide_eq_true_iff];omega),show min p.hi q.hi=q.hi by omega];rfl
  ·rw [if_neg hb,if_neg (by rw [decide_eq_true_iff];omega)];rfl
theorem XO {p q:aI} (h:BL p q=true):KU p q=some (EF p q):=by
 obtain ⟨hp,hq,h1,h2⟩:=(Aq p q).1 h
 unfold KU EF
 rw [eH,agU,hp,EZ,agU,h]
 by_cases ha:p.lo<q.lo
 ·rw [agZ ha,if_pos ha]
  by_cases hb:q.hi<p.hi
  ·rw [agZ hb,if_pos hb];rfl
  ·rw [agY hb,if_neg hb];rfl
 ·rw [agY ha,if_neg ha]
  by_cases hb:q.hi<p.hi
  ·rw [agZ hb,if_pos hb];rfl
  ·rw [agY hb,if_neg hb];rfl
theorem dK {α β:Type} (f:α->β) : ∀ l:List α,(l.flatMap fun x=>[f x])=l.map f:=fo_ f
theorem iU (row:List Val) (l:List aI) (hl:l.length<=1000000):bu row l=some (mW row l):=by
 unfold bu
 rw [df (l:=l) (fun x=>[(⟨row,x⟩:aj)]) 3518437208883 ?_ ?_ (by unfold fuel;omega) [] (by rw [dK,ag7];simp only [aho];omega)]
 ·rw [agU,ag0,dK];rfl
 ·intro s i x hx hs
  have hi:=(agV.1 hx).1
  unfold dQ
  dsimp only
  rw [aV hx,agX,gn_ hx,agU,wrapN (by omega),agZ (show s.length+1<=3518437208883 from hs)];rfl
 ·intro s
  unfold dQ
  dsimp only
  rw [lF_,agW]
theorem BR {e:Ex} (he:fH fuel e) (f:aj) (p:aI):eX f e p=some (if BL f.valid p=true then (Ay f.valid p,oZ e f.row) else (⟨0,0⟩,false)):=by
 unfold eX
 rw [JZ,agU]
 cases BL f.valid p with
 | false=>rfl
 | true =>
  rw [if_pos rfl,if_pos rfl,UB he];rfl
theorem Di (f:aj):mW f.row [f.valid]=[f]:=rfl
theorem N9 (p q:aI):(EF p q).length<=2:=by
 unfold EF
 rw [ag3]
 split<;>split<;>simp
theorem EB {l:List aj} {a:aj->Option (List aj)} (g:aj->List aj) (k:Nat) (ha : ∀ f∈l,a f=some (g f)) (hk : ∀ f,(g f).length<=k) (hl:k*l.length<=1000000) (hn:l.length<=1000000):nJ l a=some (l.flatMap g):=by
 unfold nJ
 have hL:=bv g k hk l
 rw [df (l:=l) g 3518437208883 ?_ ?_ (by unfold fuel;omega) [] (by simp only [aho];omega)]
 ·rw [agU,ag0];rfl
 ·intro s i x hx hs
  have hi:=(agV.1 hx).1
  have hm:x∈l:=ag1 hx
  unfold jf
  dsimp only
  rw [aV hx,agX,gn_ hx,agU,ha x hm,agU,wrapN (by omega),agZ hs];rfl
 ·intro s
  unfold jf
  dsimp only
  rw [lF_,agW]
end Go.Proofs.YtcehmafobkhdbaaGreatDoor
namespace Go.Proofs.YtcehmafobkhdbaaGreatDoor.Aw
open Go.RowKit Go.MapKept
def OG:List (List AC)->Option (List Stp)
 | []=>some []
 | [.int .i64 a, .int .i64 b]::l=>match OG l with
  | some r=>some (⟨a,b⟩::r)
  | none=>none
 | _=>none
theorem MO : ∀ {es:List (List AC)} {l:List Stp}, OG es=some l->es=l.map y8
 | [],l,h=>by cases h;rfl
 | e::es,l,h=>by
  unfold OG at h
  split at h
  ·rename_i hq;cases hq
  ·rename_i a b es' heq
   obtain ⟨rfl,rfl⟩:=List.cons.inj heq
   split at h
   ·rename_i r hr
    cases h
    rw [ag6, <- MO hr];rfl
   ·cases h
  ·cases h
def VJ:List Stp->Bool
 | []=>true
 | x::l=>(l.all fun y=>decide (x.lo<y.lo))&&VJ l
def S9 (l:List Stp):Bool:=decide (l.length<=1000)&&(VJ l&&l.all fun s=>decide (s.lo<1099511627776)&&decide (s.n<=600))
theorem Sk : ∀ {l:List Stp}, VJ l=true->l.Pairwise fun x y=>x.lo<y.lo
 | [],_=>List.Pairwise.nil
 | x::l,h=>by
  unfold VJ at h
  rw [ahb,ahI] at h
  exact ahP.2 ⟨fun y hy=>ahm (h.1 y hy),Sk h.2⟩
theorem C_ {l:List Stp} (h:S9 l=true):Ng l:=by
 unfold S9 at h
 rw [ahb,ahb,ahI] at h
 obtain ⟨h1,h2,h3⟩:=h
 refine ⟨ahm h1,?_,fun s hs=>?_,fun s hs=>?_⟩
 ·intro i j x y hij hx hy
  rw [ahg] at hx hy
  obtain ⟨a,ha,rfl⟩:=Option.map_eq_some_iff.1 hx
  obtain ⟨b,hb,rfl⟩:=Option.map_eq_some_iff.1 hy
  obtain ⟨hi,ea⟩:=agV.1 ha
  obtain ⟨hj,eb⟩:=agV.1 hb
  have:=List.pairwise_iff_getElem.1 (Sk h2) i j hi hj hij
  rw [ea,eb] at this
  exact this
 ·have:=h3 s hs;rw [ahb] at this;exact ahm this.1
 ·have:=h3 s hs;rw [ahb] at this;exact ahm this.2
def aaa:FuncId->List PV->Option CV:=fun g ps=>match Nat.beq g 70,ps with
 | true,[.one (.lst es)]=>match OG es with
  | some l=>match S9 l with
   | true=>some (.val (.one (.lst ((EC l).map bE))))
   | false=>none
  | none=>none
 | _,_=>none
theorem abR (g:FuncId) (ps:List PV) (r:CV) (h:aaa g ps=some r):Pure Tryz.prog g ps r:=by
 unfold aaa at h
 split at h
 ·rename_i es hg
  split at h
  ·rename_i l hl
   split at h
   ·rename_i hb
    cases h
    rw [Nat.eq_of_beq_eq_true hg,MO hl]
    exact R4 l (C_ hb)
   ·cases h
  ·cases h
 ·cases h
noncomputable def cx:Cx := { P:=Tryz.prog,ti:=WK,xs:=⟨211,218⟩,row:=afw,frz:=afD,flg:=aeP,orc:=aaa,bad:=ae_,fz:=fzT }
theorem YX:ZN Tryz.prog 211:=⟨_,Tryz.func211,by kernel_rfl,by kernel_rfl,by kernel_rfl,by kernel_rfl⟩
theorem aaG:adu Tryz.prog 218:=⟨_,Tryz.func218,by kernel_rfl,by kernel_rfl,by kernel_rfl,by kernel_rfl⟩
theorem JR:Cr Tryz.prog.funcs.toList=true:=by kernel_rfl
theorem I8:Cw cx Tryz.prog.funcs.toList 0=true:=by kernel_rfl
theorem Vv:I1 cx:=I1.of ay ⟨YX,aaG⟩ mixed JR I8 (abR)
theorem WX:(evF cx 64).1 10 []=some (.val (.one (.bool true))):=by kernel_rfl
theorem dD:Pure Tryz.prog 10 [] (.val (.one (.bool true))):=(Ci Vv 64).1 _ _ _ WX
end Go.Proofs.YtcehmafobkhdbaaGreatDoor.Aw
namespace Go.Proofs.YtcehmafobkhdbaaGreatDoor
open Go.RowKit Go.MapKept
set_option maxRecDepth 100000
set_option maxHeartbeats 8000000
set_option maxHeartbeats 8000000
set_option maxHeartbeats 8000000
theorem YC (e:Ex) (row:List Val):decide (tF_ (Em e row)≠2) = !(oZ e row):=by
 unfold oZ
 by_cases h:tF_ (Em e row)=2
 ·rw [agZ h];simp [h]
 ·rw [agY h];simp [h]
theorem aa5 {l:List aj} {e:Ex} {p:aI} (he:fH fuel e) (hl:l.length<=1000) : ∀ (n i:Nat) (a b:List aj),i<=l.length->l.length-i<n->a.length<=2*i->b.length<=i->ax (iD l e p) n (a,b,(i:Int))=some (.inl (a++(l.drop i).flatMap (iO e p),b++(l.drop i).flatMap (oH e p),((l.length:Nat):Int))):=by
 intro n
 induction n with
 | zero=>intro i a b _ h;omega
 | succ n ih =>
  intro i a b hi hn ha hb
  rw [ax]
  by_cases hlt:i<l.length
  ·obtain ⟨x,hx⟩:=gol_ hlt
   have e1:=(agV.1 hx).2
   rw [ahp hlt,e1,ahw,ahw]
   have hstep:iD l e p (a,b,(i:Int))=some (.next (a++iO e p x,b++oH e p x,((i+1:Nat):Int))):=by
    unfold iD
    dsimp only
    rw [aV hx,agX,gn_ hx,agU,UN,agU,wrapN (by omega)]
    unfold iO oH Ej
    cases ho:BL x.valid p with
    | false =>
     rw [if_neg (by intro q;cases q),Bool.false_and,if_neg (by intro q;cases q),if_neg (by intro q;cases q),ahs]
     rw [agZ (show a.length+1<=3518437208883 by omega)];rfl
    | true =>
     rw [if_pos rfl,ahr]
     show ((l8 e x.row).bind _)=_
     rw [Da he,agU,YC]
     cases hs:oZ e x.row with
     | false =>
      rw [if_neg (by intro q;cases q),if_neg (by intro q;cases q),ahs,agZ (show a.length+1<=3518437208883 by omega)];rfl
     | true =>
      have hc:=N9 x.valid p
      rw [if_pos rfl,if_pos rfl,agZ (show b.length+1<=3518437208883 by omega),XO ho]
      show ((wL x.row (EF x.valid p)).bind _)=_
      rw [Jq _ _ (by omega),agU]
      rw [agZ (show a.length+((EF x.valid p).map fun q=>(⟨x.row,q⟩:aj)).length<=3518437208883 by rw [ag7];omega)];rfl
   rw [hstep]
   show ax _ n _=_
   rw [ih (i+1) _ _ (by omega) (by omega) (by rw [ag3];have:=gV e p x;omega) (by rw [ag3];have:=wO e p x;omega),ahk,ahk]
  ·have:i=l.length:=by omega
   subst this
   unfold iD
   dsimp only
   rw [lF_,agW,ahO]
   simp
theorem yF {l:List aj} {e:Ex} (he:fH fuel e) (hl:l.length<=1000) (p:aI):mF l e p=some (l.flatMap (iO e p),l.flatMap (oH e p)):=by
 have k:=aa5 (p:=p) he hl fuel 0 [] [] (ahe _) (by unfold fuel;omega) (by simp) (by simp)
 rw [List.drop_zero] at k
 unfold mF
 show (ax (iD l e p) fuel ([],[],((0:Nat):Int))).bind _=_
 rw [k];rfl
structure V7 (r:dA) (w:cO):Prop where
 rel:VH r
 rows:w.rows.length<=16
 row : ∀ x∈w.rows,x.length<=20 /\ ∀ v∈x,vF v=true
 sets:w.sets.length<=20
 set : ∀ e∈w.sets,fH fuel e
 pred:fH fuel w.pred
theorem aay {α:Type} {P:α->Bool->Prop} (h : ∀ x, ∃ b,P x b) : ∃ c:α->Bool, ∀ x,P x (c x):=⟨fun x=>Classical.choose (h x),fun x=>Classical.choose_spec (h x)⟩
theorem kI (r:dA) (w:cO) : ∃ b,kS r w=some b/\(b=true->V7 r w):=by
 have no : ∃ b,(some false:Option Bool)=some b/\(b=true->V7 r w):=⟨false,rfl,fun h=>by cases h⟩
 unfold kS
 by_cases h1:(16:Int)<((r.facts.length:Nat):Int)
 ·rw [agZ h1,agX];exact no
 rw [agY h1,agW]
 by_cases h2:(16:Int)<((w.rows.length:Nat):Int)
 ·rw [agZ h2,agX];exact no
 rw [agY h2,agW]
 by_cases h3:(20:Int)<((w.sets.length:Nat):Int)
 ·rw [agZ h3,agX];exact no
 rw [agY h3,agW]
 by_cases h4:(20:Int)<((r.kinds.length:Nat):Int)
 ·rw [agZ h4,agX];exact no
 rw [agY h4,agW]
 obtain ⟨b5,hb5,ok5⟩:=KD (r:=r) (by omega) (by omega)
 rw [hb5,agU]
 cases b5 with
 | false=>exact no
 | true =>
  obtain ⟨s1,s2,s3⟩:=ok5 rfl
  rw [Bool.not_true,agW]
  obtain ⟨b6,hb6,ok6⟩:=MN [w.pred]
  rw [hb6,agU]
  cases b6 with
  | false=>exact no
  | true =>
   have hp:=MP ((ok6 rfl).2 w.pred (by simp))
   rw [Bool.not_true,agW]
   obtain ⟨b7,hb7,ok7⟩:=MN w.sets
   rw [hb7,agU]
   cases b7 with
   | false=>exact no
   | true =>
    have hs : ∀ e∈w.sets,fH fuel e:=fun e he=>MP ((ok7 rfl).2 e he)
    rw [Bool.not_true,agW]
    obtain ⟨m,hm⟩:=UO r.kinds hp
    rw [hm,agU]
    by_cases h8:m≠0
    ·rw [agZ h8,agX];exact no
    rw [agY h8,agW]
    by_cases h9:((w.sets.length:Nat):Int)=0
    ·rw [agZ h9,agX];exact no
    rw [agY h9,agW]
    obtain ⟨c,hc⟩:=aay fun x:List Val=>KV (row:=x) (kinds:=r.kinds) (by omega)
    rw [QR (l:=w.rows) (body:=o7 r w) (no:=false) c ?_ ?_ (by unfold fuel;omega),agU]
    ·cases hall:w.rows.all c with
     | false=>exact no
     | true =>
      rw [if_pos rfl]
      unfold lY
      dsimp only
      rw [QR (l:=w.sets) (body:=oI r w) (no:=false) (fun e=>decide ((Az e r.kinds).2=0)) ?_ ?_ (by unfold fuel;omega),agU]
      ·refine ⟨w.sets.all fun e=>decide ((Az e r.kinds).2=0),?_,fun _=>⟨⟨by omega,by omega,s1,s2,s3⟩,by omega,?_,by omega,hs,hp⟩⟩
       ·split<;>rename_i hq
        ·rw [hq];rfl
        ·rw [Bool.not_eq_true] at hq;rw [hq];rfl
       ·intro x hx
        have:=(hc x).2 (ahI.1 hall x hx)
        exact ⟨by omega,this.2⟩
      ·intro i x hx
       have hi:=(agV.1 hx).1
       unfold oI
       dsimp only
       rw [aV hx,agX,gn_ hx,agU,(ZZ r.kinds (hs x (ag1 hx))).1,agU,wrapN (by omega)]
       by_cases hz:(Az x r.kinds).2=0
       ·simp [hz]
       ·simp [hz]
      ·unfold oI
       dsimp only
       rw [lF_,agW]
    ·intro i x hx
     have hi:=(agV.1 hx).1
     unfold o7
     dsimp only
     rw [aV hx,agX,gn_ hx,agU,(hc x).1,agU,wrapN (by omega)]
     cases c x<;>rfl
    ·unfold o7
     dsimp only
     rw [lF_,agW]
theorem V7.ins {r:dA} {w:cO} (H:V7 r w) {l:List aj} (h:bM l) (hl:l.length<=200) (p:aI):bM (l++mo w.rows p):=by
 refine ⟨?_,?_⟩
 ·have:=H.rows
  unfold mo
  rw [ag3,ag7];omega
 ·intro f hf
  rcases ahl.1 hf with hf|hf
  ·exact h.2 f hf
  ·unfold mo at hf
   obtain ⟨x,hx,rfl⟩:=aht.1 hf
   have:=H.row x hx
   exact ⟨by have:=this.1;show x.length<=1000;omega,fun v hv=>(xL (this.2 v hv)).vok⟩
set_option maxHeartbeats 8000000
noncomputable section
def oh (a_r:dA) (a_w:cO):Option (Bool):=(kS a_r a_w).bind fun r_1=>bif (!r_1) then some (true) else
 (qa a_r.facts a_w.pred a_w.sets a_w.during).bind fun r_4=>(Io a_r.facts a_w.pred a_w.sets a_w.during).bind fun r_5=>(kM r_4 r_5).bind fun r_6=>bif r_6 then some (true) else
 some false
theorem EK {a_r:dA} {a_w:cO} {r:Bool} (H:oh a_r a_w=some r):Pure Tryz.prog 5 [.agg (tL a_r), .agg (iB a_w)] (.val (.one (.bool r))):=by
 unfold oh at H
 refine po_ Tryz.func5 Tryz.ntmps5 ?_
 obtain ⟨r_1,c1,H⟩:=bd_ H
 replace c1:=mf c1
 rcases af H with ⟨q_2,H⟩|⟨q_2,H⟩
 ·have hc_3:=Aw.dD
  try simp only [ag8,ag6,ag_,ag0,aC] at hc_3
  cases H
  exact aD
 obtain ⟨r_4,c2,H⟩:=bd_ H
 replace c2:=qK c2
 try simp only [ag8,ag6,ag_,ag0,aC] at c2
 obtain ⟨r_5,c3,H⟩:=bd_ H
 replace c3:=XF c3
 try simp only [ag8,ag6,ag_,ag0,aC] at c3
 obtain ⟨r_6,c4,H⟩:=bd_ H
 replace c4:=jm c4
 rcases af H with ⟨q_7,H⟩|⟨q_7,H⟩
 ·have hc_8:=Aw.dD
  try simp only [ag8,ag6,ag_,ag0,aC] at hc_8
  cases H
  exact aD
 cases H
 exact aD
end
set_option maxHeartbeats 8000000
set_option maxHeartbeats 8000000
theorem XD {l:List Ex} {a:Ex->Option (List Val)} (g:Ex->Val) (ha : ∀ f∈l,a f=some [g f]) (hn:l.length<=1000000):mr l a=some (l.map g):=by
 unfold mr
 rw [df (l:=l) (fun x=>[g x]) 4398046511104 ?_ ?_ (by unfold fuel;omega) [] (by rw [dK,ag7];simp only [aho];omega)]
 ·rw [agU,ag0,dK];rfl
 ·intro s i x hx hs
  have hi:=(agV.1 hx).1
  have hm:x∈l:=ag1 hx
  unfold jg
  dsimp only
  rw [aV hx,agX,gn_ hx,agU,ha x hm,agU,wrapN (by omega),agZ hs];rfl
 ·intro s
  unfold jg
  dsimp only
  rw [lF_,agW]
theorem P6 {e:Ex} (he:fH fuel e) {s:List Ex} (hs:s.length<=1000) (hse : ∀ x∈s,fH fuel x) (f:aj) (p:aI):jP f e p s=some (Bt e s p f):=by
 unfold jP Bt iO D5 Ej
 rw [BR he,agU]
 cases ho:BL f.valid p with
 | false =>
  rw [if_neg (by intro x;cases x),Bool.false_and,if_neg (by intro x;cases x),if_neg (by intro x;cases x),ahs]
  show (bu f.row [f.valid]).bind _=_
  rw [iU _ _ (by simp),Di];rfl
 | true =>
  rw [if_pos rfl,ahr]
  cases hq:oZ e f.row with
  | false =>
   rw [if_neg (by intro x;cases x),if_neg (by intro x;cases x),ahs]
   show (bu f.row [f.valid]).bind _=_
   rw [iU _ _ (by simp),Di];rfl
  | true =>
   have hc:=N9 f.valid p
   rw [if_pos rfl,if_pos rfl]
   show ((mr s fun x0=>eZ x0 f).bind _)=_
   rw [XD (fun x=>Em x f.row) (fun x hx=>by unfold eZ;rw [(val_ok (hse x hx) f.row).2.1];rfl) (by omega),agU]
   show ((xP f.valid (Ay f.valid p)).bind _)=_
   have hd:(mW f.row (EF f.valid p)).length+(mW (s.map fun x=>Em x f.row) [Ay f.valid p]).length<=3518437208883:=by
    unfold mW
    rw [ag7,ag7]
    simp only [ahf,aho]
    omega
   rw [RN ho,agU,iU _ _ (by omega),agU]
   show ((bu (s.map fun x=>Em x f.row) [Ay f.valid p]).bind _)=_
   rw [iU _ _ (by simp),agU,agZ hd];rfl
theorem Es {l:List aj} (h:bM l) (hn:l.length<=100) (e:Ex) {s:List Ex} (hs:s.length<=1000) (hse : ∀ x∈s,fH fuel x) (p:aI):bM (l.flatMap (Bt e s p)):=by
 refine VE (by have:=bv _ 3 (rZ e s p) l;omega) fun x hx=>?_
 obtain ⟨f,hf,hx⟩:=List.mem_flatMap.1 hx
 rcases ahl.1 (show x∈iO e p f++D5 e s p f from hx) with hx|hx
 ·rw [Vi hx];exact h.2 f hf
 ·rw [VU hx];exact Oq hs hse f.row
theorem rH {l:List aj} (h:bM l) (hn:l.length<=100) {e:Ex} (he:fH fuel e) {s:List Ex} (hs:s.length<=1000) (hse : ∀ x∈s,fH fuel x) (p:aI):qa l e s p=some (canon (l.flatMap (Bt e s p))):=by
 unfold qa
 rw [EB (Bt e s p) 3 (fun f _=>P6 he hs hse f p) (rZ e s p) (by omega) (by omega),agU,qY (Es h hn e hs hse p)];rfl
theorem acn (e:Ex) (s:List Ex) (p:aI) (l:List aj):(l.flatMap (oH e p)).map (fun x=>(⟨qB s x.row,x.valid⟩:aj))=l.flatMap (D5 e s p):=by
 rw [List.map_flatMap]
 congr 1;funext f
 unfold oH D5
 split<;>rfl
theorem Xy {l:List aj} (h:bM l) (hn:l.length<=100) {e:Ex} (he:fH fuel e) {s:List Ex} (hs:s.length<=1000) (hse : ∀ x∈s,fH fuel x) (p:aI):Io l e s p=some (canon (l.flatMap (Bt e s p))):=by
 have h1:=bv _ 2 (gV e p) l
 have h3:=bv _ 1 (wO e p) l
 have h4:=bv _ 1 (GQ e s p) l
 unfold Io
 rw [yF he (by omega),agU]
 show (ax (um s (l.flatMap (iO e p),l.flatMap (oH e p))) fuel (l.flatMap (iO e p),(0:Int))).bind _=_
 rw [df (l:=l.flatMap (oH e p)) (fun x=>[(⟨qB s x.row,x.valid⟩:aj)]) 3518437208883 ?_ ?_ (by unfold fuel;omega) _ (by rw [dK,ag7];omega)]
 ·rw [agU,dK]
  unfold zU
  dsimp only
  rw [acn,iK (Jw (o9 h hn e p) (Y1 hn e hs hse p) (by omega)),WJ hn e s p];rfl
 ·intro a i x hx hq
  have hi:=(agV.1 hx).1
  unfold um
  dsimp only
  rw [aV hx,agX,gn_ hx,agU,Cf (by omega) hse,agU,wrapN (by omega),agZ (show a.length+1<=3518437208883 from hq)];rfl
 ·intro a
  unfold um
  dsimp only
  rw [lF_,agW]
theorem BS (r:dA) (w:cO):oh r w=some true:=by
 obtain ⟨b,hb,hok⟩:=kI r w
 unfold oh
 rw [hb,agU]
 cases b with
 | false=>rfl
 | true =>
  have H:=hok rfl
  have hF:=H.rel.fcts
  have hn:r.facts.length<=100:=by have:=H.rel.len;omega
  have hs:w.sets.length<=1000:=by have:=H.sets;omega
  rw [Bool.not_true,agW,rH hF hn H.pred hs H.set,agU,Xy hF hn H.pred hs H.set,agU,d9 (bW (Es hF hn w.pred hs H.set w.during))];rfl
theorem CL {r:dA} {w:cO} (q0:uj r) (q1:kw w):Pure Tryz.prog 5 [.agg (tL r), .agg (iB w)] (.val (.one (.bool true))):=EK (BS r w)
end Go.Proofs.YtcehmafobkhdbaaGreatDoor
