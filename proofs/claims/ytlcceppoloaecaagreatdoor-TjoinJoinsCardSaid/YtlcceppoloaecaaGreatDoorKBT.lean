/- Parts of the proof, joined. No condition. -/
import Derived.Test.YtlcceppoloaecaaGreatDoorKAA
import Derived.Test.YtlcceppoloaecaaGreatDoorKBS
import Derived.Test.YtlcceppoloaecaaGreatDoorKAI
import Derived.Test.YtlcceppoloaecaaGreatDoorKBJ
import Derived.Test.YtlcceppoloaecaaGreatDoorKBG
import Derived.Test.YtlcceppoloaecaaGreatDoorKBH
set_option linter.unusedSimpArgs false
set_option linter.unusedVariables false
namespace Go.Proofs.YtlcceppoloaecaaGreatDoor
open Go.RowKit Go.MapKept
abbrev E3:=Int × Int × Int
def z_:List aP->Bool->List E3
 | [],_=>[]
 | p::l,f=>(bif aD p then (bif f then [(p.lo,1,0),(p.hi, -1,0)] else [(p.lo,0,1),(p.hi,0, -1)]) else [])++z_ l f
def BX (a b:List aP):List E3:=z_ a true++z_ b false
def iB (f:E3->Int):List E3->Int->Int
 | [],_=>0
 | e::l,t=>(if e.1<=t then f e else 0)+iB f l t
theorem kG (f:E3->Int) (t:Int) : ∀ l m:List E3,iB f (l++m) t=iB f l t+iB f m t
 | [],m=>by simp [iB]
 | e::l,m=>by rw [List.cons_append,iB,iB,kG f t l m];omega
theorem Ra (f:E3->Int) (t:Int) {l m:List E3} (h:l.Perm m):iB f l t=iB f m t:=by
 induction h with
 | nil=>rfl
 | cons e _ ih=>rw [iB,iB,ih]
 | swap e e' l=>simp only [iB];omega
 | trans _ _ h1 h2=>exact h1.trans h2
def KC (l:List aP) (t:Int):Int:=((l.countP fun p=>aD p&&KR p t:Nat):Int)
theorem Rq (l:List aP) (t:Int):decide (0<KC l t)=iq l t:=by
 unfold KC iq
 rw [Bool.eq_iff_iff,decide_eq_true_eq,List.any_eq_true]
 rw [show (0:Int)<((l.countP fun p=>aD p&&KR p t:Nat):Int)↔0<l.countP (fun p=>aD p&&KR p t) by omega,List.countP_pos_iff]
theorem Mx (t:Int) : ∀ l:List aP,iB (fun e=>e.2.1) (z_ l true) t=KC l t/\iB (fun e=>e.2.2) (z_ l true) t=0
 | []=>⟨rfl,rfl⟩
 | p::l=>by
  obtain ⟨h1,h2⟩:=Mx t l
  rw [z_,kG,kG,h1,h2]
  unfold KC
  rw [List.countP_cons]
  cases hp:aD p with
  | false=>simp [iB]
  | true =>
   have:=lh hp
   simp only [ap2,iB,aqx]
   have e:KR p t=true↔p.lo<=t/\t<p.hi:=jM p t
   by_cases h3:p.lo<=t<;>by_cases h4:p.hi<=t
   ·rw [if_pos h3,if_pos h4,if_neg (by rw [e];omega)];constructor<;>simp
   ·rw [if_pos h3,if_neg h4,if_pos (by rw [e];omega)];constructor<;>simp;omega
   ·omega
   ·rw [if_neg h3,if_neg h4,if_neg (by rw [e];omega)];constructor<;>simp
theorem PD (t:Int) : ∀ l:List aP,iB (fun e=>e.2.2) (z_ l false) t=KC l t/\iB (fun e=>e.2.1) (z_ l false) t=0
 | []=>⟨rfl,rfl⟩
 | p::l=>by
  obtain ⟨h1,h2⟩:=PD t l
  rw [z_,kG,kG,h1,h2]
  unfold KC
  rw [List.countP_cons]
  cases hp:aD p with
  | false=>simp [iB]
  | true =>
   have:=lh hp
   simp only [ap2,ap1,iB,aqx]
   have e:KR p t=true↔p.lo<=t/\t<p.hi:=jM p t
   by_cases h3:p.lo<=t<;>by_cases h4:p.hi<=t
   ·rw [if_pos h3,if_pos h4,if_neg (by rw [e];omega)];constructor<;>simp
   ·rw [if_pos h3,if_neg h4,if_pos (by rw [e];omega)];constructor<;>simp;omega
   ·omega
   ·rw [if_neg h3,if_neg h4,if_neg (by rw [e];omega)];constructor<;>simp
theorem Xj (a b:List aP) (t:Int):iB (fun e=>e.2.1) (BX a b) t=KC a t/\iB (fun e=>e.2.2) (BX a b) t=KC b t:=by
 unfold BX
 rw [kG,kG,(Mx t a).1,(Mx t a).2,(PD t b).1,(PD t b).2]
 omega
theorem Jd : ∀ (l:List aP) (f:Bool), ∀ e∈z_ l f,0<=e.1/\e.1<=1099511627776 /\ -1<=e.2.1/\e.2.1<=1 /\ -1<=e.2.2/\e.2.2<=1
 | [],_,e,h=>by cases h
 | p::l,f,e,h=>by
  rw [z_,aqr] at h
  rcases h with h|h
  ·cases hp:aD p with
   | false=>rw [hp] at h;cases h
   | true =>
    have:=lh hp
    rw [hp,ap2] at h
    cases f<;>simp at h<;>rcases h with rfl|rfl<;>simp<;>omega
  ·exact Jd l f e h
theorem Vu : ∀ (l:List aP) (f:Bool),(z_ l f).length<=2*l.length
 | [],_=>aqe _
 | p::l,f=>by
  have:=Vu l f
  rw [z_,ap8,aqk]
  cases aD p<;>cases f<;>simp<;>omega
theorem yT (a b:List aP) : ∀ e∈BX a b,0<=e.1/\e.1<=1099511627776 /\ -1<=e.2.1/\e.2.1<=1 /\ -1<=e.2.2/\e.2.2<=1:=fun e h=>by
 rcases aqr.1 h with h|h
 ·exact Jd a true e h
 ·exact Jd b false e h
theorem V4 (a b:List aP):(BX a b).length<=2*a.length+2*b.length:=by
 have h1:=Vu a true
 have h2:=Vu b false
 unfold BX
 rw [ap8];omega
def qP (at_:Int):List E3->Int->Int->List E3 × Int × Int
 | [],na,nb=>([],na,nb)
 | e::l,na,nb=>if e.1=at_ then qP at_ l (na+e.2.1) (nb+e.2.2) else (e::l,na,nb)
def qB:List E3->Int
 | []=>1099511627776
 | e::_=>e.1
def rH (l:List E3):Prop:=l.Pairwise fun x y=>x.1<=y.1
theorem L6 (at_:Int) : ∀ (l:List E3) (na nb:Int),rH l->(∀ e∈l,at_<=e.1) -> ∃ l' na' nb',qP at_ l na nb=(l',na',nb')/\rH l'/\(∀ e∈l',at_<e.1/\e∈l)/\l'.length<=l.length /\
  (∀ t,at_<=t->na+iB (fun e=>e.2.1) l t=na'+iB (fun e=>e.2.1) l' t/\nb+iB (fun e=>e.2.2) l t=nb'+iB (fun e=>e.2.2) l' t)
 | [],na,nb,_,_=>⟨[],na,nb,rfl,List.Pairwise.nil,fun e h=>(by cases h),aqe _,fun t _=>⟨rfl,rfl⟩⟩
 | e::l,na,nb,hs,hm=>by
  have hs':=aqV.1 hs
  rw [qP]
  by_cases he:e.1=at_
  ·rw [if_pos he]
   obtain ⟨l',na',nb',h1,h2,h3,h4,h5⟩:=L6 at_ l (na+e.2.1) (nb+e.2.2) hs'.2 fun x hx=>hm x (aqm _ hx)
   refine ⟨l',na',nb',h1,h2,fun x hx=>⟨(h3 x hx).1,aqm _ (h3 x hx).2⟩,by simp;omega,fun t ht=>?_⟩
   obtain ⟨q1,q2⟩:=h5 t ht
   simp only [iB]
   rw [if_pos (by omega),if_pos (by omega)]
   omega
  ·rw [if_neg he]
   have h0:=hm e (aqM ..)
   refine ⟨e::l,na,nb,rfl,hs,fun x hx=>⟨?_,hx⟩,aqe _,fun t _=>⟨rfl,rfl⟩⟩
   rcases aqf.1 hx with rfl|hx
   ·omega
   ·have:=hs'.1 x hx;omega
theorem Ju (f:E3->Int) (t:Int) : ∀ l:List E3,(∀ e∈l,t<e.1)->iB f l t=0
 | [],_=>rfl
 | e::l,h=>by
  rw [iB,if_neg (by have:=h e (aqM ..);omega),Ju f t l fun x hx=>h x (aqm _ hx)];rfl
def mq (keep:Bool->Bool->Bool):Nat->List E3->Int->Int->Int->List aP->List aP
 | 0,_,_,_,_,out=>out
 | n+1,l,at_,na,nb,out=>if at_<1099511627776 then
   let r:=qP at_ l na nb
   mq keep n r.1 (qB r.1) r.2.1 r.2.2 (if keep (decide (0<r.2.1)) (decide (0<r.2.2)) then yo out at_ (qB r.1) else out)
  else out
structure Tn (keep:Bool->Bool->Bool) (E l:List E3) (at_ na nb:Int) (out:List aP):Prop where
 srt:rH l
 low : ∀ e∈l,at_<=e.1/\e.1<=1099511627776
 zero:0<=at_/\at_<=1099511627776
 cnt : ∀ t,at_<=t->iB (fun e=>e.2.1) E t=na+iB (fun e=>e.2.1) l t/\iB (fun e=>e.2.2) E t=nb+iB (fun e=>e.2.2) l t
 span:dN out
 last : ∀ p∈out,p.hi<=at_
 ins : ∀ t,iq out t=((decide (0<=t)&&decide (t<at_))&&keep (decide (0<iB (fun e=>e.2.1) E t)) (decide (0<iB (fun e=>e.2.2) E t)))
theorem Tn.step {keep:Bool->Bool->Bool} {E l:List E3} {at_ na nb:Int} {out:List aP} (h:Tn keep E l at_ na nb out) (ha:at_<1099511627776) :
  Tn keep E (qP at_ l na nb).1 (qB (qP at_ l na nb).1) (qP at_ l na nb).2.1 (qP at_ l na nb).2.2 (if keep (decide (0<(qP at_ l na nb).2.1)) (decide (0<(qP at_ l na nb).2.2)) then yo out at_ (qB (qP at_ l na nb).1) else out) /\
  at_<qB (qP at_ l na nb).1:=by
 obtain ⟨l',na',nb',h1,h2,h3,h4,h5⟩:=L6 at_ l na nb h.srt fun e he=>(h.low e he).1
 rw [h1]
 simp only
 have hn:at_<qB l'/\qB l'<=1099511627776 /\ ∀ e∈l',qB l'<=e.1:=by
  cases l' with
  | nil=>exact ⟨ha,Int.le_refl _,fun e he=>by cases he⟩
  | cons e l' =>
   have h6:=h3 e (aqM ..)
   refine ⟨h6.1,(h.low e h6.2).2,fun x hx=>?_⟩
   rcases aqf.1 hx with rfl|hx
   ·exact Int.le_refl _
   ·exact (aqV.1 h2).1 x hx
 obtain ⟨n1,n2,n3⟩:=hn
 generalize qB l'=nx at n1 n2 n3 ⊢
 have hz:=h.zero
 have hc : ∀ t,at_<=t->iB (fun e=>e.2.1) E t=na'+iB (fun e=>e.2.1) l' t/\iB (fun e=>e.2.2) E t=nb'+iB (fun e=>e.2.2) l' t:=fun t ht=>by
  have q1:=h.cnt t ht
  have q2:=h5 t ht
  omega
 have hk : ∀ t,at_<=t->t<nx->keep (decide (0<iB (fun e=>e.2.1) E t)) (decide (0<iB (fun e=>e.2.2) E t))=keep (decide (0<na')) (decide (0<nb')):=fun t h1 h2=>by
  have q:=hc t h1
  rw [Ju _ t l' fun e he=>by have:=n3 e he;omega,Ju _ t l' fun e he=>by have:=n3 e he;omega,Int.add_zero,Int.add_zero] at q
  rw [q.1,q.2]
 refine ⟨⟨h2,fun e he=>⟨n3 e he,(h.low e (h3 e he).2).2⟩,by omega,fun t ht=>hc t (by omega),?_,?_,?_⟩,n1⟩
 ·split
  ·exact (o6 h.span h.last hz.1 n1 n2).1
  ·exact h.span
 ·split
  ·exact (o6 h.span h.last hz.1 n1 n2).2.1
  ·exact fun p hp=>by have:=h.last p hp;omega
 ·intro t
  by_cases hlt:t<at_
  ·have e1:(decide (at_<=t)&&decide (t<nx))=false:=by simp;omega
   have e2:iq (if keep (decide (0<na')) (decide (0<nb')) then yo out at_ nx else out) t=iq out t:=by
    split
    ·rw [(o6 h.span h.last hz.1 n1 n2).2.2,e1,Bool.or_false]
    ·rfl
   rw [e2,h.ins t,ap4 hlt,ap4 (show t<nx by omega)]
  ·have e0:iq out t=false:=by rw [h.ins t,ap3 hlt,Bool.and_false,Bool.false_and]
   by_cases hnx:t<nx
   ·rw [hk t (by omega) hnx,ap4 (show 0<=t by omega),ap4 hnx,aqx,aqx]
    cases hkk:keep (decide (0<na')) (decide (0<nb')) with
    | true=>rw [if_pos rfl,(o6 h.span h.last hz.1 n1 n2).2.2,e0,ap4 (show at_<=t by omega),ap4 hnx];rfl
    | false=>rw [if_neg (by simp),e0]
   ·rw [ap3 hnx,Bool.and_false,Bool.false_and]
    split
    ·rw [(o6 h.span h.last hz.1 n1 n2).2.2,e0,ap3 hnx,Bool.and_false];rfl
    ·exact e0
def JK (n:Nat) (l:List E3) (at_:Int):Prop:=at_<1099511627776->l.length+(if at_=qB l then 1 else 2)<=n
theorem aeE (at_:Int) {l:List E3} {na nb:Int} (hs:rH l) (hm : ∀ e∈l,at_<=e.1):(qP at_ l na nb).1.length<=l.length/\(at_=qB l->at_<1099511627776->(qP at_ l na nb).1.length<l.length):=by
 obtain ⟨l',na',nb',h1,h2,h3,h4,h5⟩:=L6 at_ l na nb hs hm
 refine ⟨by rw [h1];exact h4,fun he hf=>?_⟩
 cases l with
 | nil=>exact absurd (show at_=1099511627776 from he) (by omega)
 | cons e l =>
  have he':e.1=at_:=he.symm
  rw [qP,if_pos he']
  obtain ⟨l2,a2,b2,q1,_,_,q4,_⟩:=L6 at_ l (na+e.2.1) (nb+e.2.2) (aqV.1 hs).2 fun x hx=>hm x (aqm _ hx)
  rw [q1]
  simp;omega
theorem JK.step {n:Nat} {l:List E3} {at_ na nb:Int} (h:JK (n+1) l at_) (hs:rH l) (hm : ∀ e∈l,at_<=e.1) (ha:at_<1099511627776):JK n (qP at_ l na nb).1 (qB (qP at_ l na nb).1):=by
 intro _
 rw [if_pos rfl]
 have h1:=aeE at_ (na:=na) (nb:=nb) hs hm
 have h2:=h ha
 by_cases he:at_=qB l
 ·rw [if_pos he] at h2
  have:=h1.2 he ha
  omega
 ·rw [if_neg he] at h2
  have:=h1.1
  omega
theorem afx (keep:Bool->Bool->Bool) (E:List E3) : ∀ (n:Nat) (l:List E3) (at_ na nb:Int) (out:List aP),Tn keep E l at_ na nb out->JK n l at_ ->
  dN (mq keep n l at_ na nb out) /\ ∀ t,iq (mq keep n l at_ na nb out) t=((decide (0<=t)&&decide (t<1099511627776))&&keep (decide (0<iB (fun e=>e.2.1) E t)) (decide (0<iB (fun e=>e.2.2) E t))):=by
 intro n
 induction n with
 | zero =>
  intro l at_ na nb out h hn
  have:at_=1099511627776:=by
   have:=h.zero
   have h2:=hn
   unfold JK at h2
   by_cases ha:at_<1099511627776
   ·have:=h2 ha
    split at this<;>omega
   ·omega
  subst this
  exact ⟨h.span,h.ins⟩
 | succ n ih =>
  intro l at_ na nb out h hn
  rw [mq]
  by_cases ha:at_<1099511627776
  ·rw [if_pos ha]
   exact ih _ _ _ _ _ (h.step ha).1 (hn.step h.srt (fun e he=>(h.low e he).1) ha)
  ·rw [if_neg ha]
   have:at_=1099511627776:=by have:=h.zero;omega
   subst this
   exact ⟨h.span,h.ins⟩
theorem Wl (keep:Bool->Bool->Bool) {E:List E3} (hs:rH E) (hr : ∀ e∈E,0<=e.1/\e.1<=1099511627776):Tn keep E E 0 0 0 [] :=
 ⟨hs,hr,(by omega),fun t _=>⟨(Int.zero_add _).symm,(Int.zero_add _).symm⟩,trivial,fun p hp=>(by cases hp),fun t=>by
  have:(decide (0<=t)&&decide (t<0))=false:=by
   by_cases h:t<0
   ·rw [ap3 (show ¬ 0<=t by omega),Bool.false_and]
   ·rw [ap3 h,Bool.and_false]
  rw [this,Bool.false_and,oW]⟩
theorem Ng (keep:Bool->Bool->Bool) {a b:List aP} {E:List E3} (hp:E.Perm (BX a b)) (hs:rH E) {n:Nat} (hn:E.length+2<=n) :
  dN (mq keep n E 0 0 0 []) /\ ∀ t,iq (mq keep n E 0 0 0 []) t=((decide (0<=t)&&decide (t<1099511627776))&&keep (iq a t) (iq b t)):=by
 have hr : ∀ e∈E,0<=e.1/\e.1<=1099511627776:=fun e he=>by
  have:=yT a b e (hp.mem_iff.1 he)
  exact ⟨this.1,this.2.1⟩
 obtain ⟨h1,h2⟩:=afx keep E n E 0 0 0 [] (Wl keep hs hr) (fun _=>by split<;>omega)
 refine ⟨h1,fun t=>?_⟩
 rw [h2 t,Ra _ t hp,Ra _ t hp,(Xj a b t).1,(Xj a b t).2,Rq,Rq]
open Go.RowKit Go.Shelf Go.Lib Go.Sort
def aem:Type := { e:E3 // 0<=e.1/\e.1<=1099511627776 }
instance : Inhabited aem := ⟨⟨(0, 0, 0), by decide⟩⟩
def ako:Flat aem:=⟨3,fun e=>[e.1.1,e.1.2.1,e.1.2.2],fun _=>rfl,by omega⟩
theorem al1:SWO (ltOf fun x y:aem=>x.1.1-y.1.1) where
 irrefl x:=by simp [ltOf]
 trans x y z h1 h2:=by simp [ltOf] at *;omega
 ntrans x y z h1 h2:=by simp [ltOf] at *;omega
set_option maxHeartbeats 1000000 in
theorem ah8:VX Tryz.prog ako 213 [] (fun x => .agg (ako.enc x).toArray) (fun x y=>x.1.1-y.1.1):=by
 intro R W cb _ hs _ x y
 obtain rfl:=agt hs
 obtain ⟨⟨x,a,b⟩,hx1,hx2⟩:=x
 obtain ⟨⟨y,c,d⟩,hy1,hy2⟩:=y
 simp only at hx1 hx2 hy1 hy2
 show Calls Tryz.prog 213 #[.agg #[.int .i64 x, .int .i64 a, .int .i64 b], .agg #[.int .i64 y, .int .i64 c, .int .i64 d]] W _
 go_enter Tryz.func213,Tryz.ntmps213
 go_wp2
 go_ret
 exact ⟨rfl,0,_,by rw [alloc_eq_grow,alloc_eq_grow,grow_grow];rfl⟩
open Go.RowKit Go.MapKept Go.Shelf Go.Lib Go.Sort
set_option maxRecDepth 100000
def YN (l:List aP):AC := .lst (l.map bv)
def QH (e:E3):List SV:=[.c (.int .i64 e.1), .c (.int .i64 e.2.1), .c (.int .i64 e.2.2)]
def cEd (e:E3):List AC:=[.int .i64 e.1, .int .i64 e.2.1, .int .i64 e.2.2]
theorem Xp : ∀ {o:List E3}, (∀ e∈o,0<=e.1/\e.1<=1099511627776) -> ∃ d:List aem,d.map (·.1)=o
 | [],_=>⟨[],rfl⟩
 | k::o,h=>by
  obtain ⟨d,e⟩:=Xp (o:=o) fun t ht=>h t (aqm _ ht)
  have hk:=h k (aqM ..)
  exact ⟨⟨k,hk.1,hk.2⟩::d,congrArg (k :: ·) e⟩
theorem Xh (d:List aem):d.map ako.tr=(d.map (·.1)).map QH:=by
 rw [List.map_map];rfl
theorem aaf {o:List E3} (hr : ∀ e∈o,0<=e.1/\e.1<=1099511627776) (v m:Nat) (hm:o.length=m) (hm2:m<=1000000) :
  ∃ o':List E3,o'.Perm o/\rH o'/\Run Tryz.prog 212 [.row v (o.map QH) 3] [.one (.sl 0 v 0 m), .one (.c (.fn 213 []))] [.row v (o'.map QH) 3] (.tup []):=by
 obtain ⟨d,rfl⟩:=Xp hr
 have hrun:=Sv (P:=Tryz.prog) (F:=ako) Tryz.sortEdge Tryz.isAgg162 Tryz.sizeOf162 (fun x y=>x.1.1-y.1.1) al1 213 [] (pre:=[]) (d:=d) (post:=[])
  (enters_of Tryz.func213 (by kernel_rfl) rfl) (fun _=>ah8) ⟨_,Tryz.func212,by kernel_rfl,by kernel_rfl⟩ v 0 m rfl (by rw [<- hm];simp) (by omega)
 refine ⟨(bZ (fun x y:aem=>x.1.1-y.1.1) d).map (·.1),(qH al1 d).map _,?_,?_⟩
 ·unfold rH
  rw [List.pairwise_map]
  refine (Ak al1 d).imp fun {x y} h=>?_
  omega
 ·simp only [ap5,aqy] at hrun
  rw [Xh,Xh] at hrun
  exact hrun
def vE (n:Nat):Nat:=162+65536+65536*n
theorem agX (l:List E3):iC (l.map QH)=some (l.map cEd):=by
 have:=nA (l.map cEd)
 rw [List.map_map] at this
 exact this
theorem mr (n v k:Nat) (l:List E3):(Ob.row v (l.map QH) k).below n:=by
 intro e he x hx
 obtain ⟨y,_,rfl⟩:=aqz.1 he
 simp [QH] at hx;rcases hx with rfl|rfl|rfl<;>trivial
theorem Wi (σ:List Nat) (v:Nat) (l:List E3):(Ob.row v (l.map QH) 3).ren σ=Ob.row v (l.map QH) 3:=by
 simp only [Ob.ren,List.map_map];rfl
theorem rfE {L:List Ob} {v:Nat} {l:List E3} {id:Nat} {x:AV} {xs:List AV} (h0:L[id]?=some (Ob.row v (l.map QH) 3)) (hx : ∀ y∈x::xs,y.below 1):kW [id] [Ob.row v (l.map QH) 3] (x::xs) L:=by
 refine ⟨rfl,by simp,fun i y hy=>?_,bT ⟨mr _ _ _ _,trivial⟩,hx⟩
 match i,hy with
 | 0,hy=>simp at hy;subst hy;rw [Wi];exact h0
 | i+1,hy=>simp at hy
theorem jE {L L':List Ob} {v:Nat} {l:List E3} {id:Nat} (h:L.set id (Ob.row v (l.map QH) 3)=L'):joinL [id] L [Ob.row v (l.map QH) 3]=L':=by
 subst h
 simp [joinL,join,fJ,dK,jF,Wi]
theorem Pz (p:aP) (f:Bool) : ∀ l:List aP,z_ (l++[p]) f=z_ l f++(bif aD p then (bif f then [(p.lo,1,0),(p.hi, -1,0)] else [(p.lo,0,1),(p.hi,0, -1)]) else [])
 | []=>by simp [z_]
 | q::l=>by
  rw [List.cons_append,z_,Pz p f l,z_,aqp]
def nE (l:List aP):Nat:=l.countP aD
theorem ade (l:List aP) (p:aP):nE (l++[p])=nE l+(bif aD p then 1 else 0):=by
 unfold nE
 rw [List.countP_append,List.countP_cons,List.countP_nil]
 cases aD p<;>simp
theorem IX (f:Bool) : ∀ l:List aP,(z_ l f).length=2*nE l
 | []=>rfl
 | p::l=>by
  have:=IX f l
  unfold nE at this ⊢
  rw [z_,ap8,this,List.countP_cons]
  cases aD p<;>cases f<;>simp<;>omega
theorem acg (l:List aP):nE l<=l.length:=List.countP_le_length
def ET1 (a b:List aP) (m i:Nat):Tm:=[(1, .one (.c (YN b))),(5, .one (.sl 0 (vE m) 0 (2*m))),(10, .one (.c (YN a))),(11, .one (.c (.int .i64 a.length))),(12, .one (.c (.int .i64 i)))]
theorem JX (a b:List aP) (m i:Nat):mh 1 (ET1 a b m i):=⟨trivial,(by show 0<1;omega),trivial,trivial,trivial,trivial⟩
def ET2 (b:List aP) (m i:Nat):Tm:=[(5, .one (.sl 0 (vE m) 0 (2*m))),(28, .one (.c (YN b))),(29, .one (.c (.int .i64 b.length))),(30, .one (.c (.int .i64 i)))]
theorem Ip (b:List aP) (m i:Nat):mh 1 (ET2 b m i):=⟨(by show 0<1;omega),trivial,trivial,trivial,trivial⟩
set_option maxHeartbeats 4000000 in
theorem Mj (a b:List aP) (ha:a.length<=1000) (hb:b.length<=1000) : ∃ E,E.Perm (BX a b)/\rH E/\Pure Tryz.prog 156 [.one (YN a), .one (YN b)] (.val (.one (.lst (E.map cEd)))):=by
 have hlen:(BX a b).length=2*(nE a+nE b):=by unfold BX;rw [ap8,IX,IX];omega
 have hna:=acg a
 have hnb:=acg b
 obtain ⟨E,hEp,hEs,hsort⟩:=aaf (o:=BX a b) (fun e he=>⟨(yT a b e he).1,(yT a b e he).2.1⟩) (vE (nE a+nE b)) (2*(nE a+nE b)) hlen (by omega)
 refine ⟨E,hEp,hEs,?_⟩
 refine pa_ aj Tryz.func156 rfl rfl Tryz.ntmps156 (by simp) ?_
 simp only [argT,PV.av,ap',aqd]
 repeat' (first
  | refine st_nil ?_
  | (refine aM rfl rfl rfl rfl ?_ ?_; · (repeat' (first|exact trivial|rfl|exact ap_ rfl|omega|exact aF (by intro _;rfl) _|(intro e he;simp at he;rcases he with rfl|rfl<;>rfl)|apply And.intro)))
  | (refine aN rfl rfl rfl rfl ?_ ?_; · (repeat' (first|exact trivial|rfl|exact ap_ rfl|omega|exact aF (by intro _;rfl) _|(intro e he;simp at he;rcases he with rfl|rfl<;>rfl)|apply And.intro)))
  | (refine sS_ rfl rfl rfl ?_ ?_; · (repeat' (first|exact trivial|rfl|exact ap_ rfl|omega|exact aF (by intro _;rfl) _|(intro e he;simp at he;rcases he with rfl|rfl<;>rfl)|apply And.intro)))
  | (refine aO rfl rfl rfl rfl ?_ ?_; · (repeat' (first|exact trivial|rfl|exact ap_ rfl|omega|exact aF (by intro _;rfl) _|(intro e he;simp at he;rcases he with rfl|rfl<;>rfl)|apply And.intro)))
  | refine aH rfl rfl rfl ?_
  | refine sk0_ rfl rfl ?_
  | (refine aV rfl (fun hb=>?_) (fun hb=>?_)<;>(first|exact (fx_ hb).elim|rw [hb]))
  | refine aw_seq ?_
  | refine aw_region aj _ rfl ?_
  | refine aw_drawn2 tabS_ok _ rfl mixed (by decide +kernel) ?_
  | (refine aG rfl (fun hb=>?_) (fun hb=>?_)<;>(try exact (fx_ hb).elim))
  | refine aw_block ?_
  | refine aw_exit ?_
  | refine aw_ret ?_
  | refine aw_skip ?_)
 refine Da 5 (vE 0) 3 rfl (by unfold vE;omega) ?_
 refine eH (fun i:Nat=>ET1 a b (nE (a.take i)) i) (fun i=>[.row (vE (nE (a.take i))) ((z_ (a.take i) true).map QH) 3]) (fun i=>i<=a.length) (fun i=>a.length-i) 0 (by omega) (fun _ _=>aqj _)
  (fm_ ⟨rfl,rfl,rfl,bB (by simp),rfl,trivial⟩ [] rfl (JX _ _ _ _) ⟨mr _ _ _ _,trivial⟩) ?_
 intro i hi
 by_cases hlt:i<a.length
 ·obtain ⟨x,hx⟩:=gol_ hlt
  have hpv:=yQ (lm x)
  have hn1:nE (a.take (i+1))=nE (a.take i)+(bif aD x then 1 else 0):=by rw [dw hx,ade]
  have he1:z_ (a.take (i+1)) true=z_ (a.take i) true++(bif aD x then [(x.lo,1,0),(x.hi, -1,0)] else []):=by rw [dw hx,Pz];rfl
  have hel:=IX true (a.take i)
  have hle:nE (a.take i)<=1000:=by have:=acg (a.take i);rw [aqQ] at this;omega
  unfold ET1
  generalize nE (a.take i)=m at hn1 hel hle ⊢
  generalize z_ (a.take i) true=E0 at he1 hel ⊢
  cases hv:aD x with
  | true =>
   rw [hv] at hpv hn1 he1
   rw [ap2] at hn1 he1
   have hv1:vE (m+1)=vE m+65536:=by unfold vE;omega
   have hm:(E0.map QH).length=2*m:=by rw [aqa,hel]
   repeat' (first
    | refine st_nil ?_
    | (refine dS rfl rfl rfl rfl rfl (iD aj (k:=3) (by_:=24) (xs:=[QH (x.lo,1,0),QH (x.hi, -1,0)]) rfl rfl rfl rfl ⟨rfl,_,rfl,by intro e he;simp at he;rcases he with rfl|rfl<;>rfl⟩ rfl (by unfold vE;omega) rfl rfl rfl (by decide) hm (by simp only [aqk,aqu];omega) (by simp only [aqk,aqu];omega)) ?_)
    | (refine aM rfl rfl rfl rfl ?_ ?_; · (repeat' (first|exact trivial|rfl|exact ap_ rfl|omega|exact aF (by intro _;rfl) _|(intro e he;simp at he;rcases he with rfl|rfl<;>rfl)|apply And.intro)))
    | (refine dm rfl rfl rfl rfl rfl rfl rfl rfl (cZ hx) ?_ ?_; · exact ⟨by omega,rfl⟩)
    | (refine aN rfl rfl rfl rfl ?_ ?_; · (repeat' (first|exact trivial|rfl|exact ap_ rfl|omega|exact aF (by intro _;rfl) _|(intro e he;simp at he;rcases he with rfl|rfl<;>rfl)|apply And.intro)))
    | (refine sS_ rfl rfl rfl ?_ ?_; · (repeat' (first|exact trivial|rfl|exact ap_ rfl|omega|exact aF (by intro _;rfl) _|(intro e he;simp at he;rcases he with rfl|rfl<;>rfl)|apply And.intro)))
    | (refine aO rfl rfl rfl rfl ?_ ?_; · (repeat' (first|exact trivial|rfl|exact ap_ rfl|omega|exact aF (by intro _;rfl) _|(intro e he;simp at he;rcases he with rfl|rfl<;>rfl)|apply And.intro)))
    | refine aH rfl rfl rfl ?_
    | refine sk0_ rfl rfl ?_
    | refine aZ rfl rfl rfl rfl hpv rfl ?_
    | (refine aV rfl (fun hb=>?_) (fun hb=>?_)<;>(first|exact (fx_ hb).elim|rw [hb]))
    | refine aw_seq ?_
    | refine aw_region aj _ rfl ?_
    | refine aw_drawn2 tabS_ok _ rfl mixed (by decide +kernel) ?_
    | (refine aG rfl (fun hb=>?_) (fun hb=>?_)<;>(try exact (fx_ hb).elim))
    | refine aw_block ?_
    | refine aw_exit ?_
    | refine aw_ret ?_
    | refine aw_skip ?_)
   exact ⟨i+1,by omega,by omega,fm_ ⟨rfl,(by rw [hn1,hv1];rfl),rfl,rfl,bB (bF (by omega) (by omega)),trivial⟩ [_] (by rw [hn1,hv1,he1,aqb];rfl) (JX _ _ _ _) ⟨mr _ _ _ _,trivial⟩⟩
  | false =>
   rw [hv] at hpv hn1 he1
   rw [ap1,Nat.add_zero] at hn1
   rw [ap1,aqy] at he1
   repeat' (first
    | refine st_nil ?_
    | (refine aM rfl rfl rfl rfl ?_ ?_; · (repeat' (first|exact trivial|rfl|exact ap_ rfl|omega|exact aF (by intro _;rfl) _|(intro e he;simp at he;rcases he with rfl|rfl<;>rfl)|apply And.intro)))
    | (refine dm rfl rfl rfl rfl rfl rfl rfl rfl (cZ hx) ?_ ?_; · exact ⟨by omega,rfl⟩)
    | (refine aN rfl rfl rfl rfl ?_ ?_; · (repeat' (first|exact trivial|rfl|exact ap_ rfl|omega|exact aF (by intro _;rfl) _|(intro e he;simp at he;rcases he with rfl|rfl<;>rfl)|apply And.intro)))
    | (refine sS_ rfl rfl rfl ?_ ?_; · (repeat' (first|exact trivial|rfl|exact ap_ rfl|omega|exact aF (by intro _;rfl) _|(intro e he;simp at he;rcases he with rfl|rfl<;>rfl)|apply And.intro)))
    | (refine aO rfl rfl rfl rfl ?_ ?_; · (repeat' (first|exact trivial|rfl|exact ap_ rfl|omega|exact aF (by intro _;rfl) _|(intro e he;simp at he;rcases he with rfl|rfl<;>rfl)|apply And.intro)))
    | refine aH rfl rfl rfl ?_
    | refine sk0_ rfl rfl ?_
    | refine aZ rfl rfl rfl rfl hpv rfl ?_
    | (refine aV rfl (fun hb=>?_) (fun hb=>?_)<;>(first|exact (fx_ hb).elim|rw [hb]))
    | refine aw_seq ?_
    | refine aw_region aj _ rfl ?_
    | refine aw_drawn2 tabS_ok _ rfl mixed (by decide +kernel) ?_
    | (refine aG rfl (fun hb=>?_) (fun hb=>?_)<;>(try exact (fx_ hb).elim))
    | refine aw_block ?_
    | refine aw_exit ?_
    | refine aw_ret ?_
    | refine aw_skip ?_)
   exact ⟨i+1,by omega,by omega,fm_ ⟨rfl,(by rw [hn1];rfl),rfl,rfl,bB (bF (by omega) (by omega)),trivial⟩ [_] (by rw [hn1,he1];rfl) (JX _ _ _ _) ⟨mr _ _ _ _,trivial⟩⟩
 ·have hi2:i=a.length:=by omega
  subst hi2
  rw [List.take_length]
  unfold ET1
  repeat' (first
   | refine st_nil ?_
   | (refine aM rfl rfl rfl rfl ?_ ?_; · (repeat' (first|exact trivial|rfl|exact ap_ rfl|omega|exact aF (by intro _;rfl) _|(intro e he;simp at he;rcases he with rfl|rfl<;>rfl)|apply And.intro)))
   | (refine aN rfl rfl rfl rfl ?_ ?_; · (repeat' (first|exact trivial|rfl|exact ap_ rfl|omega|exact aF (by intro _;rfl) _|(intro e he;simp at he;rcases he with rfl|rfl<;>rfl)|apply And.intro)))
   | (refine sS_ rfl rfl rfl ?_ ?_; · (repeat' (first|exact trivial|rfl|exact ap_ rfl|omega|exact aF (by intro _;rfl) _|(intro e he;simp at he;rcases he with rfl|rfl<;>rfl)|apply And.intro)))
   | (refine aO rfl rfl rfl rfl ?_ ?_; · (repeat' (first|exact trivial|rfl|exact ap_ rfl|omega|exact aF (by intro _;rfl) _|(intro e he;simp at he;rcases he with rfl|rfl<;>rfl)|apply And.intro)))
   | refine aH rfl rfl rfl ?_
   | refine sk0_ rfl rfl ?_
   | (refine aV rfl (fun hb=>?_) (fun hb=>?_)<;>(first|exact (fx_ hb).elim|rw [hb]))
   | refine aw_seq ?_
   | refine aw_region aj _ rfl ?_
   | refine aw_drawn2 tabS_ok _ rfl mixed (by decide +kernel) ?_
   | (refine aG rfl (fun hb=>?_) (fun hb=>?_)<;>(try exact (fx_ hb).elim))
   | refine aw_block ?_
   | refine aw_exit ?_
   | refine aw_ret ?_
   | refine aw_skip ?_)
  refine eH (fun i:Nat=>ET2 b (nE a+nE (b.take i)) i) (fun i=>[.row (vE (nE a+nE (b.take i))) ((z_ a true++z_ (b.take i) false).map QH) 3]) (fun i=>i<=b.length) (fun i=>b.length-i) 0 (by omega) (fun _ _=>aqj _)
   (fm_ ⟨rfl,rfl,bB (by simp),rfl,trivial⟩ [] (by simp [z_,nE]) (Ip _ _ _) ⟨mr _ _ _ _,trivial⟩) ?_
  intro i hi
  by_cases hlt:i<b.length
  ·obtain ⟨x,hx⟩:=gol_ hlt
   have hpv:=yQ (lm x)
   have hn1:nE a+nE (b.take (i+1))=nE a+nE (b.take i)+(bif aD x then 1 else 0):=by rw [dw hx,ade,Nat.add_assoc]
   have he1:z_ a true++z_ (b.take (i+1)) false=z_ a true++z_ (b.take i) false++(bif aD x then [(x.lo,0,1),(x.hi,0, -1)] else []):=by rw [dw hx,Pz,aqp];rfl
   have hel:(z_ a true++z_ (b.take i) false).length=2*(nE a+nE (b.take i)):=by rw [ap8,IX,IX];omega
   have hle:nE a+nE (b.take i)<=2000:=by have:=acg (b.take i);rw [aqQ] at this;omega
   unfold ET2
   generalize nE a+nE (b.take i)=m at hn1 hel hle ⊢
   generalize z_ a true++z_ (b.take i) false=E0 at he1 hel ⊢
   cases hv:aD x with
   | true =>
    rw [hv] at hpv hn1 he1
    rw [ap2] at hn1 he1
    have hv1:vE (m+1)=vE m+65536:=by unfold vE;omega
    have hm:(E0.map QH).length=2*m:=by rw [aqa,hel]
    repeat' (first
     | refine st_nil ?_
     | (refine dS rfl rfl rfl rfl rfl (iD aj (k:=3) (by_:=24) (xs:=[QH (x.lo,0,1),QH (x.hi,0, -1)]) rfl rfl rfl rfl ⟨rfl,_,rfl,by intro e he;simp at he;rcases he with rfl|rfl<;>rfl⟩ rfl (by unfold vE;omega) rfl rfl rfl (by decide) hm (by simp only [aqk,aqu];omega) (by simp only [aqk,aqu];omega)) ?_)
     | (refine aM rfl rfl rfl rfl ?_ ?_; · (repeat' (first|exact trivial|rfl|exact ap_ rfl|omega|exact aF (by intro _;rfl) _|(intro e he;simp at he;rcases he with rfl|rfl<;>rfl)|apply And.intro)))
     | (refine dm rfl rfl rfl rfl rfl rfl rfl rfl (cZ hx) ?_ ?_; · exact ⟨by omega,rfl⟩)
     | (refine aN rfl rfl rfl rfl ?_ ?_; · (repeat' (first|exact trivial|rfl|exact ap_ rfl|omega|exact aF (by intro _;rfl) _|(intro e he;simp at he;rcases he with rfl|rfl<;>rfl)|apply And.intro)))
     | (refine sS_ rfl rfl rfl ?_ ?_; · (repeat' (first|exact trivial|rfl|exact ap_ rfl|omega|exact aF (by intro _;rfl) _|(intro e he;simp at he;rcases he with rfl|rfl<;>rfl)|apply And.intro)))
     | (refine aO rfl rfl rfl rfl ?_ ?_; · (repeat' (first|exact trivial|rfl|exact ap_ rfl|omega|exact aF (by intro _;rfl) _|(intro e he;simp at he;rcases he with rfl|rfl<;>rfl)|apply And.intro)))
     | refine aH rfl rfl rfl ?_
     | refine sk0_ rfl rfl ?_
     | refine aZ rfl rfl rfl rfl hpv rfl ?_
     | (refine aV rfl (fun hb=>?_) (fun hb=>?_)<;>(first|exact (fx_ hb).elim|rw [hb]))
     | refine aw_seq ?_
     | refine aw_region aj _ rfl ?_
     | refine aw_drawn2 tabS_ok _ rfl mixed (by decide +kernel) ?_
     | (refine aG rfl (fun hb=>?_) (fun hb=>?_)<;>(try exact (fx_ hb).elim))
     | refine aw_block ?_
     | refine aw_exit ?_
     | refine aw_ret ?_
     | refine aw_skip ?_)
    exact ⟨i+1,by omega,by omega,fm_ ⟨(by rw [hn1,hv1];rfl),rfl,rfl,bB (bF (by omega) (by omega)),trivial⟩ [_] (by rw [hn1,hv1,he1,aqb];rfl) (Ip _ _ _) ⟨mr _ _ _ _,trivial⟩⟩
   | false =>
    rw [hv] at hpv hn1 he1
    rw [ap1,Nat.add_zero] at hn1
    rw [ap1,aqy] at he1
    repeat' (first
     | refine st_nil ?_
     | (refine aM rfl rfl rfl rfl ?_ ?_; · (repeat' (first|exact trivial|rfl|exact ap_ rfl|omega|exact aF (by intro _;rfl) _|(intro e he;simp at he;rcases he with rfl|rfl<;>rfl)|apply And.intro)))
     | (refine dm rfl rfl rfl rfl rfl rfl rfl rfl (cZ hx) ?_ ?_; · exact ⟨by omega,rfl⟩)
     | (refine aN rfl rfl rfl rfl ?_ ?_; · (repeat' (first|exact trivial|rfl|exact ap_ rfl|omega|exact aF (by intro _;rfl) _|(intro e he;simp at he;rcases he with rfl|rfl<;>rfl)|apply And.intro)))
     | (refine sS_ rfl rfl rfl ?_ ?_; · (repeat' (first|exact trivial|rfl|exact ap_ rfl|omega|exact aF (by intro _;rfl) _|(intro e he;simp at he;rcases he with rfl|rfl<;>rfl)|apply And.intro)))
     | (refine aO rfl rfl rfl rfl ?_ ?_; · (repeat' (first|exact trivial|rfl|exact ap_ rfl|omega|exact aF (by intro _;rfl) _|(intro e he;simp at he;rcases he with rfl|rfl<;>rfl)|apply And.intro)))
     | refine aH rfl rfl rfl ?_
     | refine sk0_ rfl rfl ?_
     | refine aZ rfl rfl rfl rfl hpv rfl ?_
     | (refine aV rfl (fun hb=>?_) (fun hb=>?_)<;>(first|exact (fx_ hb).elim|rw [hb]))
     | refine aw_seq ?_
     | refine aw_region aj _ rfl ?_
     | refine aw_drawn2 tabS_ok _ rfl mixed (by decide +kernel) ?_
     | (refine aG rfl (fun hb=>?_) (fun hb=>?_)<;>(try exact (fx_ hb).elim))
     | refine aw_block ?_
     | refine aw_exit ?_
     | refine aw_ret ?_
     | refine aw_skip ?_)
    exact ⟨i+1,by omega,by omega,fm_ ⟨(by rw [hn1];rfl),rfl,rfl,bB (bF (by omega) (by omega)),trivial⟩ [_] (by rw [hn1,he1];rfl) (Ip _ _ _) ⟨mr _ _ _ _,trivial⟩⟩
  ·have hi2:i=b.length:=by omega
   subst hi2
   rw [List.take_length]
   unfold ET2
   have hfin:z_ a true++z_ b false=BX a b:=rfl
   rw [hfin]
   repeat' (first
    | refine st_nil ?_
    | (refine aM rfl rfl rfl rfl ?_ ?_; · (repeat' (first|exact trivial|rfl|exact ap_ rfl|omega|exact aF (by intro _;rfl) _|(intro e he;simp at he;rcases he with rfl|rfl<;>rfl)|apply And.intro)))
    | (refine aN rfl rfl rfl rfl ?_ ?_; · (repeat' (first|exact trivial|rfl|exact ap_ rfl|omega|exact aF (by intro _;rfl) _|(intro e he;simp at he;rcases he with rfl|rfl<;>rfl)|apply And.intro)))
    | (refine sS_ rfl rfl rfl ?_ ?_; · (repeat' (first|exact trivial|rfl|exact ap_ rfl|omega|exact aF (by intro _;rfl) _|(intro e he;simp at he;rcases he with rfl|rfl<;>rfl)|apply And.intro)))
    | (refine aO rfl rfl rfl rfl ?_ ?_; · (repeat' (first|exact trivial|rfl|exact ap_ rfl|omega|exact aF (by intro _;rfl) _|(intro e he;simp at he;rcases he with rfl|rfl<;>rfl)|apply And.intro)))
    | refine aH rfl rfl rfl ?_
    | refine sk0_ rfl rfl ?_
    | (refine eP [0] rfl rfl rfl rfl hsort rfl (rfE rfl (dE ⟨(by show 0<1;omega),trivial,trivial⟩)) rfl (jE rfl) ?_)
    | (refine nZ 0 5 (cs:=E.map cEd) rfl (agX _) rfl (by rw [aqa,hEp.length_eq,hlen]) ?_)
    | (refine aV rfl (fun hb=>?_) (fun hb=>?_)<;>(first|exact (fx_ hb).elim|rw [hb]))
    | refine aw_seq ?_
    | refine aw_region aj _ rfl ?_
    | refine aw_drawn2 tabS_ok _ rfl mixed (by decide +kernel) ?_
    | (refine aG rfl (fun hb=>?_) (fun hb=>?_)<;>(try exact (fx_ hb).elim))
    | refine aw_block ?_
    | refine aw_exit ?_
    | refine aw_ret ?_
    | refine aw_skip ?_)
   refine ⟨.inr rfl,?_⟩
   first|exact ⟨trivial,rfl⟩|exact ⟨⟨trivial,trivial⟩,rfl⟩|(refine ⟨?_,rfl⟩;repeat' (first|exact trivial|rfl|apply And.intro))
theorem L_ (a b:Int):PW a b=max a b:=by unfold PW;split<;>omega
theorem acC (a b:Int):mnI a b=min a b:=by unfold mnI;split<;>omega
def MX (p:aP):List SV:=[.c (.int .i64 p.lo), .c (.int .i64 p.hi)]
def vQ (n:Nat):Nat:=53+65536+65536*n
theorem ahw (l:List aP):iC (l.map MX)=some (l.map bv):=by
 have:=nA (l.map bv)
 rw [List.map_map] at this
 exact this
theorem gJ (n v k:Nat) (l:List aP):(Ob.row v (l.map MX) k).below n:=by
 intro e he x hx
 obtain ⟨y,_,rfl⟩:=aqz.1 he
 simp [MX] at hx;rcases hx with rfl|rfl<;>trivial
theorem afv {at_:Int} {e:E3} {l:List E3} {na nb:Int} (h:e.1≠at_):qP at_ (e::l) na nb=(e::l,na,nb):=by rw [qP,if_neg h]
theorem drop_at {E:List E3} {i:Nat} {e:E3} (h:E[i]?=some e):E.drop i=e::E.drop (i+1):=by
 obtain ⟨hlt,h2⟩:=ap0.1 h
 rw [aqv hlt,h2]
theorem Jz (l:List aP) (p:aP) (a b:Int):yo (l++[p]) a b=if p.hi=a then l++[⟨p.lo,b⟩] else (l++[p])++[⟨a,b⟩]:=by
 unfold yo;rw [List.getLast?_concat]
 simp only [List.dropLast_concat]
theorem V6 (a b:Int):yo [] a b=[⟨a,b⟩]:=rfl
theorem W9 (l:List aP) (p:aP) (b:Int) (i:Nat) (hi:i=l.length):((l++[p]).map MX).set i (splice (MX p) 1 [.c (.int .i64 b)])=(l++[(⟨p.lo,b⟩:aP)]).map MX:=by
 subst hi
 rw [aqb,List.set_append_right _ _ (by simp),aqa,Nat.sub_self,aqb];rfl
theorem Cs {α:Type} (l:List α):l=[] \/ ∃ m x,l=m++[x]:=by
 cases h:l.getLast? with
 | none=>exact .inl (by simpa using h)
 | some x=>exact .inr ⟨l.dropLast,x,by obtain ⟨ys,rfl⟩:=List.getLast?_eq_some_iff.1 h;simp⟩
structure SwS where
 n:Nat
 i:Nat
 at_:Int
 na:Int
 nb:Int
 out:List aP
 c:Nat
structure ak5 (keep:Bool->Bool->Bool) (E:List E3) (F:List aP) (s:SwS):Prop where
 fin:mq keep s.n (E.drop s.i) s.at_ s.na s.nb s.out=F
 inv:Tn keep E (E.drop s.i) s.at_ s.na s.nb s.out
 fuel:JK s.n (E.drop s.i) s.at_
 ile:s.i<=E.length
 na : -(s.i:Int)<=s.na/\s.na<=s.i
 nb : -(s.i:Int)<=s.nb/\s.nb<=s.i
 out:s.out.length+s.n<=E.length+2
theorem ak5.next {keep:Bool->Bool->Bool} {E:List E3} {F:List aP} {s:SwS} (h:ak5 keep E F s) (ha:s.at_<1099511627776) {j:Nat} {na nb:Int} (hj:j<=E.length) (hr:qP s.at_ (E.drop s.i) s.na s.nb=(E.drop j,na,nb)) (h1 : -(j:Int)<=na/\na<=j) (h2 : -(j:Int)<=nb/\nb<=j) {nx:Int} (hx:qB (E.drop j)=nx) {out:List aP} (c:Nat) (ho:(if keep (decide (0<na)) (decide (0<nb))=true then yo s.out s.at_ nx else s.out)=out) (hl:out.length<=s.out.length+1) :
  ak5 keep E F ⟨s.n-1,j,nx,na,nb,out,c⟩/\s.n-1<s.n:=by
 obtain ⟨n,i,at_,na0,nb0,out0,c0⟩:=s
 obtain ⟨f1,f2,f3,f4,f5,f6,f7⟩:=h
 dsimp only at *
 have hn:0<n:=by have:=f3 ha;split at this<;>omega
 obtain ⟨n,rfl⟩ : ∃ m,n=m+1:=⟨n-1,by omega⟩
 have g1:=(f2.step ha).1
 have g2:=f3.step (na:=na0) (nb:=nb0) f2.srt (fun e he=>(f2.low e he).1) ha
 rw [mq,if_pos ha] at f1
 dsimp only at f1
 rw [hr] at f1 g1 g2
 dsimp only at f1 g1 g2
 rw [hx] at f1 g1 g2
 rw [ho] at f1 g1
 exact ⟨⟨f1,g1,g2,hj,h1,h2,by show out.length+(n+1-1)<=_;omega⟩,by omega⟩
def WT (E:List E3) (K:SV) (s:SwS):Tm:=[(2, .one K),(7, .one (.c (.lst (E.map cEd)))),(8, .one (.sl 0 (vQ s.c) 0 s.out.length)),(9, .one (.c (.int .i64 s.na))),(10, .one (.c (.int .i64 s.nb))),(11, .one (.c (.int .i64 s.i))),(12, .one (.c (.int .i64 s.at_)))]
theorem ny (E:List E3) {K:SV} (hK:K.below 1) (s:SwS):mh 1 (WT E K s):=⟨hK,trivial,(by show 0<1;omega),trivial,trivial,trivial,trivial,trivial⟩
def WT2 (E:List E3) (K:SV) (s:SwS) (j:Nat) (na nb:Int):Tm:=[(2, .one K),(7, .one (.c (.lst (E.map cEd)))),(8, .one (.sl 0 (vQ s.c) 0 s.out.length)),(9, .one (.c (.int .i64 na))),(10, .one (.c (.int .i64 nb))),(11, .one (.c (.int .i64 j))),(12, .one (.c (.int .i64 s.at_)))]
theorem Sn (E:List E3) {K:SV} (hK:K.below 1) (s:SwS) (j:Nat) (na nb:Int):mh 1 (WT2 E K s j na nb):=⟨hK,trivial,(by show 0<1;omega),trivial,trivial,trivial,trivial,trivial⟩
set_option maxHeartbeats 8000000 in
theorem OQ (keep:Bool->Bool->Bool) (F:FuncId) (caps:List AC) (hk : ∀ x y:Bool,Pure Tryz.prog F ([.one (.bool x), .one (.bool y)]++caps.map .one) (.val (.one (.bool (keep x y))))) (a b:List aP) (E:List E3) (hp:E.Perm (BX a b)) (hs:rH E) (hE:E.length<=4000)
  (hed:Pure Tryz.prog 156 [.one (YN a), .one (YN b)] (.val (.one (.lst (E.map cEd))))):Pure Tryz.prog 100 [.one (YN a), .one (YN b), .one (.fn F caps)] (.val (.one (.lst ((mq keep (E.length+2) E 0 0 0 []).map bv)))):=by
 have hran : ∀ e∈E,0<=e.1/\e.1<=1099511627776 /\ -1<=e.2.1/\e.2.1<=1 /\ -1<=e.2.2/\e.2.2<=1:=fun e he=>yT a b e (hp.mem_iff.1 he)
 have hKb:(SV.c (AC.fn F caps)).below 1:=trivial
 generalize hF:mq keep (E.length+2) E 0 0 0 []=R
 refine pa_ aj Tryz.func100 rfl rfl Tryz.ntmps100 (by simp) ?_
 simp only [argT,PV.av,ap',aqd]
 repeat' (first
  | refine st_nil ?_
  | (refine aM rfl rfl rfl rfl ?_ ?_; · (repeat' (first|exact trivial|rfl|exact ap_ rfl|omega|exact aF (by intro _;rfl) _|(intro e he;simp at he;subst he;rfl)|apply And.intro)))
  | (refine aN rfl rfl rfl rfl ?_ ?_; · (repeat' (first|exact trivial|rfl|exact ap_ rfl|omega|exact aF (by intro _;rfl) _|(intro e he;simp at he;subst he;rfl)|apply And.intro)))
  | (refine sS_ rfl rfl rfl ?_ ?_; · (repeat' (first|exact trivial|rfl|exact ap_ rfl|omega|exact aF (by intro _;rfl) _|(intro e he;simp at he;subst he;rfl)|apply And.intro)))
  | (refine aO rfl rfl rfl rfl ?_ ?_; · (repeat' (first|exact trivial|rfl|exact ap_ rfl|omega|exact aF (by intro _;rfl) _|(intro e he;simp at he;subst he;rfl)|apply And.intro)))
  | refine aH rfl rfl rfl ?_
  | refine sk0_ rfl rfl ?_
  | refine aZ rfl rfl rfl rfl hed rfl ?_
  | (refine aV rfl (fun hb=>?_) (fun hb=>?_)<;>(first|exact (fx_ hb).elim|rw [hb]))
  | refine aw_seq ?_
  | refine aw_region aj _ rfl ?_
  | refine aw_drawn2 tabS_ok _ rfl mixed (by decide +kernel) ?_
  | (refine aG rfl (fun hb=>?_) (fun hb=>?_)<;>(try exact (fx_ hb).elim))
  | refine aw_block ?_
  | refine aw_exit ?_
  | refine aw_ret ?_
  | refine aw_skip ?_)
 refine Da 8 (vQ 0) 2 rfl (by unfold vQ;omega) ?_
 refine eH (WT E (.c (.fn F caps))) (fun s=>[.row (vQ s.c) (s.out.map MX) 2]) (ak5 keep E R) (fun s=>s.n) ⟨E.length+2,0,0,0,0,[],0⟩ ⟨hF,Wl keep hs fun e he=>⟨(hran e he).1,(hran e he).2.1⟩,fun _=>by rw [List.drop_zero];show E.length+_<=E.length+2;split<;>omega,aqj _,by show -((0:Nat):Int)<=0/\(0:Int)<=((0:Nat):Int);omega,by show -((0:Nat):Int)<=0/\(0:Int)<=((0:Nat):Int);omega,by simp⟩ (fun _ _=>aqj _)
  (fm_ ⟨rfl,rfl,rfl,rfl,rfl,rfl,rfl,trivial⟩ [] rfl (ny E hKb _) ⟨gJ _ _ _ _,trivial⟩) ?_
 intro s hok
 have hz:=hok.inv.zero
 have hout:=hok.out
 have hv1:vQ (s.c+1)=vQ s.c+65536:=by unfold vQ;omega
 have hol:(s.out.map MX).length=s.out.length:=aqa ..
 by_cases hat:s.at_<1099511627776
 ·have hA:decide (s.at_<1099511627776)=true:=ap4 hat
  unfold WT
  repeat' (first
   | refine st_nil ?_
   | rw [hA]
   | (refine aM rfl rfl rfl rfl ?_ ?_; · (repeat' (first|exact trivial|rfl|exact ap_ rfl|omega|exact aF (by intro _;rfl) _|(intro e he;simp at he;subst he;rfl)|apply And.intro)))
   | (refine aN rfl rfl rfl rfl ?_ ?_; · (repeat' (first|exact trivial|rfl|exact ap_ rfl|omega|exact aF (by intro _;rfl) _|(intro e he;simp at he;subst he;rfl)|apply And.intro)))
   | (refine sS_ rfl rfl rfl ?_ ?_; · (repeat' (first|exact trivial|rfl|exact ap_ rfl|omega|exact aF (by intro _;rfl) _|(intro e he;simp at he;subst he;rfl)|apply And.intro)))
   | (refine aO rfl rfl rfl rfl ?_ ?_; · (repeat' (first|exact trivial|rfl|exact ap_ rfl|omega|exact aF (by intro _;rfl) _|(intro e he;simp at he;subst he;rfl)|apply And.intro)))
   | refine aH rfl rfl rfl ?_
   | refine sk0_ rfl rfl ?_
   | (refine aV rfl (fun hb=>?_) (fun hb=>?_)<;>(first|exact (fx_ hb).elim|rw [hb]))
   | refine aw_seq ?_
   | refine aw_region aj _ rfl ?_
   | refine aw_drawn2 tabS_ok _ rfl mixed (by decide +kernel) ?_
   | (refine aG rfl (fun hb=>?_) (fun hb=>?_)<;>(try exact (fx_ hb).elim))
   | refine aw_block ?_
   | refine aw_exit ?_
   | refine aw_ret ?_
   | refine aw_skip ?_)
  refine eH (fun r:Nat × Int × Int=>WT2 E (.c (.fn F caps)) s r.1 r.2.1 r.2.2) (fun _=>[.row (vQ s.c) (s.out.map MX) 2]) (fun r=>r.1<=E.length/\qP s.at_ (E.drop s.i) s.na s.nb=qP s.at_ (E.drop r.1) r.2.1 r.2.2/\(-(r.1:Int)<=r.2.1/\r.2.1<=r.1)/\(-(r.1:Int)<=r.2.2/\r.2.2<=r.1)) (fun r=>E.length-r.1) (s.i,s.na,s.nb) ⟨hok.ile,rfl,hok.na,hok.nb⟩ (fun _ _=>aqj _)
   (fm_ ⟨rfl,rfl,rfl,rfl,rfl,rfl,rfl,trivial⟩ [] rfl (Sn E hKb _ _ _ _) ⟨gJ _ _ _ _,trivial⟩) ?_
  rintro ⟨j,na,nb⟩ ⟨hj,hrun,hna,hnb⟩
  dsimp only at hj hrun hna hnb
  unfold WT2
  dsimp only
  by_cases hlt:j<E.length
  ·obtain ⟨e,he⟩:=gol_ hlt
   have hG:decide ((j:Int)<(E.length:Int))=true:=ap4 (by omega)
   have her:=hran e (ap6 he)
   rw [drop_at he] at hrun
   by_cases hq:e.1=s.at_
   ·have hq1:decide (e.1=s.at_)=true:=ap4 hq
    rw [qP,if_pos hq] at hrun
    repeat' (first
     | refine st_nil ?_
     | rw [aqa]
     | rw [hG]
     | rw [hq1]
     | (refine aM rfl rfl rfl rfl ?_ ?_; · (repeat' (first|exact trivial|rfl|exact ap_ rfl|omega|exact aF (by intro _;rfl) _|(intro e he;simp at he;subst he;rfl)|apply And.intro)))
     | (refine dm rfl rfl rfl rfl rfl rfl rfl rfl (cZ he) ?_ ?_; · exact ⟨by omega,rfl⟩)
     | (refine aN rfl rfl rfl rfl ?_ ?_; · (repeat' (first|exact trivial|rfl|exact ap_ rfl|omega|exact aF (by intro _;rfl) _|(intro e he;simp at he;subst he;rfl)|apply And.intro)))
     | (refine sS_ rfl rfl rfl ?_ ?_; · (repeat' (first|exact trivial|rfl|exact ap_ rfl|omega|exact aF (by intro _;rfl) _|(intro e he;simp at he;subst he;rfl)|apply And.intro)))
     | (refine aO rfl rfl rfl rfl ?_ ?_; · (repeat' (first|exact trivial|rfl|exact ap_ rfl|omega|exact aF (by intro _;rfl) _|(intro e he;simp at he;subst he;rfl)|apply And.intro)))
     | refine aH rfl rfl rfl ?_
     | refine sk0_ rfl rfl ?_
     | (refine aV rfl (fun hb=>?_) (fun hb=>?_)<;>(first|exact (fx_ hb).elim|rw [hb]))
     | refine aw_seq ?_
     | refine aw_region aj _ rfl ?_
     | refine aw_drawn2 tabS_ok _ rfl mixed (by decide +kernel) ?_
     | (refine aG rfl (fun hb=>?_) (fun hb=>?_)<;>(try exact (fx_ hb).elim))
     | refine aw_block ?_
     | refine aw_exit ?_
     | refine aw_ret ?_
     | refine aw_skip ?_)
    exact ⟨(j+1,na+e.2.1,nb+e.2.2),⟨by show j+1<=_;omega,hrun,by show -((j+1:Nat):Int)<=na+e.2.1/\na+e.2.1<=((j+1:Nat):Int);omega,by show -((j+1:Nat):Int)<=nb+e.2.2/\nb+e.2.2<=((j+1:Nat):Int);omega⟩,by show E.length-(j+1)<E.length-j;omega,fm_ ⟨rfl,rfl,rfl,bB (show IntKind.i64.wrap (na+e.2.1)=na+e.2.1 from bF (by omega) (by omega)),bB (show IntKind.i64.wrap (nb+e.2.2)=nb+e.2.2 from bF (by omega) (by omega)),bB (show IntKind.i64.wrap ((j:Int)+1)=((j+1:Nat):Int) from bF (by omega) (by omega)),rfl,trivial⟩ [] rfl (Sn E hKb _ _ _ _) ⟨gJ _ _ _ _,trivial⟩⟩
   ·have hq1:decide (e.1=s.at_)=false:=ap3 hq
    rw [afv hq, <- drop_at he] at hrun
    have hnx:qB (E.drop j)=e.1:=by rw [drop_at he];rfl
    have hnr:0<=e.1/\e.1<=1099511627776:=⟨her.1,her.2.1⟩
    have hkk:=hk (decide (0<na)) (decide (0<nb))
    have hnext:=fun {out:List aP} (c:Nat)=>hok.next (out:=out) hat hj hrun hna hnb hnx c
    cases hkb:keep (decide (0<na)) (decide (0<nb)) with
    | false =>
     rw [hkb] at hkk hnext
     repeat' (first
      | refine st_nil ?_
      | rw [aqa]
      | rw [hG]
      | rw [hq1]
      | (refine aM rfl rfl rfl rfl ?_ ?_; · (repeat' (first|exact trivial|rfl|exact ap_ rfl|omega|exact aF (by intro _;rfl) _|(intro e he;simp at he;subst he;rfl)|apply And.intro)))
      | (refine dm rfl rfl rfl rfl rfl rfl rfl rfl (cZ he) ?_ ?_; · exact ⟨by omega,rfl⟩)
      | (refine aN rfl rfl rfl rfl ?_ ?_; · (repeat' (first|exact trivial|rfl|exact ap_ rfl|omega|exact aF (by intro _;rfl) _|(intro e he;simp at he;subst he;rfl)|apply And.intro)))
      | (refine sS_ rfl rfl rfl ?_ ?_; · (repeat' (first|exact trivial|rfl|exact ap_ rfl|omega|exact aF (by intro _;rfl) _|(intro e he;simp at he;subst he;rfl)|apply And.intro)))
      | (refine aO rfl rfl rfl rfl ?_ ?_; · (repeat' (first|exact trivial|rfl|exact ap_ rfl|omega|exact aF (by intro _;rfl) _|(intro e he;simp at he;subst he;rfl)|apply And.intro)))
      | refine aH rfl rfl rfl ?_
      | refine sk0_ rfl rfl ?_
      | refine aZ rfl rfl rfl rfl hkk rfl ?_
      | (refine aV rfl (fun hb=>?_) (fun hb=>?_)<;>(first|exact (fx_ hb).elim|rw [hb]))
      | refine aw_seq ?_
      | refine aw_region aj _ rfl ?_
      | refine aw_drawn2 tabS_ok _ rfl mixed (by decide +kernel) ?_
      | (refine aG rfl (fun hb=>?_) (fun hb=>?_)<;>(try exact (fx_ hb).elim))
      | refine aw_block ?_
      | refine aw_exit ?_
      | refine aw_ret ?_
      | refine aw_skip ?_)
     have hn2:=hnext (out:=s.out) s.c (if_neg (by simp)) (by omega)
     exact ⟨_,hn2.1,hn2.2,fm_ ⟨rfl,rfl,rfl,rfl,rfl,rfl,rfl,trivial⟩ [] rfl (ny E hKb _) ⟨gJ _ _ _ _,trivial⟩⟩
    | true =>
     rw [hkb] at hkk hnext
     rcases Cs s.out with ho|⟨o0,p,ho⟩
     ·rw [ho] at hol hnext ⊢
      repeat' (first
       | refine st_nil ?_
       | (refine dS rfl rfl rfl rfl rfl (iD aj (k:=2) (by_:=16) (xs:=[MX ⟨s.at_,e.1⟩]) rfl rfl rfl rfl ⟨rfl,_,rfl,by intro e he;simp at he;subst he;rfl⟩ rfl (by unfold vQ;omega) rfl rfl rfl (by decide) rfl (by simp only [List.length_singleton,aqu];omega) (by simp only [List.length_singleton,aqu];omega)) ?_)
       | rw [aqa]
       | rw [hG]
       | rw [hq1]
       | (refine aM rfl rfl rfl rfl ?_ ?_; · (repeat' (first|exact trivial|rfl|exact ap_ rfl|omega|exact aF (by intro _;rfl) _|(intro e he;simp at he;subst he;rfl)|apply And.intro)))
       | (refine dm rfl rfl rfl rfl rfl rfl rfl rfl (cZ he) ?_ ?_; · exact ⟨by omega,rfl⟩)
       | (refine aN rfl rfl rfl rfl ?_ ?_; · (repeat' (first|exact trivial|rfl|exact ap_ rfl|omega|exact aF (by intro _;rfl) _|(intro e he;simp at he;subst he;rfl)|apply And.intro)))
       | (refine sS_ rfl rfl rfl ?_ ?_; · (repeat' (first|exact trivial|rfl|exact ap_ rfl|omega|exact aF (by intro _;rfl) _|(intro e he;simp at he;subst he;rfl)|apply And.intro)))
       | (refine aO rfl rfl rfl rfl ?_ ?_; · (repeat' (first|exact trivial|rfl|exact ap_ rfl|omega|exact aF (by intro _;rfl) _|(intro e he;simp at he;subst he;rfl)|apply And.intro)))
       | refine aH rfl rfl rfl ?_
       | refine sk0_ rfl rfl ?_
       | refine aZ rfl rfl rfl rfl hkk rfl ?_
       | (refine aV rfl (fun hb=>?_) (fun hb=>?_)<;>(first|exact (fx_ hb).elim|rw [hb]))
       | refine aw_seq ?_
       | refine aw_region aj _ rfl ?_
       | refine aw_drawn2 tabS_ok _ rfl mixed (by decide +kernel) ?_
       | (refine aG rfl (fun hb=>?_) (fun hb=>?_)<;>(try exact (fx_ hb).elim))
       | refine aw_block ?_
       | refine aw_exit ?_
       | refine aw_ret ?_
       | refine aw_skip ?_)
      have hn2:=hnext (out:=[⟨s.at_,e.1⟩]) (s.c+1) (V6 s.at_ e.1) (by simp)
      exact ⟨_,hn2.1,hn2.2,fm_ ⟨rfl,rfl,(by show _=some (AV.one (.sl 0 (vQ (s.c+1)) 0 1));rw [hv1];rfl),rfl,rfl,rfl,rfl,trivial⟩ [] (by show _=[Ob.row (vQ (s.c+1)) _ 2];rw [hv1];rfl) (ny E hKb _) ⟨gJ _ _ _ _,trivial⟩⟩
     ·have hlen:s.out.length=o0.length+1:=by rw [ho];simp
      have hadd:=Jz o0 p s.at_ e.1
      have hge:((o0++[p]).map MX)[0+((o0.length:Nat):Int).toNat]?=some (MX p):=by rw [aqH,Int.toNat_natCast,aqb,ap7 (by simp)];simp
      have hw1:IntKind.i64.wrap (((o0.length+1:Nat):Int)-1)=((o0.length:Nat):Int):=bF (by omega) (by omega)
      have hg0:decide ((0:Int)<((o0.length+1:Nat):Int))=true:=ap4 (by omega)
      rw [hlen,ho] at hol ⊢
      rw [ho] at hnext
      by_cases hph:p.hi=s.at_
      ·have hp1:decide (p.hi=s.at_)=true:=ap4 hph
       rw [if_pos hph] at hadd
       repeat' (first
        | refine st_nil ?_
        | (refine sP rfl rfl rfl rfl rfl rfl rfl (e:=MX p) (by exact hge) rfl ?_)
        | (refine vw rfl rfl rfl rfl rfl rfl (e:=MX p) (by exact hge) ⟨ap_ rfl,rfl⟩ rfl ?_)
        | rw [hw1]
        | rw [hg0]
        | rw [hp1]
        | rw [aqa]
        | rw [hG]
        | rw [hq1]
        | (refine aM rfl rfl rfl rfl ?_ ?_; · (repeat' (first|exact trivial|rfl|exact ap_ rfl|omega|exact aF (by intro _;rfl) _|(intro e he;simp at he;subst he;rfl)|apply And.intro)))
        | (refine dm rfl rfl rfl rfl rfl rfl rfl rfl (cZ he) ?_ ?_; · exact ⟨by omega,rfl⟩)
        | (refine aN rfl rfl rfl rfl ?_ ?_; · (repeat' (first|exact trivial|rfl|exact ap_ rfl|omega|exact aF (by intro _;rfl) _|(intro e he;simp at he;subst he;rfl)|apply And.intro)))
        | (refine sS_ rfl rfl rfl ?_ ?_; · (repeat' (first|exact trivial|rfl|exact ap_ rfl|omega|exact aF (by intro _;rfl) _|(intro e he;simp at he;subst he;rfl)|apply And.intro)))
        | (refine aO rfl rfl rfl rfl ?_ ?_; · (repeat' (first|exact trivial|rfl|exact ap_ rfl|omega|exact aF (by intro _;rfl) _|(intro e he;simp at he;subst he;rfl)|apply And.intro)))
        | refine aH rfl rfl rfl ?_
        | refine sk0_ rfl rfl ?_
        | refine aZ rfl rfl rfl rfl hkk rfl ?_
        | (refine aV rfl (fun hb=>?_) (fun hb=>?_)<;>(first|exact (fx_ hb).elim|rw [hb]))
        | refine aw_seq ?_
        | refine aw_region aj _ rfl ?_
        | refine aw_drawn2 tabS_ok _ rfl mixed (by decide +kernel) ?_
        | (refine aG rfl (fun hb=>?_) (fun hb=>?_)<;>(try exact (fx_ hb).elim))
        | refine aw_block ?_
        | refine aw_exit ?_
        | refine aw_ret ?_
        | refine aw_skip ?_)
       have hn2:=hnext s.c hadd (by simp)
       exact ⟨_,hn2.1,hn2.2,fm_ ⟨rfl,rfl,(by show _=some (AV.one (.sl 0 (vQ s.c) 0 (o0++[_]).length));rw [ap8];rfl),rfl,rfl,rfl,rfl,trivial⟩ [] (by rw [W9 o0 p e.1 _ (by simp)];rfl) (ny E hKb _) ⟨gJ _ _ _ _,trivial⟩⟩
      ·have hp1:decide (p.hi=s.at_)=false:=ap3 hph
       rw [if_neg hph] at hadd
       repeat' (first
        | refine st_nil ?_
        | (refine sP rfl rfl rfl rfl rfl rfl rfl (e:=MX p) (by exact hge) rfl ?_)
        | (refine dS rfl rfl rfl rfl rfl (iD aj (k:=2) (by_:=16) (xs:=[MX ⟨s.at_,e.1⟩]) rfl rfl rfl rfl ⟨rfl,_,rfl,by intro e he;simp at he;subst he;rfl⟩ rfl (by unfold vQ;omega) rfl rfl rfl (by decide) hol (by simp only [List.length_singleton,aqu];omega) (by simp only [List.length_singleton,aqu];omega)) ?_)
        | rw [hw1]
        | rw [hg0]
        | rw [hp1]
        | rw [aqa]
        | rw [hG]
        | rw [hq1]
        | (refine aM rfl rfl rfl rfl ?_ ?_; · (repeat' (first|exact trivial|rfl|exact ap_ rfl|omega|exact aF (by intro _;rfl) _|(intro e he;simp at he;subst he;rfl)|apply And.intro)))
        | (refine dm rfl rfl rfl rfl rfl rfl rfl rfl (cZ he) ?_ ?_; · exact ⟨by omega,rfl⟩)
        | (refine aN rfl rfl rfl rfl ?_ ?_; · (repeat' (first|exact trivial|rfl|exact ap_ rfl|omega|exact aF (by intro _;rfl) _|(intro e he;simp at he;subst he;rfl)|apply And.intro)))
        | (refine sS_ rfl rfl rfl ?_ ?_; · (repeat' (first|exact trivial|rfl|exact ap_ rfl|omega|exact aF (by intro _;rfl) _|(intro e he;simp at he;subst he;rfl)|apply And.intro)))
        | (refine aO rfl rfl rfl rfl ?_ ?_; · (repeat' (first|exact trivial|rfl|exact ap_ rfl|omega|exact aF (by intro _;rfl) _|(intro e he;simp at he;subst he;rfl)|apply And.intro)))
        | refine aH rfl rfl rfl ?_
        | refine sk0_ rfl rfl ?_
        | refine aZ rfl rfl rfl rfl hkk rfl ?_
        | (refine aV rfl (fun hb=>?_) (fun hb=>?_)<;>(first|exact (fx_ hb).elim|rw [hb]))
        | refine aw_seq ?_
        | refine aw_region aj _ rfl ?_
        | refine aw_drawn2 tabS_ok _ rfl mixed (by decide +kernel) ?_
        | (refine aG rfl (fun hb=>?_) (fun hb=>?_)<;>(try exact (fx_ hb).elim))
        | refine aw_block ?_
        | refine aw_exit ?_
        | refine aw_ret ?_
        | refine aw_skip ?_)
       have hn2:=hnext (s.c+1) hadd (by simp)
       exact ⟨_,hn2.1,hn2.2,fm_ ⟨rfl,rfl,(by show _=some (AV.one (.sl 0 (vQ (s.c+1)) 0 (o0++[p]++[_]).length));rw [hv1,ap8,ap8];rfl),rfl,rfl,rfl,rfl,trivial⟩ [] (by show _=[Ob.row (vQ (s.c+1)) _ 2];rw [hv1,aqb (l₁:=o0++[p])];rfl) (ny E hKb _) ⟨gJ _ _ _ _,trivial⟩⟩
  ·have hj2:j=E.length:=by omega
   have hG:decide ((j:Int)<(E.length:Int))=false:=ap3 (by omega)
   have hnil:E.drop j=[]:=by rw [hj2,aqU]
   have hrun:qP s.at_ (E.drop s.i) s.na s.nb=(E.drop j,na,nb):=by rw [hrun,hnil];rfl
   have hnx:qB (E.drop j)=1099511627776:=by rw [hnil];rfl
   have hkk:=hk (decide (0<na)) (decide (0<nb))
   have hnext:=fun {out:List aP} (c:Nat)=>hok.next (out:=out) hat hj hrun hna hnb hnx c
   cases hkb:keep (decide (0<na)) (decide (0<nb)) with
   | false =>
    rw [hkb] at hkk hnext
    repeat' (first
     | refine st_nil ?_
     | rw [aqa]
     | rw [hG]
     | (refine aM rfl rfl rfl rfl ?_ ?_; · (repeat' (first|exact trivial|rfl|exact ap_ rfl|omega|exact aF (by intro _;rfl) _|(intro e he;simp at he;subst he;rfl)|apply And.intro)))
     | (refine aN rfl rfl rfl rfl ?_ ?_; · (repeat' (first|exact trivial|rfl|exact ap_ rfl|omega|exact aF (by intro _;rfl) _|(intro e he;simp at he;subst he;rfl)|apply And.intro)))
     | (refine sS_ rfl rfl rfl ?_ ?_; · (repeat' (first|exact trivial|rfl|exact ap_ rfl|omega|exact aF (by intro _;rfl) _|(intro e he;simp at he;subst he;rfl)|apply And.intro)))
     | (refine aO rfl rfl rfl rfl ?_ ?_; · (repeat' (first|exact trivial|rfl|exact ap_ rfl|omega|exact aF (by intro _;rfl) _|(intro e he;simp at he;subst he;rfl)|apply And.intro)))
     | refine aH rfl rfl rfl ?_
     | refine sk0_ rfl rfl ?_
     | refine aZ rfl rfl rfl rfl hkk rfl ?_
     | (refine aV rfl (fun hb=>?_) (fun hb=>?_)<;>(first|exact (fx_ hb).elim|rw [hb]))
     | refine aw_seq ?_
     | refine aw_region aj _ rfl ?_
     | refine aw_drawn2 tabS_ok _ rfl mixed (by decide +kernel) ?_
     | (refine aG rfl (fun hb=>?_) (fun hb=>?_)<;>(try exact (fx_ hb).elim))
     | refine aw_block ?_
     | refine aw_exit ?_
     | refine aw_ret ?_
     | refine aw_skip ?_)
    have hn2:=hnext (out:=s.out) s.c (if_neg (by simp)) (by omega)
    exact ⟨_,hn2.1,hn2.2,fm_ ⟨rfl,rfl,rfl,rfl,rfl,rfl,rfl,trivial⟩ [] rfl (ny E hKb _) ⟨gJ _ _ _ _,trivial⟩⟩
   | true =>
    rw [hkb] at hkk hnext
    rcases Cs s.out with ho|⟨o0,p,ho⟩
    ·rw [ho] at hol hnext ⊢
     repeat' (first
      | refine st_nil ?_
      | (refine dS rfl rfl rfl rfl rfl (iD aj (k:=2) (by_:=16) (xs:=[MX ⟨s.at_,1099511627776⟩]) rfl rfl rfl rfl ⟨rfl,_,rfl,by intro e he;simp at he;subst he;rfl⟩ rfl (by unfold vQ;omega) rfl rfl rfl (by decide) rfl (by simp only [List.length_singleton,aqu];omega) (by simp only [List.length_singleton,aqu];omega)) ?_)
      | rw [aqa]
      | rw [hG]
      | (refine aM rfl rfl rfl rfl ?_ ?_; · (repeat' (first|exact trivial|rfl|exact ap_ rfl|omega|exact aF (by intro _;rfl) _|(intro e he;simp at he;subst he;rfl)|apply And.intro)))
      | (refine aN rfl rfl rfl rfl ?_ ?_; · (repeat' (first|exact trivial|rfl|exact ap_ rfl|omega|exact aF (by intro _;rfl) _|(intro e he;simp at he;subst he;rfl)|apply And.intro)))
      | (refine sS_ rfl rfl rfl ?_ ?_; · (repeat' (first|exact trivial|rfl|exact ap_ rfl|omega|exact aF (by intro _;rfl) _|(intro e he;simp at he;subst he;rfl)|apply And.intro)))
      | (refine aO rfl rfl rfl rfl ?_ ?_; · (repeat' (first|exact trivial|rfl|exact ap_ rfl|omega|exact aF (by intro _;rfl) _|(intro e he;simp at he;subst he;rfl)|apply And.intro)))
      | refine aH rfl rfl rfl ?_
      | refine sk0_ rfl rfl ?_
      | refine aZ rfl rfl rfl rfl hkk rfl ?_
      | (refine aV rfl (fun hb=>?_) (fun hb=>?_)<;>(first|exact (fx_ hb).elim|rw [hb]))
      | refine aw_seq ?_
      | refine aw_region aj _ rfl ?_
      | refine aw_drawn2 tabS_ok _ rfl mixed (by decide +kernel) ?_
      | (refine aG rfl (fun hb=>?_) (fun hb=>?_)<;>(try exact (fx_ hb).elim))
      | refine aw_block ?_
      | refine aw_exit ?_
      | refine aw_ret ?_
      | refine aw_skip ?_)
     have hn2:=hnext (out:=[⟨s.at_,1099511627776⟩]) (s.c+1) (V6 s.at_ 1099511627776) (by simp)
     exact ⟨_,hn2.1,hn2.2,fm_ ⟨rfl,rfl,(by show _=some (AV.one (.sl 0 (vQ (s.c+1)) 0 1));rw [hv1];rfl),rfl,rfl,rfl,rfl,trivial⟩ [] (by show _=[Ob.row (vQ (s.c+1)) _ 2];rw [hv1];rfl) (ny E hKb _) ⟨gJ _ _ _ _,trivial⟩⟩
    ·have hlen:s.out.length=o0.length+1:=by rw [ho];simp
     have hadd:=Jz o0 p s.at_ 1099511627776
     have hge:((o0++[p]).map MX)[0+((o0.length:Nat):Int).toNat]?=some (MX p):=by rw [aqH,Int.toNat_natCast,aqb,ap7 (by simp)];simp
     have hw1:IntKind.i64.wrap (((o0.length+1:Nat):Int)-1)=((o0.length:Nat):Int):=bF (by omega) (by omega)
     have hg0:decide ((0:Int)<((o0.length+1:Nat):Int))=true:=ap4 (by omega)
     rw [hlen,ho] at hol ⊢
     rw [ho] at hnext
     by_cases hph:p.hi=s.at_
     ·have hp1:decide (p.hi=s.at_)=true:=ap4 hph
      rw [if_pos hph] at hadd
      repeat' (first
       | refine st_nil ?_
       | (refine sP rfl rfl rfl rfl rfl rfl rfl (e:=MX p) (by exact hge) rfl ?_)
       | (refine vw rfl rfl rfl rfl rfl rfl (e:=MX p) (by exact hge) ⟨ap_ rfl,rfl⟩ rfl ?_)
       | rw [hw1]
       | rw [hg0]
       | rw [hp1]
       | rw [aqa]
       | rw [hG]
       | (refine aM rfl rfl rfl rfl ?_ ?_; · (repeat' (first|exact trivial|rfl|exact ap_ rfl|omega|exact aF (by intro _;rfl) _|(intro e he;simp at he;subst he;rfl)|apply And.intro)))
       | (refine aN rfl rfl rfl rfl ?_ ?_; · (repeat' (first|exact trivial|rfl|exact ap_ rfl|omega|exact aF (by intro _;rfl) _|(intro e he;simp at he;subst he;rfl)|apply And.intro)))
       | (refine sS_ rfl rfl rfl ?_ ?_; · (repeat' (first|exact trivial|rfl|exact ap_ rfl|omega|exact aF (by intro _;rfl) _|(intro e he;simp at he;subst he;rfl)|apply And.intro)))
       | (refine aO rfl rfl rfl rfl ?_ ?_; · (repeat' (first|exact trivial|rfl|exact ap_ rfl|omega|exact aF (by intro _;rfl) _|(intro e he;simp at he;subst he;rfl)|apply And.intro)))
       | refine aH rfl rfl rfl ?_
       | refine sk0_ rfl rfl ?_
       | refine aZ rfl rfl rfl rfl hkk rfl ?_
       | (refine aV rfl (fun hb=>?_) (fun hb=>?_)<;>(first|exact (fx_ hb).elim|rw [hb]))
       | refine aw_seq ?_
       | refine aw_region aj _ rfl ?_
       | refine aw_drawn2 tabS_ok _ rfl mixed (by decide +kernel) ?_
       | (refine aG rfl (fun hb=>?_) (fun hb=>?_)<;>(try exact (fx_ hb).elim))
       | refine aw_block ?_
       | refine aw_exit ?_
       | refine aw_ret ?_
       | refine aw_skip ?_)
      have hn2:=hnext s.c hadd (by simp)
      exact ⟨_,hn2.1,hn2.2,fm_ ⟨rfl,rfl,(by show _=some (AV.one (.sl 0 (vQ s.c) 0 (o0++[_]).length));rw [ap8];rfl),rfl,rfl,rfl,rfl,trivial⟩ [] (by rw [W9 o0 p 1099511627776 _ (by simp)];rfl) (ny E hKb _) ⟨gJ _ _ _ _,trivial⟩⟩
     ·have hp1:decide (p.hi=s.at_)=false:=ap3 hph
      rw [if_neg hph] at hadd
      repeat' (first
       | refine st_nil ?_
       | (refine sP rfl rfl rfl rfl rfl rfl rfl (e:=MX p) (by exact hge) rfl ?_)
       | (refine dS rfl rfl rfl rfl rfl (iD aj (k:=2) (by_:=16) (xs:=[MX ⟨s.at_,1099511627776⟩]) rfl rfl rfl rfl ⟨rfl,_,rfl,by intro e he;simp at he;subst he;rfl⟩ rfl (by unfold vQ;omega) rfl rfl rfl (by decide) hol (by simp only [List.length_singleton,aqu];omega) (by simp only [List.length_singleton,aqu];omega)) ?_)
       | rw [hw1]
       | rw [hg0]
       | rw [hp1]
       | rw [aqa]
       | rw [hG]
       | (refine aM rfl rfl rfl rfl ?_ ?_; · (repeat' (first|exact trivial|rfl|exact ap_ rfl|omega|exact aF (by intro _;rfl) _|(intro e he;simp at he;subst he;rfl)|apply And.intro)))
       | (refine aN rfl rfl rfl rfl ?_ ?_; · (repeat' (first|exact trivial|rfl|exact ap_ rfl|omega|exact aF (by intro _;rfl) _|(intro e he;simp at he;subst he;rfl)|apply And.intro)))
       | (refine sS_ rfl rfl rfl ?_ ?_; · (repeat' (first|exact trivial|rfl|exact ap_ rfl|omega|exact aF (by intro _;rfl) _|(intro e he;simp at he;subst he;rfl)|apply And.intro)))
       | (refine aO rfl rfl rfl rfl ?_ ?_; · (repeat' (first|exact trivial|rfl|exact ap_ rfl|omega|exact aF (by intro _;rfl) _|(intro e he;simp at he;subst he;rfl)|apply And.intro)))
       | refine aH rfl rfl rfl ?_
       | refine sk0_ rfl rfl ?_
       | refine aZ rfl rfl rfl rfl hkk rfl ?_
       | (refine aV rfl (fun hb=>?_) (fun hb=>?_)<;>(first|exact (fx_ hb).elim|rw [hb]))
       | refine aw_seq ?_
       | refine aw_region aj _ rfl ?_
       | refine aw_drawn2 tabS_ok _ rfl mixed (by decide +kernel) ?_
       | (refine aG rfl (fun hb=>?_) (fun hb=>?_)<;>(try exact (fx_ hb).elim))
       | refine aw_block ?_
       | refine aw_exit ?_
       | refine aw_ret ?_
       | refine aw_skip ?_)
      have hn2:=hnext (s.c+1) hadd (by simp)
      exact ⟨_,hn2.1,hn2.2,fm_ ⟨rfl,rfl,(by show _=some (AV.one (.sl 0 (vQ (s.c+1)) 0 (o0++[p]++[_]).length));rw [hv1,ap8,ap8];rfl),rfl,rfl,rfl,rfl,trivial⟩ [] (by show _=[Ob.row (vQ (s.c+1)) _ 2];rw [hv1,aqb (l₁:=o0++[p])];rfl) (ny E hKb _) ⟨gJ _ _ _ _,trivial⟩⟩
 ·have hA:decide (s.at_<1099511627776)=false:=ap3 hat
  have hfin:s.out=R:=by
   have:=hok.fin
   cases hn:s.n with
   | zero=>rw [hn] at this;exact this
   | succ n=>rw [hn,mq,if_neg hat] at this;exact this
  unfold WT
  refine nZ 0 8 (cs:=s.out.map bv) rfl (ahw _) rfl (by simp) ?_
  repeat' (first
   | refine st_nil ?_
   | rw [hA]
   | (refine aM rfl rfl rfl rfl ?_ ?_; · (repeat' (first|exact trivial|rfl|exact ap_ rfl|omega|exact aF (by intro _;rfl) _|(intro e he;simp at he;subst he;rfl)|apply And.intro)))
   | (refine aN rfl rfl rfl rfl ?_ ?_; · (repeat' (first|exact trivial|rfl|exact ap_ rfl|omega|exact aF (by intro _;rfl) _|(intro e he;simp at he;subst he;rfl)|apply And.intro)))
   | (refine sS_ rfl rfl rfl ?_ ?_; · (repeat' (first|exact trivial|rfl|exact ap_ rfl|omega|exact aF (by intro _;rfl) _|(intro e he;simp at he;subst he;rfl)|apply And.intro)))
   | (refine aO rfl rfl rfl rfl ?_ ?_; · (repeat' (first|exact trivial|rfl|exact ap_ rfl|omega|exact aF (by intro _;rfl) _|(intro e he;simp at he;subst he;rfl)|apply And.intro)))
   | refine aH rfl rfl rfl ?_
   | refine sk0_ rfl rfl ?_
   | (refine aV rfl (fun hb=>?_) (fun hb=>?_)<;>(first|exact (fx_ hb).elim|rw [hb]))
   | refine aw_seq ?_
   | refine aw_region aj _ rfl ?_
   | refine aw_drawn2 tabS_ok _ rfl mixed (by decide +kernel) ?_
   | (refine aG rfl (fun hb=>?_) (fun hb=>?_)<;>(try exact (fx_ hb).elim))
   | refine aw_block ?_
   | refine aw_exit ?_
   | refine aw_ret ?_
   | refine aw_skip ?_)
  rw [hfin]
  refine ⟨.inr rfl,?_⟩
  first|exact ⟨trivial,rfl⟩|exact ⟨⟨trivial,trivial⟩,rfl⟩|(refine ⟨?_,rfl⟩;repeat' (first|exact trivial|rfl|apply And.intro))
def wG (n:Int):List Int->List Int
 | []=>[n]
 | x::l=>if x<n then x::wG n l else if n<x then n::x::l else x::l
def I8:List aP->List Int->List Int
 | [],out=>out
 | p::l,out=>I8 l (bif aD p then wG p.hi (wG p.lo out) else out)
theorem F5 (n:Int) : ∀ (l:List Int) (x:Int),x∈wG n l↔x=n\/x∈l
 | [],x=>by simp [wG]
 | y::l,x=>by
  rw [wG]
  by_cases h1:y<n
  ·rw [if_pos h1,aqf,F5 n l x,aqf]
   constructor
   ·rintro (h|h|h)
    ·exact .inr (.inl h)
    ·exact .inl h
    ·exact .inr (.inr h)
   ·rintro (h|h|h)
    ·exact .inr (.inl h)
    ·exact .inl h
    ·exact .inr (.inr h)
  ·rw [if_neg h1]
   by_cases h2:n<y
   ·rw [if_pos h2,aqf]
   ·rw [if_neg h2]
    have:n=y:=by omega
    subst this
    constructor
    ·exact .inr
    ·rintro (h|h)
     ·subst h;exact aqM ..
     ·exact h
theorem Pj (n:Int) : ∀ {l:List Int}, l.Pairwise (· < ·)->(wG n l).Pairwise (· < ·)
 | [],_=>aqV.2 ⟨fun x hx=>(by cases hx),List.Pairwise.nil⟩
 | y::l,h=>by
  have h':=aqV.1 h
  rw [wG]
  by_cases h1:y<n
  ·rw [if_pos h1,aqV]
   refine ⟨fun x hx=>?_,Pj n h'.2⟩
   rcases (F5 n l x).1 hx with rfl|hx
   ·exact h1
   ·exact h'.1 x hx
  ·rw [if_neg h1]
   by_cases h2:n<y
   ·rw [if_pos h2,aqV]
    refine ⟨fun x hx=>?_,h⟩
    rcases aqf.1 hx with rfl|hx
    ·exact h2
    ·have:=h'.1 x hx;omega
   ·rw [if_neg h2];exact h
theorem Af (n:Int) : ∀ l:List Int,(wG n l).length<=l.length+1
 | []=>aqe _
 | y::l=>by
  have:=Af n l
  rw [wG]
  split
  ·simp;omega
  ·split<;>simp
theorem Px : ∀ (l:List aP) {out:List Int}, out.Pairwise (· < ·)->(I8 l out).Pairwise (· < ·)
 | [],_,h=>h
 | p::l,out,h=>by
  rw [I8]
  refine Px l ?_
  cases aD p with
  | false=>exact h
  | true=>exact Pj _ (Pj _ h)
theorem Ps : ∀ (l:List aP) (out:List Int) (x:Int),x∈I8 l out↔x∈out \/ ∃ p∈l,aD p=true/\(x=p.lo\/x=p.hi)
 | [],out,x=>by simp [I8]
 | p::l,out,x=>by
  rw [I8,Ps l]
  cases hp:aD p with
  | false =>
   rw [ap1]
   constructor
   ·rintro (h|⟨q,hq,h⟩)
    ·exact .inl h
    ·exact .inr ⟨q,aqm _ hq,h⟩
   ·rintro (h|⟨q,hq,h⟩)
    ·exact .inl h
    ·rcases aqf.1 hq with rfl|hq
     ·rw [hp] at h;exact absurd h.1 (by simp)
     ·exact .inr ⟨q,hq,h⟩
  | true =>
   rw [ap2,F5,F5]
   constructor
   ·rintro ((h|h|h)|⟨q,hq,h⟩)
    ·exact .inr ⟨p,aqM .., hp, .inr h⟩
    ·exact .inr ⟨p,aqM .., hp, .inl h⟩
    ·exact .inl h
    ·exact .inr ⟨q,aqm _ hq,h⟩
   ·rintro (h|⟨q,hq,h0,h⟩)
    ·exact .inl (.inr (.inr h))
    ·rcases aqf.1 hq with rfl|hq
     ·rcases h with h|h
      ·exact .inl (.inr (.inl h))
      ·exact .inl (.inl h)
     ·exact .inr ⟨q,hq,h0,h⟩
theorem Wz : ∀ (l:List aP) (out:List Int),(I8 l out).length<=out.length+2*l.length
 | [],_=>aqe _
 | p::l,out=>by
  have h1:=Wz l (bif aD p then wG p.hi (wG p.lo out) else out)
  have h2:=Af p.hi (wG p.lo out)
  have h3:=Af p.lo out
  rw [I8,aqk]
  cases hp:aD p<;>rw [hp] at h1<;>simp only [ap2,ap1] at h1 ⊢ <;> omega
def lI (w:Bool->Bool->Bool) (a b:List aP):List Int->List aP->List aP
 | [],out=>out
 | [_],out=>out
 | x::y::ps,out=>lI w a b (y::ps) (if w (iq a x) (iq b x) then yo out x y else out)
def Calm (l:List aP) (x y:Int):Prop := ∀ p∈l,aD p=true->(p.lo<=x\/y<=p.lo)/\(p.hi<=x\/y<=p.hi)
theorem Calm.eq {l:List aP} {x y t:Int} (h:Calm l x y) (h1:x<=t) (h2:t<y):iq l t=iq l x:=by
 rw [Bool.eq_iff_iff,fw,fw]
 constructor
 ·rintro ⟨p,hp,hv,a,b⟩
  have:=h p hp hv
  exact ⟨p,hp,hv,by omega,by omega⟩
 ·rintro ⟨p,hp,hv,a,b⟩
  have:=h p hp hv
  exact ⟨p,hp,hv,by omega,by omega⟩
theorem WP (w:Bool->Bool->Bool) (a b:List aP) : ∀ (ps:List Int) (x:Int) (out:List aP),(x::ps).Pairwise (· < ·)->(∀ y∈x::ps,0<=y/\y<=1099511627776)->1099511627776∈x::ps ->
  (∀ p∈a,aD p=true->(p.lo<=x\/p.lo∈ps)/\(p.hi<=x\/p.hi∈ps))->(∀ p∈b,aD p=true->(p.lo<=x\/p.lo∈ps)/\(p.hi<=x\/p.hi∈ps)) ->
  dN out->(∀ p∈out,p.hi<=x)->(∀ t,iq out t=((decide (0<=t)&&decide (t<x))&&w (iq a t) (iq b t))) ->
  dN (lI w a b (x::ps) out) /\ ∀ t,iq (lI w a b (x::ps) out) t=((decide (0<=t)&&decide (t<1099511627776))&&w (iq a t) (iq b t))
 | [],x,out,_,_,hf,_,_,h1,_,h3=>by
  have:x=1099511627776:=(aqF.1 hf).symm
  subst this
  exact ⟨h1,h3⟩
 | y::ps,x,out,hs,hr,hf,ha,hb,h1,h2,h3=>by
  have hs':=aqV.1 hs
  have hs2:=aqV.1 hs'.2
  have hxy:=hs'.1 y (aqM ..)
  have hx:=hr x (aqM ..)
  have hy:=hr y (aqm _ (aqM ..))
  have hcalm : ∀ l:List aP,(∀ p∈l,aD p=true->(p.lo<=x\/p.lo∈y::ps)/\(p.hi<=x\/p.hi∈y::ps))->Calm l x y /\ ∀ p∈l,aD p=true->(p.lo<=y\/p.lo∈ps)/\(p.hi<=y\/p.hi∈ps):=fun l hl=>by
   have key : ∀ z:Int,(z<=x\/z∈y::ps)->(z<=x\/y<=z)/\(z<=y\/z∈ps):=fun z hz=>by
    rcases hz with hz|hz
    ·exact ⟨.inl hz, .inl (by omega)⟩
    ·rcases aqf.1 hz with rfl|hz
     ·exact ⟨.inr (Int.le_refl _), .inl (Int.le_refl _)⟩
     ·exact ⟨.inr (by have:=hs2.1 z hz;omega), .inr hz⟩
   exact ⟨fun p hp hv=>⟨(key _ (hl p hp hv).1).1,(key _ (hl p hp hv).2).1⟩,fun p hp hv=>⟨(key _ (hl p hp hv).1).2,(key _ (hl p hp hv).2).2⟩⟩
  obtain ⟨ca,ca'⟩:=hcalm a ha
  obtain ⟨cb,cb'⟩:=hcalm b hb
  have hf':1099511627776∈y::ps:=by
   rcases aqf.1 hf with h|h
   ·omega
   ·exact h
  rw [lI]
  have hw : ∀ t,x<=t->t<y->w (iq a t) (iq b t)=w (iq a x) (iq b x):=fun t e1 e2=>by rw [ca.eq e1 e2,cb.eq e1 e2]
  refine WP w a b ps y _ hs'.2 (fun z hz=>hr z (aqm _ hz)) hf' ca' cb' ?_ ?_ ?_
  ·split
   ·exact (o6 h1 h2 hx.1 hxy hy.2).1
   ·exact h1
  ·split
   ·exact (o6 h1 h2 hx.1 hxy hy.2).2.1
   ·exact fun p hp=>by have:=h2 p hp;omega
  ·intro t
   by_cases hlt:t<x
   ·have e2:iq (if w (iq a x) (iq b x) then yo out x y else out) t=iq out t:=by
     split
     ·rw [(o6 h1 h2 hx.1 hxy hy.2).2.2,ap3 (show ¬ x<=t by omega),Bool.false_and,Bool.or_false]
     ·rfl
    rw [e2,h3 t,ap4 hlt,ap4 (show t<y by omega)]
   ·have e0:iq out t=false:=by rw [h3 t,ap3 hlt,Bool.and_false,Bool.false_and]
    by_cases hty:t<y
    ·rw [hw t (by omega) hty,ap4 (show 0<=t by omega),ap4 hty,aqx,aqx]
     cases hk:w (iq a x) (iq b x) with
     | true=>rw [if_pos rfl,(o6 h1 h2 hx.1 hxy hy.2).2.2,e0,ap4 (show x<=t by omega),ap4 hty];rfl
     | false=>rw [if_neg (by simp),e0]
    ·rw [ap3 hty,Bool.and_false,Bool.false_and]
     split
     ·rw [(o6 h1 h2 hx.1 hxy hy.2).2.2,e0,ap3 hty,Bool.and_false];rfl
     ·exact e0
def p8 (a b:List aP):List Int:=I8 (⟨0,1099511627776⟩::(a++b)) []
theorem CZ (w:Bool->Bool->Bool) (a b:List aP):dN (lI w a b (p8 a b) []) /\ ∀ t,iq (lI w a b (p8 a b) []) t=((decide (0<=t)&&decide (t<1099511627776))&&w (iq a t) (iq b t)):=by
 have h0:aD ⟨0,1099511627776⟩=true:=by decide
 have hm : ∀ x,x∈p8 a b ↔ ∃ p∈(⟨0,1099511627776⟩::(a++b):List aP),aD p=true/\(x=p.lo\/x=p.hi):=fun x=>by
  unfold p8
  rw [Ps]
  simp
 have hasc:(p8 a b).Pairwise (· < ·):=Px _ List.Pairwise.nil
 have hr : ∀ y∈p8 a b,0<=y/\y<=1099511627776:=fun y hy=>by
  obtain ⟨p,_,hv,h⟩:=(hm y).1 hy
  have:=lh hv
  omega
 have hz:(0:Int)∈p8 a b:=(hm 0).2 ⟨_,aqM .., h0, .inl rfl⟩
 have hF:(1099511627776:Int)∈p8 a b:=(hm _).2 ⟨_,aqM .., h0, .inr rfl⟩
 have hall : ∀ p∈a++b,aD p=true->p.lo∈p8 a b/\p.hi∈p8 a b:=fun p hp hv=>⟨(hm _).2 ⟨p,aqm _ hp,hv, .inl rfl⟩,(hm _).2 ⟨p,aqm _ hp,hv, .inr rfl⟩⟩
 generalize p8 a b=P at hasc hr hz hF hall
 cases P with
 | nil=>cases hz
 | cons x ps =>
  have hx0:x=0:=by
   rcases aqf.1 hz with h|h
   ·exact h.symm
   ·have:=(aqV.1 hasc).1 0 h
    have:=hr x (aqM ..)
    omega
  subst hx0
  have hin : ∀ z∈(0:Int)::ps,z<=0\/z∈ps:=fun z hz=>by
   rcases aqf.1 hz with rfl|h
   ·exact .inl (Int.le_refl _)
   ·exact .inr h
  refine WP w a b ps 0 [] hasc hr hF (fun p hp hv=>?_) (fun p hp hv=>?_) trivial (fun p hp=>by cases hp) fun t=>?_
  ·have:=hall p (List.mem_append_left _ hp) hv
   exact ⟨hin _ this.1,hin _ this.2⟩
  ·have:=hall p (List.mem_append_right _ hp) hv
   exact ⟨hin _ this.1,hin _ this.2⟩
  ·have:(decide (0<=t)&&decide (t<0))=false:=by
    by_cases h:t<0
    ·rw [ap3 (show ¬ 0<=t by omega),Bool.false_and]
    ·rw [ap3 h,Bool.and_false]
   rw [this,Bool.false_and,oW]
theorem OI (keep:Bool->Bool->Bool) {a b c d:List aP} {w:Bool->Bool->Bool} {E:List E3} (hp:E.Perm (BX a b)) (hs:rH E) {n:Nat} (hn:E.length+2<=n)
  (h : ∀ t,0<=t->t<1099511627776->keep (iq a t) (iq b t)=w (iq c t) (iq d t)):mq keep n E 0 0 0 []=lI w c d (p8 c d) []:=by
 obtain ⟨h1,h2⟩:=Ng keep hp hs hn
 obtain ⟨h3,h4⟩:=CZ w c d
 refine uH h1 h3 fun t=>?_
 rw [h2,h4]
 by_cases q1:0<=t
 ·by_cases q2:t<1099511627776
  ·rw [h t q1 q2]
  ·rw [ap3 q2,Bool.and_false,Bool.false_and,Bool.false_and]
 ·rw [ap3 q1,Bool.false_and,Bool.false_and,Bool.false_and]
theorem sum_nil {α:Type} : ∀ b:List α,(b.map fun _=>0).sum=0
 | []=>rfl
 | y::b=>by rw [ap',List.sum_cons,sum_nil b]
end Go.Proofs.YtlcceppoloaecaaGreatDoor
