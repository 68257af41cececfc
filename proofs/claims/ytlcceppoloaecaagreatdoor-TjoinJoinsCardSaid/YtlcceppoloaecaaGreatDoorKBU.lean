/- Parts of the proof, joined. No condition. -/
import Derived.Test.YtlcceppoloaecaaGreatDoorKAA
import Derived.Test.YtlcceppoloaecaaGreatDoorKBT
import Derived.Test.YtlcceppoloaecaaGreatDoorKBK
import Derived.Test.YtlcceppoloaecaaGreatDoorKBR
import Derived.Test.YtlcceppoloaecaaGreatDoorKBS
set_option linter.unusedSimpArgs false
set_option linter.unusedVariables false
namespace Go.Proofs.YtlcceppoloaecaaGreatDoor
open Go.RowKit Go.MapKept
def vO (p q:aP):aP:=⟨max p.lo q.lo,min p.hi q.hi⟩
def fE (c:aC->aC->Bool) (b:List aC) (x:aC):List aP:=b.flatMap fun y=>bif nQ x.valid y.valid&&c x y then [vO x.valid y.valid] else []
def K3 (c:aC->aC->Bool) (b:List aC) (x:aC):List aP:=b.flatMap fun y=>bif c x y then [y.valid] else []
theorem Dm (p q:aP):nQ p q=true↔aD p=true/\aD q=true/\p.lo<q.hi/\q.lo<p.hi:=by
 unfold nQ
 generalize aD p=u
 generalize aD q=v
 rw [aqg,aqg,aqg,decide_eq_true_eq,decide_eq_true_eq]
 constructor
 ·rintro ⟨⟨a,b⟩,c,d⟩;exact ⟨a,b,c,d⟩
 ·rintro ⟨a,b,c,d⟩;exact ⟨⟨a,b⟩,c,d⟩
theorem UK {p q:aP} (h:nQ p q=true):aD (vO p q)=true:=by
 obtain ⟨h1,h2,h3,h4⟩:=(Dm p q).1 h
 have:=lh h1
 have:=lh h2
 have a1:0<=max p.lo q.lo:=by omega
 have a2:max p.lo q.lo<min p.hi q.hi:=by omega
 have a3:min p.hi q.hi<=1099511627776:=by omega
 show (decide (0<=max p.lo q.lo)&&decide (max p.lo q.lo<min p.hi q.hi)&&decide (min p.hi q.hi<=1099511627776))=true
 rw [ap4 a1,ap4 a2,ap4 a3];rfl
theorem acM {c:aC->aC->Bool} {b:List aC} {x:aC} {p:aP} : p∈fE c b x ↔ ∃ y∈b,nQ x.valid y.valid=true/\c x y=true/\p=vO x.valid y.valid:=by
 unfold fE
 rw [List.mem_flatMap]
 constructor
 ·rintro ⟨y,hy,h⟩
  cases h1:nQ x.valid y.valid&&c x y with
  | false=>rw [h1] at h;cases h
  | true =>
   rw [h1,ap2,aqF] at h
   rw [aqg] at h1
   exact ⟨y,hy,h1.1,h1.2,h⟩
 ·rintro ⟨y,hy,h1,h2,rfl⟩
  exact ⟨y,hy,by rw [h1,h2];exact aqF.2 rfl⟩
theorem adf {c:aC->aC->Bool} {b:List aC} {x:aC} {p:aP} : p∈K3 c b x ↔ ∃ y∈b,c x y=true/\p=y.valid:=by
 unfold K3
 rw [List.mem_flatMap]
 constructor
 ·rintro ⟨y,hy,h⟩
  cases h1:c x y with
  | false=>rw [h1] at h;cases h
  | true =>
   rw [h1,ap2,aqF] at h
   exact ⟨y,hy,h1,h⟩
 ·rintro ⟨y,hy,h2,rfl⟩
  exact ⟨y,hy,by rw [h2];exact aqF.2 rfl⟩
theorem Gq {α β:Type} (g:α->List β) (h : ∀ x,(g x).length<=1) : ∀ l:List α,(l.flatMap g).length<=l.length
 | []=>aqe _
 | x::l=>by
  have h1:=h x
  have h2:=Gq g h l
  rw [aqC,ap8,aqk];omega
theorem L9 (c:aC->aC->Bool) (b:List aC) (x:aC):(fE c b x).length<=b.length:=Gq _ (fun y=>by cases nQ x.valid y.valid&&c x y<;>simp) b
theorem Uy (c:aC->aC->Bool) (b:List aC) (x:aC):(K3 c b x).length<=b.length:=Gq _ (fun y=>by cases c x y<;>simp) b
theorem Ld {c:aC->aC->Bool} {b:List aC} {x:aC} (hx:aD x.valid=true) (t:Int):iq (fE c b x) t=(KR x.valid t&&iq (K3 c b x) t):=by
 rw [Bool.eq_iff_iff,aqg,fw,fw,jM]
 constructor
 ·rintro ⟨p,hp,hv,h1,h2⟩
  obtain ⟨y,hy,ho,hc,rfl⟩:=acM.1 hp
  obtain ⟨q1,q2,q3,q4⟩:=(Dm _ _).1 ho
  simp only [vO] at h1 h2
  exact ⟨by omega,y.valid,adf.2 ⟨y,hy,hc,rfl⟩,q2,by omega,by omega⟩
 ·rintro ⟨⟨h1,h2⟩,p,hp,hv,h3,h4⟩
  obtain ⟨y,hy,hc,rfl⟩:=adf.1 hp
  have ho:nQ x.valid y.valid=true:=(Dm _ _).2 ⟨hx,hv,by omega,by omega⟩
  refine ⟨_,acM.2 ⟨y,hy,ho,hc,rfl⟩,UK ho,?_,?_⟩<;>simp only [vO]<;>omega
theorem Gv {p:aP} (h:aD p=true) (t:Int):iq [p] t=KR p t:=by rw [rU,oW,h,aqx,Bool.or_false]
def lq (c:aC->aC->Bool) (b:List aC) (x:aC):List aP:=lI (fun p q=>p && !q) [x.valid] (K3 c b x) (p8 [x.valid] (K3 c b x)) []
theorem aeV {c:aC->aC->Bool} {b:List aC} {x:aC} (hx:aD x.valid=true) {E:List E3} (hp:E.Perm (BX [x.valid] (fE c b x))) (hs:rH E) {n:Nat} (hn:E.length+2<=n) :
  mq (fun p q=>p && !q) n E 0 0 0 []=lq c b x:=by
 refine OI (fun p q=>p && !q) hp hs hn fun t _ _=>?_
 rw [Gv hx,Ld hx]
 cases KR x.valid t<;>simp
theorem WU {c:aC->aC->Bool} {b:List aC} {x:aC} (hx:aD x.valid=true):dN (lq c b x) /\ ∀ t,iq (lq c b x) t=(KR x.valid t && !iq (fE c b x) t):=by
 obtain ⟨h1,h2⟩:=CZ (fun p q=>p && !q) [x.valid] (K3 c b x)
 refine ⟨h1,fun t=>?_⟩
 unfold lq
 rw [h2,Gv hx,Ld hx]
 have:=lh hx
 cases h:KR x.valid t with
 | false=>simp
 | true =>
  rw [jM] at h
  rw [ap4 (show 0<=t by omega),ap4 (show t<1099511627776 by omega)]
  simp
theorem abE : ∀ {l m:List Int}, l.Pairwise (· < ·)->(∀ x∈l,x∈m)->l.length<=m.length
 | [],m,_,_=>aqj _
 | x::l,m,h,hm=>by
  rw [aqV] at h
  have hx:=hm x (aqM ..)
  have h1:=abE (l:=l) (m:=m.erase x) h.2 fun y hy=>by
   have:=h.1 y hy
   rw [List.mem_erase_of_ne (by omega)]
   exact hm y (aqm _ hy)
  rw [List.length_erase_of_mem hx] at h1
  have:0<m.length:=List.length_pos_of_mem hx
  rw [aqk];omega
theorem OC : ∀ {l:List aP}, dN l->(l.map aP.lo).Pairwise (· < ·)
 | [],_=>List.Pairwise.nil
 | p::l,h=>by
  rw [ap',aqV]
  refine ⟨fun y hy=>?_,OC h.2.2⟩
  obtain ⟨q,hq,rfl⟩:=aqz.1 hy
  have:=h.2.1 q hq
  have:=lh h.1
  omega
theorem Bo : ∀ {l:List aP}, dN l -> ∀ p∈l,iq l p.lo=true/\iq l (p.lo-1)=false
 | [],_,p,hp=>by cases hp
 | q::l,h,p,hp=>by
  have hv:=h.val p hp
  have hl:=lh hv
  refine ⟨(fw _ _).2 ⟨p,hp,hv,by omega,by omega⟩,?_⟩
  rw [Bool.eq_false_iff]
  intro ht
  obtain ⟨r,hr,hrv,h1,h2⟩:=(fw _ _).1 ht
  rcases aqf.1 hp with e|hp2
  ·subst e
   rcases aqf.1 hr with e|hr2
   ·subst e;omega
   ·have:=h.2.1 r hr2;omega
  ·rcases aqf.1 hr with e|hr2
   ·subst e;have:=h.2.1 p hp2;omega
   ·have:=(Bo h.2.2 p hp2).2
    rw [(fw _ _).2 ⟨r,hr2,hrv,h1,h2⟩] at this
    cases this
theorem LW {c:aC->aC->Bool} {b:List aC} {x:aC} (hx:aD x.valid=true):(lq c b x).length<=b.length+1:=by
 obtain ⟨h1,h2⟩:=WU (c:=c) (b:=b) hx
 have h3:=abE (m:=x.valid.lo::(fE c b x).map aP.hi) (OC h1) fun y hy=>by
  obtain ⟨p,hp,rfl⟩:=aqz.1 hy
  obtain ⟨q1,q2⟩:=Bo h1 p hp
  rw [h2,aqg,jM] at q1
  by_cases he:p.lo=x.valid.lo
  ·rw [he];exact aqM ..
  ·refine aqm _ ?_
   have hin:KR x.valid (p.lo-1)=true:=(jM _ _).2 (by omega)
   rw [h2,hin,aqx,Bool.not_eq_false'] at q2
   obtain ⟨r,hr,hrv,h5,h6⟩:=(fw _ _).1 q2
   refine aqz.2 ⟨r,hr,?_⟩
   rcases (show p.lo<r.hi\/r.hi<=p.lo by omega) with h7|h7
   ·have:iq (fE c b x) p.lo=true:=(fw _ _).2 ⟨r,hr,hrv,by omega,h7⟩
    rw [this] at q1
    exact absurd q1.2 (by simp)
   ·omega
 rw [aqa,aqk,aqa] at h3
 have:=L9 c b x
 omega
set_option maxRecDepth 100000
set_option maxHeartbeats 8000000
noncomputable section
def LV (a_e:Ex) (a_row:(List Val)):Option (Int):=(BO fuel a_e a_row).bind fun r_1=>(oO r_1).bind fun r_2=>some r_2
theorem aag {a_e:Ex} {a_row:(List Val)} {r:Int} (H:LV a_e a_row=some r):Pure Tryz.prog 90 [.agg (tE a_e), .one (.lst (a_row.map cV))] (.val (.one (.int .i64 r))):=by
 unfold LV at H
 rw [aL a_e]
 refine po_ Tryz.func90 Tryz.ntmps90 ?_
 obtain ⟨r_1,c1,H⟩:=bd_ H
 replace c1:=Pk fuel c1
 try simp only [aqb,ap',aqd,ap5,aL] at c1
 obtain ⟨r_2,c2,H⟩:=bd_ H
 replace c2:=sJ c2
 cases H
 exact aK
end
def Cu (row:List Val) (i:Int):Val:=if 0<=i then (row[i.toNat]?).getD dH else dH
theorem ag0 (row:List Val) (i:Int):gAt row i=some (Cu row i):=by
 unfold gAt Cu
 by_cases h1:i<0
 ·rw [ap4 h1,ap2,if_neg (by omega)];rfl
 ·rw [ap3 h1,ap1,if_pos (by omega)]
  by_cases h2:((row.length:Nat):Int)<=i
  ·rw [ap4 h2,ap2,aqN (by omega)];rfl
  ·rw [ap3 h2,ap1]
   obtain ⟨x,hx⟩:=gol_ (show i.toNat<row.length by omega)
   unfold aT
   rw [if_pos (by omega),hx];rfl
theorem akQ (row:List Val) (i:Int):Zx row i=some (Cu row i):=(show Zx row i=gAt row i from rfl).trans (ag0 row i)
theorem adJ (row:List Val) (i:Int):XG row [i]=some [Cu row i]:=by
 unfold XG
 simp only [aqk,aqu]
 rw [show decide ((0:Int)<=(((0+1:Nat)):Int))=true from rfl,show decide ((32:Int)*(((0+1:Nat)):Int)<=281474976710656)=true from rfl,show decide ((((0+1:Nat)):Int)<=9223372036854775807)=true from rfl]
 simp only [ap2]
 rw [dI (l:=[i]) (mk:=fun t i=>(t,i)) (f:=push (Cu row) 4398046511104) ?_ ?_ (by unfold fuel;simp) []]
 ·rw [SE _ _ _ _ (by simp)];rfl
 ·intro s j x hx
  have hi:=(ap0.1 hx).1
  unfold FT push
  dsimp only
  rw [bf hx,ap2,gn_ hx]
  simp only [apZ]
  rw [ag0,apZ,wrapN (by simp at hi;omega)]
  cases decide (s.length+1<=4398046511104)<;>rfl
 ·intro s
  unfold FT
  dsimp only
  rw [lF_,ap1]
theorem abn (row:List Val) (i:Int):Ho row i=some (VW (Cu row i)):=by
 unfold Ho
 rw [adJ,apZ,show aT [Cu row i] (0:Int)=some (Cu row i) from rfl,apZ,EX,apZ,pq]
 unfold VW
 cases vF (Cu row i)<;>rfl
theorem aeh (e:Ex) (row:List Val) (h:e.op=2):KD e row=some (VW (Cu row e.int)):=by
 unfold KD
 rw [h,show decide ((2:Int)=2)=true from rfl,ap2,akQ,apZ,mi,apZ,dB]
 unfold VW
 cases vF (Cu row e.int)<;>rfl
theorem X8 (e:Ex) (row:List Val) (h:e.op=1) (hv:vF e.v=true):KD e row=some e.v:=by
 unfold KD
 rw [h,show decide ((1:Int)=2)=false from rfl,ap1,mi,apZ,hv]
 rfl
def iy (l:List Val) (k:Int):Bool:=l.all fun v=>decide (v.kind=k)
theorem qD (l:List Val) (k:Int) (hl:l.length<=1000000):YZ l k=some (iy l k):=by
 unfold YZ
 rw [dI (l:=l) (mk:=fun (_:Unit) i=>i) (f:=fun _ v=>some (if v.kind≠k then .inr false else .inl ())) ?_ ?_ (by unfold fuel;omega) ()]
 ·have : ∀ l:List Val,d_ (ρ:=Bool) (fun (_:Unit) (v:Val)=>some (if v.kind≠k then .inr false else .inl ())) () l=some (if iy l k=true then .inl () else .inr false):=by
   intro l
   induction l with
   | nil=>rfl
   | cons v l ih =>
    rw [d_]
    by_cases h:v.kind=k
    ·simp only [ne_eq,h,not_true_eq_false,if_false]
     rw [ih];simp [iy,h]
    ·simp [iy,h]
  rw [this]
  cases iy l k<;>rfl
 ·intro s i x hx
  have hi:=(ap0.1 hx).1
  unfold LX
  dsimp only
  rw [bf hx,ap2,gn_ hx,wrapN (by omega)]
  simp only [apZ]
  by_cases h:x.kind=k
  ·simp [h,w_]
  ·simp [h,w_]
 ·intro s
  unfold LX
  dsimp only
  rw [lF_,ap1]
def Hr (f:Int->Int->Int) (l:List Val) (t:Int):Int:=l.foldl (fun t v=>f t (tF_ v)) t
theorem Le {f:Int->Int->Int} (hf : ∀ a b,T3 (f a b)) : ∀ (l:List Val) (t:Int),T3 t->T3 (Hr f l t)
 | [],t,h=>h
 | v::l,t,h=>Le hf l _ (hf _ _)
theorem Ic {f:Int->Int->Int} (hf : ∀ a b,T3 (f a b)) {g:Int->Int->Option Int} (hg : ∀ a b,T3 a->T3 b->g a b=some (f a b)) : ∀ (l:List Val) (t:Int),T3 t->d_ (ρ:=Val) (fun t v=>(g t (tF_ v)).bind fun r=>some (.inl r)) t l=some (.inl (Hr f l t))
 | [],t,h=>rfl
 | v::l,t,h=>by
  rw [d_,hg _ _ h (kQ v)]
  exact Ic hf hg l _ (hf _ _)
theorem aai (x:Val) (l:List Val) (hl:l.length<=1000000):rE 5 (x::l)=some (FB (Hr QV l (tF_ x))):=by
 unfold rE
 rw [show aT (x::l) (0:Int)=some x from rfl,apZ,l7,apZ,show decide ((5:Int)=4)=false from rfl,ap1,show decide ((5:Int)=5)=true from rfl,ap2]
 rw [show l6 (x::l) (1:Int) (((x::l).length:Nat):Int)=some l by unfold l6;rw [if_pos (by simp only [aqk];omega)];simp,apZ]
 rw [dI (l:=l) (mk:=fun t i=>(t,i)) (f:=fun t v=>(abC t (tF_ v)).bind fun r=>some (.inl r)) ?_ ?_ (by unfold fuel;omega) (tF_ x)]
 ·rw [Ic VP (fun a b ha hb=>ajN ha hb) l _ (kQ x)]
  show (Hg (Hr QV l (tF_ x))).bind _=_
  rw [nk (Le VP l _ (kQ x))];rfl
 ·intro s i v hv
  have hi:=(ap0.1 hv).1
  unfold Df
  dsimp only
  rw [bf hv,ap2,gn_ hv,wrapN (by omega)]
  simp only [apZ]
  rw [l7,apZ]
  cases abC s (tF_ v)<;>rfl
 ·intro s
  unfold Df
  dsimp only
  rw [lF_,ap1]
theorem adM (x:Val) (l:List Val) (hl:l.length<=1000000):rE 6 (x::l)=some (FB (Hr or3 l (tF_ x))):=by
 unfold rE
 rw [show aT (x::l) (0:Int)=some x from rfl,apZ,l7,apZ,show decide ((6:Int)=4)=false from rfl,ap1,show decide ((6:Int)=5)=false from rfl,ap1]
 rw [show l6 (x::l) (1:Int) (((x::l).length:Nat):Int)=some l by unfold l6;rw [if_pos (by simp only [aqk];omega)];simp,apZ]
 rw [dI (l:=l) (mk:=fun t i=>(t,i)) (f:=fun t v=>(Qq t (tF_ v)).bind fun r=>some (.inl r)) ?_ ?_ (by unfold fuel;omega) (tF_ x)]
 ·rw [Ic aaD (fun a b ha hb=>ama ha hb) l _ (kQ x)]
  show (Hg (Hr or3 l (tF_ x))).bind _=_
  rw [nk (Le aaD l _ (kQ x))];rfl
 ·intro s i v hv
  have hi:=(ap0.1 hv).1
  unfold Dx
  dsimp only
  rw [bf hv,ap2,gn_ hv,wrapN (by omega)]
  simp only [apZ]
  rw [l7,apZ]
  cases Qq s (tF_ v)<;>rfl
 ·intro s
  unfold Dx
  dsimp only
  rw [lF_,ap1]
theorem aa7 (x:Val):rE 4 [x]=some (FB (Og (tF_ x))):=by
 unfold rE
 rw [show aT [x] (0:Int)=some x from rfl,apZ,l7,apZ,show decide ((4:Int)=4)=true from rfl,ap2,Ci (kQ x),apZ,nk (yz _)];rfl
theorem Qo (op:Int) (f:Int->Int->Int) (hf : ∀ a b,T3 (f a b)) (hop : ∀ a b,T3 a->T3 b->(bif decide (op=5) then Nr a b else Zn a b)=some (f a b)) (x:Val) (l:List Val) (hl:l.length<=1000000):CY op (x::l)=some (FB (Hr f l (tF_ x))):=by
 unfold CY
 rw [show aT (x::l) (0:Int)=some x from rfl,apZ,sS,apZ]
 have:=Vs (l:=x::l) (body:=ug op (x::l)) (ρ:=Val) (mk:=fun t i=>(t,i)) (f:=fun t v=>(bif decide (op=5) then Nr t (tF_ v) else Zn t (tF_ v)).bind fun r=>some (.inl r)) (by
  intro s i v hv
  have hi:=(ap0.1 hv).1
  unfold ug
  dsimp only
  rw [bf hv,ap2,gn_ hv,wrapN (by simp at hi;omega)]
  simp only [apZ,sS]
  cases decide (op=5)
  ·simp only [ap1];cases Zn s (tF_ v)<;>rfl
  ·simp only [ap2];cases Nr s (tF_ v)<;>rfl) (by
  intro s
  unfold ug
  dsimp only
  rw [lF_,ap1]) fuel 1 (tF_ x) (by simp) (by unfold fuel;simp;omega)
 rw [show ((1:Nat):Int)=1 from rfl] at this
 rw [this]
 have h2:=Ic hf hop l (tF_ x) (kQ x)
 rw [show (x::l).drop 1=l from rfl,h2]
 show (K5 (Hr f l (tF_ x))).bind _=_
 rw [uW (Le hf l _ (kQ x))];rfl
theorem Dl (s:ByteArray):(s.toList==(⟨#[]⟩:ByteArray).toList)=true↔s=ByteArray.empty:=by
 rw [beq_iff_eq,ByteArray.toList_eq,ByteArray.toList_eq]
 constructor
 ·intro h
  have:s.data.toList=[]:=h
  obtain ⟨d⟩:=s
  obtain ⟨l⟩:=d
  simp at this
  subst this;rfl
 ·rintro rfl;rfl
structure VV (v:Val):Prop where
 kind:0<=v.kind/\v.kind<=3
 int : -1125899906842624<=v.int/\v.int<=1125899906842624
 text:v.text.size<=200
theorem A9 {v:Val} (h:vF v=true):VV v:=by
 have hx:=mi v
 rw [h] at hx
 unfold fH at hx
 have e0 : ∀ s:ByteArray,s=ByteArray.empty->s.size<=200:=by rintro s rfl;decide
 by_cases k0:v.kind=0
 ·rw [ap4 k0,ap2] at hx
  by_cases i0:v.int=0
  ·rw [ap4 i0,ap2] at hx
   have:=(Dl _).1 (aqw hx)
   exact ⟨by omega,by omega,e0 _ this⟩
  ·rw [ap3 i0,ap1] at hx;cases hx
 rw [ap3 k0,ap1] at hx
 by_cases k1:v.kind=1
 ·rw [ap4 k1,ap2] at hx
  by_cases t0:(v.text.toList==(⟨#[]⟩:ByteArray).toList)=true
  ·rw [t0,ap2] at hx
   by_cases i1:(-1125899906842624:Int)<=v.int
   ·rw [ap4 i1,ap2] at hx
    have:=aqs (aqw hx)
    exact ⟨by omega,⟨i1,this⟩,e0 _ ((Dl _).1 t0)⟩
   ·rw [ap3 i1,ap1] at hx;cases hx
  ·rw [Bool.not_eq_true] at t0
   rw [t0,ap1] at hx;cases hx
 rw [ap3 k1,ap1] at hx
 by_cases k2:v.kind=2
 ·rw [ap4 k2,ap2] at hx
  by_cases i0:v.int=0
  ·rw [ap4 i0,ap2] at hx
   by_cases t2:((v.text.size:Nat):Int)<=200
   ·exact ⟨by omega,by omega,by omega⟩
   ·rw [ap3 t2,ap1] at hx;cases hx
  ·rw [ap3 i0,ap1] at hx;cases hx
 rw [ap3 k2,ap1] at hx
 by_cases k3:v.kind=3
 ·rw [ap4 k3,ap2] at hx
  by_cases t0:(v.text.toList==(⟨#[]⟩:ByteArray).toList)=true
  ·rw [t0,ap2] at hx
   by_cases i0:v.int=0
   ·exact ⟨by omega,by omega,e0 _ ((Dl _).1 t0)⟩
   ·rw [ap3 i0,ap1] at hx
    have:=aqs (aqw hx)
    exact ⟨by omega,by omega,e0 _ ((Dl _).1 t0)⟩
  ·rw [Bool.not_eq_true] at t0
   rw [t0,ap1] at hx;cases hx
 rw [ap3 k3,ap1] at hx
 cases hx
theorem VV.vok {v:Val} (h:VV v):VOK v:=⟨⟨by have:=h.kind;omega,by have:=h.kind;omega⟩,⟨by have:=h.int;omega,by have:=h.int;omega⟩,by have:=h.text;omega⟩
abbrev anM (n:Int):Val:=VW ⟨1,n,ByteArray.empty⟩
abbrev am2 (s:ByteArray):Val:=VW ⟨2,0,s⟩
def akS (op a b:Int):Val:=(fA op a b).getD dH
theorem alI {a:Int} (h : -1125899906842624<=a/\a<=1125899906842624):PW a (IntKind.i64.wrap (0-a))=(a.natAbs:Int):=by
 rw [fO (by omega)]
 unfold PW
 split<;>omega
theorem QQ (a b:Int):BU a b=fA 15 a b:=by
 unfold BU fA
 rw [show decide ((15:Int)=13)=false from rfl,show decide ((15:Int)=14)=false from rfl,show decide ((15:Int)=15)=true from rfl]
 simp only [ap2,ap1]
 cases decide (a≠0) with
 | false=>simp only [ap1];rw [pX,nH]
 | true =>
  simp only [ap2]
  unfold afq
  simp only [apZ]
  rw [pX,nH]
  rfl
theorem T9 {op a b:Int} (ha : -1125899906842624<=a/\a<=1125899906842624) : ∃ v,fA op a b=some v/\vF v=true:=by
 unfold fA
 simp only [nH,apZ,dB]
 cases decide (op=13) with
 | true=>exact ⟨_,rfl,vK _⟩
 | false =>
 cases decide (op=14) with
 | true=>exact ⟨_,rfl,vK _⟩
 | false =>
 cases decide (op=15) with
 | true =>
  simp only [ap2,ap1]
  by_cases h:a=0
  ·subst h;exact ⟨_,rfl,vK _⟩
  ·rw [ap4 (show a≠0 from h),ap2]
   unfold afq
   simp only [apZ]
   rw [alI ha,ap4 (show ((a.natAbs:Nat):Int)≠0 by omega),ap2]
   generalize decide (IntKind.i64.wrap ((1125899906842624:Int).tdiv ((a.natAbs:Nat):Int))<PW b (IntKind.i64.wrap (0-b)))=c
   cases c with
   | true=>exact ⟨_,rfl,qd⟩
   | false=>exact ⟨_,rfl,vK _⟩
 | false =>
  simp only [ap1]
  by_cases h:b=0
  ·rw [ap4 h];exact ⟨_,rfl,qd⟩
  ·rw [ap3 h,ap4 (show b≠0 from h)]
   simp only [ap2,ap1]
   cases decide (op=16) with
   | true=>exact ⟨_,rfl,vK _⟩
   | false=>exact ⟨_,rfl,vK _⟩
theorem je {op a b:Int} (ha : -1125899906842624<=a/\a<=1125899906842624):fA op a b=some (akS op a b)/\vF (akS op a b)=true:=by
 obtain ⟨v,h1,h2⟩:=T9 (op:=op) (b:=b) ha
 unfold akS
 rw [h1];exact ⟨rfl,h2⟩
theorem PK (l:List Val) (hl:l.length<=1000000):az (wU l) fuel (0:Int)=some (bif iy l 1 then .inl ((l.length:Nat):Int) else .inr dH):=by
 rw [dI (l:=l) (mk:=fun (_:Unit) i=>i) (f:=fun _ v=>some (if v.kind≠1 then .inr dH else .inl ())) ?_ ?_ (by unfold fuel;omega) ()]
 ·have : ∀ l:List Val,d_ (ρ:=Val) (fun (_:Unit) (v:Val)=>some (if v.kind≠1 then .inr dH else .inl ())) () l=some (if iy l 1=true then .inl () else .inr dH):=by
   intro l
   induction l with
   | nil=>rfl
   | cons v l ih =>
    rw [d_]
    by_cases h:v.kind=1
    ·simp only [ne_eq,h,not_true_eq_false,if_false]
     rw [ih];simp [iy,h]
    ·simp [iy,h]
  rw [this]
  cases iy l 1<;>rfl
 ·intro s i x hx
  have hi:=(ap0.1 hx).1
  unfold wU
  dsimp only
  rw [bf hx,ap2,gn_ hx,wrapN (by omega)]
  simp only [apZ]
  by_cases h:x.kind=1
  ·simp [h,w_]
  ·simp [h,w_,pq]
 ·intro s
  unfold wU
  dsimp only
  rw [lF_,ap1]
def iK (op:Int) (a b:Val):Val:=bif iy [a,b] 1 then akS op a.int b.int else dH
theorem rY {op:Int} {a b:Val} (ha:VV a) (h:op=13\/op=14\/op=15\/op=16\/op=17):qb op [a,b]=some (iK op a b):=by
 unfold qb iK
 rw [PK _ (by simp)]
 cases iy [a,b] 1 with
 | false=>rfl
 | true =>
  simp only [ap2,apZ]
  have hc:=(je (op:=op) (b:=b.int) ha.int).1
  rw [<- hc]
  unfold qW
  dsimp only
  rw [show aT [a,b] (0:Int)=some a from rfl,apZ,show aT [a,b] (IntKind.i64.wrap ((([a,b].length:Nat):Int)-1))=some b from rfl,apZ]
  rcases h with rfl|rfl|rfl|rfl|rfl
  ·unfold fA
   rw [show decide ((13:Int)=13)=true from rfl,ap2,ap2,nH,pX]
  ·unfold fA
   rw [show decide ((14:Int)=13)=false from rfl,show decide ((14:Int)=14)=true from rfl]
   simp only [ap2,ap1]
   rw [nH,pX]
  ·rw [show decide ((15:Int)=13)=false from rfl,show decide ((15:Int)=14)=false from rfl,show decide ((15:Int)=15)=true from rfl]
   simp only [ap2,ap1]
   rw [QQ]
   cases fA 15 a.int b.int<;>rfl
  ·unfold fA
   rw [show decide ((16:Int)=13)=false from rfl,show decide ((16:Int)=14)=false from rfl,show decide ((16:Int)=15)=false from rfl,show decide ((16:Int)=18)=false from rfl,show decide ((16:Int)=16)=true from rfl]
   simp only [ap2,ap1,pX,nH,pq,dB]
  ·unfold fA
   rw [show decide ((17:Int)=13)=false from rfl,show decide ((17:Int)=14)=false from rfl,show decide ((17:Int)=15)=false from rfl,show decide ((17:Int)=18)=false from rfl,show decide ((17:Int)=16)=false from rfl]
   simp only [ap2,ap1,pX,nH,pq,dB]
def Xz (a:Val):Val:=bif iy [a] 1 then anM (IntKind.i64.wrap (0-a.int)) else dH
theorem abh (a:Val):qb 18 [a]=some (Xz a):=by
 unfold qb Xz
 rw [PK _ (by simp)]
 cases iy [a] 1 with
 | false=>rfl
 | true =>
  simp only [ap2,apZ]
  show (uA _).bind _=_
  rw [pX];rfl
def Vr (a b:Val):Val:=bif iy [a,b] 2 then am2 (a.text++b.text) else dH
def VC (a:Val):Val:=bif iy [a] 2 then anM ((a.text.size:Nat):Int) else dH
theorem abp {a b:Val} (ha:VV a) (hb:VV b):BG 19 [a,b]=some (Vr a b):=by
 unfold BG Vr
 rw [qD _ _ (by simp),apZ]
 cases iy [a,b] 2 with
 | false=>rfl
 | true =>
  have h1:=ha.text
  have h2:=hb.text
  rw [Bool.not_true,ap1,ap2,show decide ((19:Int)=19)=true from rfl,ap2,show aT [a,b] (0:Int)=some a from rfl,apZ,show aT [a,b] (1:Int)=some b from rfl,apZ]
  rw [ap4 (show a.text.size+b.text.size<=9223372036854775807 by omega),ap2,adH];rfl
theorem ZJ (a:Val):BG 20 [a]=some (VC a):=by
 unfold BG VC
 rw [qD _ _ (by simp),apZ]
 cases iy [a] 2 with
 | false=>rfl
 | true =>
  rw [Bool.not_true,ap1,ap2,show decide ((20:Int)=19)=false from rfl,ap1,show aT [a] (0:Int)=some a from rfl,apZ,nH];rfl
def uQ (p:Int × ByteArray) (x:Val):Option (Sum (Int × ByteArray) Val):=bif decide (x.kind≠2) then some (.inr dH) else bif decide (p.2.size+x.text.size<=9223372036854775807) then some (.inl (IntKind.i64.wrap (p.1+((x.text.size:Nat):Int)),p.2++x.text)) else none
theorem O_ (op:Int) (l:List Val) (hl:l.length<=1000000):AA op l=(NI (fun (p:Int × ByteArray) i=>(p.1,p.2,i)) l.length (d_ uQ (0,⟨#[]⟩) l)).bind (q8 op):=by
 unfold AA
 rw [dI (l:=l) (mk:=fun (p:Int × ByteArray) i=>(p.1,p.2,i)) (f:=uQ) ?_ ?_ (by unfold fuel;omega) ((0:Int),(⟨#[]⟩:ByteArray))]
 ·intro s i x hx
  have hi:=(ap0.1 hx).1
  unfold Dp uQ
  dsimp only
  rw [bf hx,ap2,gn_ hx,wrapN (by omega)]
  simp only [apZ]
  cases decide (x.kind≠2) with
  | true=>rfl
  | false =>
   simp only [ap1]
   cases decide (s.2.size+x.text.size<=9223372036854775807)<;>rfl
 ·intro s
  unfold Dp
  dsimp only
  rw [lF_,ap1]
theorem ak2 (s:ByteArray):(⟨#[]⟩:ByteArray)++s=s:=by
 apply ByteArray.ext
 simp
theorem aby {a b:Val} (ha:VV a) (hb:VV b):AA 19 [a,b]=some (Vr a b):=by
 have h1:=ha.text
 have h2:=hb.text
 have h0:(⟨#[]⟩:ByteArray).size=0:=rfl
 rw [O_ _ _ (by simp)]
 unfold Vr
 by_cases ka:a.kind=2
 ·by_cases kb:b.kind=2
  ·have e:iy [a,b] 2=true:=by simp [iy,ka,kb]
   rw [e]
   simp only [d_,uQ]
   rw [ap3 (show ¬ a.kind≠2 by omega),ap1,ap4 (show (⟨#[]⟩:ByteArray).size+a.text.size<=9223372036854775807 by rw [h0];omega),ap2]
   simp only []
   rw [ap3 (show ¬ b.kind≠2 by omega),ap1,ak2,ap4 (show a.text.size+b.text.size<=9223372036854775807 by omega),ap2]
   show (JC (a.text++b.text)).bind _=_
   rw [afm];rfl
  ·have e:iy [a,b] 2=false:=by simp [iy,kb]
   rw [e]
   simp only [d_,uQ]
   rw [ap3 (show ¬ a.kind≠2 by omega),ap1,ap4 (show (⟨#[]⟩:ByteArray).size+a.text.size<=9223372036854775807 by rw [h0];omega),ap2]
   simp only []
   rw [ap4 (show b.kind≠2 from kb),ap2];rfl
 ·have e:iy [a,b] 2=false:=by simp [iy,ka]
  rw [e]
  simp only [d_,uQ]
  rw [ap4 (show a.kind≠2 from ka),ap2];rfl
theorem Z7 {a:Val} (ha:VV a):AA 20 [a]=some (VC a):=by
 have h1:=ha.text
 have h0:(⟨#[]⟩:ByteArray).size=0:=rfl
 rw [O_ _ _ (by simp)]
 unfold VC
 by_cases ka:a.kind=2
 ·have e:iy [a] 2=true:=by simp [iy,ka]
  rw [e]
  simp only [d_,uQ]
  rw [ap3 (show ¬ a.kind≠2 by omega),ap1,ap4 (show (⟨#[]⟩:ByteArray).size+a.text.size<=9223372036854775807 by rw [h0];omega),ap2]
  show (uA (IntKind.i64.wrap (0+((a.text.size:Nat):Int)))).bind _=_
  rw [pX,Int.zero_add,fO (by omega)];rfl
 ·have e:iy [a] 2=false:=by simp [iy,ka]
  rw [e]
  simp only [d_,uQ]
  rw [ap4 (show a.kind≠2 from ka),ap2];rfl
def UN (rel:Int) (a b c d:Val):Val :=
 bif iy [a,b,c,d] 1 then (if aD ⟨a.int,b.int⟩=true/\aD ⟨c.int,d.int⟩=true then qx (decide (eX ⟨a.int,b.int⟩ ⟨c.int,d.int⟩=rel)) else dH) else dH
theorem Uj (rel:Int) (a b c d:Val):xA rel [a,b,c,d]=some (UN rel a b c d):=by
 unfold xA UN
 rw [qD _ _ (by simp),apZ]
 cases iy [a,b,c,d] 1 with
 | false=>exact congrArg (fun o:Option Val=>o.bind fun r=>some r) dB
 | true =>
  rw [Bool.not_true,ap1,ap2,show aT [a,b,c,d] (0:Int)=some a from rfl,show aT [a,b,c,d] (1:Int)=some b from rfl,show aT [a,b,c,d] (2:Int)=some c from rfl,show aT [a,b,c,d] (3:Int)=some d from rfl]
  rw [apZ,apZ,apZ,apZ,ag_,apZ]
  generalize eX ⟨a.int,b.int⟩ ⟨c.int,d.int⟩=x
  generalize aD ⟨a.int,b.int⟩=y
  generalize aD ⟨c.int,d.int⟩=z
  cases y<;>cases z
  ·exact congrArg (fun o:Option Val=>o.bind fun r=>some r) dB
  ·exact congrArg (fun o:Option Val=>o.bind fun r=>some r) dB
  ·exact congrArg (fun o:Option Val=>o.bind fun r=>some r) dB
  ·exact congrArg (fun o:Option Val=>o.bind fun r=>some r) (CG _)
theorem Y0 (rel:Int) (a b c d:Val):Br rel [a,b,c,d]=some (UN rel a b c d):=by
 unfold Br UN FJ
 rw [show aT [a,b,c,d] (0:Int)=some a from rfl,show aT [a,b,c,d] (1:Int)=some b from rfl,show aT [a,b,c,d] (2:Int)=some c from rfl,show aT [a,b,c,d] (3:Int)=some d from rfl]
 simp only [apZ]
 rw [ab4,apZ,pq]
 have e:iy [a,b,c,d] 1=((decide (a.kind=1)&&decide (b.kind=1))&&(decide (c.kind=1)&&decide (d.kind=1))):=by
  simp [iy,Bool.and_assoc]
 rw [e]
 generalize (decide (a.kind=1)&&decide (b.kind=1))=u
 generalize (decide (c.kind=1)&&decide (d.kind=1))=v
 generalize eX ⟨a.int,b.int⟩ ⟨c.int,d.int⟩=x
 generalize aD ⟨a.int,b.int⟩=y
 generalize aD ⟨c.int,d.int⟩=z
 cases u
 ·rfl
 cases v
 ·rfl
 cases y<;>cases z
 ·rfl
 ·rfl
 ·rfl
 ·exact congrArg (fun o:Option Val=>o.bind fun r=>some r) (R9 _)
theorem fu {n k:Int} : decide (n=k)=(decide (k<=n)&&decide (n<=k)):=by
 rw [Bool.eq_iff_iff];simp only [aqg,decide_eq_true_eq];omega
theorem Ua {n k:Int} (h:n<=1099511627776):decide (k<=n)=(decide (k<=n)&&decide (n<=1099511627776)):=by
 rw [ap4 h,Bool.and_true]
def oQ (op:Int):Int × Int:=(Bz op).getD (-1,0)
theorem Bj (op n:Int) (h:n<=1099511627776):Bz op=some (oQ op)/\yb op n=some (decide (0<=(oQ op).1)&&(decide ((oQ op).1<=n)&&decide (n<=(oQ op).2)),decide (0<=(oQ op).1))/\(0<=(oQ op).1->op=1\/op=2\/op=4\/op=5\/op=6\/op=7\/op=8\/op=9\/op=10\/op=11\/op=12\/op=13\/op=14\/op=15\/op=16\/op=17\/op=18\/op=19\/op=20\/op=21\/op=22\/op=23\/op=24) /\ -1<=(oQ op).1:=by
 by_cases h1:op=1
 ·subst h1
  refine ⟨rfl,?_,fun _=>by simp,by decide⟩
  show some (decide (n=0),true)=some (true&&(decide ((0:Int)<=n)&&decide (n<=0)),true)
  rw [aqx, <- fu]
 by_cases h2:op=2
 ·subst h2
  refine ⟨rfl,?_,fun _=>by simp,by decide⟩
  show some (decide (n=0),true)=some (true&&(decide ((0:Int)<=n)&&decide (n<=0)),true)
  rw [aqx, <- fu]
 by_cases h4:op=4
 ·subst h4
  refine ⟨rfl,?_,fun _=>by simp,by decide⟩
  show some (decide (n=1),true)=some (true&&(decide ((1:Int)<=n)&&decide (n<=1)),true)
  rw [aqx, <- fu]
 by_cases h5:op=5
 ·subst h5
  refine ⟨rfl,?_,fun _=>by simp,by decide⟩
  show some (decide ((2:Int)<=n),true)=some (true&&(decide ((2:Int)<=n)&&decide (n<=1099511627776)),true)
  rw [aqx, <- Ua h]
 by_cases h6:op=6
 ·subst h6
  refine ⟨rfl,?_,fun _=>by simp,by decide⟩
  show some (decide ((2:Int)<=n),true)=some (true&&(decide ((2:Int)<=n)&&decide (n<=1099511627776)),true)
  rw [aqx, <- Ua h]
 by_cases h7:op=7
 ·subst h7
  refine ⟨rfl,?_,fun _=>by simp,by decide⟩
  show some (decide (n=2),true)=some (true&&(decide ((2:Int)<=n)&&decide (n<=2)),true)
  rw [aqx, <- fu]
 by_cases h8:op=8
 ·subst h8
  refine ⟨rfl,?_,fun _=>by simp,by decide⟩
  show some (decide (n=2),true)=some (true&&(decide ((2:Int)<=n)&&decide (n<=2)),true)
  rw [aqx, <- fu]
 by_cases h9:op=9
 ·subst h9
  refine ⟨rfl,?_,fun _=>by simp,by decide⟩
  show some (decide (n=2),true)=some (true&&(decide ((2:Int)<=n)&&decide (n<=2)),true)
  rw [aqx, <- fu]
 by_cases h10:op=10
 ·subst h10
  refine ⟨rfl,?_,fun _=>by simp,by decide⟩
  show some (decide (n=2),true)=some (true&&(decide ((2:Int)<=n)&&decide (n<=2)),true)
  rw [aqx, <- fu]
 by_cases h11:op=11
 ·subst h11
  refine ⟨rfl,?_,fun _=>by simp,by decide⟩
  show some (decide (n=2),true)=some (true&&(decide ((2:Int)<=n)&&decide (n<=2)),true)
  rw [aqx, <- fu]
 by_cases h12:op=12
 ·subst h12
  refine ⟨rfl,?_,fun _=>by simp,by decide⟩
  show some (decide (n=2),true)=some (true&&(decide ((2:Int)<=n)&&decide (n<=2)),true)
  rw [aqx, <- fu]
 by_cases h13:op=13
 ·subst h13
  refine ⟨rfl,?_,fun _=>by simp,by decide⟩
  show some (decide (n=2),true)=some (true&&(decide ((2:Int)<=n)&&decide (n<=2)),true)
  rw [aqx, <- fu]
 by_cases h14:op=14
 ·subst h14
  refine ⟨rfl,?_,fun _=>by simp,by decide⟩
  show some (decide (n=2),true)=some (true&&(decide ((2:Int)<=n)&&decide (n<=2)),true)
  rw [aqx, <- fu]
 by_cases h15:op=15
 ·subst h15
  refine ⟨rfl,?_,fun _=>by simp,by decide⟩
  show some (decide (n=2),true)=some (true&&(decide ((2:Int)<=n)&&decide (n<=2)),true)
  rw [aqx, <- fu]
 by_cases h16:op=16
 ·subst h16
  refine ⟨rfl,?_,fun _=>by simp,by decide⟩
  show some (decide (n=2),true)=some (true&&(decide ((2:Int)<=n)&&decide (n<=2)),true)
  rw [aqx, <- fu]
 by_cases h17:op=17
 ·subst h17
  refine ⟨rfl,?_,fun _=>by simp,by decide⟩
  show some (decide (n=2),true)=some (true&&(decide ((2:Int)<=n)&&decide (n<=2)),true)
  rw [aqx, <- fu]
 by_cases h18:op=18
 ·subst h18
  refine ⟨rfl,?_,fun _=>by simp,by decide⟩
  show some (decide (n=1),true)=some (true&&(decide ((1:Int)<=n)&&decide (n<=1)),true)
  rw [aqx, <- fu]
 by_cases h19:op=19
 ·subst h19
  refine ⟨rfl,?_,fun _=>by simp,by decide⟩
  show some (decide (n=2),true)=some (true&&(decide ((2:Int)<=n)&&decide (n<=2)),true)
  rw [aqx, <- fu]
 by_cases h20:op=20
 ·subst h20
  refine ⟨rfl,?_,fun _=>by simp,by decide⟩
  show some (decide (n=1),true)=some (true&&(decide ((1:Int)<=n)&&decide (n<=1)),true)
  rw [aqx, <- fu]
 by_cases h21:op=21
 ·subst h21
  refine ⟨rfl,?_,fun _=>by simp,by decide⟩
  show some (decide (n=1),true)=some (true&&(decide ((1:Int)<=n)&&decide (n<=1)),true)
  rw [aqx, <- fu]
 by_cases h22:op=22
 ·subst h22
  refine ⟨rfl,?_,fun _=>by simp,by decide⟩
  show some (decide (n=3),true)=some (true&&(decide ((3:Int)<=n)&&decide (n<=3)),true)
  rw [aqx, <- fu]
 by_cases h23:op=23
 ·subst h23
  refine ⟨rfl,?_,fun _=>by simp,by decide⟩
  show some (decide ((1:Int)<=n),true)=some (true&&(decide ((1:Int)<=n)&&decide (n<=1099511627776)),true)
  rw [aqx, <- Ua h]
 by_cases h24:op=24
 ·subst h24
  refine ⟨rfl,?_,fun _=>by simp,by decide⟩
  show some (decide (n=4),true)=some (true&&(decide ((4:Int)<=n)&&decide (n<=4)),true)
  rw [aqx, <- fu]
 have e1:Bz op=some (-1,0):=by
  unfold Bz;simp only [ap3 h1,ap3 h2,ap3 h4,ap3 h5,ap3 h6,ap3 h7,ap3 h8,ap3 h9,ap3 h10,ap3 h11,ap3 h12,ap3 h13,ap3 h14,ap3 h15,ap3 h16,ap3 h17,ap3 h18,ap3 h19,ap3 h20,ap3 h21,ap3 h22,ap3 h23,ap3 h24,ap1]
 have e2:yb op n=some (false,false):=by
  unfold yb;simp only [ap3 h1,ap3 h2,ap3 h4,ap3 h5,ap3 h6,ap3 h7,ap3 h8,ap3 h9,ap3 h10,ap3 h11,ap3 h12,ap3 h13,ap3 h14,ap3 h15,ap3 h16,ap3 h17,ap3 h18,ap3 h19,ap3 h20,ap3 h21,ap3 h22,ap3 h23,ap3 h24,ap1]
 have e3:oQ op=(-1,0):=by unfold oQ;rw [e1];rfl
 rw [e1,e2,e3]
 exact ⟨rfl,rfl,fun h=>absurd h (by decide),by decide⟩
theorem ar1:oQ 1=(0,0):=rfl
theorem ar2:oQ 2=(0,0):=rfl
theorem ar4:oQ 4=(1,1):=rfl
theorem ar5:oQ 5=(2,1099511627776):=rfl
theorem ar6:oQ 6=(2,1099511627776):=rfl
theorem ar7:oQ 7=(2,2):=rfl
theorem ar8:oQ 8=(2,2):=rfl
theorem ar9:oQ 9=(2,2):=rfl
theorem ao9:oQ 10=(2,2):=rfl
theorem apw:oQ 11=(2,2):=rfl
theorem ao6:oQ 12=(2,2):=rfl
theorem aov:oQ 13=(2,2):=rfl
theorem anC:oQ 14=(2,2):=rfl
theorem ang:oQ 15=(2,2):=rfl
theorem aos:oQ 16=(2,2):=rfl
theorem anz:oQ 17=(2,2):=rfl
theorem apB:oQ 18=(1,1):=rfl
theorem ao7:oQ 19=(2,2):=rfl
theorem apE:oQ 20=(1,1):=rfl
theorem ao':oQ 21=(1,1):=rfl
theorem alF:oQ 22=(3,3):=rfl
theorem api:oQ 23=(1,1099511627776):=rfl
theorem apu:oQ 24=(4,4):=rfl
def zP (e:Ex):Bool:=(nD e).getD false
def ahC (v:Val):Bool:=dU [.c (.int .i64 v.kind), .c (.int .i64 v.int), .c (.str v.text)] [.c (.int .i64 (0:Int)), .c (.int .i64 (0:Int)), .c (.str ByteArray.empty)]
def Ig (e:Ex):Bool:=(e.nm.toList==(⟨#[]⟩:ByteArray).toList)&&(if e.op=1 then decide (e.int=0)&&vF e.v else if e.op=2 then ahC e.v else if e.op=24 then ahC e.v&&(decide (0<=e.int)&&decide (e.int<13)) else decide (e.int=0)&&ahC e.v)
theorem uS (e:Ex) (h:e.args.length<=100000):nD e=some ((decide (0<=(oQ e.op).1)&&(decide ((oQ e.op).1<=((e.args.length:Nat):Int))&&decide (((e.args.length:Nat):Int)<=(oQ e.op).2)))&&Ig e)/\uU e=some ((decide (0<=(oQ e.op).1)&&(decide ((oQ e.op).1<=((e.args.length:Nat):Int))&&decide (((e.args.length:Nat):Int)<=(oQ e.op).2)))&&Ig e):=by
 obtain ⟨h1,h2,h3,h4⟩:=Bj e.op ((e.args.length:Nat):Int) (by omega)
 generalize oQ e.op=a at h1 h2 h3 h4
 obtain ⟨lo,hi⟩:=a
 dsimp only at h1 h2 h3 h4 ⊢
 have hR:nD e=(bif decide (0<=lo)&&(decide (lo<=((e.args.length:Nat):Int))&&decide (((e.args.length:Nat):Int)<=hi)) then some (Ig e) else some false):=by
  unfold nD
  rw [h1,apZ]
  dsimp only
  by_cases c1:0<=lo
  ·rw [ap3 (show ¬ lo<0 by omega),ap4 c1,ap1,aqx]
   by_cases c2:lo<=((e.args.length:Nat):Int)
   ·rw [ap3 (show ¬ ((e.args.length:Nat):Int)<lo by omega),ap4 c2,ap1,aqx]
    by_cases c3:((e.args.length:Nat):Int)<=hi
    ·rw [ap3 (show ¬ hi<((e.args.length:Nat):Int) by omega),ap4 c3,ap1,ap2]
     unfold Ig
     cases (e.nm.toList==(⟨#[]⟩:ByteArray).toList) with
     | false=>rfl
     | true =>
      rw [Bool.not_true,ap1,aqx]
      by_cases o1:e.op=1
      ·rw [ap4 o1,ap2,if_pos o1,mi]
       cases decide (e.int=0)<;>rfl
      ·rw [ap3 o1,ap1,if_neg o1,dB]
       by_cases o2:e.op=2
       ·rw [ap4 o2,ap2,if_pos o2];rfl
       ·rw [ap3 o2,ap1,if_neg o2]
        by_cases o3:e.op=24
        ·rw [ap4 o3,ap2,if_pos o3]
         show (bif ahC e.v then _ else _)=_
         cases ahC e.v
         ·rfl
         ·rw [ap2,aqx]
          cases decide (0<=e.int)<;>rfl
        ·rw [ap3 o3,ap1,if_neg o3]
         cases decide (e.int=0)<;>rfl
    ·rw [ap4 (show hi<((e.args.length:Nat):Int) by omega),ap3 c3,ap2];rfl
   ·rw [ap4 (show ((e.args.length:Nat):Int)<lo by omega),ap3 c2,ap2];rfl
  ·rw [ap4 (show lo<0 by omega),ap3 c1,ap2];rfl
 have hP:uU e=(bif decide (0<=lo)&&(decide (lo<=((e.args.length:Nat):Int))&&decide (((e.args.length:Nat):Int)<=hi)) then some (Ig e) else some false):=by
  unfold uU
  rw [h2,apZ]
  dsimp only
  cases (decide (0<=lo)&&(decide (lo<=((e.args.length:Nat):Int))&&decide (((e.args.length:Nat):Int)<=hi))) with
  | false=>rfl
  | true =>
   rw [Bool.not_true,ap1,ap2]
   unfold Ig
   cases (e.nm.toList==(⟨#[]⟩:ByteArray).toList) with
   | false=>rfl
   | true =>
    rw [Bool.not_true,ap1,aqx]
    by_cases o1:e.op=1
    ·rw [ap4 o1,ap2,if_pos o1,EX]
     cases decide (e.int=0)<;>rfl
    ·rw [ap3 o1,ap1,if_neg o1]
     by_cases o3:e.op=24
     ·have o2 : ¬ e.op=2:=by omega
      rw [ap4 o3,ap2,if_neg o2,if_pos o3]
      by_cases i1:0<=e.int
      ·rw [ap3 (show ¬ e.int<0 by omega),ap1,ap4 i1,aqx]
       by_cases i2:e.int<13
       ·rw [ap3 (show ¬ 13<=e.int by omega),ap1,ap4 i2,Bool.and_true];rfl
       ·rw [ap4 (show 13<=e.int by omega),ap2,ap3 i2,Bool.and_false]
      ·rw [ap4 (show e.int<0 by omega),ap2,ap3 i1,Bool.false_and,Bool.and_false]
     ·rw [ap3 o3,ap1]
      by_cases o2:e.op=2
      ·rw [ap4 o2,ap2,if_pos o2];rfl
      ·rw [ap3 o2,ap1,if_neg o2,if_neg o3]
       cases decide (e.int=0)<;>rfl
 rw [hR,hP]
 cases (decide (0<=lo)&&(decide (lo<=((e.args.length:Nat):Int))&&decide (((e.args.length:Nat):Int)<=hi)))<;>exact ⟨rfl,rfl⟩
theorem Kr {e:Ex} (h:e.args.length<=100000):nD e=some (zP e):=by unfold zP;rw [(uS e h).1];rfl
theorem NW {e:Ex} (h:e.args.length<=100000):uU e=some (zP e):=by unfold zP;rw [(uS e h).2,(uS e h).1];rfl
theorem Eu {e:Ex} (h:e.args.length<=100000) (hf:zP e=true):(e.op=1\/e.op=2\/e.op=4\/e.op=5\/e.op=6\/e.op=7\/e.op=8\/e.op=9\/e.op=10\/e.op=11\/e.op=12\/e.op=13\/e.op=14\/e.op=15\/e.op=16\/e.op=17\/e.op=18\/e.op=19\/e.op=20\/e.op=21\/e.op=22\/e.op=23\/e.op=24)/\(oQ e.op).1<=((e.args.length:Nat):Int)/\((e.args.length:Nat):Int)<=(oQ e.op).2/\Ig e=true:=by
 obtain ⟨_,_,h3,_⟩:=Bj e.op ((e.args.length:Nat):Int) (by omega)
 unfold zP at hf
 rw [(uS e h).1,Option.getD_some,aqg,aqg,aqg] at hf
 exact ⟨h3 (aqs hf.1.1),aqs hf.1.2.1,aqs hf.1.2.2,hf.2⟩
theorem abt {e:Ex} (h:e.op=1) (hr:Ig e=true):vF e.v=true:=by
 unfold Ig at hr
 rw [if_pos h,aqg,aqg] at hr
 exact hr.2.2
set_option maxHeartbeats 8000000
def tO (a_e:Ex) (a_row:(List Val)) (rec:Ex->List Val->Option Val):((List Val) × Int)->Option (Step ((List Val) × Int) (Val)):=fun s=>match s with
 | (l_4,i_5)=>bif (decide (i_5<((a_e.args.length:Nat):Int))) then (aT a_e.args i_5).bind fun x_7=>(rec x_7 a_row).bind fun r_8=>bif (decide (l_4.length+1<=4398046511104)) then (some (.next ((l_4++[r_8]),(IntKind.i64.wrap (i_5+(1:Int)))))) else none else
 some (.exit (l_4,i_5))
def gER_K (a_e:Ex) (a_row:(List Val)):Sum ((List Val) × Int) (Val)->Option ((Val))
 | .inl (l_4,i_5)=>bif (decide (a_e.op=(1:Int))) then (KD a_e a_row).bind fun r_10=>some r_10 else
 bif (decide (a_e.op=(2:Int))) then (KD a_e a_row).bind fun r_12=>some r_12 else
 bif (decide (a_e.op=(4:Int))) then (aT l_4 (0:Int)).bind fun x_14=>(jR x_14).bind fun r_15=>(O7 r_15).bind fun r_16=>(K5 r_16).bind fun r_17=>some r_17 else
 bif (decide (a_e.op=(5:Int))) then (CY a_e.op l_4).bind fun r_19=>some r_19 else
 bif (decide (a_e.op=(6:Int))) then (CY a_e.op l_4).bind fun r_21=>some r_21 else
 bif (decide (a_e.op=(7:Int))) then (aT l_4 (0:Int)).bind fun x_23=>(aT l_4 (1:Int)).bind fun x_24=>(jC a_e.op x_23 x_24).bind fun r_25=>(K5 r_25).bind fun r_26=>some r_26 else
 bif (decide (a_e.op=(8:Int))) then (aT l_4 (0:Int)).bind fun x_28=>(aT l_4 (1:Int)).bind fun x_29=>(jC a_e.op x_28 x_29).bind fun r_30=>(K5 r_30).bind fun r_31=>some r_31 else
 bif (decide (a_e.op=(9:Int))) then (aT l_4 (0:Int)).bind fun x_33=>(aT l_4 (1:Int)).bind fun x_34=>(jC a_e.op x_33 x_34).bind fun r_35=>(K5 r_35).bind fun r_36=>some r_36 else
 bif (decide (a_e.op=(10:Int))) then (aT l_4 (0:Int)).bind fun x_38=>(aT l_4 (1:Int)).bind fun x_39=>(jC a_e.op x_38 x_39).bind fun r_40=>(K5 r_40).bind fun r_41=>some r_41 else
 bif (decide (a_e.op=(11:Int))) then (aT l_4 (0:Int)).bind fun x_43=>(aT l_4 (1:Int)).bind fun x_44=>(jC a_e.op x_43 x_44).bind fun r_45=>(K5 r_45).bind fun r_46=>some r_46 else
 bif (decide (a_e.op=(12:Int))) then (aT l_4 (0:Int)).bind fun x_48=>(aT l_4 (1:Int)).bind fun x_49=>(jC a_e.op x_48 x_49).bind fun r_50=>(K5 r_50).bind fun r_51=>some r_51 else
 bif (decide (a_e.op=(18:Int))) then (YZ l_4 (1:Int)).bind fun r_53=>bif (!r_53) then (gp ).bind fun r_55=>some r_55 else
 (aT l_4 (0:Int)).bind fun x_56=>(uD (IntKind.i64.wrap (0-x_56.int))).bind fun r_57=>some r_57 else
 bif (decide (a_e.op=(19:Int))) then (BG a_e.op l_4).bind fun r_59=>some r_59 else
 bif (decide (a_e.op=(20:Int))) then (BG a_e.op l_4).bind fun r_61=>some r_61 else
 bif (decide (a_e.op=(21:Int))) then (aT l_4 (0:Int)).bind fun x_63=>(xY (decide (x_63.kind=(0:Int)))).bind fun r_64=>some r_64 else
 bif (decide (a_e.op=(22:Int))) then (yK a_e.op l_4).bind fun r_66=>some r_66 else
 bif (decide (a_e.op=(23:Int))) then (yK a_e.op l_4).bind fun r_68=>some r_68 else
 bif (decide (a_e.op=(24:Int))) then (xA a_e.int l_4).bind fun r_70=>some r_70 else
 (YZ l_4 (1:Int)).bind fun r_71=>bif (!r_71) then (gp ).bind fun r_73=>some r_73 else
 (aT l_4 (0:Int)).bind fun x_74=>(aT l_4 (1:Int)).bind fun x_75=>(fA a_e.op x_74.int x_75.int).bind fun r_76=>some r_76
 | .inr q=>some q
def Dt (rec:Ex->List Val->Option Val) (a_e:Ex) (a_row:(List Val)):Option (Val):=(nD a_e).bind fun r_1=>bif (!r_1) then (gp ).bind fun r_3=>some r_3 else
 (az (tO a_e a_row rec) fuel ([],(0:Int))).bind (gER_K a_e a_row)
theorem Zp {rec:Ex->List Val->Option Val}  (hrec : ∀ {x:Ex} {y:List Val} {r:Val}, rec x y=some r->Pure Tryz.prog 106 [.agg (tE x), .one (.lst (y.map cV))] (.val (.agg (cV r)))) {a_e:Ex} {a_row:(List Val)} {r:Val} (H:Dt rec a_e a_row=some r):Pure Tryz.prog 106 [.agg (tE a_e), .one (.lst (a_row.map cV))] (.val (.agg (cV r))):=by
 unfold Dt at H
 rw [aL a_e]
 refine po_ Tryz.func106 Tryz.ntmps106 ?_
 obtain ⟨r_1,c1,H⟩:=bd_ H
 replace c1:=Kb c1
 try simp only [aqb,ap',aqd,ap5,aL] at c1
 rcases af H with ⟨q_2,H⟩|⟨q_2,H⟩
 ·obtain ⟨r_3,c2,H⟩:=bd_ H
  replace c2:=dD c2
  cases H
  exact aK
 refine bz ?_
 refine dC 5 3 rfl ?_
 refine alM_ (fun s:(List Val) × Int=>match s with|(l_4,i_5)=>[(1, .one (.c (.lst (a_row.map cV)))),(2, .one (.ptr 0 0)),(4, .one (.ptr 1 0)),(5, .one (.own (l_4.map cV) 2)),(6, .one (.c (.int .i64 i_5)))]) (fun s=>match s with|(l_4,i_5)=>[.box [.c (.int .i64 a_e.op), .c (.int .i64 a_e.int), .c (.int .i64 a_e.v.kind), .c (.int .i64 a_e.v.int), .c (.str a_e.v.text), .c (.str a_e.nm), .c (.lst (a_e.args.map tE))], .box [.c (.int .i64 (0:Int)), .c (.int .i64 (0:Int)), .c (.str ByteArray.empty)], .spare l_4.length 3]) H (fun _=>aqj _)
  (fm_ bY [] rfl bA cz) ?_
 rintro ⟨l_4,i_5⟩ st1 hb1 hk1
 unfold tO at hb1
 dsimp only at hb1 ⊢
 rcases af hb1 with ⟨q_6,hb1⟩|⟨q_6,hb1⟩
 ·obtain ⟨x_7,i3z,i3,i3x,hb1⟩:=bn (f:=tE) hb1
  simp only [aqb,ap',aqd,ap5,aL] at i3x
  obtain ⟨r_8,c4,hb1⟩:=bd_ hb1
  replace c4:=hrec c4
  try simp only [aqb,ap',aqd,ap5,aL] at c4
  obtain ⟨g5,hb1⟩:=aS hb1
  cases hb1
  refine bz ?_
  exact ⟨_,rfl,fm_ jD [] iR bA cz⟩
 cases hb1
 have hx1:gER_K a_e a_row (.inl (l_4,i_5))=some _:=hk1
 unfold gER_K at hx1
 dsimp only at hx1
 refine bz ?_
 rcases af hx1 with ⟨q_9,hx1⟩|⟨q_9,hx1⟩
 ·obtain ⟨r_10,c6,hx1⟩:=bd_ hx1
  replace c6:=YX c6
  try simp only [aqb,ap',aqd,ap5,aL] at c6
  cases hx1
  exact aK
 rcases af hx1 with ⟨q_11,hx1⟩|⟨q_11,hx1⟩
 ·obtain ⟨r_12,c7,hx1⟩:=bd_ hx1
  replace c7:=YX c7
  try simp only [aqb,ap',aqd,ap5,aL] at c7
  cases hx1
  exact aK
 rcases af hx1 with ⟨q_13,hx1⟩|⟨q_13,hx1⟩
 ·obtain ⟨x_14,i8z,i8,i8x,hx1⟩:=bn (f:=cV) hx1
  obtain ⟨r_15,c9,hx1⟩:=bd_ hx1
  replace c9:=oo c9
  obtain ⟨r_16,c10,hx1⟩:=bd_ hx1
  replace c10:=Im c10
  obtain ⟨r_17,c11,hx1⟩:=bd_ hx1
  replace c11:=uO c11
  cases hx1
  exact aK
 refine bz ?_
 rcases af hx1 with ⟨q_18,hx1⟩|⟨q_18,hx1⟩
 ·obtain ⟨r_19,c12,hx1⟩:=bd_ hx1
  replace c12:=MP c12
  cases hx1
  exact aK
 rcases af hx1 with ⟨q_20,hx1⟩|⟨q_20,hx1⟩
 ·obtain ⟨r_21,c13,hx1⟩:=bd_ hx1
  replace c13:=MP c13
  cases hx1
  exact aK
 rcases af hx1 with ⟨q_22,hx1⟩|⟨q_22,hx1⟩
 ·obtain ⟨x_23,i14z,i14,i14x,hx1⟩:=bn (f:=cV) hx1
  obtain ⟨x_24,i15z,i15,i15x,hx1⟩:=bn (f:=cV) hx1
  obtain ⟨r_25,c16,hx1⟩:=bd_ hx1
  replace c16:=kK c16
  obtain ⟨r_26,c17,hx1⟩:=bd_ hx1
  replace c17:=uO c17
  cases hx1
  exact aK
 refine bz ?_
 rcases af hx1 with ⟨q_27,hx1⟩|⟨q_27,hx1⟩
 ·obtain ⟨x_28,i18z,i18,i18x,hx1⟩:=bn (f:=cV) hx1
  obtain ⟨x_29,i19z,i19,i19x,hx1⟩:=bn (f:=cV) hx1
  obtain ⟨r_30,c20,hx1⟩:=bd_ hx1
  replace c20:=kK c20
  obtain ⟨r_31,c21,hx1⟩:=bd_ hx1
  replace c21:=uO c21
  cases hx1
  exact aK
 rcases af hx1 with ⟨q_32,hx1⟩|⟨q_32,hx1⟩
 ·obtain ⟨x_33,i22z,i22,i22x,hx1⟩:=bn (f:=cV) hx1
  obtain ⟨x_34,i23z,i23,i23x,hx1⟩:=bn (f:=cV) hx1
  obtain ⟨r_35,c24,hx1⟩:=bd_ hx1
  replace c24:=kK c24
  obtain ⟨r_36,c25,hx1⟩:=bd_ hx1
  replace c25:=uO c25
  cases hx1
  exact aK
 rcases af hx1 with ⟨q_37,hx1⟩|⟨q_37,hx1⟩
 ·obtain ⟨x_38,i26z,i26,i26x,hx1⟩:=bn (f:=cV) hx1
  obtain ⟨x_39,i27z,i27,i27x,hx1⟩:=bn (f:=cV) hx1
  obtain ⟨r_40,c28,hx1⟩:=bd_ hx1
  replace c28:=kK c28
  obtain ⟨r_41,c29,hx1⟩:=bd_ hx1
  replace c29:=uO c29
  cases hx1
  exact aK
 refine bz ?_
 rcases af hx1 with ⟨q_42,hx1⟩|⟨q_42,hx1⟩
 ·obtain ⟨x_43,i30z,i30,i30x,hx1⟩:=bn (f:=cV) hx1
  obtain ⟨x_44,i31z,i31,i31x,hx1⟩:=bn (f:=cV) hx1
  obtain ⟨r_45,c32,hx1⟩:=bd_ hx1
  replace c32:=kK c32
  obtain ⟨r_46,c33,hx1⟩:=bd_ hx1
  replace c33:=uO c33
  cases hx1
  exact aK
 rcases af hx1 with ⟨q_47,hx1⟩|⟨q_47,hx1⟩
 ·obtain ⟨x_48,i34z,i34,i34x,hx1⟩:=bn (f:=cV) hx1
  obtain ⟨x_49,i35z,i35,i35x,hx1⟩:=bn (f:=cV) hx1
  obtain ⟨r_50,c36,hx1⟩:=bd_ hx1
  replace c36:=kK c36
  obtain ⟨r_51,c37,hx1⟩:=bd_ hx1
  replace c37:=uO c37
  cases hx1
  exact aK
 rcases af hx1 with ⟨q_52,hx1⟩|⟨q_52,hx1⟩
 ·obtain ⟨r_53,c38,hx1⟩:=bd_ hx1
  replace c38:=Lm c38
  refine bz ?_
  rcases af hx1 with ⟨q_54,hx1⟩|⟨q_54,hx1⟩
  ·obtain ⟨r_55,c39,hx1⟩:=bd_ hx1
   replace c39:=dD c39
   cases hx1
   exact aK
  obtain ⟨x_56,i40z,i40,i40x,hx1⟩:=bn (f:=cV) hx1
  obtain ⟨r_57,c41,hx1⟩:=bd_ hx1
  replace c41:=pO c41
  cases hx1
  exact aK
 refine bz ?_
 rcases af hx1 with ⟨q_58,hx1⟩|⟨q_58,hx1⟩
 ·obtain ⟨r_59,c42,hx1⟩:=bd_ hx1
  replace c42:=Te c42
  cases hx1
  exact aK
 rcases af hx1 with ⟨q_60,hx1⟩|⟨q_60,hx1⟩
 ·obtain ⟨r_61,c43,hx1⟩:=bd_ hx1
  replace c43:=Te c43
  cases hx1
  exact aK
 rcases af hx1 with ⟨q_62,hx1⟩|⟨q_62,hx1⟩
 ·obtain ⟨x_63,i44z,i44,i44x,hx1⟩:=bn (f:=cV) hx1
  obtain ⟨r_64,c45,hx1⟩:=bd_ hx1
  replace c45:=qX c45
  cases hx1
  exact aK
 refine bz ?_
 rcases af hx1 with ⟨q_65,hx1⟩|⟨q_65,hx1⟩
 ·obtain ⟨r_66,c46,hx1⟩:=bd_ hx1
  replace c46:=MV c46
  cases hx1
  exact aK
 rcases af hx1 with ⟨q_67,hx1⟩|⟨q_67,hx1⟩
 ·obtain ⟨r_68,c47,hx1⟩:=bd_ hx1
  replace c47:=MV c47
  cases hx1
  exact aK
 rcases af hx1 with ⟨q_69,hx1⟩|⟨q_69,hx1⟩
 ·obtain ⟨r_70,c48,hx1⟩:=bd_ hx1
  replace c48:=Uz c48
  cases hx1
  exact aK
 obtain ⟨r_71,c49,hx1⟩:=bd_ hx1
 replace c49:=Lm c49
 refine bz ?_
 rcases af hx1 with ⟨q_72,hx1⟩|⟨q_72,hx1⟩
 ·obtain ⟨r_73,c50,hx1⟩:=bd_ hx1
  replace c50:=dD c50
  cases hx1
  exact aK
 obtain ⟨x_74,i51z,i51,i51x,hx1⟩:=bn (f:=cV) hx1
 obtain ⟨x_75,i52z,i52,i52x,hx1⟩:=bn (f:=cV) hx1
 obtain ⟨r_76,c53,hx1⟩:=bd_ hx1
 replace c53:=U9 c53
 cases hx1
 exact aK
def l9:Nat->Ex->List Val->Option Val
 | 0,_,_=>none
 | n+1,e,r=>Dt (l9 n) e r
theorem SY : ∀ (n:Nat) {x:Ex} {y:List Val} {r:Val}, l9 n x y=some r->Pure Tryz.prog 106 [.agg (tE x), .one (.lst (y.map cV))] (.val (.agg (cV r)))
 | 0,_,_,_,h=>nomatch h
 | n+1,_,_,_,h=>Zp (SY n) h
end Go.Proofs.YtlcceppoloaecaaGreatDoor
