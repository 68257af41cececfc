/- Parts of the proof, joined. No condition. -/
import Derived.Test.YtcehmafobkhdbaaGreatDoorKAA
import Derived.Test.YtcehmafobkhdbaaGreatDoorKAZ
import Derived.Test.YtcehmafobkhdbaaGreatDoorKAE
set_option linter.unusedSimpArgs false
set_option linter.unusedVariables false
namespace Go.Proofs.YtcehmafobkhdbaaGreatDoor
open Go.RowKit Go.MapKept
set_option maxRecDepth 100000
theorem QA (x y:Int):Mo x y=some (lM x y):=by
 unfold Mo KR lM
 by_cases h1:x<y
 ·simp [h1]
 ·by_cases h2:y<x
  ·simp [h1,h2]
  ·simp [h1,h2]
def orS (_:Unit) (x:Int):Option (Sum Unit Int):=if x≠0 then some (.inr x) else some (.inl ())
theorem agi (a b c:Int):gOr [a,b,c]=some (if a≠0 then a else if b≠0 then b else c):=by
 unfold gOr
 rw [di (l:=[a,b,c]) (mk:=fun (_:Unit) i=>i) (f:=orS) ?_ ?_ (by unfold fuel;simp) ()]
 ·unfold orS
  by_cases h1:a=0
  ·by_cases h2:b=0
   ·by_cases h3:c=0
    ·simp [dF,Jl,xx,h1,h2,h3]
    ·simp [dF,Jl,xx,h1,h2,h3]
   ·simp [dF,Jl,xx,h1,h2]
  ·simp [dF,Jl,xx,h1]
 ·intro s i x hx
  have hi:i<3:=(agV.1 hx).1
  unfold O0 orS
  dsimp only
  rw [aV hx,agX,gn_ hx]
  simp only [agU]
  rw [wrapN (by omega)]
  by_cases h:x=0
  ·simp [h,uw]
  ·simp [h,uw]
 ·intro s
  unfold O0
  dsimp only
  rw [lF_,agW]
theorem DZ (v w:Val):yz v w=some (zA v w):=by
 unfold yz
 rw [QA,QA]
 simp only [agU]
 rw [agi]
 rfl
theorem Qf : ∀ (b:List Val),bS [] b=if b=[] then 0 else -1
 | []=>rfl
 | _::_=>rfl
theorem NN {a b:List Val} (ha:a.length<=4000000000000) (hb:b.length<=4000000000000) : ∀ (n i:Nat),i<=a.length->i<=b.length->a.length-i<n->(ax (nQ a b fun x0 x1=>yz x0 x1) n (i:Int)).bind (iA a b)=some (bS (a.drop i) (b.drop i))
 | 0,_,_,_,h=>by omega
 | n+1,i,h1,h2,hn=>by
  rw [ax]
  by_cases hlt:i<a.length
  ·obtain ⟨x,hx⟩:=gol_ hlt
   have ex:=(agV.1 hx).2
   have eb:nQ a b (fun x0 x1=>yz x0 x1) (i:Int)=bif (decide (((b.length:Nat):Int)<=(i:Int))) then some (.ret (1:Int)) else (aH b (i:Int)).bind fun x_5=>(yz x x_5).bind fun r_6=>bif (decide (r_6≠(0:Int))) then some (.ret r_6) else some (.next (IntKind.i64.wrap ((i:Int)+(1:Int)))):=by
    unfold nQ
    dsimp only
    rw [aV hx,agX,gn_ hx]
    rfl
   rw [eb,ahp hlt,ex]
   by_cases hlb:i<b.length
   ·obtain ⟨y,hy⟩:=gol_ hlb
    have ey:=(agV.1 hy).2
    rw [ahp hlb,ey,show decide (((b.length:Nat):Int)<=(i:Int))=false from agY (by omega),agW,gn_ hy,bS]
    simp only [agU,DZ]
    by_cases h:zA x y=0
    ·simp only [h,ne_eq,not_true_eq_false,decide_false,agW,if_false]
     rw [wrapN (by omega)]
     have k:=NN ha hb n (i+1) (by omega) (by omega) (by omega)
     simp only [DZ] at k
     exact k
    ·simp [h,iA]
   ·have:i=b.length:=by omega
    subst this
    rw [ahO,show decide (((b.length:Nat):Int)<=((b.length:Nat):Int))=true from agZ (by omega),agX]
    rfl
  ·have:i=a.length:=by omega
   subst this
   have eb:nQ a b (fun x0 x1=>yz x0 x1) ((a.length:Nat):Int)=some (.exit ((a.length:Nat):Int)):=by
    unfold nQ
    dsimp only
    rw [lF_,agW]
   rw [eb,ahO,Qf]
   show iA a b (.inl ((a.length:Nat):Int))=_
   unfold iA
   by_cases h:a.length<b.length
   ·rw [show decide (((a.length:Nat):Int)<((b.length:Nat):Int))=true from agZ (by omega),agX,if_neg (by rw [List.drop_eq_nil_iff];omega)]
   ·rw [show decide (((a.length:Nat):Int)<((b.length:Nat):Int))=false from agY (by omega),agW,if_pos (by rw [List.drop_eq_nil_iff];omega)]
theorem aa1 (a b:List Val) (ha:a.length<=4000000000000) (hb:b.length<=4000000000000):Su a b=some (bS a b):=by
 unfold Su PI
 have:=NN ha hb fuel 0 (ahe _) (ahe _) (by unfold fuel;omega)
 rw [show (((0:Nat):Int))=0 from rfl] at this
 rw [this];rfl
theorem bytesLess_eq : ∀ a b:List UInt8,Op.bytesLess a b=decide (Lib.compareBytes a b<0)/\(a==b)=decide (Lib.compareBytes a b=0)
 | [],[]=>⟨rfl,rfl⟩
 | [],_::_=>⟨rfl,rfl⟩
 | _::_,[]=>⟨rfl,rfl⟩
 | x::a,y::b=>by
  have e2:Lib.compareBytes (x::a) (y::b)=if x<y then -1 else if y<x then 1 else Lib.compareBytes a b:=by rw [Lib.compareBytes]
  have e3:Op.bytesLess (x::a) (y::b)=(decide (x<y)||(x==y&&Op.bytesLess a b)):=by rw [Op.bytesLess]
  obtain ⟨i1,i2⟩:=bytesLess_eq a b
  rw [e2,e3,List.cons_beq_cons,i1,i2]
  by_cases h1:x<y
  ·have hne:x≠y:=fun e=>by rw [e] at h1;exact absurd h1 (UInt8.lt_irrefl y)
   simp [h1,hne]
  ·by_cases h2:y<x
   ·have hne:x≠y:=fun e=>by rw [e] at h2;exact absurd h2 (UInt8.lt_irrefl y)
    simp [h1,h2,hne]
   ·have heq:x=y:=UInt8.le_antisymm (UInt8.not_lt.1 h2) (UInt8.not_lt.1 h1)
    subst heq
    simp [h1]
theorem XG (a b:ByteArray):Op.bytesLess a.toList b.toList=decide (xS a b<0):=by
 unfold xS
 rw [Lib.cmp_eq,ByteArray.toList_eq,ByteArray.toList_eq];exact (bytesLess_eq _ _).1
theorem ab' (a b:ByteArray):(a.toList==b.toList)=decide (xS a b=0):=by
 unfold xS
 rw [Lib.cmp_eq,ByteArray.toList_eq,ByteArray.toList_eq];exact (bytesLess_eq _ _).2
theorem rA : ∀ a b:List UInt8,Lib.compareBytes a b = -1\/Lib.compareBytes a b=0\/Lib.compareBytes a b=1
 | [],[] => .inr (.inl rfl)
 | [],_::_ => .inl rfl
 | _::_,[] => .inr (.inr rfl)
 | x::a,y::b=>by
  have e2:Lib.compareBytes (x::a) (y::b)=if x<y then -1 else if y<x then 1 else Lib.compareBytes a b:=by rw [Lib.compareBytes]
  rw [e2]
  split
  ·exact .inl rfl
  ·split
   ·exact .inr (.inr rfl)
   ·exact rA a b
theorem KL (v w:Val):AL v w=some (zA v w):=by
 unfold AL zA Jc
 rw [XG,ab']
 have hr:xS v.text w.text = -1\/xS v.text w.text=0\/xS v.text w.text=1:=by unfold xS;rw [Lib.cmp_eq];exact rA _ _
 by_cases h1:v.kind=w.kind
 ·have e1:lM v.kind w.kind=0:=by rw [h1];exact tCi_.refl _
  by_cases h2:v.int=w.int
  ·have e2:lM v.int w.int=0:=by rw [h2];exact tCi_.refl _
   rw [e1,e2]
   simp only [h1,h2,ne_eq,not_true_eq_false,decide_false,agW,if_false]
   rcases hr with h|h|h<;>rw [h]<;>rfl
  ·have e2:lM v.int w.int≠0:=fun e=>h2 (tCi_.zero _ _ e)
   rw [e1]
   simp only [h1,h2,e2,ne_eq,not_true_eq_false,not_false_eq_true,decide_false,decide_true,agW,agX,if_false,if_true]
   unfold lM
   by_cases h3:v.int<w.int
   ·simp [h3]
   ·have:w.int<v.int:=by omega
    simp [h3,this]
 ·have e1:lM v.kind w.kind≠0:=fun e=>h1 (tCi_.zero _ _ e)
  simp only [h1,e1,ne_eq,not_true_eq_false,not_false_eq_true,decide_false,decide_true,agW,agX,if_false,if_true]
  unfold lM
  by_cases h3:v.kind<w.kind
  ·simp [h3]
  ·have:w.kind<v.kind:=by omega
   simp [h3,this]
theorem Sa {a b:List Val} (ha:a.length<=4000000000000) (hb:b.length<=4000000000000) : ∀ (n i:Nat),i<=a.length->i<=b.length->a.length-i<n->(ax (jK a b) n (i:Int)).bind (fG a b)=some (bS (a.drop i) (b.drop i))
 | 0,_,_,_,h=>by omega
 | n+1,i,h1,h2,hn=>by
  rw [ax]
  by_cases hlt:i<a.length
  ·obtain ⟨x,hx⟩:=gol_ hlt
   have ex:=(agV.1 hx).2
   rw [ahp hlt,ex]
   by_cases hlb:i<b.length
   ·obtain ⟨y,hy⟩:=gol_ hlb
    have ey:=(agV.1 hy).2
    have eb:jK a b (i:Int)=bif (decide (zA x y≠(0:Int))) then some (.ret (zA x y)) else some (.next (IntKind.i64.wrap ((i:Int)+(1:Int)))):=by
     unfold jK
     dsimp only
     rw [aV hx,agX,aV hy,agX,gn_ hx,gn_ hy]
     simp only [agU,KL]
    rw [eb,ahp hlb,ey,bS]
    by_cases h:zA x y=0
    ·simp only [h,ne_eq,not_true_eq_false,decide_false,agW,if_false]
     rw [wrapN (by omega)]
     exact Sa ha hb n (i+1) (by omega) (by omega) (by omega)
    ·simp [h,fG]
   ·have:i=b.length:=by omega
    subst this
    have eb:jK a b ((b.length:Nat):Int)=some (.exit ((b.length:Nat):Int)):=by
     unfold jK
     dsimp only
     rw [aV hx,agX,lF_,agW]
    rw [eb,ahO]
    show fG a b (.inl ((b.length:Nat):Int))=_
    unfold fG
    rw [show decide (((a.length:Nat):Int)<((b.length:Nat):Int))=false from agY (by omega),agW,show decide (((b.length:Nat):Int)<((a.length:Nat):Int))=true from agZ (by omega),agX]
    rfl
  ·have:i=a.length:=by omega
   subst this
   have eb:jK a b ((a.length:Nat):Int)=some (.exit ((a.length:Nat):Int)):=by
    unfold jK
    dsimp only
    rw [lF_,agW]
   rw [eb,ahO,Qf]
   show fG a b (.inl ((a.length:Nat):Int))=_
   unfold fG
   by_cases h:a.length<b.length
   ·rw [show decide (((a.length:Nat):Int)<((b.length:Nat):Int))=true from agZ (by omega),agX,if_neg (by rw [List.drop_eq_nil_iff];omega)]
   ·rw [show decide (((a.length:Nat):Int)<((b.length:Nat):Int))=false from agY (by omega),agW,show decide (((b.length:Nat):Int)<((a.length:Nat):Int))=false from agY (by omega),agW,if_pos (by rw [List.drop_eq_nil_iff];omega)]
theorem oz (a b:List Val) (ha:a.length<=4000000000000) (hb:b.length<=4000000000000):vo a b=some (bS a b):=by
 unfold vo
 have:=Sa ha hb fuel 0 (ahe _) (ahe _) (by unfold fuel;omega)
 rw [show (((0:Nat):Int))=0 from rfl] at this
 rw [this];rfl
set_option maxHeartbeats 8000000
def Cj (a_a:aa) (a_b:aa):Option (Int):=(Su a_a.row a_b.row).bind fun r_1=>some r_1
theorem Ww {a_a:aa} {a_b:aa} {r:Int} (H:Cj a_a a_b=some r):Pure Tryz.prog 155 [.agg (ae a_a), .agg (ae a_b)] (.val (.one (.int .i64 r))):=by
 unfold Cj at H
 refine po_ Tryz.func155 Tryz.ntmps155 ?_
 obtain ⟨r_1,c1,H⟩:=bd_ H
 replace c1:=aaO c1
 try simp only [ag8,ag6,ag_,ag0,aC] at c1
 obtain rfl:=ahq H
 exact aD
theorem Yl (a b:aa) (ha:a.row.length<=4000000000000) (hb:b.row.length<=4000000000000):Cj a b=some (bS a.row b.row):=by
 unfold Cj
 rw [aa1 _ _ ha hb];rfl
def Ke {α:Type} (c:α->α->Int) (A:List α) (x:α):Nat->Nat
 | 0=>0
 | j+1=>match A[j]? with
  | some y=>if c x y<0 then Ke c A x j else j+1
  | none=>j+1
def KG {α:Type} (c:α->α->Int) (A:List α) (x:α):List α:=A.take (Ke c A x A.length)++x::A.drop (Ke c A x A.length)
def qZ {α:Type} (c:α->α->Int) (l:List α):List α:=l.foldl (KG c) []
theorem NM {α:Type} (c:α->α->Int) (B:List α) (x:α) : ∀ j,j<=B.length->Ke c B x j<=j/\(∀ i y,Ke c B x j<=i->i<j->B[i]?=some y->c x y<0)/\(∀ q,Ke c B x j=q+1 -> ∃ y,B[q]?=some y /\ ¬ c x y<0)
 | 0,_=>⟨ag' _,fun i y _ h=>by omega,fun q h=>by simp [Ke] at h⟩
 | j+1,hj=>by
  obtain ⟨y,hy⟩:=gol_ (show j<B.length by omega)
  obtain ⟨h1,h2,h3⟩:=NM c B x j (by omega)
  unfold Ke
  simp only [hy]
  split
  ·rename_i hlt
   refine ⟨by omega,fun i z hi hij hz=>?_,h3⟩
   by_cases e:i=j
   ·subst e;rw [hy] at hz;injection hz with hz;subst hz;exact hlt
   ·exact h2 i z hi (by omega) hz
  ·rename_i hge
   exact ⟨ag' _,fun i z hi hij _=>by omega,fun q hq=>by injection hq with hq;subst hq;exact ⟨y,hy,hge⟩⟩
theorem Yr {α:Type} (c:α->α->Int) (B:List α) (x:α):(KG c B x).Perm (x::B):=by
 unfold KG
 refine List.perm_middle.trans ?_
 rw [ahE]
theorem xM {α:Type} (c:α->α->Int) : ∀ (l B:List α),(l.foldl (KG c) B).Perm (l++B)
 | [],B=>List.Perm.refl _
 | x::l,B=>by
  rw [ahJ]
  refine (xM c l (KG c B x)).trans ?_
  refine ((Yr c B x).append_left l).trans ?_
  exact List.perm_middle
theorem wN {α:Type} (c:α->α->Int) (l:List α):(qZ c l).Perm l:=by
 have:=xM c l []
 simpa [qZ] using this
theorem aaD {α:Type} {c:α->α->Int} (htr : ∀ a b d,c a b<=0->c b d<=0->c a d<=0) (htot : ∀ a b, ¬ c a b<0->c b a<=0) {B:List α} (x:α) (h:B.Pairwise fun a b=>c a b<=0):(KG c B x).Pairwise fun a b=>c a b<=0:=by
 obtain ⟨h1,h2,h3⟩:=NM c B x B.length (ag' _)
 unfold KG
 generalize Ke c B x B.length=p at h1 h2 h3
 have hd : ∀ y∈B.drop p,c x y<=0:=by
  intro y hy
  obtain ⟨i,hi⟩:=List.getElem?_of_mem hy
  rw [ahF] at hi
  have:=(agV.1 hi).1
  have:=h2 (p+i) y (by omega) this hi
  omega
 have ht : ∀ y∈B.take p,c y x<=0:=by
  intro y hy
  cases p with
  | zero=>simp at hy
  | succ q =>
   obtain ⟨z,hz,hge⟩:=h3 q rfl
   have hzx:=htot x z hge
   obtain ⟨i,hi⟩:=List.getElem?_of_mem hy
   have hil:i<q+1:=by have:=(agV.1 hi).1;rw [ahK] at this;omega
   rw [List.getElem?_take_of_lt hil] at hi
   by_cases e:i=q
   ·subst e;rw [hi] at hz;injection hz with hz;subst hz;exact hzx
   ·have hlt:i<q:=by omega
    have hi':=agV.1 hi
    have hz':=agV.1 hz
    have:=List.pairwise_iff_getElem.1 h i q hi'.1 hz'.1 hlt
    rw [hi'.2,hz'.2] at this
    exact htr _ _ _ this hzx
 refine List.pairwise_append.2 ⟨h.sublist (List.take_sublist _ _),ahP.2 ⟨hd,h.sublist (List.drop_sublist _ _)⟩,fun a ha b hb=>?_⟩
 rcases aha.1 hb with rfl|hb
 ·exact ht a ha
 ·exact htr _ _ _ (ht a ha) (hd b hb)
theorem MF {α:Type} {c:α->α->Int} (htr : ∀ a b d,c a b<=0->c b d<=0->c a d<=0) (htot : ∀ a b, ¬ c a b<0->c b a<=0) (l:List α):(qZ c l).Pairwise fun a b=>c a b<=0:=by
 have : ∀ (l B:List α),(B.Pairwise fun a b=>c a b<=0)->(l.foldl (KG c) B).Pairwise fun a b=>c a b<=0:=by
  intro l
  induction l with
  | nil=>intro B h;exact h
  | cons x l ih=>intro B h;exact ih _ (aaD htr htot x h)
 exact this l [] List.Pairwise.nil
abbrev jw (a b:aa):Int:=bS a.row b.row
abbrev kT (s:aa):jB:=(dW s.row, .lst (s.periods.map bE))
theorem agx {L:List Ob} {v k:Nat} {l:List jB} {x:AV} {xs:List AV} (h0:L[3]?=some (Ob.row v (l.map uB) k)) (hx : ∀ y∈x::xs,y.below 1):nX [3] [Ob.row v (l.map uB) k] (x::xs) L:=by
 refine ⟨rfl,by simp,fun i y hy=>?_,cZ ⟨dM _ _ _ _,trivial⟩,hx⟩
 match i,hy with
 | 0,hy=>simp at hy;subst hy;rw [Ea];exact h0
 | i+1,hy=>simp at hy
theorem jG3 {L L':List Ob} {v k:Nat} {l:List jB} (h:L.set 3 (Ob.row v (l.map uB) k)=L'):joinL [3] L [Ob.row v (l.map uB) k]=L':=by
 subst h
 simp [joinL,join,jV,dR,mE,Ea]
def rD (l:List aj):List aa:=qZ jw ((eT l).map fun g=>⟨g.f.row,g.ps⟩)
theorem Uy:Pure Tryz.prog 154 [.one (.lst []), .one (.fn 155 [])] (.tup []):=(Ci Vv 40).1 _ _ _ (by kernel_rfl)
abbrev dC {α:Type} (enc:α->List AC) (k v:Nat) (X:List α):Ob := .row v ((X.map enc).map (List.map SV.c)) k
theorem QE {α:Type} (enc:α->List AC) (k v:Nat) (X:List α) (σ:List Nat):(dC enc k v X).ren σ=dC enc k v X:=by
 show Ob.row v (((X.map enc).map (List.map SV.c)).map (List.map (SV.ren σ))) k=_
 rw [List.map_map]
 congr 1
 refine List.map_congr_left fun e _=>?_
 show (e.map SV.c).map (SV.ren σ)=e.map SV.c
 rw [List.map_map]
 rfl
theorem aT {α:Type} (n:Nat) (enc:α->List AC) (k v:Nat) (X:List α):(dC enc k v X).below n:=CE n v k enc X
theorem rfX {α:Type} {enc:α->List AC} {k v:Nat} {X:List α} {L:List Ob} {args:List AV} (h0:L[0]?=some (dC enc k v X)) (hx : ∀ y∈args,y.below 1):nX [0] [dC enc k v X] args L:=by
 refine ⟨rfl,by simp,fun i y hy=>?_,cZ ⟨aT _ _ _ _ _,trivial⟩,hx⟩
 match i,hy with
 | 0,hy=>simp only [List.getElem?_cons_zero,Option.some.injEq] at hy;subst hy;rw [QE];exact h0
 | i+1,hy=>simp at hy
theorem jX {α:Type} {enc:α->List AC} {k v:Nat} {X:List α} {L L':List Ob} (h:L.set 0 (dC enc k v X)=L'):joinL [0] L [dC enc k v X]=L':=by
 subst h
 simp only [joinL,join,jV,dR,mE,ag6,ag_,QE]
 simp
section
variable {P:Program} {ti:TI} {N:Nat} {ds:List (Option Tmp)} {K:Tm->List Ob->Prop} {rest:List Oper} {o:Oper} {T:Tm} {L:List Ob}
theorem r_ {α:Type} {enc:α->List AC} {X Y:List α} {g:FuncId} {asx args:List AV} {v k d:Nat} (hd:o.dst=some d) (hN:Nat.blt d N=true) (hg:kJ ds T o.guard=some true) (hp:fJ ti (look T) o.op=some (g,asx)) (hL:L[0]?=some (dC enc k v X)) (h:aQ P ti N ds K rest ((d, .tup [])::T) (L.set 0 (dC enc k v Y)))
  (hc:Run P g [dC enc k v X] args [dC enc k v Y] (.tup []):=by assumption) (ha:asx=args.map (AV.ren [0]):=by rfl) (hb : ∀ y∈args,y.below 1:=by refine wX ?_;repeat' (first|refine ⟨?_,?_⟩|exact trivial|exact lt_)):aQ P ti N ds K (o::rest) T L :=
 kN [0] hd hN hg hp hc ha (rfX hL hb) rfl (jX rfl) h
theorem afo {α:Type} {enc:α->List AC} {X:List α} {x:α} {t:TypeId} {p:Operand} {id ver i k d:Nat} (hd:o.dst=some d) (hN:Nat.blt d N=true) {g0:Bool} (hg:kJ ds T o.guard=some g0) (ho:o.op = .load t p) (hp:look T p=some (.one (.ep id ver i 0))) (hL:L[id]?=some (dC enc k ver X)) (ha:ti.agg t=some true) (hn:ti.size t=some k) (hk : ∀ x,(enc x).length=k)
  (h:aQ P ti N ds K rest ((d, .agg ((enc x).map SV.c))::T) L) (hx:X[i]?=some x:=by assumption) (hg1:g0=true:=by first|rfl|exact nU (by first|assumption|exact oD (by assumption))|exact nH (by first|assumption|exact oF (by assumption))):aQ P ti N ds K (o::rest) T L:=by
 subst hg1
 have hl:((enc x).map SV.c).length=k:=by rw [ag7,hk]
 refine Oi hd hN hg ho hp hL ha hn (e:=(enc x).map SV.c) ?_ (by rw [List.drop_zero, <- hl,List.take_length]) (by omega) h
 rw [ahg,ahg,hx];rfl
theorem afs {α:Type} {enc:α->List AC} {X:List α} {x:α} {y:AC} {t:TypeId} {p:Operand} {id ver i k d:Nat} (hd:o.dst=some d) (hN:Nat.blt d N=true) {g0:Bool} (hg:kJ ds T o.guard=some g0) (ho:o.op = .load t p) (hp:look T p=some (.one (.ep id ver i 0))) (hL:L[id]?=some (dC enc k ver X)) (ha:ti.agg t=some false)
  (h:aQ P ti N ds K rest ((d, .one (.c y))::T) L) (hx:X[i]?=some x:=by assumption) (hy:enc x=[y]:=by rfl) (hg1:g0=true:=by first|rfl|exact nU (by first|assumption|exact oD (by assumption))|exact nH (by first|assumption|exact oF (by assumption))):aQ P ti N ds K (o::rest) T L:=by
 subst hg1
 refine NV hd hN hg ho hp hL ha (e:=(enc x).map SV.c) (x := .c y) ?_ (by rw [hy];rfl) h
 rw [ahg,ahg,hx];rfl
end
theorem pO {α β:Type} {X:List α} {i:Int} {k:α->Option β} {r:β} (H:(aH X i).bind k=some r) : ∃ x,X[0+i.toNat]?=some x/\k x=some r:=by
 obtain ⟨x,h,K⟩:=bd_ H
 obtain ⟨h0,h1⟩:=nE h
 exact ⟨x,by rw [ahB];exact h1,K⟩
theorem AJ {p q:Prop} (k:q) (h:Bx q->p:=by
 intro hq
 repeat' (first
  | refine r_ rfl rfl rfl rfl rfl ?_|refine afo rfl rfl rfl rfl rfl rfl rfl rfl (fun _=>rfl) ?_|refine afs rfl rfl rfl rfl rfl rfl rfl ?_|refine Hq rfl rfl rfl rfl rfl (by omega) rfl (fun _=>rfl) rfl ?_|refine p_ rfl rfl rfl rfl rfl ?_|refine st_nil ?_|refine x_ rfl rfl rfl rfl rfl rfl rfl rfl ?_|refine l_ rfl rfl rfl rfl ?_|refine s_ rfl rfl rfl ?_|refine t_ rfl rfl rfl rfl ?_|refine k_ rfl rfl rfl ?_|refine k0_ rfl rfl ?_|refine c_ rfl rfl rfl rfl ?_|refine pick_t rfl rfl rfl rfl rfl rfl rfl ?_|refine pick_f rfl rfl rfl rfl rfl rfl rfl ?_|refine aw_seq ?_|refine aw_region ay _ rfl ?_|refine aw_drawn2 bf _ rfl mixed (by decide +kernel) ?_|refine aw_condT rfl ?_|refine aw_condF rfl ?_|refine aw_block ?_|refine aw_exit ?_|refine aw_ret ?_|refine aw_skip ?_|rw [ag7]|rw [mn_norm]|rw [mx_norm])
 exact hq.out):p:=h ⟨k⟩
theorem mi {p:Prop} (h:p:=by
 repeat' (first
  | refine r_ rfl rfl rfl rfl rfl ?_|refine afo rfl rfl rfl rfl rfl rfl rfl rfl (fun _=>rfl) ?_|refine afs rfl rfl rfl rfl rfl rfl rfl ?_|refine Hq rfl rfl rfl rfl rfl (by omega) rfl (fun _=>rfl) rfl ?_|refine p_ rfl rfl rfl rfl rfl ?_|refine st_nil ?_|refine x_ rfl rfl rfl rfl rfl rfl rfl rfl ?_|refine l_ rfl rfl rfl rfl ?_|refine s_ rfl rfl rfl ?_|refine t_ rfl rfl rfl rfl ?_|refine k_ rfl rfl rfl ?_|refine k0_ rfl rfl ?_|refine c_ rfl rfl rfl rfl ?_|refine pick_t rfl rfl rfl rfl rfl rfl rfl ?_|refine pick_f rfl rfl rfl rfl rfl rfl rfl ?_|refine aw_seq ?_|refine aw_region ay _ rfl ?_|refine aw_drawn2 bf _ rfl mixed (by decide +kernel) ?_|refine aw_condT rfl ?_|refine aw_condF rfl ?_|refine aw_block ?_|refine aw_exit ?_|refine aw_ret ?_|refine aw_skip ?_|rw [ag7]|rw [mn_norm]|rw [mx_norm])
 first
  | exact ⟨.inl rfl,⟨.inr ⟨.tup [],⟨trivial,rfl⟩,rfl⟩,⟨[],rfl⟩,by simp,cZ ⟨aT _ _ _ _ _,trivial⟩,trivial⟩⟩
  | exact ⟨.inr rfl,⟨.inr ⟨.tup [],⟨trivial,rfl⟩,rfl⟩,⟨[],rfl⟩,by simp,cZ ⟨aT _ _ _ _ _,trivial⟩,trivial⟩⟩):p:=h
set_option maxHeartbeats 8000000
abbrev bT (x:Int):Int:=IntKind.i64.wrap (Int.fdiv (IntKind.u64.wrap x) (2 ^ (min (Int.toNat (1:Int)) (IntKind.bits .u64))))
def gN {α:Type} (a_a:Int) (a_b:Int) (a_n:Int) (n:Nat):((List α) × Int)->Option (Step ((List α) × Int) (List α)):=fun s=>match s with
 | (c_1,i_2)=>bif (decide (i_2<a_n)) then bif (decide (0<=(IntKind.i64.wrap (a_b+i_2)))) then (bif (decide ((IntKind.i64.wrap (a_b+i_2))<((n:Nat):Int))) then ((aH c_1 (IntKind.i64.wrap (a_b+i_2))).bind fun x_4=>bif (decide (0<=(IntKind.i64.wrap (a_a+i_2)))) then (bif (decide ((IntKind.i64.wrap (a_a+i_2))<((n:Nat):Int))) then ((aH c_1 (IntKind.i64.wrap (a_a+i_2))).bind fun x_5=>bif (decide (0<=(IntKind.i64.wrap (a_a+i_2)))) then (bif (decide ((IntKind.i64.wrap (a_a+i_2))<((n:Nat):Int))) then (bif (decide ((0+(IntKind.i64.wrap (a_a+i_2)).toNat)<c_1.length)) then (bif (decide (0<=(IntKind.i64.wrap (a_b+i_2)))) then (bif (decide ((IntKind.i64.wrap (a_b+i_2))<((n:Nat):Int))) then (bif (decide ((0+(IntKind.i64.wrap (a_b+i_2)).toNat)<(c_1.set (0+(IntKind.i64.wrap (a_a+i_2)).toNat) x_4).length)) then (some (.next (((c_1.set (0+(IntKind.i64.wrap (a_a+i_2)).toNat) x_4).set (0+(IntKind.i64.wrap (a_b+i_2)).toNat) x_5),(IntKind.i64.wrap (i_2+(1:Int)))))) else none) else none) else none) else none) else none) else none) else none) else none) else none) else none else
 some (.exit (c_1,i_2))
def tO {α:Type} : Sum ((List α) × Int) (List α)->Option ((List α))
 | .inl (c_1,i_2)=>some c_1
 | .inr q=>some q
def lI {α:Type} (n:Nat) (a_data:(List α)) (a_a:Int) (a_b:Int) (a_n:Int) (a_cmp:α->α->Option (Int)):Option (List α):=(ax (gN a_a a_b a_n n) fuel (a_data,(0:Int))).bind (tO)
def iV {α:Type} (a_m:Int) (a_cmp:α->α->Option (Int)) (n:Nat):((List α) × Int × Int)->Option (Step ((List α) × Int × Int) (List α)):=fun s=>match s with
 | (c_1,i_2,j_3)=>bif (decide (i_2≠j_3)) then bif (decide (j_3<i_2)) then (lI n c_1 (IntKind.i64.wrap (a_m-i_2)) a_m j_3 a_cmp).bind fun c_6=>some (.next (c_6,(IntKind.i64.wrap (i_2-j_3)),j_3)) else
 (lI n c_1 (IntKind.i64.wrap (a_m-i_2)) (IntKind.i64.wrap ((IntKind.i64.wrap (a_m+j_3))-i_2)) i_2 a_cmp).bind fun c_7=>some (.next (c_7,i_2,(IntKind.i64.wrap (j_3-i_2)))) else
 some (.exit (c_1,i_2,j_3))
def wD {α:Type} (a_m:Int) (a_cmp:α->α->Option (Int)) (n:Nat):Sum ((List α) × Int × Int) (List α)->Option ((List α))
 | .inl (c_1,i_2,j_3)=>(lI n c_1 (IntKind.i64.wrap (a_m-i_2)) a_m i_2 a_cmp).bind fun c_8=>some c_8
 | .inr q=>some q
def sU {α:Type} (n:Nat) (a_data:(List α)) (a_a:Int) (a_m:Int) (a_b:Int) (a_cmp:α->α->Option (Int)):Option (List α):=(ax (iV a_m a_cmp n) fuel (a_data,(IntKind.i64.wrap (a_m-a_a)),(IntKind.i64.wrap (a_b-a_m)))).bind (wD a_m a_cmp n)
def gq {α:Type} (a_a:Int) (a_cmp:α->α->Option (Int)) (n:Nat):((List α) × Int)->Option (Step ((List α) × Int) (List α)):=fun s=>match s with
 | (c_4,j_5)=>bif (decide (a_a<j_5)) then bif (decide (0<=j_5)) then (bif (decide (j_5<((n:Nat):Int))) then ((aH c_4 j_5).bind fun x_7=>bif (decide (0<=(IntKind.i64.wrap (j_5-(1:Int))))) then (bif (decide ((IntKind.i64.wrap (j_5-(1:Int)))<((n:Nat):Int))) then ((aH c_4 (IntKind.i64.wrap (j_5-(1:Int)))).bind fun x_8=>(a_cmp x_7 x_8).bind fun r_9=>bif (decide (r_9<(0:Int))) then bif (decide (0<=(IntKind.i64.wrap (j_5-(1:Int))))) then (bif (decide ((IntKind.i64.wrap (j_5-(1:Int)))<((n:Nat):Int))) then (bif (decide (0<=j_5)) then (bif (decide (j_5<((n:Nat):Int))) then (bif (decide (0<=j_5)) then (bif (decide (j_5<((n:Nat):Int))) then (bif (decide ((0+j_5.toNat)<c_4.length)) then (bif (decide (0<=(IntKind.i64.wrap (j_5-(1:Int))))) then (bif (decide ((IntKind.i64.wrap (j_5-(1:Int)))<((n:Nat):Int))) then (bif (decide ((0+(IntKind.i64.wrap (j_5-(1:Int))).toNat)<(c_4.set (0+j_5.toNat) x_8).length)) then (some (.next (((c_4.set (0+j_5.toNat) x_8).set (0+(IntKind.i64.wrap (j_5-(1:Int))).toNat) x_7),(IntKind.i64.wrap (j_5-(1:Int)))))) else none) else none) else none) else none) else none) else none) else none) else none) else none) else none else
 some (.exit (c_4,j_5))) else none) else none) else none) else none else
 some (.exit (c_4,j_5))
def lX {α:Type} (i_2:Int):Sum ((List α) × Int) (List α)->Option (Step ((List α) × Int) (List α))
 | .inl (c_4,j_5)=>some (.next (c_4,(IntKind.i64.wrap (i_2+(1:Int)))))
 | .inr q=>some (.ret q)
def gm {α:Type} (a_a:Int) (a_b:Int) (a_cmp:α->α->Option (Int)) (n:Nat):((List α) × Int)->Option (Step ((List α) × Int) (List α)):=fun s=>match s with
 | (c_1,i_2)=>bif (decide (i_2<a_b)) then (ax (gq a_a a_cmp n) fuel (c_1,i_2)).bind (lX i_2) else
 some (.exit (c_1,i_2))
def yf {α:Type} : Sum ((List α) × Int) (List α)->Option ((List α))
 | .inl (c_1,i_2)=>some c_1
 | .inr q=>some q
def uE {α:Type} (n:Nat) (a_data:(List α)) (a_a:Int) (a_b:Int) (a_cmp:α->α->Option (Int)):Option (List α):=(ax (gm a_a a_b a_cmp n) fuel (a_data,(IntKind.i64.wrap (a_a+(1:Int))))).bind (yf)
def rq {α:Type} (n:Nat) (i_2:Int):((List α) × Int)->Option (Step ((List α) × Int) (List α)):=fun s=>match s with
 | (c_9,k_10)=>bif (decide (k_10<(IntKind.i64.wrap (i_2-(1:Int))))) then bif (decide (0<=(IntKind.i64.wrap (k_10+(1:Int))))) then (bif (decide ((IntKind.i64.wrap (k_10+(1:Int)))<((n:Nat):Int))) then ((aH c_9 (IntKind.i64.wrap (k_10+(1:Int)))).bind fun x_12=>bif (decide (0<=k_10)) then (bif (decide (k_10<((n:Nat):Int))) then ((aH c_9 k_10).bind fun x_13=>bif (decide (0<=k_10)) then (bif (decide (k_10<((n:Nat):Int))) then (bif (decide ((0+k_10.toNat)<c_9.length)) then (bif (decide (0<=(IntKind.i64.wrap (k_10+(1:Int))))) then (bif (decide ((IntKind.i64.wrap (k_10+(1:Int)))<((n:Nat):Int))) then (bif (decide ((0+(IntKind.i64.wrap (k_10+(1:Int))).toNat)<(c_9.set (0+k_10.toNat) x_12).length)) then (some (.next (((c_9.set (0+k_10.toNat) x_12).set (0+(IntKind.i64.wrap (k_10+(1:Int))).toNat) x_13),(IntKind.i64.wrap (k_10+(1:Int)))))) else none) else none) else none) else none) else none) else none) else none) else none) else none) else none else
 some (.exit (c_9,k_10))
def JE {α:Type} : Sum ((List α) × Int) (List α)->Option ((List α))
 | .inl (c_9,k_10)=>some c_9
 | .inr q=>some q
def uq {α:Type} (a_data:List α) (a_a:Int) (a_cmp:α->α->Option (Int)) (n:Nat):(Int × Int)->Option (Step (Int × Int) (List α)):=fun s=>match s with
 | (i_2,j_3)=>bif (decide (i_2<j_3)) then bif (decide (0<=(bT (IntKind.i64.wrap (i_2+j_3))))) then (bif (decide ((bT (IntKind.i64.wrap (i_2+j_3)))<((n:Nat):Int))) then ((aH a_data (bT (IntKind.i64.wrap (i_2+j_3)))).bind fun x_5=>bif (decide (0<=a_a)) then (bif (decide (a_a<((n:Nat):Int))) then ((aH a_data a_a).bind fun x_6=>(a_cmp x_5 x_6).bind fun r_7=>bif (decide (r_7<(0:Int))) then some (.next ((IntKind.i64.wrap ((bT (IntKind.i64.wrap (i_2+j_3)))+(1:Int))),j_3)) else
 some (.next (i_2,(bT (IntKind.i64.wrap (i_2+j_3)))))) else none) else none) else none) else none else
 some (.exit (i_2,j_3))
def zB {α:Type} (a_data:List α) (a_a:Int) (n:Nat):Sum (Int × Int) (List α)->Option ((List α))
 | .inl (i_2,j_3)=>(ax (rq n i_2) fuel (a_data,a_a)).bind (JE)
 | .inr q=>some q
def q9 {α:Type} (n:Nat) (i_15:Int):((List α) × Int)->Option (Step ((List α) × Int) (List α)):=fun s=>match s with
 | (c_22,k_23)=>bif (decide (i_15<k_23)) then bif (decide (0<=(IntKind.i64.wrap (k_23-(1:Int))))) then (bif (decide ((IntKind.i64.wrap (k_23-(1:Int)))<((n:Nat):Int))) then ((aH c_22 (IntKind.i64.wrap (k_23-(1:Int)))).bind fun x_25=>bif (decide (0<=k_23)) then (bif (decide (k_23<((n:Nat):Int))) then ((aH c_22 k_23).bind fun x_26=>bif (decide (0<=k_23)) then (bif (decide (k_23<((n:Nat):Int))) then (bif (decide ((0+k_23.toNat)<c_22.length)) then (bif (decide (0<=(IntKind.i64.wrap (k_23-(1:Int))))) then (bif (decide ((IntKind.i64.wrap (k_23-(1:Int)))<((n:Nat):Int))) then (bif (decide ((0+(IntKind.i64.wrap (k_23-(1:Int))).toNat)<(c_22.set (0+k_23.toNat) x_25).length)) then (some (.next (((c_22.set (0+k_23.toNat) x_25).set (0+(IntKind.i64.wrap (k_23-(1:Int))).toNat) x_26),(IntKind.i64.wrap (k_23-(1:Int)))))) else none) else none) else none) else none) else none) else none) else none) else none) else none) else none else
 some (.exit (c_22,k_23))
def JG {α:Type} : Sum ((List α) × Int) (List α)->Option ((List α))
 | .inl (c_22,k_23)=>some c_22
 | .inr q=>some q
def ve {α:Type} (a_data:List α) (a_m:Int) (a_cmp:α->α->Option (Int)) (n:Nat):(Int × Int)->Option (Step (Int × Int) (List α)):=fun s=>match s with
 | (i_15,j_16)=>bif (decide (i_15<j_16)) then bif (decide (0<=a_m)) then (bif (decide (a_m<((n:Nat):Int))) then ((aH a_data a_m).bind fun x_18=>bif (decide (0<=(bT (IntKind.i64.wrap (i_15+j_16))))) then (bif (decide ((bT (IntKind.i64.wrap (i_15+j_16)))<((n:Nat):Int))) then ((aH a_data (bT (IntKind.i64.wrap (i_15+j_16)))).bind fun x_19=>(a_cmp x_18 x_19).bind fun r_20=>bif (!(decide (r_20<(0:Int)))) then some (.next ((IntKind.i64.wrap ((bT (IntKind.i64.wrap (i_15+j_16)))+(1:Int))),j_16)) else
 some (.next (i_15,(bT (IntKind.i64.wrap (i_15+j_16)))))) else none) else none) else none) else none else
 some (.exit (i_15,j_16))
def zk {α:Type} (a_data:List α) (a_m:Int) (n:Nat):Sum (Int × Int) (List α)->Option ((List α))
 | .inl (i_15,j_16)=>(ax (q9 n i_15) fuel (a_data,a_m)).bind (JG)
 | .inr q=>some q
def oQ {α:Type} (a_data:List α) (a_a:Int) (a_m:Int) (a_b:Int) (a_cmp:α->α->Option (Int)) (n:Nat):(Int × Int)->Option (Step (Int × Int) (List α)):=fun s=>match s with
 | (start_28,r_29)=>bif (decide (start_28<r_29)) then bif (decide (0<=(IntKind.i64.wrap ((IntKind.i64.wrap ((IntKind.i64.wrap ((bT (IntKind.i64.wrap (a_a+a_b)))+a_m))-(1:Int)))-(bT (IntKind.i64.wrap (start_28+r_29))))))) then (bif (decide ((IntKind.i64.wrap ((IntKind.i64.wrap ((IntKind.i64.wrap ((bT (IntKind.i64.wrap (a_a+a_b)))+a_m))-(1:Int)))-(bT (IntKind.i64.wrap (start_28+r_29)))))<((n:Nat):Int))) then ((aH a_data (IntKind.i64.wrap ((IntKind.i64.wrap ((IntKind.i64.wrap ((bT (IntKind.i64.wrap (a_a+a_b)))+a_m))-(1:Int)))-(bT (IntKind.i64.wrap (start_28+r_29)))))).bind fun x_31=>bif (decide (0<=(bT (IntKind.i64.wrap (start_28+r_29))))) then (bif (decide ((bT (IntKind.i64.wrap (start_28+r_29)))<((n:Nat):Int))) then ((aH a_data (bT (IntKind.i64.wrap (start_28+r_29)))).bind fun x_32=>(a_cmp x_31 x_32).bind fun r_33=>bif (!(decide (r_33<(0:Int)))) then some (.next ((IntKind.i64.wrap ((bT (IntKind.i64.wrap (start_28+r_29)))+(1:Int))),r_29)) else
 some (.next (start_28,(bT (IntKind.i64.wrap (start_28+r_29)))))) else none) else none) else none) else none else
 some (.exit (start_28,r_29))
def pg {α:Type} (a_data:List α) (a_a:Int) (a_m:Int) (a_b:Int) (a_cmp:α->α->Option (Int)) (n:Nat) (rec:Nat->List α->Int->Int->Int->(α->α->Option Int)->Option (List α)):Sum (Int × Int) (List α)->Option ((List α))
 | .inl (start_28,r_29)=>bif (decide (start_28<a_m)) then bif (decide (a_m<(IntKind.i64.wrap ((IntKind.i64.wrap ((bT (IntKind.i64.wrap (a_a+a_b)))+a_m))-start_28)))) then (sU n a_data start_28 a_m (IntKind.i64.wrap ((IntKind.i64.wrap ((bT (IntKind.i64.wrap (a_a+a_b)))+a_m))-start_28)) a_cmp).bind fun c_37=>bif (decide (a_a<start_28)) then bif (decide (start_28<(bT (IntKind.i64.wrap (a_a+a_b))))) then (rec n c_37 a_a start_28 (bT (IntKind.i64.wrap (a_a+a_b))) a_cmp).bind fun c_40=>bif (decide ((bT (IntKind.i64.wrap (a_a+a_b)))<(IntKind.i64.wrap ((IntKind.i64.wrap ((bT (IntKind.i64.wrap (a_a+a_b)))+a_m))-start_28)))) then bif (decide ((IntKind.i64.wrap ((IntKind.i64.wrap ((bT (IntKind.i64.wrap (a_a+a_b)))+a_m))-start_28))<a_b)) then (rec n c_40 (bT (IntKind.i64.wrap (a_a+a_b))) (IntKind.i64.wrap ((IntKind.i64.wrap ((bT (IntKind.i64.wrap (a_a+a_b)))+a_m))-start_28)) a_b a_cmp).bind fun c_43=>some c_43 else
 some c_40 else
 some c_40 else
 bif (decide ((bT (IntKind.i64.wrap (a_a+a_b)))<(IntKind.i64.wrap ((IntKind.i64.wrap ((bT (IntKind.i64.wrap (a_a+a_b)))+a_m))-start_28)))) then bif (decide ((IntKind.i64.wrap ((IntKind.i64.wrap ((bT (IntKind.i64.wrap (a_a+a_b)))+a_m))-start_28))<a_b)) then (rec n c_37 (bT (IntKind.i64.wrap (a_a+a_b))) (IntKind.i64.wrap ((IntKind.i64.wrap ((bT (IntKind.i64.wrap (a_a+a_b)))+a_m))-start_28)) a_b a_cmp).bind fun c_46=>some c_46 else
 some c_37 else
 some c_37 else
 bif (decide ((bT (IntKind.i64.wrap (a_a+a_b)))<(IntKind.i64.wrap ((IntKind.i64.wrap ((bT (IntKind.i64.wrap (a_a+a_b)))+a_m))-start_28)))) then bif (decide ((IntKind.i64.wrap ((IntKind.i64.wrap ((bT (IntKind.i64.wrap (a_a+a_b)))+a_m))-start_28))<a_b)) then (rec n c_37 (bT (IntKind.i64.wrap (a_a+a_b))) (IntKind.i64.wrap ((IntKind.i64.wrap ((bT (IntKind.i64.wrap (a_a+a_b)))+a_m))-start_28)) a_b a_cmp).bind fun c_49=>some c_49 else
 some c_37 else
 some c_37 else
 bif (decide (a_a<start_28)) then bif (decide (start_28<(bT (IntKind.i64.wrap (a_a+a_b))))) then (rec n a_data a_a start_28 (bT (IntKind.i64.wrap (a_a+a_b))) a_cmp).bind fun c_52=>bif (decide ((bT (IntKind.i64.wrap (a_a+a_b)))<(IntKind.i64.wrap ((IntKind.i64.wrap ((bT (IntKind.i64.wrap (a_a+a_b)))+a_m))-start_28)))) then bif (decide ((IntKind.i64.wrap ((IntKind.i64.wrap ((bT (IntKind.i64.wrap (a_a+a_b)))+a_m))-start_28))<a_b)) then (rec n c_52 (bT (IntKind.i64.wrap (a_a+a_b))) (IntKind.i64.wrap ((IntKind.i64.wrap ((bT (IntKind.i64.wrap (a_a+a_b)))+a_m))-start_28)) a_b a_cmp).bind fun c_55=>some c_55 else
 some c_52 else
 some c_52 else
 bif (decide ((bT (IntKind.i64.wrap (a_a+a_b)))<(IntKind.i64.wrap ((IntKind.i64.wrap ((bT (IntKind.i64.wrap (a_a+a_b)))+a_m))-start_28)))) then bif (decide ((IntKind.i64.wrap ((IntKind.i64.wrap ((bT (IntKind.i64.wrap (a_a+a_b)))+a_m))-start_28))<a_b)) then (rec n a_data (bT (IntKind.i64.wrap (a_a+a_b))) (IntKind.i64.wrap ((IntKind.i64.wrap ((bT (IntKind.i64.wrap (a_a+a_b)))+a_m))-start_28)) a_b a_cmp).bind fun c_58=>some c_58 else
 some a_data else
 some a_data else
 bif (decide ((bT (IntKind.i64.wrap (a_a+a_b)))<(IntKind.i64.wrap ((IntKind.i64.wrap ((bT (IntKind.i64.wrap (a_a+a_b)))+a_m))-start_28)))) then bif (decide ((IntKind.i64.wrap ((IntKind.i64.wrap ((bT (IntKind.i64.wrap (a_a+a_b)))+a_m))-start_28))<a_b)) then (rec n a_data (bT (IntKind.i64.wrap (a_a+a_b))) (IntKind.i64.wrap ((IntKind.i64.wrap ((bT (IntKind.i64.wrap (a_a+a_b)))+a_m))-start_28)) a_b a_cmp).bind fun c_61=>some c_61 else
 some a_data else
 some a_data else
 bif (decide (a_a<start_28)) then bif (decide (start_28<(bT (IntKind.i64.wrap (a_a+a_b))))) then (rec n a_data a_a start_28 (bT (IntKind.i64.wrap (a_a+a_b))) a_cmp).bind fun c_64=>bif (decide ((bT (IntKind.i64.wrap (a_a+a_b)))<(IntKind.i64.wrap ((IntKind.i64.wrap ((bT (IntKind.i64.wrap (a_a+a_b)))+a_m))-start_28)))) then bif (decide ((IntKind.i64.wrap ((IntKind.i64.wrap ((bT (IntKind.i64.wrap (a_a+a_b)))+a_m))-start_28))<a_b)) then (rec n c_64 (bT (IntKind.i64.wrap (a_a+a_b))) (IntKind.i64.wrap ((IntKind.i64.wrap ((bT (IntKind.i64.wrap (a_a+a_b)))+a_m))-start_28)) a_b a_cmp).bind fun c_67=>some c_67 else
 some c_64 else
 some c_64 else
 bif (decide ((bT (IntKind.i64.wrap (a_a+a_b)))<(IntKind.i64.wrap ((IntKind.i64.wrap ((bT (IntKind.i64.wrap (a_a+a_b)))+a_m))-start_28)))) then bif (decide ((IntKind.i64.wrap ((IntKind.i64.wrap ((bT (IntKind.i64.wrap (a_a+a_b)))+a_m))-start_28))<a_b)) then (rec n a_data (bT (IntKind.i64.wrap (a_a+a_b))) (IntKind.i64.wrap ((IntKind.i64.wrap ((bT (IntKind.i64.wrap (a_a+a_b)))+a_m))-start_28)) a_b a_cmp).bind fun c_70=>some c_70 else
 some a_data else
 some a_data else
 bif (decide ((bT (IntKind.i64.wrap (a_a+a_b)))<(IntKind.i64.wrap ((IntKind.i64.wrap ((bT (IntKind.i64.wrap (a_a+a_b)))+a_m))-start_28)))) then bif (decide ((IntKind.i64.wrap ((IntKind.i64.wrap ((bT (IntKind.i64.wrap (a_a+a_b)))+a_m))-start_28))<a_b)) then (rec n a_data (bT (IntKind.i64.wrap (a_a+a_b))) (IntKind.i64.wrap ((IntKind.i64.wrap ((bT (IntKind.i64.wrap (a_a+a_b)))+a_m))-start_28)) a_b a_cmp).bind fun c_73=>some c_73 else
 some a_data else
 some a_data
 | .inr q=>some q
def Dz {α:Type} (a_data:List α) (a_a:Int) (a_m:Int) (a_b:Int) (a_cmp:α->α->Option (Int)) (n:Nat):(Int × Int)->Option (Step (Int × Int) (List α)):=fun s=>match s with
 | (start_74,r_75)=>bif (decide (start_74<r_75)) then bif (decide (0<=(IntKind.i64.wrap ((IntKind.i64.wrap ((IntKind.i64.wrap ((bT (IntKind.i64.wrap (a_a+a_b)))+a_m))-(1:Int)))-(bT (IntKind.i64.wrap (start_74+r_75))))))) then (bif (decide ((IntKind.i64.wrap ((IntKind.i64.wrap ((IntKind.i64.wrap ((bT (IntKind.i64.wrap (a_a+a_b)))+a_m))-(1:Int)))-(bT (IntKind.i64.wrap (start_74+r_75)))))<((n:Nat):Int))) then ((aH a_data (IntKind.i64.wrap ((IntKind.i64.wrap ((IntKind.i64.wrap ((bT (IntKind.i64.wrap (a_a+a_b)))+a_m))-(1:Int)))-(bT (IntKind.i64.wrap (start_74+r_75)))))).bind fun x_77=>bif (decide (0<=(bT (IntKind.i64.wrap (start_74+r_75))))) then (bif (decide ((bT (IntKind.i64.wrap (start_74+r_75)))<((n:Nat):Int))) then ((aH a_data (bT (IntKind.i64.wrap (start_74+r_75)))).bind fun x_78=>(a_cmp x_77 x_78).bind fun r_79=>bif (!(decide (r_79<(0:Int)))) then some (.next ((IntKind.i64.wrap ((bT (IntKind.i64.wrap (start_74+r_75)))+(1:Int))),r_75)) else
 some (.next (start_74,(bT (IntKind.i64.wrap (start_74+r_75)))))) else none) else none) else none) else none else
 some (.exit (start_74,r_75))
def yU {α:Type} (a_data:List α) (a_a:Int) (a_m:Int) (a_b:Int) (a_cmp:α->α->Option (Int)) (n:Nat) (rec:Nat->List α->Int->Int->Int->(α->α->Option Int)->Option (List α)):Sum (Int × Int) (List α)->Option ((List α))
 | .inl (start_74,r_75)=>bif (decide (start_74<a_m)) then bif (decide (a_m<(IntKind.i64.wrap ((IntKind.i64.wrap ((bT (IntKind.i64.wrap (a_a+a_b)))+a_m))-start_74)))) then (sU n a_data start_74 a_m (IntKind.i64.wrap ((IntKind.i64.wrap ((bT (IntKind.i64.wrap (a_a+a_b)))+a_m))-start_74)) a_cmp).bind fun c_83=>bif (decide (a_a<start_74)) then bif (decide (start_74<(bT (IntKind.i64.wrap (a_a+a_b))))) then (rec n c_83 a_a start_74 (bT (IntKind.i64.wrap (a_a+a_b))) a_cmp).bind fun c_86=>bif (decide ((bT (IntKind.i64.wrap (a_a+a_b)))<(IntKind.i64.wrap ((IntKind.i64.wrap ((bT (IntKind.i64.wrap (a_a+a_b)))+a_m))-start_74)))) then bif (decide ((IntKind.i64.wrap ((IntKind.i64.wrap ((bT (IntKind.i64.wrap (a_a+a_b)))+a_m))-start_74))<a_b)) then (rec n c_86 (bT (IntKind.i64.wrap (a_a+a_b))) (IntKind.i64.wrap ((IntKind.i64.wrap ((bT (IntKind.i64.wrap (a_a+a_b)))+a_m))-start_74)) a_b a_cmp).bind fun c_89=>some c_89 else
 some c_86 else
 some c_86 else
 bif (decide ((bT (IntKind.i64.wrap (a_a+a_b)))<(IntKind.i64.wrap ((IntKind.i64.wrap ((bT (IntKind.i64.wrap (a_a+a_b)))+a_m))-start_74)))) then bif (decide ((IntKind.i64.wrap ((IntKind.i64.wrap ((bT (IntKind.i64.wrap (a_a+a_b)))+a_m))-start_74))<a_b)) then (rec n c_83 (bT (IntKind.i64.wrap (a_a+a_b))) (IntKind.i64.wrap ((IntKind.i64.wrap ((bT (IntKind.i64.wrap (a_a+a_b)))+a_m))-start_74)) a_b a_cmp).bind fun c_92=>some c_92 else
 some c_83 else
 some c_83 else
 bif (decide ((bT (IntKind.i64.wrap (a_a+a_b)))<(IntKind.i64.wrap ((IntKind.i64.wrap ((bT (IntKind.i64.wrap (a_a+a_b)))+a_m))-start_74)))) then bif (decide ((IntKind.i64.wrap ((IntKind.i64.wrap ((bT (IntKind.i64.wrap (a_a+a_b)))+a_m))-start_74))<a_b)) then (rec n c_83 (bT (IntKind.i64.wrap (a_a+a_b))) (IntKind.i64.wrap ((IntKind.i64.wrap ((bT (IntKind.i64.wrap (a_a+a_b)))+a_m))-start_74)) a_b a_cmp).bind fun c_95=>some c_95 else
 some c_83 else
 some c_83 else
 bif (decide (a_a<start_74)) then bif (decide (start_74<(bT (IntKind.i64.wrap (a_a+a_b))))) then (rec n a_data a_a start_74 (bT (IntKind.i64.wrap (a_a+a_b))) a_cmp).bind fun c_98=>bif (decide ((bT (IntKind.i64.wrap (a_a+a_b)))<(IntKind.i64.wrap ((IntKind.i64.wrap ((bT (IntKind.i64.wrap (a_a+a_b)))+a_m))-start_74)))) then bif (decide ((IntKind.i64.wrap ((IntKind.i64.wrap ((bT (IntKind.i64.wrap (a_a+a_b)))+a_m))-start_74))<a_b)) then (rec n c_98 (bT (IntKind.i64.wrap (a_a+a_b))) (IntKind.i64.wrap ((IntKind.i64.wrap ((bT (IntKind.i64.wrap (a_a+a_b)))+a_m))-start_74)) a_b a_cmp).bind fun c_101=>some c_101 else
 some c_98 else
 some c_98 else
 bif (decide ((bT (IntKind.i64.wrap (a_a+a_b)))<(IntKind.i64.wrap ((IntKind.i64.wrap ((bT (IntKind.i64.wrap (a_a+a_b)))+a_m))-start_74)))) then bif (decide ((IntKind.i64.wrap ((IntKind.i64.wrap ((bT (IntKind.i64.wrap (a_a+a_b)))+a_m))-start_74))<a_b)) then (rec n a_data (bT (IntKind.i64.wrap (a_a+a_b))) (IntKind.i64.wrap ((IntKind.i64.wrap ((bT (IntKind.i64.wrap (a_a+a_b)))+a_m))-start_74)) a_b a_cmp).bind fun c_104=>some c_104 else
 some a_data else
 some a_data else
 bif (decide ((bT (IntKind.i64.wrap (a_a+a_b)))<(IntKind.i64.wrap ((IntKind.i64.wrap ((bT (IntKind.i64.wrap (a_a+a_b)))+a_m))-start_74)))) then bif (decide ((IntKind.i64.wrap ((IntKind.i64.wrap ((bT (IntKind.i64.wrap (a_a+a_b)))+a_m))-start_74))<a_b)) then (rec n a_data (bT (IntKind.i64.wrap (a_a+a_b))) (IntKind.i64.wrap ((IntKind.i64.wrap ((bT (IntKind.i64.wrap (a_a+a_b)))+a_m))-start_74)) a_b a_cmp).bind fun c_107=>some c_107 else
 some a_data else
 some a_data else
 bif (decide (a_a<start_74)) then bif (decide (start_74<(bT (IntKind.i64.wrap (a_a+a_b))))) then (rec n a_data a_a start_74 (bT (IntKind.i64.wrap (a_a+a_b))) a_cmp).bind fun c_110=>bif (decide ((bT (IntKind.i64.wrap (a_a+a_b)))<(IntKind.i64.wrap ((IntKind.i64.wrap ((bT (IntKind.i64.wrap (a_a+a_b)))+a_m))-start_74)))) then bif (decide ((IntKind.i64.wrap ((IntKind.i64.wrap ((bT (IntKind.i64.wrap (a_a+a_b)))+a_m))-start_74))<a_b)) then (rec n c_110 (bT (IntKind.i64.wrap (a_a+a_b))) (IntKind.i64.wrap ((IntKind.i64.wrap ((bT (IntKind.i64.wrap (a_a+a_b)))+a_m))-start_74)) a_b a_cmp).bind fun c_113=>some c_113 else
 some c_110 else
 some c_110 else
 bif (decide ((bT (IntKind.i64.wrap (a_a+a_b)))<(IntKind.i64.wrap ((IntKind.i64.wrap ((bT (IntKind.i64.wrap (a_a+a_b)))+a_m))-start_74)))) then bif (decide ((IntKind.i64.wrap ((IntKind.i64.wrap ((bT (IntKind.i64.wrap (a_a+a_b)))+a_m))-start_74))<a_b)) then (rec n a_data (bT (IntKind.i64.wrap (a_a+a_b))) (IntKind.i64.wrap ((IntKind.i64.wrap ((bT (IntKind.i64.wrap (a_a+a_b)))+a_m))-start_74)) a_b a_cmp).bind fun c_116=>some c_116 else
 some a_data else
 some a_data else
 bif (decide ((bT (IntKind.i64.wrap (a_a+a_b)))<(IntKind.i64.wrap ((IntKind.i64.wrap ((bT (IntKind.i64.wrap (a_a+a_b)))+a_m))-start_74)))) then bif (decide ((IntKind.i64.wrap ((IntKind.i64.wrap ((bT (IntKind.i64.wrap (a_a+a_b)))+a_m))-start_74))<a_b)) then (rec n a_data (bT (IntKind.i64.wrap (a_a+a_b))) (IntKind.i64.wrap ((IntKind.i64.wrap ((bT (IntKind.i64.wrap (a_a+a_b)))+a_m))-start_74)) a_b a_cmp).bind fun c_119=>some c_119 else
 some a_data else
 some a_data
 | .inr q=>some q
def xN {α:Type} (rec:Nat->List α->Int->Int->Int->(α->α->Option Int)->Option (List α)) (n:Nat) (a_data:(List α)) (a_a:Int) (a_m:Int) (a_b:Int) (a_cmp:α->α->Option (Int)):Option (List α):=bif (decide ((IntKind.i64.wrap (a_m-a_a))=(1:Int))) then (ax (uq a_data a_a a_cmp n) fuel (a_m,a_b)).bind (zB a_data a_a n) else
 bif (decide ((IntKind.i64.wrap (a_b-a_m))=(1:Int))) then (ax (ve a_data a_m a_cmp n) fuel (a_a,a_m)).bind (zk a_data a_m n) else
 bif (decide ((bT (IntKind.i64.wrap (a_a+a_b)))<a_m)) then (ax (oQ a_data a_a a_m a_b a_cmp n) fuel ((IntKind.i64.wrap ((IntKind.i64.wrap ((bT (IntKind.i64.wrap (a_a+a_b)))+a_m))-a_b)),(bT (IntKind.i64.wrap (a_a+a_b))))).bind (pg a_data a_a a_m a_b a_cmp n rec) else
 (ax (Dz a_data a_a a_m a_b a_cmp n) fuel (a_a,a_m)).bind (yU a_data a_a a_m a_b a_cmp n rec)
def HY {α:Type} : Nat->Nat->List α->Int->Int->Int->(α->α->Option Int)->Option (List α)
 | 0,_,_,_,_,_,_=>none
 | q+1,n,X,a,m,b,cmp=>xN (HY q) n X a m b cmp
def lG {α:Type} (a_n:Int) (a_cmp:α->α->Option (Int)) (n:Nat) (blockSize_8:Int):((List α) × Int × Int)->Option (Step ((List α) × Int × Int) (List α)):=fun s=>match s with
 | (c_10,a_11,b_12)=>bif (decide (b_12<=a_n)) then (HY fuel n c_10 a_11 (IntKind.i64.wrap (a_11+blockSize_8)) b_12 a_cmp).bind fun c_14=>some (.next (c_14,b_12,(IntKind.i64.wrap (b_12+(IntKind.i64.wrap ((2:Int)*blockSize_8)))))) else
 some (.exit (c_10,a_11,b_12))
def vR {α:Type} (a_n:Int) (a_cmp:α->α->Option (Int)) (n:Nat) (blockSize_8:Int):Sum ((List α) × Int × Int) (List α)->Option (Step ((List α) × Int) (List α))
 | .inl (c_10,a_11,b_12)=>bif (decide ((IntKind.i64.wrap (a_11+blockSize_8))<a_n)) then (HY fuel n c_10 a_11 (IntKind.i64.wrap (a_11+blockSize_8)) a_n a_cmp).bind fun c_16=>some (.next (c_16,(IntKind.i64.wrap (blockSize_8*(2:Int))))) else
 some (.next (c_10,(IntKind.i64.wrap (blockSize_8*(2:Int)))))
 | .inr q=>some (.ret q)
def lJ {α:Type} (a_n:Int) (a_cmp:α->α->Option (Int)) (n:Nat):((List α) × Int)->Option (Step ((List α) × Int) (List α)):=fun s=>match s with
 | (c_7,blockSize_8)=>bif (decide (blockSize_8<a_n)) then (ax (lG a_n a_cmp n blockSize_8) fuel (c_7,(0:Int),(IntKind.i64.wrap ((2:Int)*blockSize_8)))).bind (vR a_n a_cmp n blockSize_8) else
 some (.exit (c_7,blockSize_8))
def BF {α:Type} : Sum ((List α) × Int) (List α)->Option ((List α))
 | .inl (c_7,blockSize_8)=>some c_7
 | .inr q=>some q
def lQ {α:Type} (a_n:Int) (a_cmp:α->α->Option (Int)) (n:Nat):((List α) × Int × Int)->Option (Step ((List α) × Int × Int) (List α)):=fun s=>match s with
 | (c_1,a_2,b_3)=>bif (decide (b_3<=a_n)) then (uE n c_1 a_2 b_3 a_cmp).bind fun c_5=>some (.next (c_5,b_3,(IntKind.i64.wrap (b_3+(20:Int))))) else
 some (.exit (c_1,a_2,b_3))
def v_ {α:Type} (a_n:Int) (a_cmp:α->α->Option (Int)) (n:Nat):Sum ((List α) × Int × Int) (List α)->Option ((List α))
 | .inl (c_1,a_2,b_3)=>(uE n c_1 a_2 a_n a_cmp).bind fun c_6=>(ax (lJ a_n a_cmp n) fuel (c_6,(20:Int))).bind (BF)
 | .inr q=>some q
def D7 {α:Type} (n:Nat) (a_data:(List α)) (a_n:Int) (a_cmp:α->α->Option (Int)):Option (List α):=(ax (lQ a_n a_cmp n) fuel (a_data,(0:Int),(20:Int))).bind (v_ a_n a_cmp n)
def Dl {α:Type} (n:Nat) (a_x:(List α)) (a_cmp:α->α->Option (Int)):Option (List α):=(D7 n a_x ((n:Nat):Int) a_cmp).bind fun c_1=>some c_1
set_option maxHeartbeats 8000000
theorem qD {n:Nat}  {a_data:(List aa)} {a_a:Int} {a_b:Int} {a_n:Int} {a_cmp:aa->aa->Option (Int)} {v:Nat} {r:List aa} {F_a_cmp:FuncId} {caps_a_cmp:List AC} (hf_a_cmp : ∀ (y0:aa) (y1:aa) (r:Int),a_cmp y0 y1=some r->Pure Tryz.prog F_a_cmp ([.agg (ae y0), .agg (ae y1)]++caps_a_cmp.map .one) (.val (.one (.int .i64 r)))) (H:lI n a_data a_a a_b a_n a_cmp=some r):Run Tryz.prog 223 [dC ae 2 v a_data] [.one (.sl 0 v 0 n), .one (.c (.int .i64 a_a)), .one (.c (.int .i64 a_b)), .one (.c (.int .i64 a_n)), .one (.c (.fn F_a_cmp caps_a_cmp))] [dC ae 2 v r] (.tup []):=by
 unfold lI at H
 refine bN ay Tryz.func223 rfl rfl Tryz.ntmps223 (by simp) ?_
 simp only [kP]
 refine AJ ?_
 refine alM_ (fun s:(List aa) × Int=>match s with|(c_1,i_2)=>[(0, .one (.sl 0 v 0 n)),(1, .one (.c (.int .i64 a_a))),(2, .one (.c (.int .i64 a_b))),(3, .one (.c (.int .i64 a_n))),(10, .one (.c (.int .i64 i_2)))]) (fun s=>match s with|(c_1,i_2)=>[dC ae 2 v c_1]) H (fun _=>ag' _)
  (fm_ dh [] rfl bH ⟨aT _ _ _ _ _,trivial⟩) ?_
 rintro ⟨c_1,i_2⟩ st1 hb1 hk1
 unfold gN at hb1
 dsimp only at hb1 ⊢
 rcases af hb1 with ⟨q_3,hb1⟩|⟨q_3,hb1⟩
 ·obtain ⟨g1,hb1⟩:=aG hb1
  obtain ⟨g2,hb1⟩:=aG hb1
  obtain ⟨x_4,i3,hb1⟩:=pO hb1
  obtain ⟨g4,hb1⟩:=aG hb1
  obtain ⟨g5,hb1⟩:=aG hb1
  obtain ⟨x_5,i6,hb1⟩:=pO hb1
  obtain ⟨g7,hb1⟩:=aG hb1
  obtain ⟨g8,hb1⟩:=aG hb1
  obtain ⟨g9,hb1⟩:=aG hb1
  obtain ⟨g10,hb1⟩:=aG hb1
  obtain ⟨g11,hb1⟩:=aG hb1
  obtain ⟨g12,hb1⟩:=aG hb1
  cases hb1
  refine AJ ?_
  exact ⟨_,rfl,fm_ dh [] rfl bH ⟨aT _ _ _ _ _,trivial⟩⟩
 cases hb1
 have hx1:tO (.inl (c_1,i_2))=some _:=hk1
 unfold tO at hx1
 dsimp only at hx1
 cases hx1
 exact mi
theorem Gc {n:Nat}  {a_data:(List aa)} {a_a:Int} {a_m:Int} {a_b:Int} {a_cmp:aa->aa->Option (Int)} {v:Nat} {r:List aa} {F_a_cmp:FuncId} {caps_a_cmp:List AC} (hf_a_cmp : ∀ (y0:aa) (y1:aa) (r:Int),a_cmp y0 y1=some r->Pure Tryz.prog F_a_cmp ([.agg (ae y0), .agg (ae y1)]++caps_a_cmp.map .one) (.val (.one (.int .i64 r)))) (H:sU n a_data a_a a_m a_b a_cmp=some r):Run Tryz.prog 213 [dC ae 2 v a_data] [.one (.sl 0 v 0 n), .one (.c (.int .i64 a_a)), .one (.c (.int .i64 a_m)), .one (.c (.int .i64 a_b)), .one (.c (.fn F_a_cmp caps_a_cmp))] [dC ae 2 v r] (.tup []):=by
 unfold sU at H
 refine bN ay Tryz.func213 rfl rfl Tryz.ntmps213 (by simp) ?_
 simp only [kP]
 refine AJ ?_
 refine alM_ (fun s:(List aa) × Int × Int=>match s with|(c_1,i_2,j_3)=>[(0, .one (.sl 0 v 0 n)),(2, .one (.c (.int .i64 a_m))),(4, .one (.c (.fn F_a_cmp caps_a_cmp))),(10, .one (.c (.int .i64 i_2))),(11, .one (.c (.int .i64 j_3)))]) (fun s=>match s with|(c_1,i_2,j_3)=>[dC ae 2 v c_1]) H (fun _=>ag' _)
  (fm_ dh [] rfl bH ⟨aT _ _ _ _ _,trivial⟩) ?_
 rintro ⟨c_1,i_2,j_3⟩ st1 hb1 hk1
 unfold iV at hb1
 dsimp only at hb1 ⊢
 rcases af hb1 with ⟨q_4,hb1⟩|⟨q_4,hb1⟩
 ·rcases af hb1 with ⟨q_5,hb1⟩|⟨q_5,hb1⟩
  ·obtain ⟨c_6,c1,hb1⟩:=bd_ hb1
   replace c1:=qD (v:=v) (caps_a_cmp:=caps_a_cmp) hf_a_cmp c1
   cases hb1
   refine AJ ?_
   exact ⟨_,rfl,fm_ dh [] rfl bH ⟨aT _ _ _ _ _,trivial⟩⟩
  obtain ⟨c_7,c2,hb1⟩:=bd_ hb1
  replace c2:=qD (v:=v) (caps_a_cmp:=caps_a_cmp) hf_a_cmp c2
  cases hb1
  refine AJ ?_
  exact ⟨_,rfl,fm_ dh [] rfl bH ⟨aT _ _ _ _ _,trivial⟩⟩
 cases hb1
 have hx1:wD a_m a_cmp n (.inl (c_1,i_2,j_3))=some _:=hk1
 unfold wD at hx1
 dsimp only at hx1
 obtain ⟨c_8,c3,hx1⟩:=bd_ hx1
 replace c3:=qD (v:=v) (caps_a_cmp:=caps_a_cmp) hf_a_cmp c3
 cases hx1
 exact mi
theorem DJ {n:Nat}  {a_data:(List aa)} {a_a:Int} {a_b:Int} {a_cmp:aa->aa->Option (Int)} {v:Nat} {r:List aa} {F_a_cmp:FuncId} {caps_a_cmp:List AC} (hf_a_cmp : ∀ (y0:aa) (y1:aa) (r:Int),a_cmp y0 y1=some r->Pure Tryz.prog F_a_cmp ([.agg (ae y0), .agg (ae y1)]++caps_a_cmp.map .one) (.val (.one (.int .i64 r)))) (H:uE n a_data a_a a_b a_cmp=some r):Run Tryz.prog 195 [dC ae 2 v a_data] [.one (.sl 0 v 0 n), .one (.c (.int .i64 a_a)), .one (.c (.int .i64 a_b)), .one (.c (.fn F_a_cmp caps_a_cmp))] [dC ae 2 v r] (.tup []):=by
 unfold uE at H
 refine bN ay Tryz.func195 rfl rfl Tryz.ntmps195 (by simp) ?_
 simp only [kP]
 refine AJ ?_
 refine alM_ (fun s:(List aa) × Int=>match s with|(c_1,i_2)=>[(0, .one (.sl 0 v 0 n)),(1, .one (.c (.int .i64 a_a))),(2, .one (.c (.int .i64 a_b))),(3, .one (.c (.fn F_a_cmp caps_a_cmp))),(8, .one (.c (.int .i64 i_2)))]) (fun s=>match s with|(c_1,i_2)=>[dC ae 2 v c_1]) H (fun _=>ag' _)
  (fm_ dh [] rfl bH ⟨aT _ _ _ _ _,trivial⟩) ?_
 rintro ⟨c_1,i_2⟩ st3 hb3 hk3
 unfold gm at hb3
 dsimp only at hb3 ⊢
 rcases af hb3 with ⟨q_3,hb3⟩|⟨q_3,hb3⟩
 ·refine AJ ?_
  refine alM_ (fun s:(List aa) × Int=>match s with|(c_4,j_5)=>[(0, .one (.sl 0 v 0 n)),(1, .one (.c (.int .i64 a_a))),(2, .one (.c (.int .i64 a_b))),(3, .one (.c (.fn F_a_cmp caps_a_cmp))),(8, .one (.c (.int .i64 i_2))),(9, .one (.c (.int .i64 j_5)))]) (fun s=>match s with|(c_4,j_5)=>[dC ae 2 v c_4]) hb3 (fun _=>ag' _)
   (fm_ dh [] rfl bH ⟨aT _ _ _ _ _,trivial⟩) ?_
  rintro ⟨c_4,j_5⟩ st4 hb4 hk4
  unfold gq at hb4
  dsimp only at hb4 ⊢
  rcases af hb4 with ⟨q_6,hb4⟩|⟨q_6,hb4⟩
  ·obtain ⟨g1,hb4⟩:=aG hb4
   obtain ⟨g2,hb4⟩:=aG hb4
   obtain ⟨x_7,i3,hb4⟩:=pO hb4
   obtain ⟨g4,hb4⟩:=aG hb4
   obtain ⟨g5,hb4⟩:=aG hb4
   obtain ⟨x_8,i6,hb4⟩:=pO hb4
   obtain ⟨r_9,c7,hb4⟩:=bd_ hb4
   replace c7:=hf_a_cmp _ _ _ c7
   rcases af hb4 with ⟨q_10,hb4⟩|⟨q_10,hb4⟩
   ·obtain ⟨g8,hb4⟩:=aG hb4
    obtain ⟨g9,hb4⟩:=aG hb4
    obtain ⟨g10,hb4⟩:=aG hb4
    obtain ⟨g11,hb4⟩:=aG hb4
    obtain ⟨g12,hb4⟩:=aG hb4
    obtain ⟨g13,hb4⟩:=aG hb4
    obtain ⟨g14,hb4⟩:=aG hb4
    obtain ⟨g15,hb4⟩:=aG hb4
    obtain ⟨g16,hb4⟩:=aG hb4
    obtain ⟨g17,hb4⟩:=aG hb4
    cases hb4
    refine AJ ?_
    exact ⟨_,rfl,fm_ dh [] rfl bH ⟨aT _ _ _ _ _,trivial⟩⟩
   cases hb4
   have hx4:lX i_2 (.inl (c_4,j_5))=some _:=hk4
   unfold lX at hx4
   dsimp only at hx4
   cases hx4
   refine AJ ?_
   exact ⟨_,rfl,fm_ dh [] rfl bH ⟨aT _ _ _ _ _,trivial⟩⟩
  cases hb4
  have hx4:lX i_2 (.inl (c_4,j_5))=some _:=hk4
  unfold lX at hx4
  dsimp only at hx4
  cases hx4
  refine AJ ?_
  exact ⟨_,rfl,fm_ dh [] rfl bH ⟨aT _ _ _ _ _,trivial⟩⟩
 cases hb3
 have hx3:yf (.inl (c_1,i_2))=some _:=hk3
 unfold yf at hx3
 dsimp only at hx3
 cases hx3
 exact mi
end Go.Proofs.YtcehmafobkhdbaaGreatDoor
