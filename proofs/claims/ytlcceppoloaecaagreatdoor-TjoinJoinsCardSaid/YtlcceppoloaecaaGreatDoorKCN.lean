/- Parts of the proof, joined. No condition. -/
import Derived.Test.YtlcceppoloaecaaGreatDoorKAA
import Derived.Test.YtlcceppoloaecaaGreatDoorKCL
set_option linter.unusedSimpArgs false
set_option linter.unusedVariables false
namespace Go.Proofs.YtlcceppoloaecaaGreatDoor
open Go.RowKit Go.MapKept
set_option maxRecDepth 100000
theorem mK {x y:List Val} (h1:x.length+y.length<=1000000):lC x y=some (x++y):=by
 unfold lC
 rw [ap4 (show x.length<=4398046511104 by omega),ap4 (show x.length+y.length<=4398046511104 by omega)];rfl
theorem EQ {n:Nat} (h1:n<=48):yc ((n:Nat):Int)=some (List.replicate n dH):=by
 have key : ∀ (m i:Nat),i<=n->n-i<m->az (l5 ((n:Nat):Int)) m (List.replicate i dH,(i:Int))=some (.inl (List.replicate n dH,((n:Nat):Int))):=by
  intro m
  induction m with
  | zero=>intro i _ h;omega
  | succ m ih =>
   intro i hi hn
   rw [az]
   by_cases hlt:i<n
   ·have hb:l5 ((n:Nat):Int) (List.replicate i dH,(i:Int))=some (.next (List.replicate (i+1) dH,((i+1:Nat):Int))):=by
     unfold l5
     dsimp only
     rw [ap4 (show (i:Int)<((n:Nat):Int) by omega),ap2,ap4 (show ((n:Nat):Int)<=4096 by omega),ap2,dB,apZ,List.length_replicate,ap4 (show i+1<=4398046511104 by omega),ap2,wrapN (by omega),List.replicate_succ']
    rw [hb]
    exact ih (i+1) (by omega) (by omega)
   ·have:i=n:=by omega
    subst this
    have hb:l5 ((i:Nat):Int) (List.replicate i dH,(i:Int))=some (.exit (List.replicate i dH,(i:Int))):=by
     unfold l5
     dsimp only
     rw [ap3 (show ¬ ((i:Int)<((i:Nat):Int)) by omega),ap1]
    rw [hb]
 unfold yc
 have:=key fuel 0 (aqj _) (by unfold fuel;omega)
 rw [show (List.replicate 0 dH,((0:Nat):Int))=(([],(0:Int)):List Val × Int) from rfl] at this
 rw [this];rfl
theorem aaY (p q:aP):GV p q=some (bif nQ p q then (vO p q,true) else (⟨0,0⟩,false)):=by
 unfold GV acF nQ
 rw [show dX p=YJ p from rfl,show dX q=YJ q from rfl,lm,lm,apZ]
 have hi:(⟨PW p.lo q.lo,mnI p.hi q.hi⟩:aP)=vO p q:=by rw [L_,acC];rfl
 cases aD p with
 | false=>rfl
 | true =>
  rw [ap2,apZ]
  cases aD q with
  | false=>rfl
  | true =>
   rw [ap2]
   cases h1:decide (p.lo<q.hi) with
   | false=>rfl
   | true =>
    rw [ap2,apZ]
    cases h2:decide (q.lo<p.hi) with
    | false=>rfl
    | true=>rw [Bool.not_true,ap1,hi];rfl
theorem XZ (e:Ex) (row:List Val):decide (tF_ (JF e row)=2)=lY e row:=rfl
section
variable {a b:bH} {e:Ex}
theorem RA (h:KS a b e) {x:aC} (hx:x.row.length<=48):IW x b e=some (K3 (cT e) b.facts x):=by
 have hl:=Uy (cT e) b.facts x
 have hlb:=h.lb
 unfold IW
 rw [d9 (l:=b.facts) (fun y=>bif cT e x y then [y.valid] else []) 8796093022208 ?_ ?_ (by unfold fuel;omega) [] (by show ([]:List aP).length+(K3 (cT e) b.facts x).length<=_;simp;omega)]
 ·rfl
 ·intro s i y hy hs
  have hi:=(ap0.1 hy).1
  have hyk:=h.B.row y (ap6 hy)
  have:=h.B.kinds
  unfold Du
  dsimp only
  rw [bf hy,ap2,gn_ hy,apZ,mK (by omega),apZ,yG h.he,apZ,wrapN (by omega),XZ]
  unfold cT at hs ⊢
  cases hc:lY e (x.row++y.row) with
  | false=>rw [ap1,ap1,aqy]
  | true =>
   rw [hc] at hs
   rw [ap2,ap4 (show s.length+1<=8796093022208 from hs)];rfl
 ·intro s
  unfold Du
  dsimp only
  rw [lF_];rfl
theorem R_ (h:KS a b e):Cb a b e=some (Ce e a.facts b.facts):=by
 have hla:=h.la
 have hlb:=h.lb
 have hjl:=zK e h.la h.lb
 unfold Cb
 rw [d9 (l:=a.facts) (jnX e b.facts) 1000000 ?_ ?_ (by unfold fuel;omega) [] (by show ([]:List aC).length+(Ce e a.facts b.facts).length<=_;simp;omega)]
 ·rfl
 ·intro s i x hx hs
  have hi:=(ap0.1 hx).1
  have hxk:=h.A.row x (ap6 hx)
  have:=h.A.kinds
  unfold xw
  dsimp only
  rw [bf hx,ap2,d9 (l:=b.facts) (jnY e x) 1000000 ?_ ?_ (by unfold fuel;omega) s hs,apZ]
  ·show some (Step.next (_,IntKind.i64.wrap ((i:Int)+1)))=_
   rw [wrapN (by omega)];rfl
  ·intro s j y hy hs
   have hj:=(ap0.1 hy).1
   have hyk:=h.B.row y (ap6 hy)
   have:=h.B.kinds
   unfold wh
   dsimp only
   rw [bf hy,ap2,gn_ hx,apZ,gn_ hy,apZ,mK (by omega),apZ,aaY,apZ,wrapN (by omega)]
   unfold jnY cT at hs ⊢
   cases ho:nQ x.valid y.valid with
   | false=>rw [ap1,ap1,Bool.false_and,ap1,aqy]
   | true =>
    rw [ho] at hs
    rw [ap2,ap2,aqx,yG h.he,apZ,XZ]
    cases hc:lY e (x.row++y.row) with
    | false=>rw [ap1,ap1,aqy]
    | true =>
     rw [hc] at hs
     have hs:s.length+1<=1000000:=hs
     rw [ap2,ap2,ap4 (show s.length+1<=3518437208883 by omega)];rfl
  ·intro s
   unfold wh
   dsimp only
   rw [lF_];rfl
 ·intro s
  unfold xw
  dsimp only
  rw [lF_];rfl
theorem agu (l m:List aP) (hl:l.length<=10000) (hm:m.length<=10000):Wy l m=some (lI (fun p q=>p && !q) l m (p8 l m) []):=by
 unfold Wy I_
 rw [ap4 hl,ap4 hm,show BC 3=fun p q=>p && !q from funext fun p=>funext fun q=>abv p q];rfl
theorem TM (h:KS a b e) {n:Nat} (hn:n<=48):JZ a b e ((n:Nat):Int)=some (qz e n a.facts b.facts):=by
 have hla:=h.la
 have hlb:=h.lb
 have hall:=y9 e n h.la h.lb h.A.per
 unfold JZ
 rw [d9 (l:=a.facts) (alX e n b.facts) 1000000 ?_ ?_ (by unfold fuel;omega) [] (by show ([]:List aC).length+(qz e n a.facts b.facts).length<=_;simp;omega)]
 ·rfl
 ·intro s i x hx hs
  have hi:=(ap0.1 hx).1
  have hxm:=ap6 hx
  have hxk:=h.A.row x hxm
  have:=h.A.kinds
  have hml:=Uy (cT e) b.facts x
  have hal:=LW (c:=cT e) (b:=b.facts) (h.A.per x hxm)
  unfold Cw
  dsimp only
  rw [bf hx,ap2,gn_ hx,apZ,EQ hn,apZ,mK (by rw [List.length_replicate];omega),apZ,RA h (by omega),apZ,agu _ _ (by simp) (by omega),apZ]
  show ((qC (x.row++List.replicate n dH) (lq (cT e) b.facts x)).bind _)=_
  rw [EF _ _ (by omega),apZ,wrapN (by omega)]
  show (bif decide (s.length+(alX e n b.facts x).length<=3518437208883) then _ else none)=_
  rw [ap4 (by omega)];rfl
 ·intro s
  unfold Cw
  dsimp only
  rw [lF_];rfl
theorem Nt (h:a.kinds.length+b.kinds.length<=1000000):uB a b=some (a.kinds++b.kinds):=by
 unfold uB
 rw [ap4 (show a.kinds.length<=17592186044416 by omega),ap4 (show a.kinds.length+b.kinds.length<=17592186044416 by omega)];rfl
theorem aaF (h:KS a b e):F4 a b e=some ⟨a.kinds++b.kinds,canon (Ce e a.facts b.facts)⟩:=by
 unfold F4
 rw [Nt (by have:=h.kab;omega),apZ,R_ h,apZ,mF (kX h)];rfl
theorem aa5 (h:KS a b e):F8 a b e=some ⟨a.kinds++b.kinds,canon (Ce e a.facts b.facts++qz e b.kinds.length a.facts b.facts)⟩:=by
 have h1:=zK e h.la h.lb
 have h2:=y9 e b.kinds.length h.la h.lb h.A.per
 unfold F8
 rw [R_ h,apZ,TM h h.B.kinds,apZ,ap4 (by omega),ap2,Nt (by have:=h.kab;omega),apZ,mF (rD h)];rfl
theorem ahI (h:KS a b e):vk ⟨a.kinds++b.kinds,canon (Ce e a.facts b.facts)⟩ ⟨a.kinds++b.kinds,canon (Ce e a.facts b.facts)⟩=some true:=uR (by have:=h.kab;rw [ap8];omega) (cB (kX h))
end
end Go.Proofs.YtlcceppoloaecaaGreatDoor
