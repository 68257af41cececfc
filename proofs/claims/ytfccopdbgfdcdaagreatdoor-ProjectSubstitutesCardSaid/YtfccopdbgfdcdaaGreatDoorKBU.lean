/- Parts of the proof, joined. No condition. -/
import Derived.Test.YtfccopdbgfdcdaaGreatDoorKAA
import Derived.Test.YtfccopdbgfdcdaaGreatDoorKBT
import Derived.Test.YtfccopdbgfdcdaaGreatDoorKBR
import Derived.Test.YtfccopdbgfdcdaaGreatDoorKBN
import Derived.Test.YtfccopdbgfdcdaaGreatDoorKBF
import Derived.Test.YtfccopdbgfdcdaaGreatDoorKBG
set_option linter.unusedSimpArgs false
set_option linter.unusedVariables false
namespace Go.Proofs.YtfccopdbgfdcdaaGreatDoor
open Go.RowKit Go.MapKept
set_option maxRecDepth 100000
theorem Hm (e:Ex) (m:Int) (hm:2<=m/\m<=1000) (B:Int) (hB:B<=4611686018427387904) (rec:Ex->Option Int) (recP:Ex->Int->Option Int)
  (hrec : ∀ x∈e.args, ∃ d,rec x=some d/\1<=d/\d<=B/\recP x (m-1)=some (min d (m-1))) (hlen:e.args.length<=100000) :
  ∀ (N i:Nat) (a:Int),0<=a->a<=max 0 B->i<=e.args.length->e.args.length-i<N ->
   ∃ r,az (fD e rec) N (a,(i:Int))=some (.inl (r,((e.args.length:Nat):Int)))/\az (gz e m recP) N (min (a+1) m,(i:Int))=some (.inl (min (r+1) m,((e.args.length:Nat):Int)))/\0<=r/\r<=max 0 B
 | 0,i,a,_,_,_,h=>by omega
 | N+1,i,a,h1,h2,hi,hN=>by
  rw [az,az]
  by_cases hlt:i<e.args.length
  ·obtain ⟨x,hx⟩:=gol_ hlt
   obtain ⟨d,e1,e2,e3,e4⟩:=hrec x (adO hx)
   have hb:fD e rec (a,(i:Int))=some (.next (max a d,((i+1:Nat):Int))):=by
    unfold fD
    dsimp only
    rw [aI hx,adK,gn_ hx,adH,e1,adH,wrapN (by omega)]
    congr 3
    unfold zg;split<;>omega
   have hb2:gz e m recP (min (a+1) m,(i:Int))=some (.next (min (max a d+1) m,((i+1:Nat):Int))):=by
    unfold gz
    dsimp only
    rw [aI hx,adK,gn_ hx,adH,fJ (by omega),e4,adH,fJ (by omega),wrapN (by omega)]
    congr 3
    unfold zg;split<;>omega
   rw [hb,hb2]
   exact Hm e m hm B hB rec recP hrec hlen N (i+1) (max a d) (by omega) (by omega) (by omega) (by omega)
  ·have:i=e.args.length:=by omega
   subst this
   have hb:fD e rec (a,((e.args.length:Nat):Int))=some (.exit (a,((e.args.length:Nat):Int))):=by
    unfold fD
    dsimp only
    rw [lF_,adJ]
   have hb2:gz e m recP (min (a+1) m,((e.args.length:Nat):Int))=some (.exit (min (a+1) m,((e.args.length:Nat):Int))):=by
    unfold gz
    dsimp only
    rw [lF_,adJ]
   rw [hb,hb2]
   exact ⟨a,rfl,rfl,h1,h2⟩
theorem GU : ∀ (n:Nat) (e:Ex),n<=4611686018427387904->eY n e -> ∃ d,o7 n e=some d/\1<=d/\d<=(n:Int) /\ ∀ m:Int,1<=m->m<=1000->wm n e m=some (min d m)
 | 0,_,_,h=>h.elim
 | n+1,e,hn,h=>by
  have hd : ∃ r,(∀ m:Int,2<=m->m<=1000->az (gz e m (wm n)) fuel (1,0)=some (.inl (min (r+1) m,((e.args.length:Nat):Int))))/\az (fD e (o7 n)) fuel (0,0)=some (.inl (r,((e.args.length:Nat):Int)))/\0<=r/\r<=max 0 (n:Int):=by
   have key : ∀ m:Int,2<=m->m<=1000->_:=fun m h1 h2=>Hm e m ⟨h1,h2⟩ (n:Int) (by omega) (o7 n) (wm n) (by
    intro x hx
    obtain ⟨d,e1,e2,e3,e4⟩:=GU n x (by omega) (h.2 x hx)
    exact ⟨d,e1,e2,e3,e4 (m-1) (by omega) (by omega)⟩) h.1 fuel 0 0 (Int.le_refl _) (by omega) (ad4 _) (by unfold fuel;have:=h.1;omega)
   obtain ⟨r,e1,e2,e3,e4⟩:=key 2 (by omega) (by omega)
   refine ⟨r,fun m h1 h2=>?_,e1,e3,e4⟩
   obtain ⟨r',f1,f2,f3,f4⟩:=key m h1 h2
   have:r'=r:=by
    rw [e1] at f1
    have:=aee f1
    injection this with this
    injection this with this _
    exact this.symm
   subst this
   rw [show min ((0:Int)+1) m=1 by omega] at f2
   exact f2
  obtain ⟨r,k1,k2,k3,k4⟩:=hd
  refine ⟨r+1,?_,by omega,by omega,fun m h1 h2=>?_⟩
  ·show rR (o7 n) e=_
   unfold rR
   rw [k2]
   show some (IntKind.i64.wrap (r+1))=_
   rw [fJ (by omega)]
  ·show xc (wm n) e m=_
   unfold xc
   by_cases hm:m<=1
   ·rw [adM hm,adK]
    congr 1;omega
   ·rw [adL hm,adJ,k1 m (by omega) h2];rfl
def Jy:Int->List Int->Option Int
 | t,[]=>some t
 | t,x::l=>if x=0 then Jy t l else if t≠0/\t≠x then none else Jy x l
def aaE (o:Option Int):Int × Bool:=match o with|some k=>(k,true)|none=>(0,false)
theorem GD : ∀ (l:List Int) (t:Int),dh (ρ:=Int × Bool) (fun t x=>some (if x=0 then .inl t else if t≠0/\t≠x then .inr (0,false) else .inl x)) t l=some (match Jy t l with|some k => .inl k|none => .inr (0,false))
 | [],t=>rfl
 | x::l,t=>by
  rw [dh,Jy]
  by_cases h:x=0
  ·rw [if_pos h,if_pos h];exact GD l t
  ·rw [if_neg h,if_neg h]
   by_cases h2:t≠0/\t≠x
   ·rw [if_pos h2,if_pos h2]
   ·rw [if_neg h2,if_neg h2];exact GD l x
theorem gZ (l:List Int) (hl:l.length<=1000000):kK l=some (aaE (Jy 0 l)):=by
 unfold kK
 rw [bW (l:=l) (mk:=fun t i=>(t,i)) (f:=fun t x=>some (if x=0 then .inl t else if t≠0/\t≠x then .inr (0,false) else .inl x)) ?_ ?_ (by unfold fuel;omega) (0:Int)]
 ·rw [GD]
  cases Jy 0 l<;>rfl
 ·intro s i x hx
  have hi:=(adI.1 hx).1
  unfold yE
  dsimp only
  rw [aI hx,adK,gn_ hx,wrapN (by omega)]
  simp only [adH]
  by_cases h:x=0
  ·rw [adM h,adK,if_pos h];rfl
  ·rw [adL h,adJ,if_neg h]
   by_cases h1:s=0
   ·rw [adL (show ¬ s≠0 by omega),adJ,if_neg (by omega)];rfl
   ·rw [adM (show s≠0 from h1),adK]
    by_cases h2:s=x
    ·rw [adL (show ¬ s≠x by omega),adJ,if_neg (by omega)];rfl
    ·rw [adM (show s≠x from h2),adK,if_pos ⟨h1,h2⟩];rfl
 ·intro s
  unfold yE
  dsimp only
  rw [lF_,adJ]
theorem mO (l:List Int) (hl:l.length<=1000000):jE l=some (aaE (Jy 0 l)):=(show jE l=kK l from rfl).trans (gZ l hl)
def ib (l:List Int) (k:Int):Bool:=l.all fun x=>decide (x=k)||decide (x=0)
theorem dY (l:List Int) (k:Int) (hl:l.length<=1000000):iF l k=some (ib l k):=by
 unfold iF
 rw [bW (l:=l) (mk:=fun (_:Unit) i=>i) (f:=fun _ x=>some (if x=k\/x=0 then .inl () else .inr false)) ?_ ?_ (by unfold fuel;omega) ()]
 ·have : ∀ l:List Int,dh (ρ:=Bool) (fun (_:Unit) (x:Int)=>some (if x=k\/x=0 then .inl () else .inr false)) () l=some (if ib l k=true then .inl () else .inr false):=by
   intro l
   induction l with
   | nil=>rfl
   | cons x l ih =>
    rw [dh]
    by_cases h:x=k\/x=0
    ·rw [if_pos h]
     show dh _ () l=_
     rw [ih]
     have:ib (x::l) k=ib l k:=by
      unfold ib
      rw [List.all_cons]
      rcases h with h|h<;>simp [h]
     rw [this]
    ·rw [if_neg h]
     have:ib (x::l) k=false:=by
      unfold ib
      rw [List.all_cons,adL (fun e=>h (.inl e)),adL (fun e=>h (.inr e))];rfl
     rw [this];rfl
  rw [this]
  cases ib l k<;>rfl
 ·intro s i x hx
  have hi:=(adI.1 hx).1
  unfold yG
  dsimp only
  rw [aI hx,adK,gn_ hx,wrapN (by omega)]
  simp only [adH]
  by_cases h:x=k
  ·rw [adL (show ¬ x≠k by omega),adJ,if_pos (.inl h)];rfl
  ·rw [adM (show x≠k from h),adK]
   by_cases h2:x=0
   ·rw [adL (show ¬ x≠0 by omega),adJ,if_pos (.inr h2)];rfl
   ·rw [adM (show x≠0 from h2),adK,if_neg (by omega)];rfl
 ·intro s
  unfold yG
  dsimp only
  rw [lF_,adJ]
theorem Jg (k:Int) (hk:k≠0) : ∀ (l:List Int) (t:Int),Jy t (l++[k])=if (t=0\/t=k)/\ib l k=true then some k else none
 | [],t=>by
  show (if k=0 then some t else if t≠0/\t≠k then none else some k)=if (t=0\/t=k)/\true=true then some k else none
  rw [if_neg hk]
  by_cases h:t=0\/t=k
  ·rw [if_neg (show ¬ (t≠0/\t≠k) by omega),if_pos (show (t=0\/t=k)/\true=true from ⟨h,rfl⟩)]
  ·rw [if_pos (show t≠0/\t≠k by omega),if_neg (fun e=>h e.1)]
 | x::l,t=>by
  rw [List.cons_append,Jy]
  by_cases h:x=0
  ·rw [if_pos h,Jg k hk l t]
   have:ib (x::l) k=ib l k:=by unfold ib;rw [List.all_cons,adM h,Bool.or_true,aef]
   rw [this]
  ·rw [if_neg h]
   have ha:ib (x::l) k=(decide (x=k)&&ib l k):=by unfold ib;rw [List.all_cons,adL h,Bool.or_false]
   rw [ha]
   by_cases h2:t≠0/\t≠x
   ·rw [if_pos h2,if_neg]
    rintro ⟨h3,h4⟩
    rw [ad1] at h4
    have:=aea h4.1
    omega
   ·rw [if_neg h2,Jg k hk l x]
    by_cases h3:x=k
    ·rw [adM h3,aef]
     by_cases h4:ib l k=true
     ·rw [if_pos ⟨.inr h3,h4⟩,if_pos ⟨by omega,h4⟩]
     ·rw [if_neg (fun e=>h4 e.2),if_neg (fun e=>h4 e.2)]
    ·rw [adL h3,Bool.false_and,if_neg (by omega),if_neg (by simp)]
theorem fU {l:List Int} {k:Int} (h0:l≠[]) (hl:l.length<=100000) (hk:k≠0):wo l k=some (ib l k):=by
 have ho:Px l=true:=by
  unfold Px
  rw [adM hl,Bool.and_true]
  cases l with
  | nil=>exact absurd rfl h0
  | cons a b=>rfl
 unfold wo
 rw [ho,adK,gZ _ (by rw [adQ];simp;omega),adH,Jg k hk]
 cases h:ib l k with
 | true=>rw [if_pos ⟨.inl rfl,rfl⟩];show some (bif true then decide (k=k) else false)=_;simp
 | false=>rw [if_neg (by simp)];rfl
theorem PX {e:Ex} {l:List Int} {kinds:List Int} (hlo:(kS e.op).1<=((l.length:Nat):Int)) (hhi:((l.length:Nat):Int)<=(kS e.op).2) (hl:l.length<=100000) (ho:e.op=1\/e.op=4\/e.op=5\/e.op=6\/e.op=7\/e.op=8\/e.op=9\/e.op=10\/e.op=11\/e.op=12\/e.op=13\/e.op=14\/e.op=15\/e.op=16\/e.op=17\/e.op=18\/e.op=19\/e.op=20\/e.op=21\/e.op=22\/e.op=23\/e.op=24) : ∃ r,gRs11 e l kinds=some r/\gRsP e l=some r:=by
 rcases ho with ho|ho|ho|ho|ho|ho|ho|ho|ho|ho|ho|ho|ho|ho|ho|ho|ho|ho|ho|ho|ho|ho
 ·rw [ho,ar1] at hlo hhi
  dsimp only at hlo hhi
  unfold gRs11 gRsP
  simp only [ho,Int.reduceEq,decide_false,decide_true,adK,adJ]
  exact ⟨_,rfl,rfl⟩
 ·rw [ho,ar4] at hlo hhi
  dsimp only at hlo hhi
  unfold gRs11 gRsP
  simp only [ho,Int.reduceEq,decide_false,decide_true,adK,adJ]
  rw [dY _ _ (by omega),fU (by rintro rfl;simp at hlo) hl (by decide)];exact ⟨_,rfl,rfl⟩
 ·rw [ho,ar5] at hlo hhi
  dsimp only at hlo hhi
  unfold gRs11 gRsP
  simp only [ho,Int.reduceEq,decide_false,decide_true,adK,adJ]
  rw [dY _ _ (by omega),fU (by rintro rfl;simp at hlo) hl (by decide)];exact ⟨_,rfl,rfl⟩
 ·rw [ho,ar6] at hlo hhi
  dsimp only at hlo hhi
  unfold gRs11 gRsP
  simp only [ho,Int.reduceEq,decide_false,decide_true,adK,adJ]
  rw [dY _ _ (by omega),fU (by rintro rfl;simp at hlo) hl (by decide)];exact ⟨_,rfl,rfl⟩
 ·rw [ho,ar7] at hlo hhi
  dsimp only at hlo hhi
  unfold gRs11 gRsP
  simp only [ho,Int.reduceEq,decide_false,decide_true,adK,adJ]
  rw [mO _ (by omega),gZ _ (by omega)];exact ⟨_,rfl,rfl⟩
 ·rw [ho,ar8] at hlo hhi
  dsimp only at hlo hhi
  unfold gRs11 gRsP
  simp only [ho,Int.reduceEq,decide_false,decide_true,adK,adJ]
  rw [mO _ (by omega),gZ _ (by omega)];exact ⟨_,rfl,rfl⟩
 ·rw [ho,ar9] at hlo hhi
  dsimp only at hlo hhi
  unfold gRs11 gRsP
  simp only [ho,Int.reduceEq,decide_false,decide_true,adK,adJ]
  rw [mO _ (by omega),gZ _ (by omega)];exact ⟨_,rfl,rfl⟩
 ·rw [ho,ado] at hlo hhi
  dsimp only at hlo hhi
  unfold gRs11 gRsP
  simp only [ho,Int.reduceEq,decide_false,decide_true,adK,adJ]
  rw [mO _ (by omega),gZ _ (by omega)];exact ⟨_,rfl,rfl⟩
 ·rw [ho,adk] at hlo hhi
  dsimp only at hlo hhi
  unfold gRs11 gRsP
  simp only [ho,Int.reduceEq,decide_false,decide_true,adK,adJ]
  rw [mO _ (by omega),gZ _ (by omega)];exact ⟨_,rfl,rfl⟩
 ·rw [ho,adz] at hlo hhi
  dsimp only at hlo hhi
  unfold gRs11 gRsP
  simp only [ho,Int.reduceEq,decide_false,decide_true,adK,adJ]
  rw [mO _ (by omega),gZ _ (by omega)];exact ⟨_,rfl,rfl⟩
 ·rw [ho,acH] at hlo hhi
  dsimp only at hlo hhi
  unfold gRs11 gRsP
  simp only [ho,Int.reduceEq,decide_false,decide_true,adK,adJ]
  rw [dY _ _ (by omega),fU (by rintro rfl;simp at hlo) hl (by decide)];exact ⟨_,rfl,rfl⟩
 ·rw [ho,abP] at hlo hhi
  dsimp only at hlo hhi
  unfold gRs11 gRsP
  simp only [ho,Int.reduceEq,decide_false,decide_true,adK,adJ]
  rw [dY _ _ (by omega),fU (by rintro rfl;simp at hlo) hl (by decide)];exact ⟨_,rfl,rfl⟩
 ·rw [ho,abV] at hlo hhi
  dsimp only at hlo hhi
  unfold gRs11 gRsP
  simp only [ho,Int.reduceEq,decide_false,decide_true,adK,adJ]
  rw [dY _ _ (by omega),fU (by rintro rfl;simp at hlo) hl (by decide)];exact ⟨_,rfl,rfl⟩
 ·rw [ho,abR] at hlo hhi
  dsimp only at hlo hhi
  unfold gRs11 gRsP
  simp only [ho,Int.reduceEq,decide_false,decide_true,adK,adJ]
  rw [dY _ _ (by omega),fU (by rintro rfl;simp at hlo) hl (by decide)];exact ⟨_,rfl,rfl⟩
 ·rw [ho,acm] at hlo hhi
  dsimp only at hlo hhi
  unfold gRs11 gRsP
  simp only [ho,Int.reduceEq,decide_false,decide_true,adK,adJ]
  rw [dY _ _ (by omega),fU (by rintro rfl;simp at hlo) hl (by decide)];exact ⟨_,rfl,rfl⟩
 ·rw [ho,ac5] at hlo hhi
  dsimp only at hlo hhi
  unfold gRs11 gRsP
  simp only [ho,Int.reduceEq,decide_false,decide_true,adK,adJ]
  rw [dY _ _ (by omega),fU (by rintro rfl;simp at hlo) hl (by decide)];exact ⟨_,rfl,rfl⟩
 ·rw [ho,adn] at hlo hhi
  dsimp only at hlo hhi
  unfold gRs11 gRsP
  simp only [ho,Int.reduceEq,decide_false,decide_true,adK,adJ]
  rw [dY _ _ (by omega),fU (by rintro rfl;simp at hlo) hl (by decide)];exact ⟨_,rfl,rfl⟩
 ·rw [ho,ade] at hlo hhi
  dsimp only at hlo hhi
  unfold gRs11 gRsP
  simp only [ho,Int.reduceEq,decide_false,decide_true,adK,adJ]
  rw [dY _ _ (by omega),fU (by rintro rfl;simp at hlo) hl (by decide)];exact ⟨_,rfl,rfl⟩
 ·rw [ho,adw] at hlo hhi
  dsimp only at hlo hhi
  unfold gRs11 gRsP
  simp only [ho,Int.reduceEq,decide_false,decide_true,adK,adJ]
  exact ⟨_,rfl,rfl⟩
 ·rw [ho,abr] at hlo hhi
  dsimp only at hlo hhi
  unfold gRs11 gRsP
  simp only [ho,Int.reduceEq,decide_false,decide_true,adK,adJ]
  obtain ⟨a,b,c,rfl⟩:=aad (l:=l) (by omega)
  rw [show jI [a,b,c] (1:Int) ((([a,b,c].length:Nat)):Int)=some [b,c] from rfl,show jI [a,b,c] (0:Int) (1:Int)=some [a] from rfl]
  simp only [adH]
  rw [mO _ (by simp),gZ _ (by simp)]
  simp only [adH]
  rw [dY _ _ (by simp),fU (by simp) (by simp) (by decide)]
  cases (aaE (Jy 0 [b,c])).2<;>exact ⟨_,rfl,rfl⟩
 ·rw [ho,adc] at hlo hhi
  dsimp only at hlo hhi
  unfold gRs11 gRsP
  simp only [ho,Int.reduceEq,decide_false,decide_true,adK,adJ]
  rw [mO _ (by omega),gZ _ (by omega)];exact ⟨_,rfl,rfl⟩
 ·rw [ho,ac7] at hlo hhi
  dsimp only at hlo hhi
  unfold gRs11 gRsP
  simp only [ho,Int.reduceEq,decide_false,decide_true,adK,adJ]
  rw [dY _ _ (by omega),fU (by rintro rfl;simp at hlo) hl (by decide)];exact ⟨_,rfl,rfl⟩
theorem GR (e:Ex) (kinds:List Int) (rec:Ex->List Int->Option (Int × Int)) (hrec : ∀ x∈e.args, ∃ c,rec x kinds=some c) (hlen:e.args.length<=100000) :
  ∀ (N i:Nat) (s:List Int),s.length=i->i<=e.args.length->e.args.length-i<N -> ∃ r,az (bz e kinds rec) N (s,(i:Int))=some r /\ ∀ t j,r = .inl (t,j)->t.length=e.args.length
 | 0,i,s,_,_,h=>by omega
 | N+1,i,s,hs,hi,hN=>by
  rw [az]
  by_cases hlt:i<e.args.length
  ·obtain ⟨x,hx⟩:=gol_ hlt
   obtain ⟨c,hc⟩:=hrec x (adO hx)
   by_cases h0:c.2=0
   ·have hb:bz e kinds rec (s,(i:Int))=some (.next (s++[c.1],((i+1:Nat):Int))):=by
     unfold bz
     dsimp only
     rw [aI hx,adK,gn_ hx,adH,hc,adH,adL (show ¬ c.2≠0 by omega),adJ,adM (by omega),adK,wrapN (by omega)]
    rw [hb]
    exact GR e kinds rec hrec hlen N (i+1) (s++[c.1]) (by rw [adQ,hs];rfl) (by omega) (by omega)
   ·have hb:bz e kinds rec (s,(i:Int))=some (.ret (0,c.2)):=by
     unfold bz
     dsimp only
     rw [aI hx,adK,gn_ hx,adH,hc,adH,adM (show c.2≠0 from h0),adK]
    rw [hb]
    exact ⟨_,rfl,fun t j h=>by cases h⟩
  ·have:i=e.args.length:=by omega
   subst this
   have hb:bz e kinds rec (s,((e.args.length:Nat):Int))=some (.exit (s,((e.args.length:Nat):Int))):=by
    unfold bz
    dsimp only
    rw [lF_,adJ]
   rw [hb]
   exact ⟨_,rfl,fun t j h=>by injection h with h;injection h with h _;rw [<- h];exact hs⟩
theorem zY (kinds:List Int) : ∀ (n:Nat) (e:Ex),eY n e -> ∃ c,df n e kinds=some c/\uE n e kinds=some c
 | 0,_,h=>h.elim
 | n+1,e,h=>by
  have hx : ∀ x∈e.args, ∃ c,df n x kinds=some c/\uE n x kinds=some c:=fun x hx=>zY kinds n x (h.2 x hx)
  have hb:q9 e kinds (uE n)=bz e kinds (df n):=by
   funext s
   obtain ⟨l,i⟩:=s
   unfold q9 bz
   dsimp only
   cases hg:aA e.args i with
   | none=>rfl
   | some x =>
    obtain ⟨c,c1,c2⟩:=hx x (adO (og hg).2)
    simp only [adH]
    rw [c1,c2]
  obtain ⟨a1,a2,a3,a4⟩:=qM e.op ((e.args.length:Nat):Int) (by have:=h.1;omega)
  show ∃ c,lC (df n) e kinds=some c/\xm (uE n) e kinds=some c
  unfold lC xm
  rw [a1,a2,adH,adH]
  dsimp only
  by_cases h00:(kS e.op).1<0
  ·rw [adM h00,adL (show ¬ 0<=(kS e.op).1 by omega),adK]
   exact ⟨_,rfl,rfl⟩
  have h0:0<=(kS e.op).1:=by omega
  rw [adL (show ¬ (kS e.op).1<0 by omega),adM h0,Bool.not_true,adJ,adJ,qC h.1,Gi h.1,adH,adH]
  cases hf:jk e with
  | false=>exact ⟨_,rfl,rfl⟩
  | true =>
   rw [Bool.not_true,adJ,adJ]
   obtain ⟨hops,hlo,hhi,hrest⟩:=o6 h.1 hf
   by_cases o2:e.op=2
   ·rw [adM o2,adK,adK]
    by_cases i0:e.int<0
    ·rw [adM i0];exact ⟨_,rfl,rfl⟩
    rw [adL i0,adJ,adJ]
    by_cases i1:((kinds.length:Nat):Int)<=e.int
    ·rw [adM i1];exact ⟨_,rfl,rfl⟩
    rw [adL i1,adJ,adJ]
    obtain ⟨x,hx1⟩:=gol_ (l:=kinds) (i:=e.int.toNat) (by omega)
    have hg:aA kinds e.int=some x:=by unfold aA;rw [if_pos (by omega)];exact hx1
    rw [o2,ar2] at hhi
    dsimp only at hhi
    have hz:e.args.length=0:=by omega
    have hbr:az (nJ e kinds (df n)) fuel ([],(0:Int))=some (.inl ([],0)):=by
     have:fuel=(fuel-1)+1:=rfl
     rw [this,az]
     unfold nJ
     dsimp only
     rw [hz,show decide ((0:Int)<((0:Nat):Int))=false from rfl,adJ]
    rw [hbr,hg]
    refine ⟨(x,0),?_,rfl⟩
    show (gRs11 e [] kinds).bind _=_
    unfold gRs11
    rw [o2,show decide ((2:Int)=1)=false from rfl,show decide ((2:Int)=2)=true from rfl,adJ,adK,hg]
    rfl
   ·rw [adL o2,adJ,adJ,hb]
    obtain ⟨r,hr,hk⟩:=GR e kinds (df n) (fun x hm=>(hx x hm).imp fun c hc=>hc.1) h.1 fuel 0 [] rfl (ad4 _) (by unfold fuel;have:=h.1;omega)
    rw [show ((0:Nat):Int)=0 from rfl] at hr
    rw [hr,adH,adH]
    cases r with
    | inr q=>exact ⟨q,rfl,rfl⟩
    | inl p =>
     obtain ⟨t,j⟩:=p
     have ht:=hk t j rfl
     obtain ⟨q,q1,q2⟩:=PX (e:=e) (l:=t) (kinds:=kinds) (by rw [ht];exact hlo) (by rw [ht];exact hhi) (by rw [ht];exact h.1) (by omega)
     unfold gG jN
     dsimp only
     rw [q1,q2,adH]
     cases q.2<;>exact ⟨_,rfl,rfl⟩
theorem PR {e:Ex} (kinds:List Int) (h:eY fuel e) : ∃ c,uA e kinds=some c/\KN e kinds=some c:=by
 obtain ⟨d,d1,d2,d3,d4⟩:=GU fuel e (by unfold fuel;omega) h
 obtain ⟨c,c1,c2⟩:=zY kinds fuel e h
 unfold uA KN TJ
 rw [d1,d4 25 (by omega) (by omega),c1,c2]
 simp only [adH]
 by_cases hd:(24:Int)<d
 ·rw [adM hd,adM (show (24:Int)<min d 25 by omega)];exact ⟨_,rfl,rfl⟩
 ·rw [adL hd,adL (show ¬ (24:Int)<min d 25 by omega)];exact ⟨_,rfl,rfl⟩
set_option maxHeartbeats 8000000
noncomputable section
def lK (a_kinds:(List Int)) (a_l:(List aG)):Option (bI):=bif (decide (a_kinds.length<=17592186044416)) then ((Nl a_l).bind fun r_1=>some (⟨a_kinds,r_1⟩:bI)) else none
theorem uX {a_kinds:(List Int)} {a_l:(List aG)} {r:bI} (H:lK a_kinds a_l=some r):Pure Tryz.prog 50 [.one (.lst (a_kinds.map (fun x=>[AC.int .i64 x]))), .one (.lst (a_l.map aY))] (.val (.agg (dW r))):=by
 unfold lK at H
 refine po_ Tryz.func50 Tryz.ntmps50 ?_
 obtain ⟨g1,H⟩:=bu H
 obtain ⟨r_1,c2,H⟩:=bd_ H
 replace c2:=Nj c2
 cases H
 exact af
def nZ (a_l:(List Ex)) (x_9:aG):((List Val) × Int)->Option (Step ((List Val) × Int) (bI)):=fun s=>match s with
 | (row_10,v_11)=>bif (decide (v_11<((a_l.length:Nat):Int))) then (aA a_l v_11).bind fun x_13=>(xw fuel x_13 x_9.row).bind fun r_14=>bif (decide (row_10.length+1<=4398046511104)) then (some (.next ((row_10++[r_14]),(IntKind.i64.wrap (v_11+(1:Int)))))) else none else
 some (.exit (row_10,v_11))
def nG (out_6:(List aG)) (v_7:Int) (x_9:aG):Sum ((List Val) × Int) (bI)->Option (Step ((List aG) × Int) (bI))
 | .inl (row_10,v_11)=>bif (decide (out_6.length+1<=3518437208883)) then (some (.next ((out_6++[(⟨row_10,x_9.valid⟩:aG)]),(IntKind.i64.wrap (v_7+(1:Int)))))) else none
 | .inr q=>some (.ret q)
def nO (a_r:bI) (a_l:(List Ex)):((List aG) × Int)->Option (Step ((List aG) × Int) (bI)):=fun s=>match s with
 | (out_6,v_7)=>bif (decide (v_7<((a_r.facts.length:Nat):Int))) then (aA a_r.facts v_7).bind fun x_9=>(az (nZ a_l x_9) fuel ([],(0:Int))).bind (nG out_6 v_7 x_9) else
 some (.exit (out_6,v_7))
def nP (kinds_1:(List Int)):Sum ((List aG) × Int) (bI)->Option ((bI))
 | .inl (out_6,v_7)=>(lK kinds_1 out_6).bind fun r_15=>some r_15
 | .inr q=>some q
def nK (a_r:bI) (a_l:(List Ex)):((List Int) × Int)->Option (Step ((List Int) × Int) (bI)):=fun s=>match s with
 | (kinds_1,v_2)=>bif (decide (v_2<((a_l.length:Nat):Int))) then (aA a_l v_2).bind fun x_4=>(KN x_4 a_r.kinds).bind fun r_5=>bif (decide (kinds_1.length+1<=17592186044416)) then (some (.next ((kinds_1++[r_5.1]),(IntKind.i64.wrap (v_2+(1:Int)))))) else none else
 some (.exit (kinds_1,v_2))
def nM (a_r:bI) (a_l:(List Ex)):Sum ((List Int) × Int) (bI)->Option ((bI))
 | .inl (kinds_1,v_2)=>(az (nO a_r a_l) fuel ([],(0:Int))).bind (nP kinds_1)
 | .inr q=>some q
def jS (a_r:bI) (a_l:(List Ex)):Option (bI):=(az (nK a_r a_l) fuel ([],(0:Int))).bind (nM a_r a_l)
theorem nL {a_r:bI} {a_l:(List Ex)} {r:bI} (H:jS a_r a_l=some r):Pure Tryz.prog 19 [.agg (dW a_r), .one (.lst (a_l.map tE))] (.val (.agg (dW r))):=by
 unfold jS at H
 refine po_ Tryz.func19 Tryz.ntmps19 ?_
 refine bv ?_
 refine dz 5 1 rfl ?_
 refine alM_ (fun s:(List Int) × Int=>match s with|(kinds_1,v_2)=>[(1, .one (.c (.lst (a_l.map tE)))),(2, .one (.ptr 0 0)),(4, .one (.ptr 1 0)),(5, .one (.own (kinds_1.map (fun x=>[AC.int .i64 x])) 2)),(16, .one (.c (.lst (a_l.map tE)))),(17, .one (.c (.int .i64 ((a_l.length:Nat):Int)))),(18, .one (.c (.int .i64 v_2)))]) (fun s=>match s with|(kinds_1,v_2)=>[.box [.c (.lst (a_r.kinds.map (fun x=>[AC.int .i64 x]))), .c (.lst (a_r.facts.map aY))], .box [.emp, .emp], .spare kinds_1.length 1]) H (fun _=>ad4 _)
  (fm_ dL [] rfl bL cZ) ?_
 rintro ⟨kinds_1,v_2⟩ st1 hb1 hk1
 unfold nK at hb1
 dsimp only at hb1 ⊢
 rcases aa hb1 with ⟨q_3,hb1⟩|⟨q_3,hb1⟩
 ·obtain ⟨x_4,i1z,i1,i1x,hb1⟩:=aR (f:=tE) hb1
  simp only [adV,adT,adX,adN,aj] at i1x
  obtain ⟨r_5,c2,hb1⟩:=bd_ hb1
  replace c2:=Wz c2
  try simp only [adV,adT,adX,adN,aj] at c2
  obtain ⟨g3,hb1⟩:=bu hb1
  cases hb1
  refine bv ?_
  exact ⟨_,rfl,fm_ kM [_] jY bL cZ⟩
 cases hb1
 have hx1:nM a_r a_l (.inl (kinds_1,v_2))=some _:=hk1
 unfold nM at hx1
 dsimp only at hx1
 refine bv ?_
 refine dz 10 3 rfl ?_
 refine alM_ (fun s:(List aG) × Int=>match s with|(out_6,v_7)=>[(1, .one (.c (.lst (a_l.map tE)))),(4, .one (.ptr 1 0)),(5, .one (.own (kinds_1.map (fun x=>[AC.int .i64 x])) 2)),(10, .one (.own (out_6.map aY) 3)),(35, .one (.c (.lst (a_r.facts.map aY)))),(36, .one (.c (.int .i64 ((a_r.facts.length:Nat):Int)))),(37, .one (.c (.int .i64 v_7)))]) (fun s=>match s with|(out_6,v_7)=>[.box [.c (.lst (a_r.kinds.map (fun x=>[AC.int .i64 x]))), .c (.lst (a_r.facts.map aY))], .box [.emp, .emp], .spare kinds_1.length 1, .spare out_6.length 3]) hx1 (fun _=>ad4 _)
  (fm_ dL [] rfl bL cZ) ?_
 rintro ⟨out_6,v_7⟩ st4 hb4 hk4
 unfold nO at hb4
 dsimp only at hb4 ⊢
 rcases aa hb4 with ⟨q_8,hb4⟩|⟨q_8,hb4⟩
 ·obtain ⟨x_9,i4z,i4,i4x,hb4⟩:=aR (f:=aY) hb4
  refine bv ?_
  refine dz 13 3 rfl ?_
  refine alM_ (fun s:(List Val) × Int=>match s with|(row_10,v_11)=>[(1, .one (.c (.lst (a_l.map tE)))),(4, .one (.ptr 1 0)),(5, .one (.own (kinds_1.map (fun x=>[AC.int .i64 x])) 2)),(10, .one (.own (out_6.map aY) 3)),(12, .one (.ptr 4 0)),(13, .one (.own (row_10.map cV) 5)),(35, .one (.c (.lst (a_r.facts.map aY)))),(36, .one (.c (.int .i64 ((a_r.facts.length:Nat):Int)))),(37, .one (.c (.int .i64 v_7))),(41, .one (.c (.lst (a_l.map tE)))),(42, .one (.c (.int .i64 ((a_l.length:Nat):Int)))),(43, .one (.c (.int .i64 v_11)))]) (fun s=>match s with|(row_10,v_11)=>[.box [.c (.lst (a_r.kinds.map (fun x=>[AC.int .i64 x]))), .c (.lst (a_r.facts.map aY))], .box [.emp, .emp], .spare kinds_1.length 1, .spare out_6.length 3, .box [.c (.lst (x_9.row.map cV)), .c (.int .i64 x_9.valid.lo), .c (.int .i64 x_9.valid.hi)], .spare row_10.length 3]) hb4 (fun _=>ad4 _)
   (fm_ dL [] rfl bL cZ) ?_
  rintro ⟨row_10,v_11⟩ st5 hb5 hk5
  unfold nZ at hb5
  dsimp only at hb5 ⊢
  rcases aa hb5 with ⟨q_12,hb5⟩|⟨q_12,hb5⟩
  ·obtain ⟨x_13,i5z,i5,i5x,hb5⟩:=aR (f:=tE) hb5
   simp only [adV,adT,adX,adN,aj] at i5x
   obtain ⟨r_14,c6,hb5⟩:=bd_ hb5
   replace c6:=Hd fuel c6
   try simp only [adV,adT,adX,adN,aj] at c6
   obtain ⟨g7,hb5⟩:=bu hb5
   cases hb5
   refine bv ?_
   exact ⟨_,rfl,fm_ kM [_] jY bL cZ⟩
  cases hb5
  have hx5:nG out_6 v_7 x_9 (.inl (row_10,v_11))=some _:=hk5
  unfold nG at hx5
  dsimp only at hx5
  obtain ⟨g8,hx5⟩:=bu hx5
  cases hx5
  refine bv ?_
  exact ⟨_,rfl,fm_ kM [_,_] jY bL cZ⟩
 cases hb4
 have hx4:nP kinds_1 (.inl (out_6,v_7))=some _:=hk4
 unfold nP at hx4
 dsimp only at hx4
 obtain ⟨r_15,c9,hx4⟩:=bd_ hx4
 replace c9:=uX c9
 cases hx4
 exact af
end
set_option maxHeartbeats 8000000
noncomputable section
def uI (a_l:(List Ex)) (a_row:(List Val)):((List Val) × Int)->Option (Step ((List Val) × Int) ((List Val))):=fun s=>match s with
 | (out_1,i_2)=>bif (decide (i_2<((a_l.length:Nat):Int))) then (aA a_l i_2).bind fun x_4=>(dE fuel x_4 a_row).bind fun r_5=>bif (decide (out_1.length+1<=4398046511104)) then (some (.next ((out_1++[r_5]),(IntKind.i64.wrap (i_2+(1:Int)))))) else none else
 some (.exit (out_1,i_2))
def Bg:Sum ((List Val) × Int) ((List Val))->Option (((List Val)))
 | .inl (out_1,i_2)=>some out_1
 | .inr q=>some q
def yQ (a_l:(List Ex)) (a_row:(List Val)):Option ((List Val)):=(az (uI a_l a_row) fuel ([],(0:Int))).bind (Bg)
theorem H9 {a_l:(List Ex)} {a_row:(List Val)} {r:(List Val)} (H:yQ a_l a_row=some r):Pure Tryz.prog 51 [.one (.lst (a_l.map tE)), .one (.lst (a_row.map cV))] (.val (.one (.lst (r.map cV)))):=by
 unfold yQ at H
 refine po_ Tryz.func51 Tryz.ntmps51 ?_
 refine bv ?_
 refine dz 5 3 rfl ?_
 refine alM_ (fun s:(List Val) × Int=>match s with|(out_1,i_2)=>[(0, .one (.c (.lst (a_l.map tE)))),(1, .one (.c (.lst (a_row.map cV)))),(5, .one (.own (out_1.map cV) 0)),(6, .one (.c (.int .i64 i_2)))]) (fun s=>match s with|(out_1,i_2)=>[.spare out_1.length 3]) H (fun _=>ad4 _)
  (fm_ dL [] rfl bL cZ) ?_
 rintro ⟨out_1,i_2⟩ st1 hb1 hk1
 unfold uI at hb1
 dsimp only at hb1 ⊢
 rcases aa hb1 with ⟨q_3,hb1⟩|⟨q_3,hb1⟩
 ·obtain ⟨x_4,i1z,i1,i1x,hb1⟩:=aR (f:=tE) hb1
  simp only [adV,adT,adX,adN,aj] at i1x
  obtain ⟨r_5,c2,hb1⟩:=bd_ hb1
  replace c2:=D5 fuel c2
  try simp only [adV,adT,adX,adN,aj] at c2
  obtain ⟨g3,hb1⟩:=bu hb1
  cases hb1
  refine bv ?_
  exact ⟨_,rfl,fm_ kM [] jY bL cZ⟩
 cases hb1
 have hx1:Bg (.inl (out_1,i_2))=some _:=hk1
 unfold Bg at hx1
 dsimp only at hx1
 cases hx1
 exact af
def lS (a_b:zw) (a_l:(List Ex)):((List (List Val)) × Int)->Option (Step ((List (List Val)) × Int) (zw)):=fun s=>match s with
 | (c_2,i_3)=>bif (decide (i_3<((a_b.rows.length:Nat):Int))) then (aA a_b.rows i_3).bind fun x_5=>(yQ a_l x_5).bind fun r_6=>bif (decide (c_2.length+1<=5864062014805)) then (some (.next ((c_2++[r_6]),(IntKind.i64.wrap (i_3+(1:Int)))))) else none else
 some (.exit (c_2,i_3))
def lW (r_1:(List Int) × Int):Sum ((List (List Val)) × Int) (zw)->Option ((zw))
 | .inl (c_2,i_3)=>(w_ c_2).bind fun r_7=>some (⟨r_1.1,r_7⟩:zw)
 | .inr q=>some q
def oM (a_b:zw) (a_l:(List Ex)):Option (zw):=(lZ a_b.kinds a_l).bind fun r_1=>(az (lS a_b a_l) fuel ([],(0:Int))).bind (lW r_1)
theorem JR {a_b:zw} {a_l:(List Ex)} {r:zw} (H:oM a_b a_l=some r):Pure Tryz.prog 31 [.agg (NT a_b), .one (.lst (a_l.map tE))] (.val (.agg (NT r))):=by
 unfold oM at H
 refine po_ Tryz.func31 Tryz.ntmps31 ?_
 obtain ⟨r_1,c1,H⟩:=bd_ H
 replace c1:=wh c1
 refine bv ?_
 refine Ld 2 1 1 rfl rfl ?_
 refine alM_ (fun s:(List (List Val)) × Int=>match s with|(c_2,i_3)=>[(1, .one (.c (.lst (a_l.map tE)))),(2, .one (.ptr 0 0)),(4, .one (.ptr 1 0)),(7, .one (.ptr 2 0)),(8, .one (.c (.int .i64 i_3)))]) (fun s=>match s with|(c_2,i_3)=>[.box [.c (.lst (a_b.kinds.map (fun x=>[AC.int .i64 x]))), .c (.lst (a_b.rows.map (fun x=>[AC.lst (x.map cV)])))], .box [.emp, .emp], .box [.c (.lst (r_1.1.map (fun x=>[AC.int .i64 x]))), .own (c_2.map (fun x=>[AC.lst (x.map cV)])) 3], .spare c_2.length 1]) H (fun _=>ad4 _)
  (fm_ dL [] rfl bL cZ) ?_
 rintro ⟨c_2,i_3⟩ st1 hb1 hk1
 unfold lS at hb1
 dsimp only at hb1 ⊢
 rcases aa hb1 with ⟨q_4,hb1⟩|⟨q_4,hb1⟩
 ·obtain ⟨x_5,i2z,i2,i2x,hb1⟩:=aR (f:=(fun x=>[AC.lst (x.map cV)])) hb1
  obtain ⟨r_6,c3,hb1⟩:=bd_ hb1
  replace c3:=H9 c3
  obtain ⟨g4,hb1⟩:=bu hb1
  cases hb1
  refine bv ?_
  exact ⟨_,rfl,fm_ dL [] jY bL cZ⟩
 cases hb1
 have hx1:lW r_1 (.inl (c_2,i_3))=some _:=hk1
 unfold lW at hx1
 dsimp only at hx1
 obtain ⟨r_7,c5,hx1⟩:=bd_ hx1
 replace c5:=yU c5
 cases hx1
 exact af
def zq (a_r:bI) (a_t:Int):Option (zw):=(P5 a_r.facts a_t).bind fun r_1=>some (⟨a_r.kinds,r_1⟩:zw)
theorem sN {a_r:bI} {a_t:Int} {r:zw} (H:zq a_r a_t=some r):Pure Tryz.prog 29 [.agg (dW a_r), .one (.int .i64 a_t)] (.val (.agg (NT r))):=by
 unfold zq at H
 refine po_ Tryz.func29 Tryz.ntmps29 ?_
 obtain ⟨r_1,c1,H⟩:=bd_ H
 replace c1:=X4 c1
 cases H
 exact af
def lN (a_r:bI):(Int)->Option (Step (Int) (Bool)):=fun s=>match s with
 | i_1=>bif (decide (i_1<((a_r.facts.length:Nat):Int))) then (aA a_r.facts i_1).bind fun x_3=>(lT x_3.valid).bind fun r_4=>bif (!r_4) then some (.ret false) else
 (wK x_3.row a_r.kinds).bind fun r_6=>bif (!r_6) then some (.ret false) else
 some (.next (IntKind.i64.wrap (i_1+(1:Int)))) else
 some (.exit i_1)
def gY (a_r:bI):Sum (Int) (Bool)->Option ((Bool))
 | .inl i_1=>bif (decide ((0:Int)<((a_r.kinds.length:Nat):Int))) then bif (decide (((a_r.kinds.length:Nat):Int)<=(48:Int))) then (Ho a_r.kinds).bind fun r_10=>some r_10 else
 some false else
 some false
 | .inr q=>some q
def Ma (a_r:bI):Option (Bool):=(az (lN a_r) fuel (0:Int)).bind (gY a_r)
theorem UQ {a_r:bI} {r:Bool} (H:Ma a_r=some r):Pure Tryz.prog 37 [.agg (dW a_r)] (.val (.one (.bool r))):=by
 unfold Ma at H
 refine po_ Tryz.func37 Tryz.ntmps37 ?_
 refine bv ?_
 refine alM_ (fun s:Int=>match s with|i_1=>[(1, .one (.ptr 0 0)),(3, .one (.c (.int .i64 i_1)))]) (fun s=>match s with|i_1=>[.box [.c (.lst (a_r.kinds.map (fun x=>[AC.int .i64 x]))), .c (.lst (a_r.facts.map aY))]]) H (fun _=>ad4 _)
  (fm_ dL [] rfl bL cZ) ?_
 rintro i_1 st1 hb1 hk1
 unfold lN at hb1
 dsimp only at hb1 ⊢
 rcases aa hb1 with ⟨q_2,hb1⟩|⟨q_2,hb1⟩
 ·obtain ⟨x_3,i1z,i1,i1x,hb1⟩:=aR (f:=aY) hb1
  obtain ⟨r_4,c2,hb1⟩:=bd_ hb1
  replace c2:=kW c2
  rcases aa hb1 with ⟨q_5,hb1⟩|⟨q_5,hb1⟩
  ·cases hb1
   have hx1:gY a_r (.inr false)=some _:=hk1
   unfold gY at hx1
   dsimp only at hx1
   cases hx1
   exact af
  obtain ⟨r_6,c3,hb1⟩:=bd_ hb1
  replace c3:=Vf c3
  rcases aa hb1 with ⟨q_7,hb1⟩|⟨q_7,hb1⟩
  ·cases hb1
   have hx1:gY a_r (.inr false)=some _:=hk1
   unfold gY at hx1
   dsimp only at hx1
   cases hx1
   exact af
  cases hb1
  refine bv ?_
  exact ⟨_,rfl,fm_ dL [] rfl bL cZ⟩
 cases hb1
 have hx1:gY a_r (.inl i_1)=some _:=hk1
 unfold gY at hx1
 dsimp only at hx1
 rcases aa hx1 with ⟨q_8,hx1⟩|⟨q_8,hx1⟩
 ·rcases aa hx1 with ⟨q_9,hx1⟩|⟨q_9,hx1⟩
  ·obtain ⟨r_10,c4,hx1⟩:=bd_ hx1
   replace c4:=UC c4
   cases hx1
   exact af
  cases hx1
  exact af
 cases hx1
 exact af
def lu (a_r:bI):Option (Bool):=bif (decide (((a_r.facts.length:Nat):Int)<=(16:Int))) then bif (decide (((a_r.kinds.length:Nat):Int)<=(48:Int))) then (Ma a_r).bind fun r_3=>some r_3 else
 some false else
 some false
theorem je {a_r:bI} {r:Bool} (H:lu a_r=some r):Pure Tryz.prog 12 [.agg (dW a_r)] (.val (.one (.bool r))):=by
 unfold lu at H
 refine po_ Tryz.func12 Tryz.ntmps12 ?_
 rcases aa H with ⟨q_1,H⟩|⟨q_1,H⟩
 ·rcases aa H with ⟨q_2,H⟩|⟨q_2,H⟩
  ·obtain ⟨r_3,c1,H⟩:=bd_ H
   replace c1:=UQ c1
   cases H
   exact af
  cases H
  exact af
 cases H
 exact af
def lI (a_l:(List Ex)) (a_kinds:(List Int)):Option (Bool):=bif (decide (((a_l.length:Nat):Int)=(0:Int))) then some false else
 bif (decide ((48:Int)<((a_l.length:Nat):Int))) then some false else
 (Dr a_l (200:Int)).bind fun r_3=>bif (!r_3) then some false else
 (lZ a_kinds a_l).bind fun r_5=>some (decide (r_5.2=(0:Int)))
theorem uV {a_l:(List Ex)} {a_kinds:(List Int)} {r:Bool} (H:lI a_l a_kinds=some r):Pure Tryz.prog 18 [.one (.lst (a_l.map tE)), .one (.lst (a_kinds.map (fun x=>[AC.int .i64 x])))] (.val (.one (.bool r))):=by
 unfold lI at H
 refine po_ Tryz.func18 Tryz.ntmps18 ?_
 rcases aa H with ⟨q_1,H⟩|⟨q_1,H⟩
 ·cases H
  exact af
 rcases aa H with ⟨q_2,H⟩|⟨q_2,H⟩
 ·cases H
  exact af
 obtain ⟨r_3,c1,H⟩:=bd_ H
 replace c1:=Lu c1
 rcases aa H with ⟨q_4,H⟩|⟨q_4,H⟩
 ·cases H
  exact af
 obtain ⟨r_5,c2,H⟩:=bd_ H
 replace c2:=wh c2
 cases H
 exact af
end
end Go.Proofs.YtfccopdbgfdcdaaGreatDoor
namespace Go.Proofs.YtfccopdbgfdcdaaGreatDoor.St
open Go.RowKit
theorem Asc.of_list {l:List (Int × Int)} (h:l.Pairwise fun x y=>x.1<y.1):Asc l:=by
 intro i j x y hij hx hy
 obtain ⟨hi,rfl⟩:=adI.1 hx
 obtain ⟨hj,rfl⟩:=adI.1 hy
 exact List.pairwise_iff_getElem.1 h i j hi hj hij
theorem dD : ∀ {l:List (Int × Int)} {p:Int × Int}, dZ p l=true->(p::l).Pairwise (fun x y=>x.1<y.1) /\ ∀ s∈l,s.1<1099511627776
 | [],p,_=>⟨by simp,by simp⟩
 | q::r,p,h=>by
  simp only [dZ,ad1] at h
  obtain ⟨h1,h2⟩:=dD (l:=r) (p:=q) h.2
  have hs:p.1<q.1/\q.1<1099511627776:=by have:=h.1;simp [xe] at this;omega
  refine ⟨aeC.2 ⟨fun y hy=>?_,h1⟩,fun s hs'=>?_⟩
  ·rcases adZ.1 hy with e|e
   ·subst e;exact hs.1
   ·have:=(aeC.1 h1).1 y e;omega
  ·rcases adZ.1 hs' with e|e
   ·subst e;exact hs.2
   ·exact h2 s e
theorem gN {l:List (Int × Int)} (h:dx l=true):Asc l/\(∀ s∈l,s.1<1099511627776)/\l≠[] /\ ∀ x,l[0]?=some x->x.1=0:=by
 match l,h with
 | p::r,h =>
  simp only [dx,ad1,beq_iff_eq] at h
  obtain ⟨h1,h2⟩:=dD h.2
  refine ⟨Asc.of_list h1,fun s hs=>?_,by simp,fun x hx=>?_⟩
  ·rcases adZ.1 hs with e|e
   ·subst e;omega
   ·exact h2 s e
  ·simp at hx;subst hx;exact h.1
def fE (z:Int) (l:List (Int × Int)) (t:Int):Int:=l.foldl (fun n s=>if s.1<=t then s.2 else n) z
theorem xG {l:List (Int × Int)} {t:Int} (h1:0<=t) (h2:t<1099511627776):u_ l t=fE 0 l t:=by unfold u_;rw [if_pos ⟨h1,h2⟩];rfl
theorem Zv {l:List (Int × Int)} {t:Int} (h : ¬ (0<=t/\t<1099511627776)):u_ l t=0:=by unfold u_;rw [if_neg h]
theorem bS (z:Int) (p:Int × Int) (l:List (Int × Int)) (t:Int):fE z (p::l) t=fE (if p.1<=t then p.2 else z) l t:=rfl
theorem fO {z:Int} {l:List (Int × Int)} {t:Int} (h : ∀ x∈l,t<x.1):fE z l t=z:=yw t l z h
theorem Gu (z:Int) (l:List (Int × Int)) (q:Int × Int) (t:Int):fE z (l++[q]) t=if q.1<=t then q.2 else fE z l t:=by unfold fE;rw [List.foldl_append];rfl
theorem NZ {u:List (Int × Int)} {x y:Int} {q:Int × Int} (hu:dx u=true) (hl:u.getLast?=some (x,y)) (h1:x<q.1) (h2:q.1<1099511627776) (h3:q.2≠y):dx (u++[q])=true:=by
 match u,hu with
 | p::r,hu =>
  simp only [dx,ad1,beq_iff_eq] at hu
  simp only [List.cons_append,dx,ad1,beq_iff_eq]
  refine ⟨hu.1,?_⟩
  have he:(p::r).getLast (by simp)=(x,y):=by
   rw [List.getLast?_eq_some_getLast (by simp)] at hl
   exact aee hl
  rw [yh,hu.2,he]
  unfold xe
  simp [h1,h2,h3]
theorem Vq {u:List (Int × Int)} (ha:Asc u) {x y t:Int} (hl:u.getLast?=some (x,y)) (ht:x<=t) (z:Int):fE z u t=y:=by
 have hne:u≠[]:=by intro e;subst e;simp at hl
 have hu:u=u.dropLast++[(x,y)]:=by
  have h1:=List.dropLast_concat_getLast hne
  rw [List.getLast?_eq_some_getLast hne] at hl
  rw [<- aee hl];exact h1.symm
 rw [hu,Gu,if_pos ht]
theorem Zu {u:List (Int × Int)} (ha:Asc u) {x y p v:Int} (hl:u.getLast?=some (x,y)) (hp:x<p) (z t:Int):fE z (fe u (p,v)) t=if p<=t then v else fE z u t:=by
 unfold fe
 rw [hl]
 simp only [Option.map_some,Option.some.injEq]
 by_cases e:y=v
 ·rw [if_pos e]
  split
  ·rw [Vq ha hl (by omega),e]
  ·rfl
 ·rw [if_neg e,Gu]
theorem VC {u:List (Int × Int)} {x y p v:Int} (hu:dx u=true) (hl:u.getLast?=some (x,y)) (hp:x<p) (hF:p<1099511627776):dx (fe u (p,v))=true /\ ∃ x' y',(fe u (p,v)).getLast?=some (x',y')/\x'<=p:=by
 unfold fe
 rw [hl]
 simp only [Option.map_some,Option.some.injEq]
 by_cases e:y=v
 ·rw [if_pos e];exact ⟨hu,x,y,hl,by omega⟩
 ·rw [if_neg e];exact ⟨NZ hu hl hp hF (fun h=>e h.symm),p,v,by simp,Int.le_refl _⟩
theorem Gs (f:Int->Int) : ∀ (P:List Int) (u:List (Int × Int)) (x y:Int),dx u=true->u.getLast?=some (x,y)->(∀ p∈P,x<p/\p<1099511627776)->dG P ->
  dx (P.foldl (fun acc p=>fe acc (p,f p)) u)=true /\ ∀ z t,fE z (P.foldl (fun acc p=>fe acc (p,f p)) u) t=fE (fE z u t) (P.map fun p=>(p,f p)) t
 | [],u,x,y,hu,hl,_,_=>⟨hu,fun z t=>rfl⟩
 | p::P,u,x,y,hu,hl,hP,hA=>by
  obtain ⟨h1,h2⟩:=hP p (by simp)
  obtain ⟨g1,x',y',g2,g3⟩:=VC (v:=f p) hu hl h1 h2
  obtain ⟨k1,k2⟩:=Gs f P (fe u (p,f p)) x' y' g1 g2 (fun q hq=>⟨by have:=hA.head q hq;omega,(hP q (by simp [hq])).2⟩) hA.tail
  refine ⟨k1,fun z t=>?_⟩
  rw [aew,k2,Zu (gN hu).1 hl h1,adT,bS]
theorem Df (f:Int->Int) {P:List Int} (hA:dG P) (h0:P.head?=some 0) (hF : ∀ p∈P,p<1099511627776):dx (di f P)=true /\ ∀ z t,fE z (di f P) t=fE z (P.map fun p=>(p,f p)) t:=by
 match P,h0 with
 | p::P,h0 =>
  simp at h0
  subst h0
  have h1:=Gs f P [(0,f 0)] 0 (f 0) rfl rfl (fun q hq=>⟨hA.head q hq,hF q (by simp [hq])⟩) hA.tail
  have h2:di f (0::P)=P.foldl (fun acc p=>fe acc (p,f p)) [(0,f 0)]:=rfl
  rw [h2]
  refine ⟨h1.1,fun z t=>?_⟩
  rw [h1.2,adT,bS]
  rfl
def Wn (g:Int->Int) (P:List Int):Prop := ∀ t p,0<=t->t<1099511627776->p∈P->p<=t->(∀ q∈P,q<=t->q<=p)->g t=g p
theorem Km (g:Int->Int) : ∀ (P:List Int) (z t:Int),dG P->(∃ p∈P,p<=t) -> ∃ p∈P,p<=t/\(∀ q∈P,q<=t->q<=p)/\fE z (P.map fun p=>(p,g p)) t=g p
 | [],z,t,_,⟨p,hp,_⟩=>by simp at hp
 | a::P,z,t,hA,⟨p,hp,hpt⟩=>by
  have hat:a<=t:=by
   rcases adZ.1 hp with e|e
   ·omega
   ·have:=hA.head p e;omega
  rw [adT,bS,if_pos hat]
  by_cases h : ∃ q∈P,q<=t
  ·obtain ⟨q,h1,h2,h3,h4⟩:=Km g P (g a) t hA.tail h
   refine ⟨q,by simp [h1],h2,fun r hr hrt=>?_,h4⟩
   rcases adZ.1 hr with e|e
   ·have:=hA.head q h1;omega
   ·exact h3 r e hrt
  ·refine ⟨a,by simp,hat,fun r hr hrt=>?_,?_⟩
   ·rcases adZ.1 hr with e|e
    ·omega
    ·exact absurd ⟨r,e,hrt⟩ h
   ·refine fO fun x hx=>?_
    obtain ⟨q,hq,e⟩:=aeh.1 hx
    subst e
    exact Int.not_le.1 fun hh=>h ⟨q,hq,hh⟩
theorem Ox (g:Int->Int) {P:List Int} (hA:dG P) (h0:P.head?=some 0) (hF : ∀ p∈P,p<1099511627776) (hC:Wn g P) {t:Int} (t1:0<=t) (t2:t<1099511627776):u_ (di g P) t=g t:=by
 rw [xG t1 t2,(Df g hA h0 hF).2]
 have h0m:(0:Int)∈P:=List.mem_of_mem_head? h0
 obtain ⟨p,h1,h2,h3,h4⟩:=Km g P 0 t hA ⟨0,h0m,t1⟩
 rw [h4,hC t p t1 t2 h1 h2 h3]
theorem K3 {P:List Int} (hA:dG P) (h0:(0:Int)∈P) (hp : ∀ p∈P,0<=p):P.head?=some 0:=by
 match P,h0 with
 | a::P,h0 =>
  have ha:=hp a (by simp)
  rcases adZ.1 h0 with e|e
  ·rw [<- e];rfl
  ·have:=hA.head 0 e;omega
theorem rH {l:List (Int × Int)} (h:dx l=true) : ∀ s∈l,0<=s.1:=by
 obtain ⟨h1,_,h3,h4⟩:=gN h
 intro s hs
 obtain ⟨i,hi,e⟩:=List.mem_iff_getElem.1 hs
 have hpos:0<l.length:=by omega
 have h0:=h4 l[0] (adR hpos)
 by_cases e0:i=0
 ·subst e0;rw [<- e];omega
 ·have:=h1 0 i _ _ (by omega) (adR hpos) (adR hi)
  rw [e] at this;omega
theorem of_ok (l:List ((Int × Int) × Int)):dx (di (nk l) (gm l))=true /\ ∀ t,0<=t->t<1099511627776->u_ (di (nk l) (gm l)) t=nk l t:=by
 obtain ⟨h1,h2⟩:=iw l
 have hnn : ∀ p∈gm l,0<=p:=by
  intro p hp
  rcases ((h2 p).1 hp).1 with e|⟨y,hy⟩
  ·omega
  ·exact (Dc (p,y) hy).1
 have h0:(gm l).head?=some 0:=K3 h1 ((h2 0).2 ⟨.inl rfl,by omega⟩) hnn
 have hF : ∀ p∈gm l,p<1099511627776:=fun p hp=>((h2 p).1 hp).2
 have hC:Wn (nk l) (gm l):=by
  intro t p t1 t2 hp hpt hmax
  rw [vg,vg]
  congr 1
  unfold ry
  congr 1
  refine List.map_congr_left fun c hc=>?_
  have hiff:aV c.1 t=aV c.1 p:=by
   unfold aV
   by_cases hv:aH c.1=true
   ·have hm : ∀ q,q=c.1.1\/q=c.1.2->q<=t->q<=p:=by
     intro q hq hqt
     refine hmax q ((h2 q).2 ⟨.inr ?_,by omega⟩) hqt
     rcases hq with e|e
     ·exact ⟨c.2,List.mem_flatMap.2 ⟨c,hc,by unfold mZ;rw [if_pos hv];simp [e]⟩⟩
     ·exact ⟨wrap64 (-c.2),List.mem_flatMap.2 ⟨c,hc,by unfold mZ;rw [if_pos hv];simp [e]⟩⟩
    have m1:=hm c.1.1 (.inl rfl)
    have m2:=hm c.1.2 (.inr rfl)
    rw [hv,aef,aef,Bool.eq_iff_iff]
    simp only [ad1,decide_eq_true_eq]
    constructor
    ·rintro ⟨u1,u2⟩;exact ⟨m1 u1,by omega⟩
    ·rintro ⟨u1,u2⟩
     refine ⟨by omega,Int.not_le.1 fun hh=>?_⟩
     have:=m2 hh;omega
   ·have:aH c.1=false:=by simpa using hv
    rw [this];simp
  rw [hiff]
 exact ⟨(Df _ h1 h0 hF).1,fun t t1 t2=>Ox _ h1 h0 hF hC t1 t2⟩
def cnt (X:List (Int × Int)) (t:Int):Int:=(X.map fun p=>if aV p t then (1:Int) else 0).sum
theorem uk (X Y:List (Int × Int)) (t:Int):cnt (X++Y) t=cnt X t+cnt Y t:=by simp [cnt]
theorem NF {a b t:Int} (h0:0<=a) (h1:a<b) (h2:b<=1099511627776):cnt [(a,b)] t=if a<=t/\t<b then 1 else 0:=by
 have hv:aH (a,b)=true:=by simp [aH];omega
 simp [cnt,aV,hv]
theorem IP (n t v:Int) (out:List (Int × Int)) {a b:Int} (h0:0<=a) (h1:a<b) (h2:b<=1099511627776) (hout : ∀ q∈out,aH q=true/\q.2<=a) :
  (∀ q∈dF n out ((a,b),v),aH q=true/\q.2<=b)/\cnt (dF n out ((a,b),v)) t=cnt out t+(if n<=v/\a<=t/\t<b then 1 else 0):=by
 have hv:aH (a,b)=true:=by simp [aH];omega
 have happ:(∀ q∈out++[(a,b)],aH q=true/\q.2<=b)/\cnt (out++[(a,b)]) t=cnt out t+(if a<=t/\t<b then 1 else 0):=by
  refine ⟨fun q hq=>?_,by rw [uk,NF h0 h1 h2]⟩
  rcases ad'.1 hq with e|e
  ·have:=hout q e;exact ⟨this.1,by omega⟩
  ·simp at e;subst e;exact ⟨hv,Int.le_refl _⟩
 unfold dF
 by_cases hn:n<=v
 ·rw [if_pos hn]
  simp only [hn,true_and]
  unfold iE
  split
  ·rename_i q hq
   split
   ·rename_i hle
    have hmem:q∈out:=List.mem_of_getLast? hq
    obtain ⟨hq1,hq2⟩:=hout q hmem
    have hle':a<=q.2:=hle
    have hqe:q.2=a:=by omega
    have hsp:out=out.dropLast++[q]:=by
     have hne:out≠[]:=by intro e;rw [e] at hmem;simp at hmem
     rw [List.getLast?_eq_some_getLast hne] at hq
     injection hq with hq
     rw [<- hq];exact (List.dropLast_concat_getLast hne).symm
    have hqv:0<=q.1/\q.1<q.2/\q.2<=1099511627776:=by simp [aH] at hq1;omega
    have hm:max q.2 b=b:=by omega
    show (∀ x∈out.dropLast++[(q.1,max q.2 b)],aH x=true/\x.2<=b)/\cnt (out.dropLast++[(q.1,max q.2 b)]) t=_
    rw [hm]
    refine ⟨fun x hx=>?_,?_⟩
    ·rcases ad'.1 hx with e|e
     ·have:=hout x (List.dropLast_subset _ e);exact ⟨this.1,by omega⟩
     ·simp at e;subst e;exact ⟨by simp [aH];omega,Int.le_refl _⟩
    ·have e1:cnt out t=cnt out.dropLast t+cnt [(q.1,q.2)] t:=by rw [<- uk];exact congrArg (cnt · t) hsp
     rw [e1,uk,NF hqv.1 (by omega) h2,NF hqv.1 hqv.2.1 hqv.2.2]
     split<;>split<;>split<;>omega
   ·exact happ
  ·exact happ
 ·rw [if_neg hn]
  refine ⟨fun q hq=>?_,by simp [hn]⟩
  have:=hout q hq;exact ⟨this.1,by omega⟩
theorem Ps (n t:Int) (ht:t<1099511627776) : ∀ (r:List (Int × Int)) (x:Int × Int) (out:List (Int × Int)),0<=x.1->(x::r).Pairwise (fun p q=>p.1<q.1)->(∀ s∈x::r,s.1<1099511627776)->(∀ q∈out,aH q=true/\q.2<=x.1) ->
  cnt ((qf (x::r)).foldl (dF n) out) t=cnt out t+(if x.1<=t/\n<=fE x.2 r t then 1 else 0)
 | [],x,out,h0,_,hM,hout=>by
  have:=(IP n t x.2 out h0 (hM x (by simp)) (Int.le_refl _) hout).2
  simp only [qf,aew,List.foldl_nil,this]
  have e:fE x.2 [] t=x.2:=rfl
  rw [e]
  split<;>split<;>omega
 | y::r,x,out,h0,hp,hM,hout=>by
  have hxy:x.1<y.1:=(aeC.1 hp).1 y (by simp)
  have hy:=(aeC.1 hp).2
  obtain ⟨h1,h2⟩:=IP n t x.2 out h0 hxy (by have:=hM y (by simp);omega) hout
  have ih:=Ps n t ht r y _ (by omega) hy (fun s hs=>hM s (ad7 _ hs)) h1
  have e:qf (x::y::r)=((x.1,y.1),x.2)::qf (y::r):=rfl
  rw [e,aew,ih,h2,bS]
  by_cases hyt:y.1<=t
  ·rw [if_pos hyt]
   split<;>split<;>split<;>omega
  ·rw [if_neg hyt]
   have e2:fE x.2 r t=x.2:=fO fun q hq=>by have:=(aeC.1 hy).1 q hq;omega
   rw [e2]
   split<;>split<;>split<;>omega
theorem Zj {l:List (Int × Int)} (h:dx l=true) (n t:Int) (h1:0<=t) (h2:t<1099511627776):cnt (Fh l n) t=if n<=u_ l t then 1 else 0:=by
 match l,h with
 | p::r,h =>
  have ha:=gN h
  have hp0:p.1=0:=ha.2.2.2 p rfl
  simp only [dx,ad1] at h
  have hv:=dD h.2
  have:=Ps n t h2 r p [] (by omega) hv.1 ha.2.1 (by simp)
  unfold Fh
  rw [this,xG h1 h2,bS,if_pos (show p.1<=t by omega)]
  have e:cnt [] t=0:=rfl
  rw [e]
  simp [hp0,h1]
theorem KR {l:List (Int × Int)} (h:dx l=true) (t:Int) (h1:0<=t) (h2:t<1099511627776) (h3:0<=u_ l t) : ∀ k:Nat,cnt (jV l k) t=if (k:Int)<=u_ l t then (k:Int) else u_ l t
 | 0=>by
  have e:cnt (jV l 0) t=0:=rfl
  rw [e];split<;>omega
 | k+1=>by
  rw [uN,uk,KR h t h1 h2 h3 k,Zj h _ t h1 h2]
  split<;>split<;>split<;>omega
theorem WZ {a b:List (Int × Int)} (h:a.Perm b) (t:Int):cnt a t=cnt b t:=by
 unfold cnt
 induction h with
 | nil=>rfl
 | cons x _ ih=>simp only [adT,List.sum_cons,ih]
 | swap x y l=>simp only [adT,List.sum_cons];omega
 | trans _ _ ih1 ih2=>exact ih1.trans ih2
theorem Pj {l:List (Int × Int)} (h:dx l=true) (t:Int) (h1:0<=t) (h2:t<1099511627776) (h3:0<=u_ l t) (h4:u_ l t<=600):cnt (tC l) t=u_ l t:=by
 have hp:(tC l).Perm (jV l 600):=by
  have h0:=(oo (j_ l) [] .nil).2
  rw [adN] at h0
  have e:j_ l=jV l 600:=by unfold j_ jV;rfl
  rw [<- e];exact h0
 rw [WZ hp,KR h t h1 h2 h3]
 split<;>omega
def El (X:List (Int × Int)):List ((Int × Int) × Int):=X.map fun p=>(p,1)
theorem ul (X:List (Int × Int)) (t:Int):ry (El X) t=cnt X t:=by
 unfold ry El cnt;rw [List.map_map];rfl
end Go.Proofs.YtfccopdbgfdcdaaGreatDoor.St
