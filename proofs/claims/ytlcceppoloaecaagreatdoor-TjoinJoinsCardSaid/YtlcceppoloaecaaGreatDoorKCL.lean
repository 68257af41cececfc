/- Parts of the proof, joined. No condition. -/
import Derived.Test.YtlcceppoloaecaaGreatDoorKAA
import Derived.Test.YtlcceppoloaecaaGreatDoorKCK
import Derived.Test.YtlcceppoloaecaaGreatDoorKCI
import Derived.Test.YtlcceppoloaecaaGreatDoorKCE
import Derived.Test.YtlcceppoloaecaaGreatDoorKBW
set_option linter.unusedSimpArgs false
set_option linter.unusedVariables false
namespace Go.Proofs.YtlcceppoloaecaaGreatDoor
open Go.RowKit Go.MapKept
set_option maxRecDepth 100000
structure KS (a b:bH) (e:Ex):Prop where
 A:Wt a
 B:Wt b
 la:a.facts.length<=12
 lb:b.facts.length<=12
 ka:0<a.kinds.length
 kb:0<b.kinds.length
 kab:a.kinds.length+b.kinds.length<=48
 he:lF fuel e
 chk:Db e (a.kinds++b.kinds)=some 0
theorem PT (r:bH) : ∀ (n:Nat) (i:Int) (q:Bool),az (jy r) n i=some (.inr q)->q=false
 | 0,i,q,h=>by cases h
 | n+1,i,q,h=>by
  rw [az] at h
  cases hb:jy r i with
  | none=>rw [hb] at h;cases h
  | some s =>
   rw [hb] at h
   cases s with
   | next j=>exact PT r n j q h
   | exit j=>cases h
   | ret q' =>
    obtain rfl:q'=q:=by injection h with h;injection h
    unfold jy at hb
    dsimp only at hb
    cases h1:decide (i<((r.facts.length:Nat):Int)) with
    | false=>rw [h1] at hb;cases hb
    | true =>
     rw [h1,ap2] at hb
     obtain ⟨x,_,hb⟩:=bd_ hb
     obtain ⟨v,_,hb⟩:=bd_ hb
     cases v with
     | false=>cases hb;rfl
     | true =>
      obtain ⟨w,_,hb⟩:=bd_ hb
      cases w with
      | false=>cases hb;rfl
      | true=>cases hb
theorem N9 {r:bH} (h:EW r=some true):0<r.kinds.length:=by
 unfold EW at h
 obtain ⟨s,h1,h2⟩:=bd_ h
 cases s with
 | inr q =>
  have:=PT r fuel 0 q h1
  subst this
  cases h2
 | inl i =>
  unfold iE at h2
  dsimp only at h2
  by_cases hk:0<r.kinds.length
  ·exact hk
  ·rw [ap3 (show ¬ (0:Int)<((r.kinds.length:Nat):Int) by omega)] at h2;cases h2
theorem YW {a b:bH} (h:a.kinds.length+b.kinds.length<=1000000):BK a b=some (a.kinds++b.kinds):=by
 unfold BK uB
 rw [ap4 (show a.kinds.length<=17592186044416 by omega),ap4 (show a.kinds.length+b.kinds.length<=17592186044416 by omega)];rfl
theorem qE (a b:bH) (e:Ex) : ∃ c,nO a b e=some c/\(c=true->KS a b e):=by
 unfold nO
 by_cases h1 : ¬ (a.facts.length<=12)
 ·rw [ap4 (show (12:Int)<((a.facts.length:Nat):Int) by omega)];exact ⟨false,rfl,fun h=>by cases h⟩
 have h1:=Decidable.not_not.1 h1
 rw [ap3 (show ¬ (12:Int)<((a.facts.length:Nat):Int) by omega),ap1]
 by_cases h2 : ¬ (b.facts.length<=12)
 ·rw [ap4 (show (12:Int)<((b.facts.length:Nat):Int) by omega)];exact ⟨false,rfl,fun h=>by cases h⟩
 have h2:=Decidable.not_not.1 h2
 rw [ap3 (show ¬ (12:Int)<((b.facts.length:Nat):Int) by omega),ap1]
 by_cases h3 : ¬ (a.kinds.length<=48)
 ·rw [ap4 (show (48:Int)<((a.kinds.length:Nat):Int) by omega)];exact ⟨false,rfl,fun h=>by cases h⟩
 have h3:=Decidable.not_not.1 h3
 rw [ap3 (show ¬ (48:Int)<((a.kinds.length:Nat):Int) by omega),ap1]
 by_cases h4 : ¬ (b.kinds.length<=48)
 ·rw [ap4 (show (48:Int)<((b.kinds.length:Nat):Int) by omega)];exact ⟨false,rfl,fun h=>by cases h⟩
 have h4:=Decidable.not_not.1 h4
 rw [ap3 (show ¬ (48:Int)<((b.kinds.length:Nat):Int) by omega),ap1,show IntKind.i64.wrap (((a.kinds.length:Nat):Int)+((b.kinds.length:Nat):Int))=((a.kinds.length:Nat):Int)+((b.kinds.length:Nat):Int) from bF rfl (by omega)]
 by_cases h5 : ¬ (a.kinds.length+b.kinds.length<=48)
 ·rw [ap4 (show (48:Int)<((a.kinds.length:Nat):Int)+((b.kinds.length:Nat):Int) by omega)];exact ⟨false,rfl,fun h=>by cases h⟩
 have h5:=Decidable.not_not.1 h5
 rw [ap3 (show ¬ (48:Int)<((a.kinds.length:Nat):Int)+((b.kinds.length:Nat):Int) by omega),ap1]
 obtain ⟨u,hu,hu2⟩:=M7 (r:=a) (by omega) h3
 obtain ⟨v,hv,hv2⟩:=M7 (r:=b) (by omega) h4
 rw [hu,apZ]
 cases u with
 | false=>exact ⟨false,rfl,fun h=>by cases h⟩
 | true =>
  rw [ap2,hv,apZ]
  cases v with
  | false=>exact ⟨false,rfl,fun h=>by cases h⟩
  | true =>
   obtain ⟨w,hw,hw2⟩:=adn [e]
   rw [ap2,hw,apZ]
   cases w with
   | false=>exact ⟨false,rfl,fun h=>by cases h⟩
   | true =>
    have he:=aeY ((hw2 rfl).2 e (by simp))
    obtain ⟨n,hn⟩:=ZR (a.kinds++b.kinds) he
    rw [ap2,YW (by omega),apZ,hn,apZ]
    refine ⟨_,rfl,fun h=>?_⟩
    have h0:=aqs h
    subst h0
    exact ⟨⟨by omega,h3,(hu2 rfl).1,(hu2 rfl).2.1,(hu2 rfl).2.2⟩,⟨by omega,h4,(hv2 rfl).1,(hv2 rfl).2.1,(hv2 rfl).2.2⟩,h1,h2,N9 hu,N9 hv,h5,he,hn⟩
section
variable {a b:bH} {e:Ex}
theorem KS.part (h:KS a b e):IC a b e:=by
 have:=h.ka;have:=h.kb;have:=h.kab;have:=h.lb
 exact ⟨h.la,by omega,fun f hf=>by rw [h.A.row f hf];omega,fun f hf=>by rw [h.B.row f hf];omega,h.A.per,h.he,by omega,by omega⟩
theorem KS.left (h:KS a b e):agO a b e:=⟨h.part,⟨h.kb,h.B.kinds⟩,h.lb⟩
theorem an':VOK dH:=⟨⟨by show (-9223372036854775808:Int)<=0;omega,by show (0:Int)<=9223372036854775807;omega⟩,⟨by show (-9223372036854775808:Int)<=0;omega,by show (0:Int)<=9223372036854775807;omega⟩,aqj _⟩
theorem kX (h:KS a b e):bU (Ce e a.facts b.facts):=by
 refine ⟨by have:=zK e h.la h.lb;omega,fun f hf=>?_⟩
 obtain ⟨x,hx,y,hy,hr⟩:=ai8 hf
 have h1:=h.A.fcts.2 x hx
 have h2:=h.B.fcts.2 y hy
 have:=h.A.row x hx;have:=h.B.row y hy;have:=h.kab
 rw [hr]
 refine ⟨by rw [ap8];omega,fun v hv=>?_⟩
 rcases aqr.1 hv with hv|hv
 ·exact h1.2 v hv
 ·exact h2.2 v hv
theorem CK (h:KS a b e) {n:Nat} (hn:n<=48):bU (qz e n a.facts b.facts):=by
 refine ⟨by have:=y9 e n h.la h.lb h.A.per;omega,fun f hf=>?_⟩
 obtain ⟨x,hx,hr⟩:=abU hf
 have h1:=h.A.fcts.2 x hx
 have:=h.A.row x hx;have:=h.kab
 rw [hr]
 refine ⟨by rw [ap8,List.length_replicate];omega,fun v hv=>?_⟩
 rcases aqr.1 hv with hv|hv
 ·exact h1.2 v hv
 ·rw [List.eq_of_mem_replicate hv];exact an'
theorem rD (h:KS a b e):bU (Ce e a.facts b.facts++qz e b.kinds.length a.facts b.facts):=by
 have h1:=kX h
 have h2:=CK (n:=b.kinds.length) h h.B.kinds
 refine ⟨?_,fun f hf=>(aqr.1 hf).elim (h1.2 f) (h2.2 f)⟩
 have:=zK e h.la h.lb;have:=y9 e b.kinds.length h.la h.lb h.A.per
 rw [ap8];omega
theorem YB (h:KS a b e):bU (canon (Ce e a.facts b.facts)++qz e b.kinds.length a.facts b.facts):=by
 have h1:=cB (kX h)
 have h2:=CK (n:=b.kinds.length) h h.B.kinds
 refine ⟨?_,fun f hf=>(aqr.1 hf).elim (h1.2 f) (h2.2 f)⟩
 have:=zK e h.la h.lb;have:=y9 e b.kinds.length h.la h.lb h.A.per
 have:=oD (kX h).1
 rw [ap8];omega
theorem aba (h:KS a b e):canon (canon (Ce e a.facts b.facts)++qz e b.kinds.length a.facts b.facts)=canon (Ce e a.facts b.facts++qz e b.kinds.length a.facts b.facts):=by
 refine Cg (YB h).1 (rD h).1 fun t=>?_
 rw [fB,fB]
 exact List.Perm.append_right _ (pF (kX h).1 t)
theorem JR (h:KS a b e):yn a b e=some ⟨a.kinds++b.kinds,canon (Ce e a.facts b.facts)⟩:=by
 unfold yn
 rw [if_pos h.part,sj (kX h)];rfl
theorem Je (h:KS a b e):Fb a b e=some ⟨a.kinds++b.kinds,canon (Ce e a.facts b.facts++qz e b.kinds.length a.facts b.facts)⟩:=by
 unfold Fb
 rw [if_pos h.left,sj (kX h),apZ,if_pos (by have:=oD (kX h).1;have:=zK e h.la h.lb;omega),sj (YB h),aba h];rfl
end
end Go.Proofs.YtlcceppoloaecaaGreatDoor
