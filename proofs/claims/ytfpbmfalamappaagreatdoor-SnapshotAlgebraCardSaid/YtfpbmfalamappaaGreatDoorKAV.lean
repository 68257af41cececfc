/- Parts of the proof, joined. No condition. -/
import Derived.Test.YtfpbmfalamappaaGreatDoorKAA
import Derived.Test.YtfpbmfalamappaaGreatDoorKAT
import Derived.Test.YtfpbmfalamappaaGreatDoorKAU
set_option linter.unusedSimpArgs false
set_option linter.unusedVariables false
namespace Go.Proofs.YtfpbmfalamappaaGreatDoor
open Go.RowKit Go.MapKept
set_option maxRecDepth 100000
theorem CZ (e:Ex) (m:Int) (hm:1<=m/\m<=1000) (rec:Ex->Int->Option Int)
  (hrec : ∀ x∈e.args, ∀ k:Int,1<=k->k<m -> ∃ r,rec x k=some r/\1<=r/\r<=k/\(r<k->gY r.toNat x)) :
  ∀ (N i:Nat) (c:Int),1<=c->c<=m->i<=e.args.length->(m-c).toNat<N->(i:Int)<=c ->
   ∃ r j,ax (eT e m rec) N (c,(i:Int))=some (.inl (r,j))/\c<=r/\r<=m/\(r<m->((e.args.length-i:Nat):Int)<=r-c /\ ∀ x∈e.args.drop i,gY (r-c).toNat x)
 | 0,i,c,_,_,_,h,_=>by omega
 | N+1,i,c,h1,h2,hi,hN,hic=>by
  rw [ax]
  by_cases hlt:i<e.args.length
  ·obtain ⟨x,hx⟩:=gol_ hlt
   have hmem:=abe hx
   by_cases hc:c<m
   ·obtain ⟨w,hw,w1,w2,w3⟩:=hrec x hmem (m-c) (by omega) (by omega)
    have hb:eT e m rec (c,(i:Int))=some (.next (c+w,((i+1:Nat):Int))):=by
     unfold eT
     dsimp only
     rw [aY hx,aa',abb hc,aa',gn_ hx,aa8,bJ (by omega),hw,aa8,bJ (by omega),wrapN (by omega)]
    rw [hb]
    obtain ⟨r,j,e1,e2,e3,e4⟩:=CZ e m hm rec hrec N (i+1) (c+w) (by omega) (by omega) (by omega) (by omega) (by omega)
    refine ⟨r,j,e1,by omega,e3,fun hr=>?_⟩
    obtain ⟨f1,f2⟩:=e4 hr
    refine ⟨by omega,fun y hy=>?_⟩
    rw [abG hlt,(aa9.1 hx).2] at hy
    rcases abq.1 hy with rfl|hy
    ·exact rV (by omega) (w3 (by omega))
    ·exact rV (by omega) (f2 y hy)
   ·have hb:eT e m rec (c,(i:Int))=some (.exit (c,(i:Int))):=by
     unfold eT
     dsimp only
     rw [aY hx,aa',aba hc,aa_]
    rw [hb]
    exact ⟨c,_,rfl,Int.le_refl _,h2,fun hr=>absurd hr hc⟩
  ·have:i=e.args.length:=by omega
   subst this
   have hb:eT e m rec (c,((e.args.length:Nat):Int))=some (.exit (c,((e.args.length:Nat):Int))):=by
    unfold eT
    dsimp only
    rw [lF_,aa_]
   rw [hb]
   refine ⟨c,_,rfl,Int.le_refl _,h2,fun hr=>⟨by omega,fun y hy=>?_⟩⟩
   rw [ab1] at hy
   cases hy
theorem Jc : ∀ (n:Nat) (e:Ex) (m:Int),1<=m->m<=1000->m<=(n:Int) -> ∃ r,pK n e m=some r/\1<=r/\r<=m/\(r<m->gY r.toNat e/\((e.args.length:Nat):Int)<r /\ ∀ x∈e.args,gY (r-1).toNat x)
 | 0,e,m,h1,_,h3=>by omega
 | n+1,e,m,h1,h2,h3=>by
  have hrec : ∀ x∈e.args, ∀ k:Int,1<=k->k<m -> ∃ r,pK n x k=some r/\1<=r/\r<=k/\(r<k->gY r.toNat x):=by
   intro x _ k k1 k2
   obtain ⟨r,e1,e2,e3,e4⟩:=Jc n x k k1 (by omega) (by omega)
   exact ⟨r,e1,e2,e3,fun h=>(e4 h).1⟩
  obtain ⟨r,j,e1,e2,e3,e4⟩:=CZ e m ⟨h1,h2⟩ (pK n) hrec fuel 0 1 (Int.le_refl _) h1 (abv _) (by unfold fuel;omega) (by omega)
  refine ⟨r,?_,e2,e3,fun hr=>?_⟩
  ·show vR (pK n) e m=_
   unfold vR
   rw [show ((0:Nat):Int)=0 from rfl] at e1
   rw [e1];rfl
  ·obtain ⟨f1,f2⟩:=e4 hr
   rw [List.drop_zero] at f2
   refine ⟨?_,by omega,f2⟩
   obtain ⟨k,hk⟩ : ∃ k,r.toNat=k+1:=⟨r.toNat-1,by omega⟩
   rw [hk]
   refine ⟨by omega,fun x hx=>?_⟩
   have:=f2 x hx
   rwa [show (r-1).toNat=k by omega] at this
theorem R_ (l:List Ex) : ∃ b,Gq l 200=some b/\(b=true->l.length<=200 /\ ∀ e∈l,gY 200 e):=by
 obtain ⟨r,e1,e2,e3,e4⟩:=Jc fuel (Ex.mk 0 0 ⟨0,0,ByteArray.empty⟩ ByteArray.empty l) 202 (by omega) (by omega) (by unfold fuel;omega)
 refine ⟨decide (r<=201),?_,fun h=>?_⟩
 ·unfold Gq
  rw [bJ (by omega),bJ (by omega)]
  show (pK fuel (Ex.mk 0 0 ⟨0,0,ByteArray.empty⟩ ByteArray.empty l) 202).bind _=_
  rw [e1];rfl
 ·have:=abD h
  obtain ⟨_,f1,f2⟩:=e4 (by omega)
  exact ⟨by have:((l.length:Nat):Int)<r:=f1;omega,fun e he=>rV (by omega) (f2 e he)⟩
theorem Rz {e:Ex} (h:gY 200 e):gY fuel e:=rV (by unfold fuel;omega) h
end Go.Proofs.YtfpbmfalamappaaGreatDoor
