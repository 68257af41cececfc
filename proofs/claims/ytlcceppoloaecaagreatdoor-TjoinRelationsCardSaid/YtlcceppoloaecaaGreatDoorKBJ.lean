/- Parts of the proof, joined. No condition. -/
import Derived.Test.YtlcceppoloaecaaGreatDoorKAA
import Derived.Test.YtlcceppoloaecaaGreatDoorKAH
import Derived.Test.YtlcceppoloaecaaGreatDoorKBF
set_option linter.unusedSimpArgs false
set_option linter.unusedVariables false
namespace Go.Proofs.YtlcceppoloaecaaGreatDoor.Aw
open Go.RowKit Go.MapKept
def Co:List (List AC)->Option (List Stp)
 | []=>some []
 | [.int .i64 a, .int .i64 b]::l=>match Co l with
  | some r=>some (⟨a,b⟩::r)
  | none=>none
 | _=>none
theorem zt : ∀ {es:List (List AC)} {l:List Stp}, Co es=some l->es=l.map xQ
 | [],l,h=>by cases h;rfl
 | e::es,l,h=>by
  unfold Co at h
  split at h
  ·rename_i hq;cases hq
  ·rename_i a b es' heq
   obtain ⟨rfl,rfl⟩:=List.cons.inj heq
   split at h
   ·rename_i r hr
    cases h
    rw [Vn, <- zt hr];rfl
   ·cases h
  ·cases h
def Gf:List Stp->Bool
 | []=>true
 | x::l=>(l.all fun y=>decide (x.lo<y.lo))&&Gf l
def FT (l:List Stp):Bool:=decide (l.length<=1000)&&(Gf l&&l.all fun s=>decide (s.lo<1099511627776)&&decide (s.n<=600))
theorem Dt : ∀ {l:List Stp}, Gf l=true->l.Pairwise fun x y=>x.lo<y.lo
 | [],_=>List.Pairwise.nil
 | x::l,h=>by
  unfold Gf at h
  rw [Vu,VW] at h
  exact List.pairwise_cons.2 ⟨fun y hy=>VF (h.1 y hy),Dt h.2⟩
theorem LY {l:List Stp} (h:FT l=true):Kq l:=by
 unfold FT at h
 rw [Vu,Vu,VW] at h
 obtain ⟨h1,h2,h3⟩:=h
 refine ⟨VF h1,?_,fun s hs=>?_,fun s hs=>?_⟩
 ·intro i j x y hij hx hy
  rw [Vz] at hx hy
  obtain ⟨a,ha,rfl⟩:=Option.map_eq_some_iff.1 hx
  obtain ⟨b,hb,rfl⟩:=Option.map_eq_some_iff.1 hy
  obtain ⟨hi,ea⟩:=Vb.1 ha
  obtain ⟨hj,eb⟩:=Vb.1 hb
  have:=List.pairwise_iff_getElem.1 (Dt h2) i j hi hj hij
  rw [ea,eb] at this
  exact this
 ·have:=h3 s hs;rw [Vu] at this;exact VF this.1
 ·have:=h3 s hs;rw [Vu] at this;exact VF this.2
def Qf:FuncId->List PV->Option CV:=fun g ps=>match Nat.beq g 147,ps with
 | true,[.one (.lst es)]=>match Co es with
  | some l=>match FT l with
   | true=>some (.val (.one (.lst ((Ke l).map gm))))
   | false=>none
  | none=>none
 | _,_=>none
theorem Nz (g:FuncId) (ps:List PV) (r:CV) (h:Qf g ps=some r):Pure Tryz.prog g ps r:=by
 unfold Qf at h
 split at h
 ·rename_i es hg
  split at h
  ·rename_i l hl
   split at h
   ·rename_i hb
    cases h
    rw [Nat.eq_of_beq_eq_true hg,zt hl]
    exact Kt l (LY hb)
   ·cases h
  ·cases h
 ·cases h
def yC:List (List AC)->Option (List Val)
 | []=>some []
 | [.int .i64 a, .int .i64 b, .str s]::l=>match yC l with
  | some r=>some (⟨a,b,s⟩::r)
  | none=>none
 | _=>none
theorem sW : ∀ {es:List (List AC)} {l:List Val}, yC es=some l->es=l.map cV
 | [],l,h=>by cases h;rfl
 | e::es,l,h=>by
  unfold yC at h
  split at h
  ·rename_i hq;cases hq
  ·rename_i a b s es' heq
   obtain ⟨rfl,rfl⟩:=List.cons.inj heq
   split at h
   ·rename_i r hr
    cases h
    rw [Vn, <- sW hr];rfl
   ·cases h
  ·cases h
def OH (x y:List Val):Bool:=decide (0<x.length+y.length)&&decide (x.length+y.length<=1000000)
def JA:FuncId->List PV->Option CV:=fun g ps=>match Qf g ps with
 | some r=>some r
 | none=>match Nat.beq g 97,ps with
  | true,[.one (.lst [[.lst a],[.lst b]])]=>match yC a,yC b with
   | some x,some y=>match OH x y with
    | true=>some (.val (.one (sP (x++y))))
    | false=>none
   | _,_=>none
  | _,_=>none
theorem GQ (g:FuncId) (ps:List PV) (r:CV) (h:JA g ps=some r):Pure Tryz.prog g ps r:=by
 unfold JA at h
 split at h
 ·rename_i r' h1
  cases h
  exact Nz g ps _ h1
 ·split at h
  ·rename_i a b hg hn
   split at h
   ·rename_i x y hx hy
    split at h
    ·rename_i hc
     cases h
     unfold OH at hc
     rw [Vu,decide_eq_true_eq,decide_eq_true_eq] at hc
     rw [Nat.eq_of_beq_eq_true hg,sW hx,sW hy]
     exact uL x y hc.1 hc.2
    ·cases h
   ·cases h
  ·cases h
noncomputable def cx:Cx := { P:=Tryz.prog,ti:=Lf,xs:=⟨293,292⟩,row:=RI,frz:=SE,flg:=R_,orc:=JA,bad:=RB,fz:=UN,sw:=UX }
theorem H_:L_ Tryz.prog 293:=⟨_,Tryz.func293,by kernel_rfl,by kernel_rfl,by kernel_rfl,by kernel_rfl⟩
theorem Ig:PX Tryz.prog 292:=⟨_,Tryz.func292,by kernel_rfl,by kernel_rfl,by kernel_rfl,by kernel_rfl⟩
theorem rJ:pY Tryz.prog.funcs.toList=true:=by kernel_rfl
theorem wJ:mX cx Tryz.prog.funcs.toList 0=true:=by kernel_rfl
theorem uT:sO cx:=sO.of ae ⟨H_,Ig⟩ mixed rJ wJ (GQ)
end Go.Proofs.YtlcceppoloaecaaGreatDoor.Aw
