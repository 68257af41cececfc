/- Parts of the proof, joined. No condition. -/
import Derived.Test.YtlcceppoloaecaaGreatDoorKAA
import Derived.Test.YtlcceppoloaecaaGreatDoorKAH
import Derived.Test.YtlcceppoloaecaaGreatDoorKAI
import Derived.Test.YtlcceppoloaecaaGreatDoorKBG
import Derived.Test.YtlcceppoloaecaaGreatDoorKBK
set_option linter.unusedSimpArgs false
set_option linter.unusedVariables false
namespace Go.Proofs.YtlcceppoloaecaaGreatDoor.Aw
open Go.RowKit Go.MapKept
def U7:List (List AC)->Option (List Stp)
 | []=>some []
 | [.int .i64 a, .int .i64 b]::l=>match U7 l with
  | some r=>some (⟨a,b⟩::r)
  | none=>none
 | _=>none
theorem TR : ∀ {es:List (List AC)} {l:List Stp}, U7 es=some l->es=l.map Bq
 | [],l,h=>by cases h;rfl
 | e::es,l,h=>by
  unfold U7 at h
  split at h
  ·rename_i hq;cases hq
  ·rename_i a b es' heq
   obtain ⟨rfl,rfl⟩:=List.cons.inj heq
   split at h
   ·rename_i r hr
    cases h
    rw [ap', <- TR hr];rfl
   ·cases h
  ·cases h
def adi:List Stp->Bool
 | []=>true
 | x::l=>(l.all fun y=>decide (x.lo<y.lo))&&adi l
def Z9 (l:List Stp):Bool:=decide (l.length<=1000)&&(adi l&&l.all fun s=>decide (s.lo<1099511627776)&&decide (s.n<=600))
theorem YT : ∀ {l:List Stp}, adi l=true->l.Pairwise fun x y=>x.lo<y.lo
 | [],_=>List.Pairwise.nil
 | x::l,h=>by
  unfold adi at h
  rw [aqg,aqO] at h
  exact aqV.2 ⟨fun y hy=>aqs (h.1 y hy),YT h.2⟩
theorem GI {l:List Stp} (h:Z9 l=true):Sq l:=by
 unfold Z9 at h
 rw [aqg,aqg,aqO] at h
 obtain ⟨h1,h2,h3⟩:=h
 refine ⟨aqs h1,?_,fun s hs=>?_,fun s hs=>?_⟩
 ·intro i j x y hij hx hy
  rw [aql] at hx hy
  obtain ⟨a,ha,rfl⟩:=Option.map_eq_some_iff.1 hx
  obtain ⟨b,hb,rfl⟩:=Option.map_eq_some_iff.1 hy
  obtain ⟨hi,ea⟩:=ap0.1 ha
  obtain ⟨hj,eb⟩:=ap0.1 hb
  have:=List.pairwise_iff_getElem.1 (YT h2) i j hi hj hij
  rw [ea,eb] at this
  exact this
 ·have:=h3 s hs;rw [aqg] at this;exact aqs this.1
 ·have:=h3 s hs;rw [aqg] at this;exact aqs this.2
def alV:FuncId->List PV->Option CV:=fun g ps=>match Nat.beq g 147,ps with
 | true,[.one (.lst es)]=>match U7 es with
  | some l=>match Z9 l with
   | true=>some (.val (.one (.lst ((Jr l).map bv))))
   | false=>none
  | none=>none
 | _,_=>none
theorem ajt (g:FuncId) (ps:List PV) (r:CV) (h:alV g ps=some r):Pure Tryz.prog g ps r:=by
 unfold alV at h
 split at h
 ·rename_i es hg
  split at h
  ·rename_i l hl
   split at h
   ·rename_i hb
    cases h
    rw [Nat.eq_of_beq_eq_true hg,TR hl]
    exact X4 l (GI hb)
   ·cases h
  ·cases h
 ·cases h
def PI:List (List AC)->Option (List Val)
 | []=>some []
 | [.int .i64 a, .int .i64 b, .str s]::l=>match PI l with
  | some r=>some (⟨a,b,s⟩::r)
  | none=>none
 | _=>none
theorem JP : ∀ {es:List (List AC)} {l:List Val}, PI es=some l->es=l.map cV
 | [],l,h=>by cases h;rfl
 | e::es,l,h=>by
  unfold PI at h
  split at h
  ·rename_i hq;cases hq
  ·rename_i a b s es' heq
   obtain ⟨rfl,rfl⟩:=List.cons.inj heq
   split at h
   ·rename_i r hr
    cases h
    rw [ap', <- JP hr];rfl
   ·cases h
  ·cases h
def ale (x y:List Val):Bool:=decide (0<x.length+y.length)&&decide (x.length+y.length<=1000000)
def aes:FuncId->List PV->Option CV:=fun g ps=>match alV g ps with
 | some r=>some r
 | none=>match Nat.beq g 97,ps with
  | true,[.one (.lst [[.lst a],[.lst b]])]=>match PI a,PI b with
   | some x,some y=>match ale x y with
    | true=>some (.val (.one (dM (x++y))))
    | false=>none
   | _,_=>none
  | _,_=>none
theorem ac0 (g:FuncId) (ps:List PV) (r:CV) (h:aes g ps=some r):Pure Tryz.prog g ps r:=by
 unfold aes at h
 split at h
 ·rename_i r' h1
  cases h
  exact ajt g ps _ h1
 ·split at h
  ·rename_i a b hg hn
   split at h
   ·rename_i x y hx hy
    split at h
    ·rename_i hc
     cases h
     unfold ale at hc
     rw [aqg,decide_eq_true_eq,decide_eq_true_eq] at hc
     rw [Nat.eq_of_beq_eq_true hg,JP hx,JP hy]
     exact Kq x y hc.1 hc.2
    ·cases h
   ·cases h
  ·cases h
noncomputable def cx:Cx := { P:=Tryz.prog,ti:=We,xs:=⟨293,292⟩,row:=anP,frz:=anN,flg:=an6,orc:=aes,bad:=anA,fz:=fzT,sw:=swT }
theorem acN:agl Tryz.prog 293:=⟨_,Tryz.func293,by kernel_rfl,by kernel_rfl,by kernel_rfl,by kernel_rfl⟩
theorem ac3:amt Tryz.prog 292:=⟨_,Tryz.func292,by kernel_rfl,by kernel_rfl,by kernel_rfl,by kernel_rfl⟩
theorem Gu:Ei Tryz.prog.funcs.toList=true:=by kernel_rfl
theorem PQ:BA cx Tryz.prog.funcs.toList 0=true:=by kernel_rfl
theorem Hd:Jo cx:=Jo.of aj ⟨acN,ac3⟩ mixed Gu PQ (ac0)
end Go.Proofs.YtlcceppoloaecaaGreatDoor.Aw
