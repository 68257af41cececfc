/- Contract. The law ConstraintFirst returns true for every list of violations. No condition. -/
import Derived.Test.YtngehibfdjdejaaGreatDoorKAQ
import Derived.Test.YtngehibfdjdejaaGreatDoorRows
import Derived.Test.YtngehibfdjdejaaGreatDoorTie
import Derived.Test.YtngehibfdjdejaaGreatDoorCards
import Derived.ProofKit
import Derived.LaidMore
import Derived.OpenShut
import Derived.Stop.Joined
import Derived.SevenTiedAt
import Derived.Lib.LaidTab
import Derived.Lib.ItoaNum
set_option linter.unusedSimpArgs false
set_option linter.unusedVariables false
namespace Go.Proofs.YtngehibfdjdejaaGreatDoor.constraintFirst
open Go.ChangeShapes Go.WideShapes Go.ChangeAt Go.RowKit
theorem own:ownKnob Tryz.prog.godebug=none:=by kernel_rfl
theorem laidOut:laidOutB Tryz.prog=true:=by kernel_rfl
abbrev laid3:=Rows.constraintFirstRow.laid
theorem door_met (os:Os) (args:Array Value):laidMetH Tryz.prog laid3 ((World.doorLaid Tryz.prog 400 os).forCall (fun _ _=>0) ⟨#[],args,[]⟩).memory :=
 laidMetH_of_parts3 (fuel:=8) (laidMet_of_run' 8 (by kernel_rfl) (by kernel_rfl)) (by kernel_rfl) (by kernel_rfl)
theorem tab_met {W:World} (h:laidMetH Tryz.prog laid3 W):TabR (fun b o=>W.cell? ⟨b,o,none⟩):=by
 have h0:laidMet Tryz.prog laid3 W:=h
 obtain ⟨ps,hl,_⟩:=h0
 obtain ⟨_,_,_,_,_,_,_,_,_,_,hl,_⟩:=hl
 obtain ⟨_,_,_,_,_,_,_,_,_,_,hl,_⟩:=hl
 obtain ⟨g',t',cs,fuel,p,q,hg',ht',hvar,hd,_,_⟩:=hl
 obtain rfl := Option.some.inj ((show Tryz.prog.globalNamed "internal/strconv.uint64pow10" = some 0 by kernel_rfl).symm.trans hg')
 have hty:(Tryz.prog.globals[0]?).map (·.type)=some 200:=by kernel_rfl
 obtain rfl:=Option.some.inj (hty.symm.trans ht')
 have e:Rows.laid_internal_strconv_uint64pow10=(Lib.tabData .u64 Lib.pow10Tab:DataW Unit):=by kernel_rfl
 rw [e] at hd
 have hT : Lib.TabIs Tryz.prog W "internal/strconv.uint64pow10" .u64 Lib.pow10Tab := by
  unfold Lib.TabIs
  rw [hvar, ← Lib.cells_of_tab (P:=Tryz.prog) (t:=200) (n:=20) (by kernel_rfl) (e:=164) (by kernel_rfl) (by kernel_rfl) (by kernel_rfl) hd]
 intro o u hu
 unfold tabCell at hu
 split at hu
 ·rename_i ho
  have := hT.cell (show Tryz.prog.globalNamed "internal/strconv.uint64pow10" = some 0 by kernel_rfl) o (by rw [Lib.pow10Tab_length]; exact ho)
  rw [Lib.pow10Tab_at o ho] at this
  rw [← hu]
  show W.cell? ⟨0,o,none⟩=_
  rw [this];norm_cast
 ·cases hu
theorem walk (x0:(List Vio)) (q0:(LOk 72 okVio) x0) (v0:Value) {w:World} (hT:TabR (fun b o=>w.cell? ⟨b,o,none⟩)) (r0:CRd hT [v0] [.lst (x0.map cVio)]) :
  Calls Tryz.prog 3 #[v0] w fun e w'=>e = .returned (.bool true)∧Below w.heap.size w w':=by
 have h:=(constraintFirst_pure q0).2 (RW hT) w #[v0] (fun _ _ _ h=>h) rfl (by
  intro j u q hu hq
  match j,hu,hq with
  | 0,hu,hq =>
   simp at hu hq;subst hu hq
   exact r0.2 0 _ _ rfl rfl
  | j+1,hu,hq=>simp at hq)
 refine h.mono ?_
 rintro e w' ⟨u,R',rfl,hx,_,hr⟩
 cases hr
 exact ⟨rfl,⟨hx.below.os,hx.below.tape,hx.below.output,hx.below.size,hx.below.block⟩⟩
set_option maxRecDepth 100000 in
theorem lifted (os:Os) (started:os.Started) (H:Type) (enc:TypeId × Value→H) :
  ReturnsInHanded {} Tryz.checked os 3 .any (fun w args=>(Rows.constraintFirstSpec.pre enc Tryz.prog Tryz.f3 [] false w args∧laidMetH Tryz.prog laid3 w)∧sizedMet enc Tryz.prog Tryz.f3 (OpenSpec.ofChange Rows.constraintFirstSpec) false w args)
   (Rows.constraintFirstSpec.post enc Tryz.prog Tryz.f3 false true false false):=by
 refine returnsInHanded_of_change_and (C:=Tryz.checked) (X:=fun w _=>laidMetH Tryz.prog laid3 w) (fun _ _ _ hh h=>h.of_heap hh) own started (by kernel_rfl) Tryz.func3
  (ChangeSpec.witness_shaped (enc:=enc) (C:=Tryz.checked) (os:=os) (X:=fun w _=>laidMetH Tryz.prog laid3 w) false (World.doorLaid Tryz.prog 400 os) #[.slice none 0 0] 8 rfl (World.shaped_of_RefB (by kernel_rfl) (by kernel_rfl)) (by kernel_rfl) (by kernel_rfl) (by kernel_rfl) (door_met os _)) ?_
 intro W base args ds gs before hval0 hW _ hsz hL _
 have hval : ∀ (j:Nat) t v,Tryz.f3.params[j]?=some t→args[j]?=some v→Value.okWide Tryz.prog W .any base t v:=hval0
 have hT:=tab_met hL
 have hW':=hW
 obtain ⟨p,q,hA0,hV,rfl,hfz,hnd⟩:=hW
 have hA:DataW.TrodAll enc Tryz.prog W 0 (fun _=>true) true Tryz.f3.params.toList args.toList ds p:=hA0
 rw [Tryz.params3] at hA hval
 obtain ⟨v0,vs0,d0,ds0,p0,q0,hargs,rfl,rfl,h0,t0⟩:=trodAll_cons hA
 obtain ⟨rfl,rfl,rfl⟩:=trodAll_nil t0
 obtain rfl:args = #[v0]:=by cases args;simp_all
 obtain ⟨rfl,rfl⟩:=trodVars_none hV
 obtain ⟨a0,len0,cap0,rfl⟩:=okWide_slice Tryz.underlying22 (hval 0 22 v0 rfl rfl)
 have k0:=h0
 have lt0 : ∀ x∈p0,x.block<W.heap.size:=by obtain ⟨m,hm⟩:=k0;exact DataW.trod_lt m _ _ _ hm
 have w0:WOk 22 d0:=fun n hn=>of_decide_eq_true (List.all_eq_true.1 hsz n (wok_each (i:=0) (by rw [Tryz.params3];rfl) (by rfl) n hn))
 obtain ⟨fuel0,hf0⟩:=h0
 obtain ⟨x0,r0,q100⟩:=rd_l22 (hT:=hT) (cs:=[.slice a0 len0 cap0]) (fuel:=fuel0) (by simpa [Value.cells] using hf0) w0
 clear hA0 hval0
 refine (walk x0 q100 _ hT r0).mono fun e W' ⟨he,bel⟩=>?_
 subst he
 exact ⟨_,rfl,_,_,_,[],_,[],hW',trodAll_mk1 (shut_bool Tryz.underlying4 _),(trodAll_cons_mk (Below.trod laidOut (by kernel_rfl) (of_decide_eq_true (by kernel_rfl)) k0 bel lt0) trodAll_mk0),rfl,bel.frame _,fun h=>by cases h⟩
end Go.Proofs.YtngehibfdjdejaaGreatDoor.constraintFirst
