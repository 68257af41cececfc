/- Contract. The law ConstraintTables returns true for every argument. No condition. -/
import Derived.Test.YtdkmoemdipgikaaGreatDoorKBR
import Derived.Test.YtdkmoemdipgikaaGreatDoorRows
import Derived.Test.YtdkmoemdipgikaaGreatDoorTie
import Derived.Test.YtdkmoemdipgikaaGreatDoorCards
import Derived.LaidMore
import Derived.Stop.Joined
import Derived.SevenTiedAt
import Derived.Lib.LaidTab
import Derived.Lib.ItoaNum
set_option linter.unusedSimpArgs false
set_option linter.unusedVariables false
namespace Go.Proofs.YtdkmoemdipgikaaGreatDoor.constraintTables
open Go.ChangeShapes Go.WideShapes Go.ChangeAt Go.RowKit
theorem own:ownKnob Tryz.prog.godebug=none:=by kernel_rfl
theorem laidOut:laidOutB Tryz.prog=true:=by kernel_rfl
abbrev laid3:=Rows.constraintTablesRow.laid
theorem door_met (os:Os)(args:Array Value):laidMetH Tryz.prog laid3 ((World.doorLaid Tryz.prog 400 os).forCall (fun _ _=>0) ⟨#[],args,[]⟩).memory :=
 laidMetH_of_parts3 (fuel:=8) (laidMet_of_run' 8 (by kernel_rfl) (by kernel_rfl)) (by kernel_rfl) (by kernel_rfl)
theorem tab_met {W:World}(h:laidMetH Tryz.prog laid3 W):g8 (fun b o=>W.cell? ⟨b,o,none⟩):=by
 have h0:laidMet Tryz.prog laid3 W:=h;obtain⟨ps,hl,_⟩:=h0;obtain⟨_,_,_,_,_,_,_,_,_,_,hl,_⟩:=hl;obtain⟨_,_,_,_,_,_,_,_,_,_,hl,_⟩:=hl;obtain⟨g',t',cs,fuel,p,q,hg',ht',hvar,hd,_,_⟩:=hl
 obtain rfl := am3 ((show Tryz.prog.globalNamed "internal/strconv.uint64pow10" = some 0 by kernel_rfl).symm.trans hg')
 have hty:(Tryz.prog.globals[0]?).map (·.type)=some 260:=by kernel_rfl
 obtain rfl:=am3 (hty.symm.trans ht');have e:Rows.laid_internal_strconv_uint64pow10=(Lib.tabData .u64 Lib.pow10Tab:DataW Unit):=by kernel_rfl
 rw[e]at hd
 have hT : Lib.TabIs Tryz.prog W "internal/strconv.uint64pow10" .u64 Lib.pow10Tab := by
  unfold Lib.TabIs;rw[hvar,<- Lib.cells_of_tab (P:=Tryz.prog) (t:=260) (n:=20) (by kernel_rfl) (e:=236) (by kernel_rfl) (by kernel_rfl) (by kernel_rfl) hd]
 intro o u hu;unfold Gt at hu;split at hu
 ·rename_i ho
  have := hT.cell (show Tryz.prog.globalNamed "internal/strconv.uint64pow10" = some 0 by kernel_rfl) o (by rw [Lib.pow10Tab_length]; exact ho)
  rw[Lib.pow10Tab_at o ho]at this;rw[<- hu];show W.cell? ⟨0,o,none⟩=_;rw[this];norm_cast
 ·cases hu
theorem walk (x0:bv)(x1:(List aw))(q0:wy x0)(q1:(nC 40 tD) x1)(c0:Array Value)(v1:Value){w:World}(hT:g8 (fun b o=>w.cell? ⟨b,o,none⟩))(r0:gW hT c0.toList (bn x0))(r1:gW hT [v1] [.lst (x1.map aA)]) :
  Calls Tryz.prog 3 #[.agg c0,v1] w fun e w'=>e = .returned (.bool true)/\Below w.heap.size w w':=by
 have h:=(pe q0 q1).2 (RW hT) w #[.agg c0,v1] (fun _ _ _ h=>h) rfl (by
  intro j u q hu hq
  match j,hu,hq with
  |0,hu,hq =>
   simp at hu hq;subst hu hq;exact⟨c0,rfl,by have:=r0.1;simpa using this,fun j u x hu hx=>r0.2 j u x (by simpa using hu) hx⟩
  |1,hu,hq =>
   simp at hu hq;subst hu hq;exact r1.2 0 _ _ rfl rfl
  |j+2,hu,hq=>simp at hq)
 refine h.mono ?_;rintro e w' ⟨u,R',rfl,hx,_,hr⟩
 cases hr;exact⟨rfl,⟨hx.below.os,hx.below.tape,hx.below.output,hx.below.size,hx.below.block⟩⟩
set_option maxRecDepth 100000 in
theorem lifted (os:Os)(started:os.Started)(H:Type)(enc:TypeId×Value->H) :
  ReturnsInHanded {} Tryz.checked os 3 .any (fun w args=>(Rows.constraintTablesSpec.pre enc Tryz.prog Tryz.f3 [] false w args/\laidMetH Tryz.prog laid3 w)/\sizedMet enc Tryz.prog Tryz.f3 (OpenSpec.ofChange Rows.constraintTablesSpec) false w args)
   (Rows.constraintTablesSpec.post enc Tryz.prog Tryz.f3 false true false false):=by
 refine returnsInHanded_of_change_and (C:=Tryz.checked) (X:=fun w _=>laidMetH Tryz.prog laid3 w) (fun _ _ _ hh h=>h.of_heap hh) own started (by kernel_rfl) Tryz.func3
  (ChangeSpec.witness_shaped (enc:=enc) (C:=Tryz.checked) (os:=os) (X:=fun w _=>laidMetH Tryz.prog laid3 w) false (World.doorLaid Tryz.prog 400 os) #[.agg #[.string ⟨#[]⟩,.slice none 0 0,.slice none 0 0,.slice none 0 0,.slice none 0 0],.slice none 0 0] 8 rfl (World.shaped_of_RefB (by kernel_rfl) (by kernel_rfl)) (by kernel_rfl) (by kernel_rfl) (by kernel_rfl) (door_met os _)) ?_
 intro W base args ds gs before hval0 hW _ hsz hL _;have hval:∀ (j:Nat) t v,Tryz.f3.params[j]?=some t->args[j]?=some v->Value.okWide Tryz.prog W .any base t v:=hval0;have hT:=tab_met hL;have hW':=hW;obtain⟨p,q,hA0,hV,rfl,hfz,hnd⟩:=hW;have hA:DataW.TrodAll enc Tryz.prog W 0 (fun _=>true) true Tryz.f3.params.toList args.toList ds p:=hA0;rw[Tryz.params3]at hA hval;obtain⟨v0,vs0,d0,ds0,p0,q0,hargs,rfl,rfl,h0,t0⟩:=trodAll_cons hA;obtain⟨v1,vs1,d1,ds1,p1,q1,rfl,rfl,rfl,h1,t1⟩:=trodAll_cons t0;obtain⟨rfl,rfl,rfl⟩:=trodAll_nil t1;obtain rfl:args=#[v0,v1]:=by cases args;simp_all
 obtain⟨rfl,rfl⟩:=trodVars_none hV;obtain⟨c0,rfl,_⟩:=okWide_struct Tryz.underlying27 (hval 0 27 v0 rfl rfl);obtain⟨a1,aiQ,cap1,rfl⟩:=okWide_slice Tryz.underlying28 (hval 1 28 v1 rfl rfl);have k0:=h0;have lt0:∀ x∈p0,x.block<W.heap.size:=by obtain⟨m,hm⟩:=k0;exact DataW.trod_lt m _ _ _ hm
 have k1:=h1;have lt1:∀ x∈p1,x.block<W.heap.size:=by obtain⟨m,hm⟩:=k1;exact DataW.trod_lt m _ _ _ hm
 have w0:lJ 27 d0:=fun n hn=>amZ (ank.1 hsz n (tX (i:=0) (by rw[Tryz.params3];rfl) (by rfl) n hn))
 have w1:lJ 28 d1:=fun n hn=>amZ (ank.1 hsz n (tX (i:=1) (by rw[Tryz.params3];rfl) (by rfl) n hn))
 obtain⟨fuel0,hf0⟩:=h0;obtain⟨x0,r0,q100⟩:=ade fuel0 (hT:=hT) (cs:=c0.toList) (by simpa[Value.cells]using hf0) w0;obtain⟨fuel1,hf1⟩:=h1;obtain⟨x1,r1,q101⟩:=K7 (hT:=hT) (cs:=[.slice a1 aiQ cap1]) (fuel:=fuel1) (by simpa[Value.cells]using hf1) w1;clear hA0 hval0;refine(walk x0 x1 q100 q101 c0 _ hT r0 r1).mono fun e W' ⟨he,bel⟩=>?_
 subst he;exact⟨_,rfl,_,_,_,[],_,[],hW',trodAll_mk1 (shut_bool Tryz.underlying4 _),(trodAll_cons_mk (Below.trod laidOut (by kernel_rfl) (amZ (by kernel_rfl)) k0 bel lt0) (trodAll_cons_mk (Below.trod laidOut (by kernel_rfl) (amZ (by kernel_rfl)) k1 bel lt1) trodAll_mk0)),rfl,bel.frame _,fun h=>by cases h⟩
end Go.Proofs.YtdkmoemdipgikaaGreatDoor.constraintTables
