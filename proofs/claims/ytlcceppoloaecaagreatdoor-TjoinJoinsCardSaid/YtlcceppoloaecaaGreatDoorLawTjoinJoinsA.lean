/- Contract. The law TjoinJoins returns true for every argument. No condition. -/
import Derived.Test.YtlcceppoloaecaaGreatDoorKZA
import Derived.Test.YtlcceppoloaecaaGreatDoorRows
import Derived.Test.YtlcceppoloaecaaGreatDoorTie
import Derived.Test.YtlcceppoloaecaaGreatDoorCards
import Derived.LaidMore
import Derived.Stop.Joined
import Derived.SevenTiedAt
import Derived.Lib.LaidTab
import Derived.Lib.ItoaNum
set_option linter.unusedSimpArgs false
set_option linter.unusedVariables false
namespace Go.Proofs.YtlcceppoloaecaaGreatDoor.tjoinJoins
open Go.ChangeShapes Go.WideShapes Go.ChangeAt Go.RowKit
theorem own:ownKnob Tryz.prog.godebug=none:=by kernel_rfl
theorem laidOut:laidOutB Tryz.prog=true:=by kernel_rfl
abbrev laid3:=Rows.tjoinJoinsRow.laid
theorem door_met (os:Os)(args:Array Value):laidMetH Tryz.prog laid3 ((World.doorLaid Tryz.prog 400 os).forCall (fun _ _=>0) ⟨#[],args,[]⟩).memory :=
 laidMetH_of_parts3 (fuel:=8) (laidMet_of_run' 8 (by kernel_rfl) (by kernel_rfl)) (by kernel_rfl) (by kernel_rfl)
theorem tab_met {W:World}(h:laidMetH Tryz.prog laid3 W):ir (fun b o=>W.cell? ⟨b,o,none⟩):=by
 have h0:laidMet Tryz.prog laid3 W:=h;obtain⟨ps,hl,_⟩:=h0;obtain⟨_,_,_,_,_,_,_,_,_,_,hl,_⟩:=hl;obtain⟨_,_,_,_,_,_,_,_,_,_,hl,_⟩:=hl;obtain⟨g',t',cs,fuel,p,q,hg',ht',hvar,hd,_,_⟩:=hl
 obtain rfl := aqX ((show Tryz.prog.globalNamed "internal/strconv.uint64pow10" = some 1 by kernel_rfl).symm.trans hg')
 have hty:(Tryz.prog.globals[1]?).map (·.type)=some 284:=by kernel_rfl
 obtain rfl:=aqX (hty.symm.trans ht');have e:Rows.laid_internal_strconv_uint64pow10=(Lib.tabData .u64 Lib.pow10Tab:DataW Unit):=by kernel_rfl
 rw[e]at hd
 have hT : Lib.TabIs Tryz.prog W "internal/strconv.uint64pow10" .u64 Lib.pow10Tab := by
  unfold Lib.TabIs;rw[hvar,<- Lib.cells_of_tab (P:=Tryz.prog) (t:=284) (n:=20) (by kernel_rfl) (e:=145) (by kernel_rfl) (by kernel_rfl) (by kernel_rfl) hd]
 intro o u hu;unfold sQ at hu;split at hu
 ·rename_i ho
  have := hT.cell (show Tryz.prog.globalNamed "internal/strconv.uint64pow10" = some 1 by kernel_rfl) o (by rw [Lib.pow10Tab_length]; exact ho)
  rw[Lib.pow10Tab_at o ho]at this;rw[<- hu];show W.cell? ⟨1,o,none⟩=_;rw[this];norm_cast
 ·cases hu
theorem walk (x0:bj)(x1:bj)(x2:Ex)(q0:mg x0)(q1:mg x1)(q2:Az x2)(c0:Array Value)(c1:Array Value)(c2:Array Value){w:World}(hT:ir (fun b o=>w.cell? ⟨b,o,none⟩))(r0:ji hT c0.toList (aW x0))(r1:ji hT c1.toList (aW x1))(r2:ji hT c2.toList (tE x2)) :
  Calls Tryz.prog 4 #[.agg c0,.agg c1,.agg c2] w fun e w'=>e = .returned (.bool true)/\Below w.heap.size w w':=by
 have h:=(Hq q0 q1 q2).2 (RW hT) w #[.agg c0,.agg c1,.agg c2] (fun _ _ _ h=>h) rfl (by
  intro j u q hu hq
  match j,hu,hq with
  |0,hu,hq =>
   simp at hu hq;subst hu hq;exact⟨c0,rfl,by have:=r0.1;simpa using this,fun j u x hu hx=>r0.2 j u x (by simpa using hu) hx⟩
  |1,hu,hq =>
   simp at hu hq;subst hu hq;exact⟨c1,rfl,by have:=r1.1;simpa using this,fun j u x hu hx=>r1.2 j u x (by simpa using hu) hx⟩
  |2,hu,hq =>
   simp at hu hq;subst hu hq;exact⟨c2,rfl,by have:=r2.1;simpa using this,fun j u x hu hx=>r2.2 j u x (by simpa using hu) hx⟩
  |j+3,hu,hq=>simp at hq)
 refine h.mono ?_;rintro e w' ⟨u,R',rfl,hx,_,hr⟩
 cases hr;exact⟨rfl,⟨hx.below.os,hx.below.tape,hx.below.output,hx.below.size,hx.below.block⟩⟩
set_option maxRecDepth 100000 in
theorem lifted (os:Os)(started:os.Started)(H:Type)(enc:TypeId×Value->H) :
  ReturnsInHanded {} Tryz.checked os 4 .any (fun w args=>(Rows.tjoinJoinsSpec.pre enc Tryz.prog Tryz.f4 [] false w args/\laidMetH Tryz.prog laid3 w)/\sizedMet enc Tryz.prog Tryz.f4 (OpenSpec.ofChange Rows.tjoinJoinsSpec) false w args)
   (Rows.tjoinJoinsSpec.post enc Tryz.prog Tryz.f4 false true false false):=by
 refine returnsInHanded_of_change_and (C:=Tryz.checked) (X:=fun w _=>laidMetH Tryz.prog laid3 w) (fun _ _ _ hh h=>h.of_heap hh) own started (by kernel_rfl) Tryz.func4
  (ChangeSpec.witness_shaped (enc:=enc) (C:=Tryz.checked) (os:=os) (X:=fun w _=>laidMetH Tryz.prog laid3 w) false (World.doorLaid Tryz.prog 400 os) #[.agg #[.slice none 0 0,.slice none 0 0],.agg #[.slice none 0 0,.slice none 0 0],.agg #[.int .i64 0,.int .i64 0,.int .i64 0,.int .i64 0,.string ⟨#[]⟩,.string ⟨#[]⟩,.slice none 0 0]] 8 rfl (World.shaped_of_RefB (by kernel_rfl) (by kernel_rfl)) (by kernel_rfl) (by kernel_rfl) (by kernel_rfl) (door_met os _)) ?_
 intro W base args ds gs before hval0 hW _ hsz hL _;have hval:∀ (j:Nat) t v,Tryz.f4.params[j]?=some t->args[j]?=some v->Value.okWide Tryz.prog W .any base t v:=hval0;have hT:=tab_met hL;have hW':=hW;obtain⟨p,q,hA0,hV,rfl,hfz,hnd⟩:=hW;have hA:DataW.TrodAll enc Tryz.prog W 0 (fun _=>true) true Tryz.f4.params.toList args.toList ds p:=hA0;rw[Tryz.params4]at hA hval;obtain⟨v0,vs0,d0,ds0,p0,q0,hargs,rfl,rfl,h0,t0⟩:=trodAll_cons hA;obtain⟨v1,vs1,d1,ds1,p1,q1,rfl,rfl,rfl,h1,t1⟩:=trodAll_cons t0;obtain⟨v2,vs2,d2,ds2,p2,q2,rfl,rfl,rfl,h2,t2⟩:=trodAll_cons t1;obtain⟨rfl,rfl,rfl⟩:=trodAll_nil t2;obtain rfl:args=#[v0,v1,v2]:=by cases args;simp_all
 obtain⟨rfl,rfl⟩:=trodVars_none hV;obtain⟨c0,rfl,_⟩:=okWide_struct Tryz.underlying31 (hval 0 31 v0 rfl rfl);obtain⟨c1,rfl,_⟩:=okWide_struct Tryz.underlying31 (hval 1 31 v1 rfl rfl);obtain⟨c2,rfl,_⟩:=okWide_struct Tryz.underlying36 (hval 2 36 v2 rfl rfl);have k0:=h0;have lt0:∀ x∈p0,x.block<W.heap.size:=by obtain⟨m,hm⟩:=k0;exact DataW.trod_lt m _ _ _ hm
 have k1:=h1;have lt1:∀ x∈p1,x.block<W.heap.size:=by obtain⟨m,hm⟩:=k1;exact DataW.trod_lt m _ _ _ hm
 have k2:=h2;have lt2:∀ x∈p2,x.block<W.heap.size:=by obtain⟨m,hm⟩:=k2;exact DataW.trod_lt m _ _ _ hm
 have w0:nr 31 d0:=fun n hn=>aqT (arf.1 hsz n (ei (i:=0) (by rw[Tryz.params4];rfl) (by rfl) n hn))
 have w1:nr 31 d1:=fun n hn=>aqT (arf.1 hsz n (ei (i:=1) (by rw[Tryz.params4];rfl) (by rfl) n hn))
 have w2:nr 36 d2:=fun n hn=>aqT (arf.1 hsz n (ei (i:=2) (by rw[Tryz.params4];rfl) (by rfl) n hn))
 obtain⟨fuel0,hf0⟩:=h0;obtain⟨x0,r0,q100⟩:=sI fuel0 (hT:=hT) (cs:=c0.toList) (by simpa[Value.cells]using hf0) w0;obtain⟨fuel1,hf1⟩:=h1;obtain⟨x1,r1,q101⟩:=sI fuel1 (hT:=hT) (cs:=c1.toList) (by simpa[Value.cells]using hf1) w1;obtain⟨fuel2,hf2⟩:=h2;obtain⟨x2,r2,q102⟩:=aaR fuel2 (hT:=hT) (cs:=c2.toList) (by simpa[Value.cells]using hf2) w2;clear hA0 hval0;refine(walk x0 x1 x2 q100 q101 q102 c0 c1 c2 hT r0 r1 r2).mono fun e W' ⟨he,bel⟩=>?_
 subst he;exact⟨_,rfl,_,_,_,[],_,[],hW',trodAll_mk1 (shut_bool Tryz.underlying4 _),(trodAll_cons_mk (Below.trod laidOut (by kernel_rfl) (aqT (by kernel_rfl)) k0 bel lt0) (trodAll_cons_mk (Below.trod laidOut (by kernel_rfl) (aqT (by kernel_rfl)) k1 bel lt1) (trodAll_cons_mk (Below.trod laidOut (by kernel_rfl) (aqT (by kernel_rfl)) k2 bel lt2) trodAll_mk0))),rfl,bel.frame _,fun h=>by cases h⟩
end Go.Proofs.YtlcceppoloaecaaGreatDoor.tjoinJoins
