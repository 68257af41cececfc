/- Parts of the proof, joined. No condition. -/
import Derived.Test.YtfccopdbgfdcdaaGreatDoorKBQ
import Derived.Test.YtfccopdbgfdcdaaGreatDoorKBU
import Derived.Test.YtfccopdbgfdcdaaGreatDoorKBN
import Derived.Test.YtfccopdbgfdcdaaGreatDoorKBO
import Derived.Test.YtfccopdbgfdcdaaGreatDoorKAL
import Derived.Test.YtfccopdbgfdcdaaGreatDoorKBI
set_option linter.unusedSimpArgs false
set_option linter.unusedVariables false
namespace Go.Proofs.YtfccopdbgfdcdaaGreatDoor
open Go.RowKit Go.MapKept
set_option maxRecDepth 100000
theorem srows_ne {r:List Val} {R:List (List Val)} (h:SRows (r::R)):r∉R:=by
 intro hr
 have:=List.rel_of_pairwise_cons h hr
 rw [tCr_.refl] at this
 omega
theorem filter_two {α:Type} (p:α→Bool) : ∀ l:List α,(l.filter p).length+(l.filter fun x => !p x).length=l.length
 | []=>rfl
 | x::l=>by
  have:=filter_two p l
  rw [List.filter_cons,List.filter_cons]
  cases h:p x<;>simp<;>omega
theorem perOf_le (l:List Fct) (r:List Val):(perOf l r).length≤(l.filter fun f=>decide (f.row=r)).length:=by
 unfold perOf
 rw [List.length_map]
 induction l with
 | nil=>exact Nat.le_refl _
 | cons f l ih =>
  rw [List.filter_cons,List.filter_cons]
  cases pvalB f.valid<;>cases decide (f.row=r)<;>simp<;>omega
theorem perOf_rest {r x:List Val} (h:x≠r) (l:List Fct):perOf l x=perOf (l.filter fun f => !decide (f.row=r)) x:=by
 unfold perOf
 rw [List.filter_filter]
 congr 1
 apply List.filter_congr
 intro f _
 by_cases hx:f.row=x
 ·have:f.row≠r:=fun e=>h (hx.symm.trans e)
  simp [hx,h]
 ·simp [hx]
theorem perOf_sum : ∀ (R:List (List Val)) (l:List Fct),SRows R→(R.flatMap fun r=>perOf l r).length≤l.length
 | [],l,_=>Nat.zero_le _
 | r::R,l,h=>by
  rw [List.flatMap_cons,List.length_append]
  have e:(R.flatMap fun x=>perOf l x)=R.flatMap fun x=>perOf (l.filter fun f => !decide (f.row=r)) x:=by
   rw [List.flatMap_def,List.flatMap_def]
   congr 1
   refine List.map_congr_left fun x hx=>perOf_rest ?_ l
   rintro rfl
   exact srows_ne h hx
  rw [e]
  have h1:=perOf_sum R (l.filter fun f => !decide (f.row=r)) (List.Pairwise.of_cons h)
  have h2:=perOf_le l r
  have h3:=filter_two (fun f:Fct=>decide (f.row=r)) l
  omega
theorem flatMap_len {α β γ:Type} (f:α→List β) (g:α→List γ) : ∀ l:List α,(∀ x∈l,(f x).length≤(g x).length)→(l.flatMap f).length≤(l.flatMap g).length
 | [],_=>Nat.le_refl _
 | x::l,h=>by
  rw [List.flatMap_cons,List.flatMap_cons,List.length_append,List.length_append]
  have:=h x (List.mem_cons_self ..)
  have:=flatMap_len f g l fun y hy=>h y (List.mem_cons_of_mem _ hy)
  omega
theorem perOf_le2 (l:List Fct) (r:List Val):(perOf l r).length≤l.length:=by
 unfold perOf;rw [List.length_map];exact List.length_filter_le _ _
section
variable {l:List Fct} {R:List (List Val)} (h:RowsOf l R) (hn:l.length≤300)
include h hn
theorem bag_len:(bagOf l R).length≤l.length:=by
 refine Nat.le_trans ?_ (perOf_sum R l h.1)
 refine flatMap_len _ _ _ fun r _=>?_
 rw [List.length_map]
 exact lev_len _ (Nat.le_trans (perOf_le2 l r) hn)
end
open Go.RowKit
def ApS (p q:Int × Int):Prop:=p.2<q.1∨q.2<p.1∨(p.1≤q.1∧q.2≤p.2)∨(q.1≤p.1∧p.2≤q.2)
structure Stk (E:List Int) (out:List (Int × Int)) (x:Int):Prop where
 asc:E.Pairwise (· ≤ ·)
 out2 : ∀ p∈out, ∀ q∈out,ApS p q
 fin : ∀ p∈out,p.2≤x∧p.1<p.2
 opn : ∀ f∈E,f≤x ∧ ∀ q∈out,f≤q.1∨q.2<f
theorem Stk.pop {E:List Int} {out:List (Int × Int)} {x y:Int} (h:Stk E out x) (hxy:x<y) (c:Nat) :
  (∀ p∈out++(E.drop c).map (fun f=>(f,y)), ∀ q∈out++(E.drop c).map (fun f=>(f,y)),ApS p q)∧(∀ p∈out++(E.drop c).map (fun f=>(f,y)),p.2≤y∧p.1<p.2):=by
 have key : ∀ p∈out, ∀ f∈E.drop c,ApS p (f,y)∧ApS (f,y) p:=by
  intro p hp f hf
  have h1:=(h.opn f (List.mem_of_mem_drop hf)).2 p hp
  have h2:=h.fin p hp
  unfold ApS
  dsimp only
  omega
 have two : ∀ f∈E.drop c, ∀ g∈E.drop c,ApS (f,y) (g,y):=by
  intro f _ g _
  unfold ApS
  dsimp only
  omega
 refine ⟨fun p hp q hq=>?_,fun p hp=>?_⟩
 ·rcases List.mem_append.1 hp with hp|hp<;>rcases List.mem_append.1 hq with hq|hq
  ·exact h.out2 p hp q hq
  ·obtain ⟨f,hf,rfl⟩:=List.mem_map.1 hq
   exact (key p hp f hf).1
  ·obtain ⟨f,hf,rfl⟩:=List.mem_map.1 hp
   exact (key q hq f hf).2
  ·obtain ⟨f,hf,rfl⟩:=List.mem_map.1 hp
   obtain ⟨g,hg,rfl⟩:=List.mem_map.1 hq
   exact two f hf g hg
 ·rcases List.mem_append.1 hp with hp|hp
  ·have:=h.fin p hp;omega
  ·obtain ⟨f,hf,rfl⟩:=List.mem_map.1 hp
   have:=(h.opn f (List.mem_of_mem_drop hf)).1
   dsimp only
   omega
theorem Stk.next {E:List Int} {out:List (Int × Int)} {x y:Int} (h:Stk E out x) (hxy:x<y) (c:Nat):Stk (St.setE E y c) (out++(E.drop c).map fun f=>(f,y)) y:=by
 obtain ⟨h1,h2⟩:=h.pop hxy c
 unfold St.setE
 refine ⟨?_,h1,h2,fun f hf=>?_⟩
 ·rw [List.pairwise_append]
  refine ⟨h.asc.sublist (List.take_sublist _ _),List.pairwise_replicate.2 (.inr (Int.le_refl _)),fun a ha b hb=>?_⟩
  obtain ⟨_,rfl⟩:=List.mem_replicate.1 hb
  have:=(h.opn a (List.mem_of_mem_take ha)).1
  omega
 ·rcases List.mem_append.1 hf with hf|hf
  ·have h3:=h.opn f (List.mem_of_mem_take hf)
   refine ⟨by omega,fun q hq=>?_⟩
   rcases List.mem_append.1 hq with hq|hq
   ·exact h3.2 q hq
   ·obtain ⟨g,hg,rfl⟩:=List.mem_map.1 hq
    have hs:(E.take c++E.drop c).Pairwise (· ≤ ·):=by rw [List.take_append_drop];exact h.asc
    exact .inl ((List.pairwise_append.1 hs).2.2 f hf g hg)
  ·obtain ⟨hc,rfl⟩:=List.mem_replicate.1 hf
   refine ⟨Int.le_refl _,fun q hq=>?_⟩
   rcases List.mem_append.1 hq with hq|hq
   ·have:=(h.fin q hq).1;exact .inr (by omega)
   ·rw [List.drop_eq_nil_of_le (by omega)] at hq
    cases hq
noncomputable def rowsL (l:List Fct):List (List Val):=Classical.choose (rowsP_eq l)
theorem rowsL_of (l:List Fct):RowsOf l (rowsL l):=(Classical.choose_spec (rowsP_eq l)).1
noncomputable def canon (l:List Fct):List Fct:=bagOf l (rowsL l)
theorem canon_of {l:List Fct} {R:List (List Val)} (h:RowsOf l R):bagOf l R=canon l:=by unfold canon;rw [RowsOf.ext h (rowsL_of l)]
theorem canon_len {l:List Fct} (hn:l.length≤300):(canon l).length≤l.length:=bag_len (rowsL_of l) hn
theorem canon_mem {l:List Fct} (hn:l.length≤300) {f:Fct} (h:f∈canon l):pvalB f.valid=true ∧ ∃ g∈l,g.row=f.row:=by
 unfold canon bagOf at h
 obtain ⟨r,hr,h⟩:=List.mem_flatMap.1 h
 obtain ⟨p,hp,rfl⟩:=List.mem_map.1 h
 obtain ⟨g,hg,_,e⟩:=((rowsL_of l).2 r).1 hr
 exact ⟨lev_valid _ (Nat.le_trans (perOf_le2 l r) hn) p hp,g,hg,e⟩
theorem fcts_canon {l:List Fct} (h:FctsOK l):FctsOK (canon l):=by
 have hn:l.length≤300:=by have:=h.1;omega
 refine ⟨Nat.le_trans (canon_len hn) h.1,fun f hf=>?_⟩
 obtain ⟨_,g,hg,e⟩:=canon_mem hn hf
 rw [← e];exact h.2 g hg
theorem fcts_sub {l m:List Fct} (h:FctsOK l) (hs:m.Sublist l):FctsOK m:=⟨Nat.le_trans hs.length_le h.1,fun f hf=>h.2 f (hs.subset hf)⟩
theorem gBag_canon {l:List Fct} (h:FctsOK l):gBag l=some (canon l):=by
 obtain ⟨R,hR,e⟩:=gBag_eq l h
 rw [e,canon_of hR]
theorem gBagR_canon {l:List Fct} (hn:l.length≤63) (hr : ∀ f∈l,f.row.length≤1000000):gBagR l=some (canon l):=by
 obtain ⟨R,hR,e,_⟩:=gBagR_eq l hn hr
 rw [e,canon_of hR]
theorem fcts_rows {l:List Fct} (h:FctsOK l) : ∀ f∈l,f.row.length≤1000000:=fun f hf=>by have:=(h.2 f hf).1;omega
theorem gBagR_fcts {l:List Fct} (h:FctsOK l):gBagR l=some (canon l):=gBagR_canon (by have:=h.1;omega) (fcts_rows h)
theorem gIdent_fcts {l:List Fct} (h:FctsOK l):gIdent l l=some true:=gIdent_refl l (by have:=h.1;omega) (fcts_rows h)
theorem gAlike_refl {r:Rln} (hk:r.kinds.length≤1000000) (h:FctsOK r.facts):gAlike r r=some true:=by
 unfold gAlike
 rw [gSameKinds_refl _ hk,Option.bind_some,cond_true,gIdent_fcts h];rfl
theorem gRelation_canon {k:List Int} {l:List Fct} (hk:k.length≤1000000) (h:FctsOK l):gRelation k l=some ⟨k,canon l⟩:=by
 unfold gRelation
 rw [decide_eq_true (by omega),cond_true,gBag_canon h];rfl
structure RlnOK (r:Rln):Prop where
 len:r.facts.length≤16
 kinds:r.kinds.length≤48
 per : ∀ f∈r.facts,pvalB f.valid=true
 row : ∀ f∈r.facts,f.row.length=r.kinds.length
 val : ∀ f∈r.facts, ∀ v∈f.row,vF v=true
theorem RlnOK.fcts {r:Rln} (h:RlnOK r):FctsOK r.facts:=⟨by have:=h.len;omega,fun f hf=>⟨by rw [h.row f hf];have:=h.kinds;omega,fun v hv=>(vv_of (h.val f hf v hv)).vok⟩⟩
theorem gFits8_sem {row:List Val} {kinds:List Int} (hk:kinds.length≤1000000) : ∃ b,gFits8 row kinds=some b∧(b=true→row.length=kinds.length ∧ ∀ v∈row,vF v=true):=by
 by_cases he:row.length=kinds.length
 ·obtain ⟨b,hb⟩:=gFits8_ex row kinds (by omega)
  refine ⟨b,hb,fun hbt=>⟨he,?_⟩⟩
  subst hbt
  unfold gFits8 at hb
  rw [show decide (((row.length:Nat):Int)≠((kinds.length:Nat):Int))=false from decide_eq_false (by omega),cond_false] at hb
  have key : ∀ (n i:Nat),i≤row.length→row.length-i<n→(loopM (gFits8_B1 row kinds) n (i:Int)).bind gFits8_K1=some true → ∀ v∈row.drop i,vF v=true:=by
   intro n
   induction n with
   | zero=>intro i _ h;omega
   | succ n ih =>
    intro i hi hn hb v hv
    rw [loopM] at hb
    by_cases hlt:i<row.length
    ·obtain ⟨x,hx⟩:=gol_ hlt
     obtain ⟨k,hk⟩:=gol_ (l:=kinds) (i:=i) (by omega)
     have h1:gFits8_B1 row kinds (i:Int)=bif (!vF x) then some (.ret false) else bif decide (x.kind≠0) then bif decide (x.kind≠k) then some (.ret false) else some (.next ((i+1:Nat):Int)) else some (.next ((i+1:Nat):Int)):=by
      unfold gFits8_B1
      dsimp only
      rw [lt_dec hx,cond_true,gn_ hx,gn_ hk]
      simp only [Option.bind_some]
      rw [gValidR_eq,Option.bind_some,wrapN (by omega)]
     have hd:row.drop i=x::row.drop (i+1):=by rw [List.drop_eq_getElem_cons hlt,(List.getElem?_eq_some_iff.1 hx).2]
     rw [hd] at hv
     cases hvx:vF x with
     | false=>rw [h1,hvx] at hb;exact absurd (show (some false:Option Bool)=some true from hb) (by decide)
     | true =>
      have h2:gFits8_B1 row kinds (i:Int)=some (.next ((i+1:Nat):Int)):=by
       rw [h1,hvx,Bool.not_true,cond_false]
       cases c1:decide (x.kind≠0) with
       | false=>rfl
       | true =>
        cases c2:decide (x.kind≠k) with
        | false=>rfl
        | true=>rw [h1,hvx,Bool.not_true,cond_false,c1,c2] at hb;exact absurd (show (some false:Option Bool)=some true from hb) (by decide)
      rw [h2] at hb
      rcases List.mem_cons.1 hv with rfl|hv
      ·exact hvx
      ·exact ih (i+1) (by omega) (by omega) hb v hv
    ·rw [List.drop_eq_nil_of_le (by omega)] at hv;cases hv
  exact fun v hv=>key fuel 0 (Nat.zero_le _) (by unfold fuel;omega) hb v (by rw [List.drop_zero];exact hv)
 ·refine ⟨false,?_,fun h=>by cases h⟩
  unfold gFits8
  rw [show decide (((row.length:Nat):Int)≠((kinds.length:Nat):Int))=true from decide_eq_true (by omega)];rfl
theorem gSound_sem {r:Rln} (hl:r.facts.length≤1000) (hk:r.kinds.length≤48) : ∃ b,gSound r=some b∧(b=true→(∀ f∈r.facts,pvalB f.valid=true)∧(∀ f∈r.facts,f.row.length=r.kinds.length) ∧ ∀ f∈r.facts, ∀ v∈f.row,vF v=true):=by
 have key : ∀ (n i:Nat),i≤r.facts.length→r.facts.length-i<n → ∃ b,(loopM (gSound_B1 r) n (i:Int)).bind (gSound_K1 r)=some b∧(b=true → ∀ f∈r.facts.drop i,pvalB f.valid=true∧f.row.length=r.kinds.length ∧ ∀ v∈f.row,vF v=true):=by
  intro n
  induction n with
  | zero=>intro i _ h;omega
  | succ n ih =>
   intro i hi hn
   rw [loopM]
   by_cases hlt:i<r.facts.length
   ·obtain ⟨x,hx⟩:=gol_ hlt
    have hd:r.facts.drop i=x::r.facts.drop (i+1):=by rw [List.drop_eq_getElem_cons hlt,(List.getElem?_eq_some_iff.1 hx).2]
    obtain ⟨b,hb,hb2⟩:=gFits8_sem (row:=x.row) (kinds:=r.kinds) (by omega)
    have h1:gSound_B1 r (i:Int)=bif !(pvalB x.valid) then some (.ret false) else bif !b then some (.ret false) else some (.next ((i+1:Nat):Int)):=by
     unfold gSound_B1
     dsimp only
     rw [lt_dec hx,cond_true,gn_ hx,Option.bind_some,gValid1_eq,Option.bind_some,hb,Option.bind_some,wrapN (by omega)]
    rw [h1]
    cases hp:pvalB x.valid with
    | false=>exact ⟨false,rfl,fun h=>by cases h⟩
    | true =>
     cases b with
     | false=>exact ⟨false,rfl,fun h=>by cases h⟩
     | true =>
      obtain ⟨c,hc,hc2⟩:=ih (i+1) (by omega) (by omega)
      refine ⟨c,hc,fun h f hf=>?_⟩
      rw [hd] at hf
      rcases List.mem_cons.1 hf with rfl|hf
      ·exact ⟨hp,hb2 rfl⟩
      ·exact hc2 h f hf
   ·have:i=r.facts.length:=by omega
    subst this
    have h1:gSound_B1 r ((r.facts.length:Nat):Int)=some (.exit ((r.facts.length:Nat):Int)):=by
     unfold gSound_B1
     dsimp only
     rw [lF_,cond_false]
    rw [h1]
    obtain ⟨b,hb⟩:=gKinds_ex r.kinds (by omega)
    have : ∃ c,gSound_K1 r (.inl ((r.facts.length:Nat):Int))=some c:=by
     unfold gSound_K1
     dsimp only
     rw [hb]
     cases decide ((0:Int)<((r.kinds.length:Nat):Int))<;>cases decide (((r.kinds.length:Nat):Int)≤48)<;>exact ⟨_,rfl⟩
    obtain ⟨c,hc⟩:=this
    refine ⟨c,hc,fun _ f hf=>?_⟩
    rw [List.drop_length] at hf;cases hf
 obtain ⟨b,hb,hb2⟩:=key fuel 0 (Nat.zero_le _) (by unfold fuel;omega)
 refine ⟨b,hb,fun h=>?_⟩
 have:=hb2 h
 rw [List.drop_zero] at this
 exact ⟨fun f hf=>(this f hf).1,fun f hf=>(this f hf).2.1,fun f hf=>(this f hf).2.2⟩
theorem gFew23_sem (r:Rln) : ∃ b,gFew23 r=some b∧(b=true→RlnOK r):=by
 unfold gFew23
 by_cases h1:r.facts.length≤16
 ·rw [decide_eq_true (show ((r.facts.length:Nat):Int)≤16 by omega),cond_true]
  by_cases h2:r.kinds.length≤48
  ·rw [decide_eq_true (show ((r.kinds.length:Nat):Int)≤48 by omega),cond_true]
   obtain ⟨b,hb,hb2⟩:=gSound_sem (r:=r) (by omega) h2
   rw [hb]
   exact ⟨b,rfl,fun h=>⟨h1,h2,(hb2 h).1,(hb2 h).2.1,(hb2 h).2.2⟩⟩
  ·rw [decide_eq_false (show ¬ ((r.kinds.length:Nat):Int)≤48 by omega)]
   exact ⟨false,rfl,fun h=>by cases h⟩
 ·rw [decide_eq_false (show ¬ ((r.facts.length:Nat):Int)≤16 by omega)]
  exact ⟨false,rfl,fun h=>by cases h⟩
theorem gChoose_eq {k:List Int} {l:List Fct} {p:Fct→Option Bool} {c:Fct→Bool} (hk:k.length≤1000000) (h:FctsOK l) (hp : ∀ f∈l,p f=some (c f)):gChoose k l p=some ⟨k,canon (l.filter c)⟩:=by
 have hl:=h.1
 unfold gChoose
 rw [loop_app (l:=l) (fun f=>if c f then [f] else []) 3518437208883 ?_ ?_ (by unfold fuel;omega) [] (by rw [flatMap_if];have:=List.length_filter_le c l;simp;omega)]
 ·rw [Option.bind_some,List.nil_append,flatMap_if]
  unfold gChoose_K1
  dsimp only
  rw [gRelation_canon hk (fcts_sub h List.filter_sublist)];rfl
 ·intro s i x hx hs
  have hi:=(List.getElem?_eq_some_iff.1 hx).1
  unfold gChoose_B1
  dsimp only
  rw [lt_dec hx,cond_true,gn_ hx,Option.bind_some,hp x (List.mem_of_getElem? hx),Option.bind_some,wrapN (by omega)]
  cases hc:c x with
  | false=>simp
  | true =>
   rw [hc] at hs
   rw [cond_true,decide_eq_true (show s.length+1≤3518437208883 from hs)];rfl
 ·intro s
  unfold gChoose_B1
  dsimp only
  rw [lF_,cond_false]
end Go.Proofs.YtfccopdbgfdcdaaGreatDoor
namespace Go.Proofs.YtfccopdbgfdcdaaGreatDoor.Aw
open Go.RowKit Go.MapKept
def stpsOf:List (List AC)→Option (List Stp)
 | []=>some []
 | [.int .i64 a, .int .i64 b]::l=>match stpsOf l with
  | some r=>some (⟨a,b⟩::r)
  | none=>none
 | _=>none
theorem stpsOf_eq : ∀ {es:List (List AC)} {l:List Stp}, stpsOf es=some l→es=l.map cStp
 | [],l,h=>by cases h;rfl
 | e::es,l,h=>by
  unfold stpsOf at h
  split at h
  ·rename_i hq;cases hq
  ·rename_i a b es' heq
   obtain ⟨rfl,rfl⟩:=List.cons.inj heq
   split at h
   ·rename_i r hr
    cases h
    rw [List.map_cons, ← stpsOf_eq hr];rfl
   ·cases h
  ·cases h
def ascOk:List Stp→Bool
 | []=>true
 | x::l=>(l.all fun y=>decide (x.lo<y.lo))&&ascOk l
def levOKb (l:List Stp):Bool:=decide (l.length≤1000)&&(ascOk l&&l.all fun s=>decide (s.lo<1099511627776)&&decide (s.n≤600))
theorem ascOk_pw : ∀ {l:List Stp}, ascOk l=true→l.Pairwise fun x y=>x.lo<y.lo
 | [],_=>List.Pairwise.nil
 | x::l,h=>by
  unfold ascOk at h
  rw [Bool.and_eq_true,List.all_eq_true] at h
  exact List.pairwise_cons.2 ⟨fun y hy=>of_decide_eq_true (h.1 y hy),ascOk_pw h.2⟩
theorem levOK_of {l:List Stp} (h:levOKb l=true):LevOK l:=by
 unfold levOKb at h
 rw [Bool.and_eq_true,Bool.and_eq_true,List.all_eq_true] at h
 obtain ⟨h1,h2,h3⟩:=h
 refine ⟨of_decide_eq_true h1,?_,fun s hs=>?_,fun s hs=>?_⟩
 ·intro i j x y hij hx hy
  rw [List.getElem?_map] at hx hy
  obtain ⟨a,ha,rfl⟩:=Option.map_eq_some_iff.1 hx
  obtain ⟨b,hb,rfl⟩:=Option.map_eq_some_iff.1 hy
  obtain ⟨hi,ea⟩:=List.getElem?_eq_some_iff.1 ha
  obtain ⟨hj,eb⟩:=List.getElem?_eq_some_iff.1 hb
  have:=List.pairwise_iff_getElem.1 (ascOk_pw h2) i j hi hj hij
  rw [ea,eb] at this
  exact this
 ·have:=h3 s hs;rw [Bool.and_eq_true] at this;exact of_decide_eq_true this.1
 ·have:=h3 s hs;rw [Bool.and_eq_true] at this;exact of_decide_eq_true this.2
def orcT:FuncId→List PV→Option CV:=fun g ps=>match Nat.beq g 90,ps with
 | true,[.one (.lst es)]=>match stpsOf es with
  | some l=>match levOKb l with
   | true=>some (.val (.one (.lst ((levV l).map cPer))))
   | false=>none
  | none=>none
 | _,_=>none
theorem orcT_ok (g:FuncId) (ps:List PV) (r:CV) (h:orcT g ps=some r):Pure Tryz.prog g ps r:=by
 unfold orcT at h
 split at h
 ·rename_i es hg
  split at h
  ·rename_i l hl
   split at h
   ·rename_i hb
    cases h
    rw [Nat.eq_of_beq_eq_true hg,stpsOf_eq hl]
    exact lev_pure l (levOK_of hb)
   ·cases h
  ·cases h
 ·cases h
noncomputable def cx:Cx := { P:=Tryz.prog,ti:=tabX,xs:=⟨224,223⟩,row:=rowL,frz:=frzT,flg:=flgT,orc:=orcT,bad:=badL }
theorem ne_ok:NoEsc Tryz.prog 224:=⟨_,Tryz.func224,by kernel_rfl,by kernel_rfl,by kernel_rfl,by kernel_rfl⟩
theorem cs_ok:CmpS Tryz.prog 223:=⟨_,Tryz.func223,by kernel_rfl,by kernel_rfl,by kernel_rfl,by kernel_rfl⟩
theorem names_ok:namesB Tryz.prog.funcs.toList=true:=by kernel_rfl
theorem codes_ok:codesB cx Tryz.prog.funcs.toList 0=true:=by kernel_rfl
theorem cx_ok:CxOK cx:=CxOK.of tabX_ok ⟨ne_ok,cs_ok⟩ mx_ names_ok codes_ok (orcT_ok)
theorem awake_run:(evF cx 64).1 14 []=some (.val (.one (.bool true))):=by kernel_rfl
theorem awake_pure:Pure Tryz.prog 14 [] (.val (.one (.bool true))):=(evF_ok cx_ok 64).1 _ _ _ awake_run
end Go.Proofs.YtfccopdbgfdcdaaGreatDoor.Aw
namespace Go.Proofs.YtfccopdbgfdcdaaGreatDoor
open Go.RowKit Go.MapKept
set_option maxRecDepth 100000
set_option maxHeartbeats 8000000
set_option maxHeartbeats 8000000
set_option maxHeartbeats 8000000
set_option maxHeartbeats 8000000
set_option maxHeartbeats 8000000
noncomputable section
def gLawFilters (a_r:Rln) (a_e:Ex):Option (Bool):=(gFew23 a_r).bind fun r_1=>bif (!r_1) then some (true) else
 (gChooses a_e a_r.kinds).bind fun r_4=>bif (!r_4) then some (true) else
 (gFilterP a_r a_e).bind fun r_7=>(gFilterR a_r a_e).bind fun r_8=>(gAlike r_7 r_8).bind fun r_9=>bif r_9 then some (true) else
 some false
theorem gLawFilters_ok {a_r:Rln} {a_e:Ex} {r:Bool} (H:gLawFilters a_r a_e=some r):Pure Tryz.prog 3 [.agg (cRln a_r), .agg (tE a_e)] (.val (.one (.bool r))):=by
 unfold gLawFilters at H
 rw [tE_eq a_e]
 refine po_ Tryz.func3 Tryz.ntmps3 ?_
 obtain ⟨r_1,c1,H⟩:=bd_ H
 replace c1:=gFew23_ok c1
 rcases cnd_ H with ⟨q_2,H⟩|⟨q_2,H⟩
 ·have hc_3:=Aw.awake_pure
  try simp only [List.map_append,List.map_cons,List.map_nil,List.nil_append,tE_eq] at hc_3
  cases H
  exact go_
 obtain ⟨r_4,c2,H⟩:=bd_ H
 replace c2:=gChooses_ok c2
 try simp only [List.map_append,List.map_cons,List.map_nil,List.nil_append,tE_eq] at c2
 rcases cnd_ H with ⟨q_5,H⟩|⟨q_5,H⟩
 ·have hc_6:=Aw.awake_pure
  try simp only [List.map_append,List.map_cons,List.map_nil,List.nil_append,tE_eq] at hc_6
  cases H
  exact go_
 obtain ⟨r_7,c3,H⟩:=bd_ H
 replace c3:=gFilterP_ok c3
 try simp only [List.map_append,List.map_cons,List.map_nil,List.nil_append,tE_eq] at c3
 obtain ⟨r_8,c4,H⟩:=bd_ H
 replace c4:=gFilterR_ok c4
 try simp only [List.map_append,List.map_cons,List.map_nil,List.nil_append,tE_eq] at c4
 obtain ⟨r_9,c5,H⟩:=bd_ H
 replace c5:=gAlike_ok c5
 rcases cnd_ H with ⟨q_10,H⟩|⟨q_10,H⟩
 ·have hc_11:=Aw.awake_pure
  try simp only [List.map_append,List.map_cons,List.map_nil,List.nil_append,tE_eq] at hc_11
  cases H
  exact go_
 cases H
 exact go_
end
set_option maxHeartbeats 8000000
set_option maxHeartbeats 8000000
set_option maxHeartbeats 8000000
def valV (e:Ex) (row:List Val):Val:=(gEvalR fuel e row).getD nulV
theorem val_ok {e:Ex} (h:exOK fuel e) (row:List Val):gEvalR fuel e row=some (valV e row)∧gEval fuel e row=some (valV e row)∧vF (valV e row)=true:=by
 obtain ⟨v,h1,h2,h3⟩:=eval_same row fuel e h
 unfold valV
 rw [h1];exact ⟨rfl,h2,h3⟩
def selB (e:Ex) (row:List Val):Bool:=decide (tF_ (valV e row)=2)
theorem gTruthE_eq {e:Ex} (h:exOK fuel e) (row:List Val):gTruthE e row=some (tF_ (valV e row)):=by
 unfold gTruthE
 rw [(val_ok h row).2.1,Option.bind_some,gTruthV_eq];rfl
theorem gTruthR11_eq {e:Ex} (h:exOK fuel e) (row:List Val):gTruthR11 e row=some (tF_ (valV e row)):=by
 unfold gTruthR11
 rw [(val_ok h row).1,Option.bind_some,gTruth7_eq];rfl
theorem gFilterP_eq {r:Rln} {e:Ex} (hk:r.kinds.length≤1000000) (h:FctsOK r.facts) (he:exOK fuel e):gFilterP r e=some ⟨r.kinds,canon (r.facts.filter fun f=>selB e f.row)⟩:=by
 unfold gFilterP
 rw [gChoose_eq (p:=fun x0=>gFilter1 x0 e) (c:=fun f=>selB e f.row) hk h (fun f _=>by unfold gFilter1;rw [gTruthE_eq he];rfl)];rfl
theorem gFilterR_eq {r:Rln} {e:Ex} (h:FctsOK r.facts) (he:exOK fuel e):gFilterR r e=some ⟨r.kinds,canon (r.facts.filter fun f=>selB e f.row)⟩:=by
 have hl:=h.1
 unfold gFilterR
 rw [loop_app (l:=r.facts) (fun f=>if selB e f.row then [f] else []) 3518437208883 ?_ ?_ (by unfold fuel;omega) [] (by rw [flatMap_if];have:=List.length_filter_le (fun f:Fct=>selB e f.row) r.facts;simp only [List.length_nil];omega)]
 ·rw [Option.bind_some,List.nil_append,flatMap_if]
  unfold gFilterR_K1
  dsimp only
  rw [gBagR_fcts (fcts_sub h List.filter_sublist)];rfl
 ·intro s i x hx hs
  have hi:=(List.getElem?_eq_some_iff.1 hx).1
  unfold gFilterR_B1
  dsimp only
  rw [lt_dec hx,cond_true,gn_ hx,Option.bind_some,gTruthR11_eq he,Option.bind_some,wrapN (by omega)]
  show (bif selB e x.row then _ else _)=_
  cases hc:selB e x.row with
  | false=>simp
  | true =>
   rw [hc] at hs
   rw [cond_true,decide_eq_true (show s.length+1≤3518437208883 from hs)];rfl
 ·intro s
  unfold gFilterR_B1
  dsimp only
  rw [lF_,cond_false]
theorem gPred21_ex {e:Ex} (kinds:List Int) (h:exOK fuel e) : ∃ n,gPred21 e kinds=some n:=by
 obtain ⟨c,c1,_⟩:=chk_same kinds h
 unfold gPred21
 rw [c1,Option.bind_some]
 cases decide (c.2≠0)<;>cases decide (c.1≠3)<;>cases decide (c.1≠0)<;>exact ⟨_,rfl⟩
theorem gChooses_sem (e:Ex) (kinds:List Int) : ∃ b,gChooses e kinds=some b∧(b=true→exOK fuel e):=by
 obtain ⟨b,hb,hok⟩:=small_sem [e]
 unfold gChooses
 rw [hb,Option.bind_some]
 cases b with
 | false=>exact ⟨false,rfl,fun h=>by cases h⟩
 | true =>
  have he:=exOK_fuel ((hok rfl).2 e (by simp))
  obtain ⟨n,hn⟩:=gPred21_ex kinds he
  rw [cond_true,hn]
  exact ⟨_,rfl,fun _=>he⟩
theorem gLawFilters_true (r:Rln) (e:Ex):gLawFilters r e=some true:=by
 obtain ⟨b,hb,hok⟩:=gFew23_sem r
 unfold gLawFilters
 rw [hb,Option.bind_some]
 cases b with
 | false=>rfl
 | true =>
  have H:=hok rfl
  have hk:r.kinds.length≤1000000:=by have:=H.kinds;omega
  rw [Bool.not_true,cond_false]
  obtain ⟨c,hc,hok2⟩:=gChooses_sem e r.kinds
  rw [hc,Option.bind_some]
  cases c with
  | false=>rfl
  | true =>
   have he:=hok2 rfl
   rw [Bool.not_true,cond_false,gFilterP_eq hk H.fcts he,Option.bind_some,gFilterR_eq H.fcts he,Option.bind_some,gAlike_refl (r:=⟨r.kinds,canon (r.facts.filter fun f=>selB e f.row)⟩) hk (fcts_canon (fcts_sub H.fcts List.filter_sublist))];rfl
theorem projectFilters_pure {r:Rln} {e:Ex} (q0:okRln r) (q1:okEx e):Pure Tryz.prog 3 [.agg (cRln r), .agg (tE e)] (.val (.one (.bool true))):=gLawFilters_ok (gLawFilters_true r e)
end Go.Proofs.YtfccopdbgfdcdaaGreatDoor
