/- Parts of the proof, joined. No condition. -/
import Derived.Test.YtfccopdbgfdcdaaGreatDoorKBP
import Derived.Test.YtfccopdbgfdcdaaGreatDoorKBN
import Derived.Test.YtfccopdbgfdcdaaGreatDoorKBO
import Derived.Test.YtfccopdbgfdcdaaGreatDoorKBI
set_option linter.unusedSimpArgs false
set_option linter.unusedVariables false
namespace Go.Proofs.YtfccopdbgfdcdaaGreatDoor
open Go.RowKit Go.MapKept
set_option maxRecDepth 100000
theorem split_run (r:List Val) : ∀ l:List Fct, ∃ s t,l=s++t∧(∀ f∈s,f.row=r)∧(∀ f u,t=f::u→f.row≠r)
 | []=>⟨[],[],rfl,(fun _ h=>by cases h),(fun _ _ h=>by cases h)⟩
 | f::l=>by
  by_cases e:f.row=r
  ·obtain ⟨s,t,h1,h2,h3⟩:=split_run r l
   refine ⟨f::s,t,by rw [h1];rfl,fun g hg=>?_,h3⟩
   rcases List.mem_cons.1 hg with rfl|hg
   ·exact e
   ·exact h2 g hg
  ·exact ⟨[],f::l,rfl,(fun _ h=>by cases h),(fun g u h=>by injection h with h1 h2;subst h1;exact e)⟩
theorem subI_mid {α:Type} (P s t:List α):subI (P++s++t) ((P.length:Nat):Int) (((P.length+s.length:Nat):Nat):Int)=some s:=by
 unfold subI
 rw [if_pos (by simp;omega),Int.toNat_natCast,Int.toNat_natCast]
 congr 1
 have e:(P++s++t).take (P.length+s.length)=P++s:=by
  rw [List.take_append_of_le_length (by simp)]
  rw [List.take_of_length_le (by simp)]
 rw [e,List.drop_left]
theorem perAll_app (s t:List Fct) (r:List Val):perAll (s++t) r=perAll s r++perAll t r:=by unfold perAll;rw [List.filter_append,List.map_append]
theorem perAll_none {l:List Fct} {r:List Val} (h : ∀ f∈l,f.row≠r):perAll l r=[]:=by
 unfold perAll
 rw [List.map_eq_nil_iff,List.filter_eq_nil_iff]
 intro f hf e
 exact h f hf (of_decide_eq_true e)
def GrpsOf (l:List Fct) (G:List SGroup):Prop:=RowsOf l (G.map (·.row)) ∧ ∀ g∈G,g.steps=ofV (ones (perAll l g.row))
theorem run_end (P s t:List Fct) (r:List Val) (f0:Fct) (hf0:f0.row=r) (hrl : ∀ f∈P++s++t,f.row.length≤1000000) (hn:(P++s++t).length≤63) (hs : ∀ f∈s,f.row=r) (hs0:s[0]?=some f0) (ht : ∀ f u,t=f::u→f.row≠r) :
  ∀ (n j:Nat),j≤s.length→s.length-j<n→loopM (gGroups22_B6 (P++s++t) ((P.length:Nat):Int)) n (((P.length+j:Nat):Nat):Int)=some (.inl (((P.length+s.length:Nat):Nat):Int)):=by
 have hi:(P++s++t)[P.length]?=some f0:=by
  rw [List.append_assoc,List.getElem?_append_right (Nat.le_refl _),Nat.sub_self,List.getElem?_append_left (by have:=(List.getElem?_eq_some_iff.1 hs0).1;omega)]
  exact hs0
 have hnl:P.length+s.length≤63:=by simp only [List.length_append] at hn;omega
 intro n
 induction n with
 | zero=>intro j _ h;omega
 | succ n ih =>
  intro j hj hn2
  rw [loopM]
  by_cases hlt:j<s.length
  ·obtain ⟨x,hx⟩:=gol_ hlt
   have hx2:(P++s++t)[P.length+j]?=some x:=by
    rw [List.append_assoc,List.getElem?_append_right (by omega),show P.length+j-P.length=j by omega,List.getElem?_append_left hlt]
    exact hx
   have hxm:=List.mem_of_getElem? hx2
   have him:=List.mem_of_getElem? hi
   have e:gGroups22_B6 (P++s++t) ((P.length:Nat):Int) (((P.length+j:Nat):Nat):Int)=some (.next (((P.length+(j+1):Nat):Nat):Int)):=by
    unfold gGroups22_B6
    dsimp only
    rw [lt_dec hx2,cond_true,gn_ hx2,gn_ hi]
    simp only [Option.bind_some]
    rw [gCmp8_eq x.row f0.row (by have:=hrl x hxm;omega) (by have:=hrl f0 him;omega),Option.bind_some]
    rw [hs x (List.mem_of_getElem? hx),hf0,tCr_.refl]
    rw [show decide ((0:Int)=0)=true from rfl,cond_true,wrapN (by omega)]
    rfl
   rw [e]
   exact ih (j+1) (by omega) (by omega)
  ·have hje:j=s.length:=by omega
   subst hje
   have e:gGroups22_B6 (P++s++t) ((P.length:Nat):Int) (((P.length+s.length:Nat):Nat):Int)=some (.exit (((P.length+s.length:Nat):Nat):Int)):=by
    unfold gGroups22_B6
    dsimp only
    cases t with
    | nil =>
     rw [show decide ((((P.length+s.length:Nat):Nat):Int)<(((P++s++([]:List Fct)).length:Nat):Int))=false from decide_eq_false (by simp),cond_false]
    | cons y u =>
     have hy:(P++s++y::u)[P.length+s.length]?=some y:=by
      rw [List.getElem?_append_right (by simp),List.length_append,Nat.sub_self];rfl
     rw [lt_dec hy,cond_true,gn_ hy,gn_ hi]
     simp only [Option.bind_some]
     rw [gCmp8_eq y.row f0.row (by have:=hrl y (List.mem_of_getElem? hy);omega) (by have:=hrl f0 (List.mem_of_getElem? hi);omega),Option.bind_some]
     rw [show decide (rcmp y.row f0.row=0)=false from decide_eq_false fun q=>ht y u rfl ((tCr_.zero _ _ q).trans hf0),cond_false]
   rw [e]
theorem groups_at (all:List Fct) (hrl : ∀ f∈all,f.row.length≤1000000) (hn:all.length≤63) (ha:AscF all) :
  ∀ (n:Nat) (P t:List Fct) (out:List SGroup),all=P++t→t.length<n→out.length≤P.length → ∃ G,GrpsOf t G∧loopM (gGroups22_B5 all) n (out,((P.length:Nat):Int))=some (.inl (out++G,((all.length:Nat):Int))):=by
 intro n
 induction n with
 | zero=>intro P t out _ h;omega
 | succ n ih =>
  intro P t out hall htn hout
  rw [loopM]
  match t,hall,htn with
  | [],hall,_ =>
   refine ⟨[],⟨⟨List.Pairwise.nil,fun x=>?_⟩,fun g hg=>by cases hg⟩,?_⟩
   ·constructor
    ·intro h;cases h
    ·rintro ⟨f,hf,_⟩;cases hf
   ·have e:gGroups22_B5 all (out,((P.length:Nat):Int))=some (.exit (out,((P.length:Nat):Int))):=by
     unfold gGroups22_B5
     dsimp only
     rw [show decide (((P.length:Nat):Int)<((all.length:Nat):Int))=false from decide_eq_false (by rw [hall];simp),cond_false]
    rw [e,hall];simp
  | f0::t0,hall,htn =>
   obtain ⟨s,u,hsu,hs,hu⟩:=split_run f0.row (f0::t0)
   have hs0:s[0]?=some f0:=by
    cases s with
    | nil=>exact absurd rfl (hu f0 t0 (by rw [hsu];rfl))
    | cons y s'=>rw [List.cons_append] at hsu;injection hsu with h1 _;rw [h1];rfl
   have hsl:0<s.length:=(List.getElem?_eq_some_iff.1 hs0).1
   have hall2:all=P++s++u:=by rw [hall,hsu,List.append_assoc]
   have hlen:=congrArg List.length hall2
   simp only [List.length_append] at hlen
   have hu2:u.length+s.length=(f0::t0).length:=by rw [hsu];simp;omega
   have hrun:=run_end P s u f0.row f0 rfl (by rw [← hall2];exact hrl) (by rw [← hall2];exact hn) hs hs0 hu fuel 0 (Nat.zero_le _) (by unfold fuel;omega)
   rw [← hall2,Nat.add_zero] at hrun
   have hr0:f0.row.length≤1000000:=hrl f0 (by rw [hall];simp)
   have hrs : ∀ f∈s,f.row.length≤1000000:=fun f hf=>hrl f (by rw [hall2];simp [hf])
   have hrows:=gRows22_run s f0.row hr0 hs (by omega)
   have hcnt:=gCounts22_eq s f0.row hr0 hrs (by omega)
   -- what lies behind the run is greater
   have hgt : ∀ f∈u,rcmp f0.row f.row<0:=by
    intro f hf
    have h1:AscF u:=by rw [hall2] at ha;exact (List.pairwise_append.1 ha).2.1
    have h2 : ∀ a∈P++s, ∀ b∈u,rcmp a.row b.row≤0:=by rw [hall2] at ha;exact (List.pairwise_append.1 ha).2.2
    have hf0s:f0∈P++s:=List.mem_append_right _ (List.mem_of_getElem? hs0)
    cases u with
    | nil=>cases hf
    | cons y v =>
     have hy0:=h2 f0 hf0s y (by simp)
     have hyn:rcmp f0.row y.row≠0:=fun q=>hu y v rfl (tCr_.zero _ _ q).symm
     have hlt:rcmp f0.row y.row<0:=by omega
     rcases List.mem_cons.1 hf with rfl|hf
     ·exact hlt
     ·have hyf:=(List.pairwise_cons.1 h1).1 f hf
      rcases Int.lt_or_eq_of_le hyf with h|h
      ·exact tCr_.trans _ _ _ hlt h
      ·rw [← tCr_.zero _ _ h];exact hlt
   have hne : ∀ f∈u,f.row≠f0.row:=fun f hf e=>by have:=hgt f hf;rw [e,tCr_.refl] at this;omega
   obtain ⟨o1,ho1⟩ : ∃ o1:List SGroup,o1=if s.any (fun f=>pvalB f.valid) then [⟨f0.row,ofV (ones (perAll s f0.row))⟩] else []:=⟨_,rfl⟩
   have ho1l:o1.length≤1:=by rw [ho1];split<;>simp
   obtain ⟨G,hG,hL⟩:=ih (P++s) u (out++o1) hall2 (by simp at htn;simp at hu2;omega) (by simp;omega)
   have hi0:all[P.length]?=some f0:=by
    rw [hall,List.getElem?_append_right (Nat.le_refl _),Nat.sub_self];rfl
   have e:gGroups22_B5 all (out,((P.length:Nat):Int))=some (.next (out++o1,(((P++s).length:Nat):Int))):=by
    unfold gGroups22_B5
    dsimp only
    rw [lt_dec hi0,cond_true,hrun,Option.bind_some]
    show (subI all ((P.length:Nat):Int) (((P.length+s.length:Nat):Nat):Int)).bind _=_
    rw [show subI all ((P.length:Nat):Int) (((P.length+s.length:Nat):Nat):Int)=some s by rw [hall2];exact subI_mid P s u,Option.bind_some,hrows,Option.bind_some]
    by_cases hv:(s.any fun f=>pvalB f.valid)=true
    ·rw [if_pos hv] at ho1 ⊢
     rw [loop_app (l:=[f0.row]) (fun r=>[(⟨r,ofV (ones (perAll s f0.row))⟩:SGroup)]) 2932031007402 ?_ ?_ (by unfold fuel;simp) out (by simp;omega)]
     ·rw [Option.bind_some,ho1,List.length_append];rfl
     ·intro o i x hx ho
      have hi:=(List.getElem?_eq_some_iff.1 hx).1
      have hi1:i=0:=by simpa using hi
      subst hi1
      simp at hx;subst hx
      unfold gGroups22_B7
      dsimp only
      rw [show decide (((0:Nat):Int)<((([f0.row]:List (List Val)).length:Nat):Int))=true from rfl,cond_true,show getI [f0.row] ((0:Nat):Int)=some f0.row from rfl,Option.bind_some,hcnt,Option.bind_some]
      rw [show decide (o.length+1≤2932031007402)=true from decide_eq_true (by simpa using ho),cond_true,wrapN (by omega)]
     ·intro o
      unfold gGroups22_B7
      dsimp only
      rw [lF_,cond_false]
    ·rw [if_neg hv] at ho1 ⊢
     rw [loop_app (l:=([]:List (List Val))) (fun r=>([]:List SGroup)) 2932031007402 ?_ ?_ (by unfold fuel;simp) out (by simp;omega)]
     ·rw [Option.bind_some,ho1,List.length_append];simp [gGroups22_K7]
     ·intro o i x hx;simp at hx
     ·intro o
      unfold gGroups22_B7
      dsimp only
      rw [lF_,cond_false]
   refine ⟨o1++G,⟨⟨?_,fun x=>?_⟩,fun g hg=>?_⟩,?_⟩
   ·rw [List.map_append]
    refine List.pairwise_append.2 ⟨by rw [ho1];split<;>simp,hG.1.1,fun a ha2 b hb=>?_⟩
    obtain ⟨f,hf,_,e⟩:=(hG.1.2 b).1 hb
    have:a=f0.row:=by rw [ho1] at ha2;split at ha2<;>simp at ha2;exact ha2
    rw [this, ← e];exact hgt f hf
   ·rw [List.map_append,List.mem_append,hG.1.2 x,hsu]
    constructor
    ·rintro (h|⟨f,hf,h⟩)
     ·rw [ho1] at h
      split at h
      ·rename_i hv
       simp at h
       obtain ⟨f,hf,hv⟩:=List.any_eq_true.1 hv
       exact ⟨f,List.mem_append_left _ hf,hv,by rw [h];exact hs f hf⟩
      ·simp at h
     ·exact ⟨f,List.mem_append_right _ hf,h⟩
    ·rintro ⟨f,hf,hv,e⟩
     rcases List.mem_append.1 hf with hf|hf
     ·left
      rw [ho1,if_pos (List.any_eq_true.2 ⟨f,hf,hv⟩)]
      simp [← e,hs f hf]
     ·exact .inr ⟨f,hf,hv,e⟩
   ·rw [hsu,perAll_app]
    rcases List.mem_append.1 hg with hg|hg
    ·have hgr:g=⟨f0.row,ofV (ones (perAll s f0.row))⟩:=by rw [ho1] at hg;split at hg<;>simp at hg;exact hg
     rw [hgr]
     rw [perAll_none hne,List.append_nil]
    ·have hgm:g.row∈G.map (·.row):=List.mem_map_of_mem hg
     obtain ⟨f,hf,_,e⟩:=(hG.1.2 g.row).1 hgm
     rw [perAll_none (l:=s) (fun f' hf' q=>hne f hf (by rw [e, ← q];exact (hs f' hf'))),List.nil_append]
     exact hG.2 g hg
   ·rw [e]
    dsimp only
    rw [hL,List.append_assoc]
theorem levOf_all (l all:List Fct) (h:all.Perm l) (r:List Val):levOf (perAll all r)=levOf (perOf l r):=by
 refine levOf_perm ?_
 have e1:(perAll all r).filter (fun p=>St.pvalid (toP p))=perOf all r:=by
  unfold perAll perOf
  rw [List.filter_map,List.filter_filter]
  congr 1
 have e2:(perOf l r).filter (fun p=>St.pvalid (toP p))=perOf l r:=List.filter_eq_self.2 fun p hp=>perOf_valid l r p hp
 rw [e1,e2]
 unfold perOf
 exact (h.filter _).map _
theorem gBagR_eq (l:List Fct) (hn:l.length≤63) (hr : ∀ f∈l,f.row.length≤1000000) : ∃ R,RowsOf l R∧gBagR l=some (bagOf l R)∧(bagOf l R).length≤4800600:=by
 obtain ⟨all,e1,a1,p1⟩:=gOrdered_eq 639 l (by omega) (by omega) hr
 have hal:all.length=l.length:=p1.length_eq
 obtain ⟨G,hG,hL⟩:=groups_at all (fun f hf=>hr f (p1.mem_iff.1 hf)) (by omega) a1 fuel [] all [] rfl (by unfold fuel;omega) (Nat.le_refl _)
 have hgr:gGroups22 l=some G:=by
  unfold gGroups22
  rw [e1,Option.bind_some]
  have:loopM (gGroups22_B5 all) fuel ([],(0:Int))=some (.inl ([]++G,((all.length:Nat):Int))):=hL
  rw [this,Option.bind_some,List.nil_append];rfl
 have hR:RowsOf l (G.map (·.row)):=by
  refine ⟨hG.1.1,fun x=>(hG.1.2 x).trans ?_⟩
  constructor
  ·rintro ⟨f,hf,h⟩;exact ⟨f,p1.mem_iff.1 hf,h⟩
  ·rintro ⟨f,hf,h⟩;exact ⟨f,p1.mem_iff.2 hf,h⟩
 refine ⟨G.map (·.row),hR,?_⟩
 have hpl : ∀ r,(perAll all r).length≤63:=fun r=>by
  have:(perAll all r).length≤all.length:=by unfold perAll;rw [List.length_map];exact List.length_filter_le _ _
  omega
 have hlev : ∀ g∈G,gLevR g.steps=some (levOf (perOf l g.row)):=by
  intro g hg
  rw [hG.2 g hg, ← levOf_all l all p1]
  unfold gLevR
  rw [if_pos (levOK_of _ (by have:=hpl g.row;omega))]
  rfl
 have hll : ∀ g∈G,(levOf (perOf l g.row)).length≤76200:=fun g hg=>by
  have h1:=levOf_len (perOf l g.row)
  have h2:=perOf_len l g.row
  omega
 have hGl:G.length≤63:=by
  -- the rows of the groups are rows of facts, each once
  have h1 : ∀ (R:List (List Val)) (L:List (List Val)),R.Nodup→(∀ x∈R,x∈L)→R.length≤L.length:=by
   intro R
   induction R with
   | nil=>intro L _ _;simp
   | cons x R ih =>
    intro L hnd hm
    have hx:=hm x (by simp)
    have hnd2:=List.nodup_cons.1 hnd
    have h2:=ih (L.erase x) hnd2.2 fun y hy=>by
     have hne:y≠x:=fun e=>hnd2.1 (e▸hy)
     exact (List.mem_erase_of_ne hne).2 (hm y (List.mem_cons_of_mem _ hy))
    have h3:=List.length_erase_of_mem hx
    have h4:0<L.length:=List.length_pos_of_mem hx
    rw [List.length_cons];omega
  have h2:(G.map (·.row)).Nodup:=by
   refine List.Pairwise.imp ?_ hR.1
   intro a b h e
   rw [e,tCr_.refl] at h;omega
  have h3:=h1 (G.map (·.row)) (l.map (·.row)) h2 fun x hx=>by
   obtain ⟨f,hf,_,e⟩:=(hR.2 x).1 hx
   exact List.mem_map.2 ⟨f,hf,e⟩
  simp at h3
  omega
 have hfl : ∀ L:List SGroup,(∀ g∈L,(levOf (perOf l g.row)).length≤76200)→(L.flatMap fun g=>(levOf (perOf l g.row)).map fun p=>(⟨g.row,p⟩:Fct)).length≤L.length*76200:=by
  intro L
  induction L with
  | nil=>intro _;simp
  | cons g L ih =>
   intro hL
   have h1:=ih fun x hx=>hL x (List.mem_cons_of_mem _ hx)
   have h2:=hL g (by simp)
   rw [List.flatMap_cons,List.length_append,List.length_map,List.length_cons];omega
 have htot:=Nat.le_trans (hfl G hll) (Nat.mul_le_mul_right 76200 hGl)
 refine ⟨?_,by unfold bagOf;rw [List.flatMap_map];exact htot⟩
 unfold gBagR
 rw [hgr,Option.bind_some]
 rw [loop_app (l:=G) (fun g=>(levOf (perOf l g.row)).map fun p=>(⟨g.row,p⟩:Fct)) 3518437208883 ?_ ?_ (by unfold fuel;omega) [] (by simp only [List.length_nil];omega)]
 ·rw [Option.bind_some,List.nil_append]
  show some _=some _
  unfold bagOf
  rw [List.flatMap_map]
 ·intro s i x hx hs
  have hi:=(List.getElem?_eq_some_iff.1 hx).1
  have hxm:=List.mem_of_getElem? hx
  have h2:=hll x hxm
  unfold gBagR_B1
  dsimp only
  rw [lt_dec hx,cond_true,gn_ hx]
  simp only [Option.bind_some]
  rw [hlev x hxm,Option.bind_some,gDuring_eq x.row _ (by omega),Option.bind_some]
  rw [show decide (s.length+((levOf (perOf l x.row)).map fun p=>(⟨x.row,p⟩:Fct)).length≤3518437208883)=true from decide_eq_true hs,cond_true,wrapN (by omega)]
 ·intro s
  unfold gBagR_B1
  dsimp only
  rw [lF_,cond_false]
theorem flatMap_if {α:Type} (p:α→Bool) : ∀ l:List α,(l.flatMap fun x=>if p x then [x] else [])=l.filter p
 | []=>rfl
 | x::l=>by
  rw [List.flatMap_cons,flatMap_if p l]
  by_cases h:p x=true
  ·rw [if_pos h,List.filter_cons_of_pos h];rfl
  ·rw [if_neg h,List.filter_cons_of_neg h];rfl
theorem gIdent_refl (l:List Fct) (hn:l.length≤1000000000) (hr : ∀ f∈l,f.row.length≤1000000):gIdent l l=some true:=by
 unfold gIdent
 rw [show decide (((l.length:Nat):Int)≠((l.length:Nat):Int))=false from decide_eq_false fun h=>h rfl,cond_false]
 have loop : ∀ (n i:Nat),i≤l.length→l.length-i<n→loopM (gIdent_B1 l l) n (i:Int)=some (.inl ((l.length:Nat):Int)):=by
  intro n
  induction n with
  | zero=>intro i _ h;omega
  | succ n ih =>
   intro i hi h
   rw [loopM]
   by_cases hlt:i<l.length
   ·obtain ⟨x,hx⟩:=gol_ hlt
    have hxr:=hr x (List.mem_of_getElem? hx)
    have e:gIdent_B1 l l (i:Int)=some (.next (((i+1:Nat):Nat):Int)):=by
     unfold gIdent_B1
     dsimp only
     rw [lt_dec hx,cond_true,gn_ hx]
     simp only [Option.bind_some]
     rw [show sameS [.c (.int .i64 x.valid.lo), .c (.int .i64 x.valid.hi)] [.c (.int .i64 x.valid.lo), .c (.int .i64 x.valid.hi)]=true by simp [sameS],gCmp8_eq x.row x.row (by omega) (by omega)]
     simp only [Bool.not_true,cond_false,Option.bind_some]
     rw [tCr_.refl,show decide ((0:Int)≠0)=false from rfl,cond_false,wrapN (by omega)]
    rw [e]
    exact ih (i+1) (by omega) (by omega)
   ·have:i=l.length:=by omega
    subst this
    have e:gIdent_B1 l l ((l.length:Nat):Int)=some (.exit ((l.length:Nat):Int)):=by
     unfold gIdent_B1
     dsimp only
     rw [lF_,cond_false]
    rw [e]
 have:=loop fuel 0 (Nat.zero_le _) (by unfold fuel;omega)
 rw [show loopM (gIdent_B1 l l) fuel (0:Int)=_ from this]
 rfl
def nulV:Val:=⟨0,0,ByteArray.empty⟩
theorem gNull_eq:gNull=some nulV:=rfl
theorem gNullR_eq:gNullR=some nulV:=rfl
def vF (v:Val):Bool:=(gValidR v).getD false
theorem gValidR_eq (v:Val):gValidR v=some (vF v):=by
 obtain ⟨r,hr⟩:=gValidR_ex v
 unfold vF
 rw [hr];rfl
theorem gValidP_eq (v:Val):gValidP v=some (vF v):=(show gValidP v=gValidR v from rfl).trans (gValidR_eq v)
def orN (v:Val):Val:=bif vF v then v else nulV
theorem gOrNull_eq (v:Val):gOrNull v=some (orN v):=by
 unfold gOrNull orN
 rw [gValidP_eq,Option.bind_some,gNull_eq]
 cases vF v<;>rfl
theorem gvalidR_eq (v:Val):gvalidR v=some (orN v):=by
 unfold gvalidR orN
 rw [gValidR_eq,Option.bind_some,gNullR_eq]
 cases vF v<;>rfl
theorem vF_nul:vF nulV=true:=by
 have e:(ByteArray.empty.toList==(⟨#[]⟩:ByteArray).toList)=true:=by rw [ByteArray.toList_eq,ByteArray.toList_eq];rfl
 unfold vF gValidR nulV
 dsimp only
 rw [e];rfl
theorem vF_orN (v:Val):vF (orN v)=true:=by
 unfold orN
 cases h:vF v with
 | true=>exact h
 | false=>exact vF_nul
def boolV (b:Bool):Val:=bif b then ⟨3,1,ByteArray.empty⟩ else ⟨3,0,ByteArray.empty⟩
theorem gBoolP_eq (b:Bool):gBoolP b=some (boolV b):=by cases b<;>rfl
theorem gBoolR_eq (b:Bool):gBoolR b=some (boolV b):=by cases b<;>rfl
theorem vF_bool (b:Bool):vF (boolV b)=true:=by
 have e:(ByteArray.empty.toList==(⟨#[]⟩:ByteArray).toList)=true:=by rw [ByteArray.toList_eq,ByteArray.toList_eq];rfl
 unfold vF gValidR boolV
 cases b<;>(dsimp only [cond_true,cond_false];rw [e];rfl)
theorem gIntP_or (n:Int):gIntP n=some (orN ⟨1,n,ByteArray.empty⟩):=by unfold gIntP;rw [gOrNull_eq];rfl
theorem gIntR_or (n:Int):gIntR n=some (orN ⟨1,n,ByteArray.empty⟩):=by unfold gIntR;rw [gvalidR_eq];rfl
theorem gTextP_or (s:ByteArray):gTextP s=some (orN ⟨2,0,s⟩):=by unfold gTextP;rw [gOrNull_eq];rfl
theorem gTextR_or (s:ByteArray):gTextR s=some (orN ⟨2,0,s⟩):=by unfold gTextR;rw [gvalidR_eq];rfl
def T3 (t:Int):Prop:=t=0∨t=1∨t=2
theorem truth_same (v:Val) : ∃ t,gTruthV v=some t∧gTruth7 v=some t∧T3 t:=by
 have e:gTruthV v=gTruth7 v:=rfl
 have h : ∃ t,gTruth7 v=some t∧T3 t:=by
  unfold gTruth7
  rw [gBoolR_eq,gBoolR_eq]
  simp only [Option.bind_some]
  cases sameS [.c (.int .i64 v.kind), .c (.int .i64 v.int), .c (.str v.text)] [.c (.int .i64 (boolV true).kind), .c (.int .i64 (boolV true).int), .c (.str (boolV true).text)] with
  | true=>exact ⟨2,rfl, .inr (.inr rfl)⟩
  | false =>
   rw [cond_false]
   cases sameS [.c (.int .i64 v.kind), .c (.int .i64 v.int), .c (.str v.text)] [.c (.int .i64 (boolV false).kind), .c (.int .i64 (boolV false).int), .c (.str (boolV false).text)] with
   | true=>exact ⟨0,rfl, .inl rfl⟩
   | false=>exact ⟨1,rfl, .inr (.inl rfl)⟩
 obtain ⟨t,h1,h2⟩:=h
 exact ⟨t,e.trans h1,h1,h2⟩
def tF_ (v:Val):Int:=(gTruth7 v).getD 1
theorem gTruthV_eq (v:Val):gTruthV v=some (tF_ v):=by obtain ⟨t,h1,h2,_⟩:=truth_same v;unfold tF_;rw [h1,h2];rfl
theorem gTruth7_eq (v:Val):gTruth7 v=some (tF_ v):=by obtain ⟨t,h1,h2,_⟩:=truth_same v;unfold tF_;rw [h2];rfl
theorem truthF_T3 (v:Val):T3 (tF_ v):=by obtain ⟨t,h1,h2,h3⟩:=truth_same v;unfold tF_;rw [h2];exact h3
def not3 (a:Int):Int:=if a=2 then 0 else if a=0 then 2 else 1
def and3 (a b:Int):Int:=if a=0∨b=0 then 0 else if a=2∧b=2 then 2 else 1
def or3 (a b:Int):Int:=if a=2∨b=2 then 2 else if a=0∧b=0 then 0 else 1
theorem not3_T3 (a:Int):T3 (not3 a):=by unfold not3;split;exact .inl rfl;split;exact .inr (.inr rfl);exact .inr (.inl rfl)
theorem and3_T3 (a b:Int):T3 (and3 a b):=by unfold and3;split;exact .inl rfl;split;exact .inr (.inr rfl);exact .inr (.inl rfl)
theorem or3_T3 (a b:Int):T3 (or3 a b):=by unfold or3;split;exact .inr (.inr rfl);split;exact .inl rfl;exact .inr (.inl rfl)
theorem gNot_eq {a:Int} (h:T3 a):gNot a=some (not3 a):=by rcases h with rfl|rfl|rfl<;>rfl
theorem gNotR_eq {a:Int} (h:T3 a):gNotR a=some (not3 a):=by rcases h with rfl|rfl|rfl<;>rfl
theorem gNormal_eq {a:Int} (h:T3 a):gNormal a=some a:=by rcases h with rfl|rfl|rfl<;>rfl
theorem gLeast_eq {a b:Int} (ha:T3 a) (hb:T3 b):gLeast [a,b]=some (mnI (mnI 2 a) b):=by
 unfold gLeast
 rw [loop_list (l:=[a,b]) (mk:=fun t i=>(t,i)) (f:=fun t x=>(gNormal x).bind fun r=>some (.inl (mnI t r))) ?_ ?_ (by unfold fuel;simp) 2]
 ·simp only [foldS,gNormal_eq ha,gNormal_eq hb,Option.bind_some]
  rfl
 ·intro s i x hx
  have hi:=(List.getElem?_eq_some_iff.1 hx).1
  unfold gLeast_B1
  dsimp only
  rw [lt_dec hx,cond_true,gn_ hx,wrapN (by simp at hi;omega)]
  simp only [Option.bind_some]
  cases gNormal x<;>rfl
 ·intro s
  unfold gLeast_B1
  dsimp only
  rw [lF_,cond_false]
theorem gAnd_eq {a b:Int} (ha:T3 a) (hb:T3 b):gAnd a b=some (and3 a b):=by
 unfold gAnd
 rw [gLeast_eq ha hb]
 rcases ha with rfl|rfl|rfl<;>rcases hb with rfl|rfl|rfl<;>rfl
theorem gAndR_eq {a b:Int} (ha:T3 a) (hb:T3 b):gAndR a b=some (and3 a b):=by
 rcases ha with rfl|rfl|rfl<;>rcases hb with rfl|rfl|rfl<;>rfl
theorem gOr_eq {a b:Int} (ha:T3 a) (hb:T3 b):gOr3v a b=some (or3 a b):=by
 unfold gOr3v
 rw [gNot_eq ha,gNot_eq hb]
 simp only [Option.bind_some]
 rw [gLeast_eq (not3_T3 a) (not3_T3 b)]
 rcases ha with rfl|rfl|rfl<;>rcases hb with rfl|rfl|rfl<;>rfl
theorem gOrR_eq {a b:Int} (ha:T3 a) (hb:T3 b):gOrR a b=some (or3 a b):=by
 rcases ha with rfl|rfl|rfl<;>rcases hb with rfl|rfl|rfl<;>rfl
def ofT (t:Int):Val:=if t=2 then boolV true else if t=0 then boolV false else nulV
theorem gOfV2_eq {t:Int} (h:T3 t):gOfV2 t=some (ofT t):=by rcases h with rfl|rfl|rfl<;>rfl
theorem gOf7_eq {t:Int} (h:T3 t):gOf7 t=some (ofT t):=by rcases h with rfl|rfl|rfl<;>rfl
theorem vF_ofT (t:Int):vF (ofT t)=true:=by
 unfold ofT
 split
 ·exact vF_bool _
 ·split
  ·exact vF_bool _
  ·exact vF_nul
def decF (a b:Val) (is:Bool):Int:=if a.kind=0∨a.kind≠b.kind then 1 else bif is then 2 else 0
theorem decF_T3 (a b:Val) (is:Bool):T3 (decF a b is):=by
 unfold decF
 split
 ·exact .inr (.inl rfl)
 ·cases is
  ·exact .inl rfl
  ·exact .inr (.inr rfl)
theorem gDecide_eq (a b:Val) (is:Bool):gDecide a b is=some (decF a b is):=by
 unfold gDecide decF
 by_cases h1:a.kind=0
 ·simp [h1]
 ·by_cases h2:a.kind=b.kind
  ·have hb : ¬ b.kind=0:=by rw [← h2];exact h1
   simp only [h2,decide_eq_false hb,cond_false,ne_eq,not_true_eq_false,decide_false,or_false]
   rw [if_neg hb]
   cases is<;>rfl
  ·simp only [decide_eq_false h1,cond_false,ne_eq,h2,not_false_eq_true,decide_true,cond_true,or_true,if_true]
theorem gtruthR_eq (a b:Val) (is:Bool):gtruthR a b is=some (decF a b is):=(show gtruthR a b is=gDecide a b is from rfl).trans (gDecide_eq a b is)
def eqF (a b:Val):Int:=decF a b (decide (vcmp a b=0))
def ltF (a b:Val):Int:=decF a b (decide (vcmp a b<0))
theorem gEqV_eq (a b:Val):gEqV a b=some (eqF a b):=by unfold gEqV;rw [gVCmp_eq,Option.bind_some,gDecide_eq];rfl
theorem gEqR_eq (a b:Val):gEqR a b=some (eqF a b):=by unfold gEqR;rw [gCmp7_eq,Option.bind_some,gtruthR_eq];rfl
theorem gLessV_eq (a b:Val):gLessV a b=some (ltF a b):=by unfold gLessV;rw [gVCmp_eq,Option.bind_some,gDecide_eq];rfl
theorem gLessR_eq (a b:Val):gLessR a b=some (ltF a b):=by unfold gLessR;rw [gCmp7_eq,Option.bind_some,gtruthR_eq];rfl
def cmpF (op:Int) (a b:Val):Int:=if op=7 then eqF a b else if op=8 then not3 (eqF a b) else if op=9 then ltF a b else if op=11 then ltF b a else if op=10 then not3 (ltF b a) else not3 (ltF a b)
theorem eqF_T3 (a b:Val):T3 (eqF a b):=decF_T3 _ _ _
theorem ltF_T3 (a b:Val):T3 (ltF a b):=decF_T3 _ _ _
theorem cmpF_T3 (op:Int) (a b:Val):T3 (cmpF op a b):=by
 unfold cmpF
 split
 ·exact eqF_T3 _ _
 split
 ·exact not3_T3 _
 split
 ·exact ltF_T3 _ _
 split
 ·exact ltF_T3 _ _
 split
 ·exact not3_T3 _
 ·exact not3_T3 _
theorem gComparison_eq (op:Int) (a b:Val):gComparison op a b=some (cmpF op a b):=by
 unfold gComparison cmpF
 simp only [gEqV_eq,gLessV_eq,Option.bind_some,gNot_eq (eqF_T3 a b),gNot_eq (ltF_T3 a b),gNot_eq (ltF_T3 b a)]
 by_cases h1:op=7
 ·simp [h1]
 by_cases h2:op=8
 ·simp [h2]
 by_cases h3:op=9
 ·simp [h3]
 by_cases h4:op=11
 ·simp [h4]
 by_cases h5:op=10
 ·simp [h5]
 simp [h1,h2,h3,h4,h5]
theorem gCompared_eq (op:Int) (a b:Val):gCompared op a b=some (cmpF op a b):=by
 unfold gCompared cmpF
 simp only [gEqR_eq,gLessR_eq,Option.bind_some,gNotR_eq (eqF_T3 a b),gNotR_eq (ltF_T3 a b),gNotR_eq (ltF_T3 b a)]
 by_cases h1:op=7
 ·simp [h1]
 by_cases h2:op=8
 ·simp [h2]
 by_cases h3:op=9
 ·simp [h3]
 by_cases h4:op=11
 ·simp [h4]
 by_cases h5:op=10
 ·simp [h5]
 simp [h1,h2,h3,h4,h5]
def relF (p q:Per):Int :=
 if p.hi<q.lo then 0 else if p.hi=q.lo then 1 else if q.hi<p.lo then 12 else if q.hi=p.lo then 11 else if p.lo=q.lo∧p.hi=q.hi then 6
 else if p.lo=q.lo then (if p.hi<q.hi then 3 else 9) else if p.hi=q.hi then (if q.lo<p.lo then 5 else 7)
 else if p.lo<q.lo∧q.hi<p.hi then 8 else if q.lo<p.lo∧p.hi<q.hi then 4 else if p.lo<q.lo then 2 else 10
theorem sameS_per (p q:Per):sameS [.c (.int .i64 p.lo), .c (.int .i64 p.hi)] [.c (.int .i64 q.lo), .c (.int .i64 q.hi)]=decide (p.lo=q.lo∧p.hi=q.hi):=by
 simp [sameS]
theorem gRel_eq (p q:Per):gRel p q=some (if pvalB p=true∧pvalB q=true then (relF p q,true) else (0,false)):=by
 unfold gRel
 rw [gPV_eq,gPV_eq]
 simp only [Option.bind_some]
 cases hp:pvalB p with
 | false=>simp
 | true =>
  cases hq:pvalB q with
  | false=>simp
  | true =>
   simp only [Bool.not_true,cond_false,and_self,if_true,sameS_per]
   unfold relF
   by_cases h1:p.hi<q.lo
   ·simp only [Bool.cond_decide,eq_true h1,if_true,if_false,and_true,true_and,and_false,false_and,and_self]
   by_cases h2:p.hi=q.lo
   ·simp only [Bool.cond_decide,eq_true h2,eq_false h1,if_true,if_false,and_true,true_and,and_false,false_and,and_self]
   by_cases h3:q.hi<p.lo
   ·simp only [Bool.cond_decide,eq_true h3,eq_false h1,eq_false h2,if_true,if_false,and_true,true_and,and_false,false_and,and_self]
   by_cases h4:q.hi=p.lo
   ·simp only [Bool.cond_decide,eq_true h4,eq_false h1,eq_false h2,eq_false h3,if_true,if_false,and_true,true_and,and_false,false_and,and_self]
   by_cases h5:p.lo=q.lo
   ·by_cases h6:p.hi=q.hi
    ·simp only [Bool.cond_decide,eq_true h5,eq_true h6,eq_false h1,eq_false h2,eq_false h3,eq_false h4,if_true,if_false,and_true,true_and,and_false,false_and,and_self]
    ·by_cases h7:p.hi<q.hi
     ·simp only [Bool.cond_decide,eq_true h5,eq_true h7,eq_false h1,eq_false h2,eq_false h3,eq_false h4,eq_false h6,if_true,if_false,and_true,true_and,and_false,false_and,and_self]
     ·simp only [Bool.cond_decide,eq_true h5,eq_false h1,eq_false h2,eq_false h3,eq_false h4,eq_false h6,eq_false h7,if_true,if_false,and_true,true_and,and_false,false_and,and_self]
   ·by_cases h6:p.hi=q.hi
    ·by_cases h7:q.lo<p.lo
     ·simp only [Bool.cond_decide,eq_true h6,eq_true h7,eq_false h1,eq_false h2,eq_false h3,eq_false h4,eq_false h5,if_true,if_false,and_true,true_and,and_false,false_and,and_self]
     ·simp only [Bool.cond_decide,eq_true h6,eq_false h1,eq_false h2,eq_false h3,eq_false h4,eq_false h5,eq_false h7,if_true,if_false,and_true,true_and,and_false,false_and,and_self]
    ·by_cases h7:p.lo<q.lo
     ·by_cases h8:q.hi<p.hi
      ·simp only [Bool.cond_decide,eq_true h7,eq_true h8,eq_false h1,eq_false h2,eq_false h3,eq_false h4,eq_false h5,eq_false h6,if_true,if_false,and_true,true_and,and_false,false_and,and_self]
      ·by_cases h9:q.lo<p.lo
       ·omega
       ·simp only [Bool.cond_decide,eq_true h7,eq_false h1,eq_false h2,eq_false h3,eq_false h4,eq_false h5,eq_false h6,eq_false h8,eq_false h9,if_true,if_false,and_true,true_and,and_false,false_and,and_self]
     ·by_cases h8:q.lo<p.lo
      ·by_cases h9:p.hi<q.hi
       ·simp only [Bool.cond_decide,eq_true h8,eq_true h9,eq_false h1,eq_false h2,eq_false h3,eq_false h4,eq_false h5,eq_false h6,eq_false h7,if_true,if_false,and_true,true_and,and_false,false_and,and_self]
       ·simp only [Bool.cond_decide,eq_true h8,eq_false h1,eq_false h2,eq_false h3,eq_false h4,eq_false h5,eq_false h6,eq_false h7,eq_false h9,if_true,if_false,and_true,true_and,and_false,false_and,and_self]
      ·omega
theorem pval_facts {p:Per} (h:pvalB p=true):0≤p.lo∧p.lo<p.hi∧p.hi≤1099511627776:=by
 unfold pvalB at h
 simp only [Bool.and_eq_true,decide_eq_true_eq] at h
 omega
theorem rel_iff0 {p q:Per} (hp:0≤p.lo∧p.lo<p.hi) (hq:0≤q.lo∧q.lo<q.hi):relF p q=0↔p.hi<q.lo:=by
 unfold relF
 repeat' split
 all_goals (constructor<;>intro h<;>omega)
theorem gIs2_0 (p q:Per):gIs2 0 p q=some (decide (p.hi<q.lo)):=by
 unfold gIs2
 simp only [Int.reduceEq,decide_false,decide_true,cond_true,cond_false,sameS_per]<;>rfl
theorem rel_iff1 {p q:Per} (hp:0≤p.lo∧p.lo<p.hi) (hq:0≤q.lo∧q.lo<q.hi):relF p q=1↔p.hi=q.lo:=by
 unfold relF
 repeat' split
 all_goals (constructor<;>intro h<;>omega)
theorem gIs2_1 (p q:Per):gIs2 1 p q=some (decide (p.hi=q.lo)):=by
 unfold gIs2
 simp only [Int.reduceEq,decide_false,decide_true,cond_true,cond_false,sameS_per]<;>rfl
theorem rel_iff2 {p q:Per} (hp:0≤p.lo∧p.lo<p.hi) (hq:0≤q.lo∧q.lo<q.hi):relF p q=2↔p.lo<q.lo∧q.lo<p.hi∧p.hi<q.hi:=by
 unfold relF
 repeat' split
 all_goals (constructor<;>intro h<;>omega)
theorem gIs2_2 (p q:Per):gIs2 2 p q=some (decide (p.lo<q.lo∧q.lo<p.hi∧p.hi<q.hi)):=by
 unfold gIs2
 simp only [Int.reduceEq,decide_false,decide_true,cond_true,cond_false,sameS_per]
 by_cases h0:p.lo<q.lo<;>by_cases h1:q.lo<p.hi<;>simp [h0,h1]
theorem rel_iff3 {p q:Per} (hp:0≤p.lo∧p.lo<p.hi) (hq:0≤q.lo∧q.lo<q.hi):relF p q=3↔p.lo=q.lo∧p.hi<q.hi:=by
 unfold relF
 repeat' split
 all_goals (constructor<;>intro h<;>omega)
theorem gIs2_3 (p q:Per):gIs2 3 p q=some (decide (p.lo=q.lo∧p.hi<q.hi)):=by
 unfold gIs2
 simp only [Int.reduceEq,decide_false,decide_true,cond_true,cond_false,sameS_per]
 by_cases h0:p.lo=q.lo<;>simp [h0]
theorem rel_iff4 {p q:Per} (hp:0≤p.lo∧p.lo<p.hi) (hq:0≤q.lo∧q.lo<q.hi):relF p q=4↔q.lo<p.lo∧p.hi<q.hi:=by
 unfold relF
 repeat' split
 all_goals (constructor<;>intro h<;>omega)
theorem gIs2_4 (p q:Per):gIs2 4 p q=some (decide (q.lo<p.lo∧p.hi<q.hi)):=by
 unfold gIs2
 simp only [Int.reduceEq,decide_false,decide_true,cond_true,cond_false,sameS_per]
 by_cases h0:q.lo<p.lo<;>simp [h0]
theorem rel_iff5 {p q:Per} (hp:0≤p.lo∧p.lo<p.hi) (hq:0≤q.lo∧q.lo<q.hi):relF p q=5↔p.hi=q.hi∧q.lo<p.lo:=by
 unfold relF
 repeat' split
 all_goals (constructor<;>intro h<;>omega)
theorem gIs2_5 (p q:Per):gIs2 5 p q=some (decide (p.hi=q.hi∧q.lo<p.lo)):=by
 unfold gIs2
 simp only [Int.reduceEq,decide_false,decide_true,cond_true,cond_false,sameS_per]
 by_cases h0:p.hi=q.hi<;>simp [h0]
theorem rel_iff6 {p q:Per} (hp:0≤p.lo∧p.lo<p.hi) (hq:0≤q.lo∧q.lo<q.hi):relF p q=6↔p.lo=q.lo∧p.hi=q.hi:=by
 unfold relF
 repeat' split
 all_goals (constructor<;>intro h<;>omega)
theorem gIs2_6 (p q:Per):gIs2 6 p q=some (decide (p.lo=q.lo∧p.hi=q.hi)):=by
 unfold gIs2
 simp only [Int.reduceEq,decide_false,decide_true,cond_true,cond_false,sameS_per]<;>rfl
theorem rel_iff7 {p q:Per} (hp:0≤p.lo∧p.lo<p.hi) (hq:0≤q.lo∧q.lo<q.hi):relF p q=7↔p.hi=q.hi∧p.lo<q.lo:=by
 unfold relF
 repeat' split
 all_goals (constructor<;>intro h<;>omega)
theorem gIs2_7 (p q:Per):gIs2 7 p q=some (decide (p.hi=q.hi∧p.lo<q.lo)):=by
 unfold gIs2
 simp only [Int.reduceEq,decide_false,decide_true,cond_true,cond_false,sameS_per]
 by_cases h0:p.hi=q.hi<;>simp [h0]
theorem rel_iff8 {p q:Per} (hp:0≤p.lo∧p.lo<p.hi) (hq:0≤q.lo∧q.lo<q.hi):relF p q=8↔p.lo<q.lo∧q.hi<p.hi:=by
 unfold relF
 repeat' split
 all_goals (constructor<;>intro h<;>omega)
theorem gIs2_8 (p q:Per):gIs2 8 p q=some (decide (p.lo<q.lo∧q.hi<p.hi)):=by
 unfold gIs2
 simp only [Int.reduceEq,decide_false,decide_true,cond_true,cond_false,sameS_per]
 by_cases h0:p.lo<q.lo<;>simp [h0]
theorem rel_iff9 {p q:Per} (hp:0≤p.lo∧p.lo<p.hi) (hq:0≤q.lo∧q.lo<q.hi):relF p q=9↔p.lo=q.lo∧q.hi<p.hi:=by
 unfold relF
 repeat' split
 all_goals (constructor<;>intro h<;>omega)
theorem gIs2_9 (p q:Per):gIs2 9 p q=some (decide (p.lo=q.lo∧q.hi<p.hi)):=by
 unfold gIs2
 simp only [Int.reduceEq,decide_false,decide_true,cond_true,cond_false,sameS_per]
 by_cases h0:p.lo=q.lo<;>simp [h0]
theorem rel_iff10 {p q:Per} (hp:0≤p.lo∧p.lo<p.hi) (hq:0≤q.lo∧q.lo<q.hi):relF p q=10↔q.lo<p.lo∧p.lo<q.hi∧q.hi<p.hi:=by
 unfold relF
 repeat' split
 all_goals (constructor<;>intro h<;>omega)
theorem gIs2_10 (p q:Per):gIs2 10 p q=some (decide (q.lo<p.lo∧p.lo<q.hi∧q.hi<p.hi)):=by
 unfold gIs2
 simp only [Int.reduceEq,decide_false,decide_true,cond_true,cond_false,sameS_per]
 by_cases h0:q.lo<p.lo<;>by_cases h1:p.lo<q.hi<;>simp [h0,h1]
theorem rel_iff11 {p q:Per} (hp:0≤p.lo∧p.lo<p.hi) (hq:0≤q.lo∧q.lo<q.hi):relF p q=11↔q.hi=p.lo:=by
 unfold relF
 repeat' split
 all_goals (constructor<;>intro h<;>omega)
theorem gIs2_11 (p q:Per):gIs2 11 p q=some (decide (q.hi=p.lo)):=by
 unfold gIs2
 simp only [Int.reduceEq,decide_false,decide_true,cond_true,cond_false,sameS_per]<;>rfl
theorem rel_iff12 {p q:Per} (hp:0≤p.lo∧p.lo<p.hi) (hq:0≤q.lo∧q.lo<q.hi):relF p q=12↔q.hi<p.lo:=by
 unfold relF
 repeat' split
 all_goals (constructor<;>intro h<;>omega)
theorem gIs2_12 (p q:Per):gIs2 12 p q=some (decide (q.hi<p.lo)):=by
 unfold gIs2
 simp only [Int.reduceEq,decide_false,decide_true,cond_true,cond_false,sameS_per]<;>rfl
theorem relF_range (p q:Per):0≤relF p q∧relF p q<13:=by
 unfold relF
 repeat' split
 all_goals omega
theorem gIs2_out {rel:Int} (h : ¬ (0≤rel∧rel<13)) (p q:Per):gIs2 rel p q=some false:=by
 unfold gIs2
 rw [decide_eq_false (show ¬ rel=0 by omega),cond_false]
 rw [decide_eq_false (show ¬ rel=1 by omega),cond_false]
 rw [decide_eq_false (show ¬ rel=2 by omega),cond_false]
 rw [decide_eq_false (show ¬ rel=3 by omega),cond_false]
 rw [decide_eq_false (show ¬ rel=4 by omega),cond_false]
 rw [decide_eq_false (show ¬ rel=5 by omega),cond_false]
 rw [decide_eq_false (show ¬ rel=6 by omega),cond_false]
 rw [decide_eq_false (show ¬ rel=7 by omega),cond_false]
 rw [decide_eq_false (show ¬ rel=8 by omega),cond_false]
 rw [decide_eq_false (show ¬ rel=9 by omega),cond_false]
 rw [decide_eq_false (show ¬ rel=10 by omega),cond_false]
 rw [decide_eq_false (show ¬ rel=11 by omega),cond_false]
 rw [decide_eq_false (show ¬ rel=12 by omega),cond_false]
theorem gIs2_rel {p q:Per} (hp:pvalB p=true) (hq:pvalB q=true) (rel:Int):gIs2 rel p q=some (decide (relF p q=rel)):=by
 obtain ⟨p1,p2,p3⟩:=pval_facts hp
 obtain ⟨q1,q2,q3⟩:=pval_facts hq
 by_cases hr:0≤rel∧rel<13
 ·have:rel=0∨rel=1∨rel=2∨rel=3∨rel=4∨rel=5∨rel=6∨rel=7∨rel=8∨rel=9∨rel=10∨rel=11∨rel=12:=by omega
  rcases this with rfl|rfl|rfl|rfl|rfl|rfl|rfl|rfl|rfl|rfl|rfl|rfl|rfl
  ·rw [gIs2_0];congr 1;rw [decide_eq_decide,rel_iff0 ⟨p1,p2⟩ ⟨q1,q2⟩]
  ·rw [gIs2_1];congr 1;rw [decide_eq_decide,rel_iff1 ⟨p1,p2⟩ ⟨q1,q2⟩]
  ·rw [gIs2_2];congr 1;rw [decide_eq_decide,rel_iff2 ⟨p1,p2⟩ ⟨q1,q2⟩]
  ·rw [gIs2_3];congr 1;rw [decide_eq_decide,rel_iff3 ⟨p1,p2⟩ ⟨q1,q2⟩]
  ·rw [gIs2_4];congr 1;rw [decide_eq_decide,rel_iff4 ⟨p1,p2⟩ ⟨q1,q2⟩]
  ·rw [gIs2_5];congr 1;rw [decide_eq_decide,rel_iff5 ⟨p1,p2⟩ ⟨q1,q2⟩]
  ·rw [gIs2_6];congr 1;rw [decide_eq_decide,rel_iff6 ⟨p1,p2⟩ ⟨q1,q2⟩]
  ·rw [gIs2_7];congr 1;rw [decide_eq_decide,rel_iff7 ⟨p1,p2⟩ ⟨q1,q2⟩]
  ·rw [gIs2_8];congr 1;rw [decide_eq_decide,rel_iff8 ⟨p1,p2⟩ ⟨q1,q2⟩]
  ·rw [gIs2_9];congr 1;rw [decide_eq_decide,rel_iff9 ⟨p1,p2⟩ ⟨q1,q2⟩]
  ·rw [gIs2_10];congr 1;rw [decide_eq_decide,rel_iff10 ⟨p1,p2⟩ ⟨q1,q2⟩]
  ·rw [gIs2_11];congr 1;rw [decide_eq_decide,rel_iff11 ⟨p1,p2⟩ ⟨q1,q2⟩]
  ·rw [gIs2_12];congr 1;rw [decide_eq_decide,rel_iff12 ⟨p1,p2⟩ ⟨q1,q2⟩]
 ·rw [gIs2_out hr,decide_eq_false]
  have:=relF_range p q
  omega
theorem gHolds2_eq (rel:Int) (p q:Per):gHolds2 rel p q=some (pvalB p&&(pvalB q&&decide (relF p q=rel))):=by
 unfold gHolds2
 rw [gValid1_eq,gValid1_eq]
 simp only [Option.bind_some]
 cases hp:pvalB p with
 | false=>rfl
 | true =>
  cases hq:pvalB q with
  | false=>rfl
  | true=>rw [gIs2_rel hp hq];rfl
theorem gRel2_at (p q:Per) (h:pvalB p=true∧pvalB q=true) : ∀ (n i:Nat),(i:Int)≤relF p q→13-i<n→loopM (gRel2_B1 p q) n (i:Int)=some (.inr (relF p q,true))
 | 0,i,_,h2=>by omega
 | n+1,i,h1,h2=>by
  have hr:=relF_range p q
  rw [loopM]
  unfold gRel2_B1
  dsimp only
  rw [decide_eq_true (show (i:Int)<13 by omega),cond_true,gHolds2_eq,Option.bind_some,h.1,h.2,wrapN (by omega)]
  by_cases e:relF p q=i
  ·rw [e];simp
  ·simp only [Bool.true_and,decide_eq_false e,cond_false]
   exact gRel2_at p q h n (i+1) (by omega) (by omega)
theorem gRel2_no (p q:Per) (h : ¬ (pvalB p=true∧pvalB q=true)) : ∀ (n i:Nat),i≤13→13-i<n→loopM (gRel2_B1 p q) n (i:Int)=some (.inl ((13:Nat):Int))
 | 0,i,_,h2=>by omega
 | n+1,i,h1,h2=>by
  rw [loopM]
  unfold gRel2_B1
  dsimp only
  by_cases hi:i=13
  ·subst hi;rfl
  ·rw [decide_eq_true (show (i:Int)<13 by omega),cond_true,gHolds2_eq,Option.bind_some,wrapN (by omega)]
   have:(pvalB p&&(pvalB q&&decide (relF p q=i)))=false:=by
    cases hp:pvalB p<;>cases hq:pvalB q<;>simp_all
   rw [this,cond_false]
   exact gRel2_no p q h n (i+1) (by omega) (by omega)
theorem gRel2_eq (p q:Per):gRel2 p q=some (if pvalB p=true∧pvalB q=true then (relF p q,true) else (0,false)):=by
 unfold gRel2
 by_cases h:pvalB p=true∧pvalB q=true
 ·have:=gRel2_at p q h fuel 0 (relF_range p q).1 (by unfold fuel;omega)
  rw [show ((0:Nat):Int)=0 from rfl] at this
  rw [this,if_pos h];rfl
 ·have:=gRel2_no p q h fuel 0 (by omega) (by unfold fuel;omega)
  rw [show ((0:Nat):Int)=0 from rfl] at this
  rw [this,if_neg h];rfl
def atF (row:List Val) (i:Int):Val:=if 0≤i then (row[i.toNat]?).getD nulV else nulV
theorem gAt_eq (row:List Val) (i:Int):gAt row i=some (atF row i):=by
 unfold gAt atF
 by_cases h1:i<0
 ·rw [decide_eq_true h1,cond_true,if_neg (by omega)];rfl
 ·rw [decide_eq_false h1,cond_false,if_pos (by omega)]
  by_cases h2:((row.length:Nat):Int)≤i
  ·rw [decide_eq_true h2,cond_true,List.getElem?_eq_none (by omega)];rfl
  ·rw [decide_eq_false h2,cond_false]
   obtain ⟨x,hx⟩:=gol_ (show i.toNat<row.length by omega)
   unfold getI
   rw [if_pos (by omega),hx];rfl
theorem gAtR_eq (row:List Val) (i:Int):gAtR row i=some (atF row i):=(show gAtR row i=gAt row i from rfl).trans (gAt_eq row i)
theorem gPick_one (row:List Val) (i:Int):gPick row [i]=some [atF row i]:=by
 unfold gPick
 simp only [List.length_cons,List.length_nil]
 rw [show decide ((0:Int)≤(((0+1:Nat)):Int))=true from rfl,show decide ((32:Int)*(((0+1:Nat)):Int)≤281474976710656)=true from rfl,show decide ((((0+1:Nat)):Int)≤9223372036854775807)=true from rfl]
 simp only [cond_true]
 rw [loop_list (l:=[i]) (mk:=fun t i=>(t,i)) (f:=push (atF row) 4398046511104) ?_ ?_ (by unfold fuel;simp) []]
 ·rw [fold_push _ _ _ _ (by simp)];rfl
 ·intro s j x hx
  have hi:=(List.getElem?_eq_some_iff.1 hx).1
  unfold gPick_B1 push
  dsimp only
  rw [lt_dec hx,cond_true,gn_ hx]
  simp only [Option.bind_some]
  rw [gAt_eq,Option.bind_some,wrapN (by simp at hi;omega)]
  cases decide (s.length+1≤4398046511104)<;>rfl
 ·intro s
  unfold gPick_B1
  dsimp only
  rw [lF_,cond_false]
theorem gColumn_eq (row:List Val) (i:Int):gColumn row i=some (orN (atF row i)):=by
 unfold gColumn
 rw [gPick_one,Option.bind_some,show getI [atF row i] (0:Int)=some (atF row i) from rfl,Option.bind_some,gValidP_eq,Option.bind_some,gNull_eq]
 unfold orN
 cases vF (atF row i)<;>rfl
theorem gLeaf_col (e:Ex) (row:List Val) (h:e.op=2):gLeaf e row=some (orN (atF row e.int)):=by
 unfold gLeaf
 rw [h,show decide ((2:Int)=2)=true from rfl,cond_true,gAtR_eq,Option.bind_some,gValidR_eq,Option.bind_some,gNullR_eq]
 unfold orN
 cases vF (atF row e.int)<;>rfl
theorem gLeaf_const (e:Ex) (row:List Val) (h:e.op=1) (hv:vF e.v=true):gLeaf e row=some e.v:=by
 unfold gLeaf
 rw [h,show decide ((1:Int)=2)=false from rfl,cond_false,gValidR_eq,Option.bind_some,hv]
 rfl
def areF (l:List Val) (k:Int):Bool:=l.all fun v=>decide (v.kind=k)
theorem gAre_eq (l:List Val) (k:Int) (hl:l.length≤1000000):gAre l k=some (areF l k):=by
 unfold gAre
 rw [loop_list (l:=l) (mk:=fun (_:Unit) i=>i) (f:=fun _ v=>some (if v.kind≠k then .inr false else .inl ())) ?_ ?_ (by unfold fuel;omega) ()]
 ·have : ∀ l:List Val,foldS (ρ:=Bool) (fun (_:Unit) (v:Val)=>some (if v.kind≠k then .inr false else .inl ())) () l=some (if areF l k=true then .inl () else .inr false):=by
   intro l
   induction l with
   | nil=>rfl
   | cons v l ih =>
    rw [foldS]
    by_cases h:v.kind=k
    ·simp only [ne_eq,h,not_true_eq_false,if_false]
     rw [ih];simp [areF,h]
    ·simp [areF,h]
  rw [this]
  cases areF l k<;>rfl
 ·intro s i x hx
  have hi:=(List.getElem?_eq_some_iff.1 hx).1
  unfold gAre_B1
  dsimp only
  rw [lt_dec hx,cond_true,gn_ hx,wrapN (by omega)]
  simp only [Option.bind_some]
  by_cases h:x.kind=k
  ·simp [h,foldN]
  ·simp [h,foldN]
 ·intro s
  unfold gAre_B1
  dsimp only
  rw [lF_,cond_false]
def logF (f:Int→Int→Int) (l:List Val) (t:Int):Int:=l.foldl (fun t v=>f t (tF_ v)) t
theorem logF_T3 {f:Int→Int→Int} (hf : ∀ a b,T3 (f a b)) : ∀ (l:List Val) (t:Int),T3 t→T3 (logF f l t)
 | [],t,h=>h
 | v::l,t,h=>logF_T3 hf l _ (hf _ _)
theorem fold_log {f:Int→Int→Int} (hf : ∀ a b,T3 (f a b)) {g:Int→Int→Option Int} (hg : ∀ a b,T3 a→T3 b→g a b=some (f a b)) : ∀ (l:List Val) (t:Int),T3 t→foldS (ρ:=Val) (fun t v=>(g t (tF_ v)).bind fun r=>some (.inl r)) t l=some (.inl (logF f l t))
 | [],t,h=>rfl
 | v::l,t,h=>by
  rw [foldS,hg _ _ h (truthF_T3 v)]
  exact fold_log hf hg l _ (hf _ _)
theorem gLogic_and (x:Val) (l:List Val) (hl:l.length≤1000000):gLogic 5 (x::l)=some (ofT (logF and3 l (tF_ x))):=by
 unfold gLogic
 rw [show getI (x::l) (0:Int)=some x from rfl,Option.bind_some,gTruthV_eq,Option.bind_some,show decide ((5:Int)=4)=false from rfl,cond_false,show decide ((5:Int)=5)=true from rfl,cond_true]
 rw [show subI (x::l) (1:Int) (((x::l).length:Nat):Int)=some l by unfold subI;rw [if_pos (by simp only [List.length_cons];omega)];simp,Option.bind_some]
 rw [loop_list (l:=l) (mk:=fun t i=>(t,i)) (f:=fun t v=>(gAnd t (tF_ v)).bind fun r=>some (.inl r)) ?_ ?_ (by unfold fuel;omega) (tF_ x)]
 ·rw [fold_log and3_T3 (fun a b ha hb=>gAnd_eq ha hb) l _ (truthF_T3 x)]
  show (gOfV2 (logF and3 l (tF_ x))).bind _=_
  rw [gOfV2_eq (logF_T3 and3_T3 l _ (truthF_T3 x))];rfl
 ·intro s i v hv
  have hi:=(List.getElem?_eq_some_iff.1 hv).1
  unfold gLogic_B1
  dsimp only
  rw [lt_dec hv,cond_true,gn_ hv,wrapN (by omega)]
  simp only [Option.bind_some]
  rw [gTruthV_eq,Option.bind_some]
  cases gAnd s (tF_ v)<;>rfl
 ·intro s
  unfold gLogic_B1
  dsimp only
  rw [lF_,cond_false]
theorem gLogic_or (x:Val) (l:List Val) (hl:l.length≤1000000):gLogic 6 (x::l)=some (ofT (logF or3 l (tF_ x))):=by
 unfold gLogic
 rw [show getI (x::l) (0:Int)=some x from rfl,Option.bind_some,gTruthV_eq,Option.bind_some,show decide ((6:Int)=4)=false from rfl,cond_false,show decide ((6:Int)=5)=false from rfl,cond_false]
 rw [show subI (x::l) (1:Int) (((x::l).length:Nat):Int)=some l by unfold subI;rw [if_pos (by simp only [List.length_cons];omega)];simp,Option.bind_some]
 rw [loop_list (l:=l) (mk:=fun t i=>(t,i)) (f:=fun t v=>(gOr3v t (tF_ v)).bind fun r=>some (.inl r)) ?_ ?_ (by unfold fuel;omega) (tF_ x)]
 ·rw [fold_log or3_T3 (fun a b ha hb=>gOr_eq ha hb) l _ (truthF_T3 x)]
  show (gOfV2 (logF or3 l (tF_ x))).bind _=_
  rw [gOfV2_eq (logF_T3 or3_T3 l _ (truthF_T3 x))];rfl
 ·intro s i v hv
  have hi:=(List.getElem?_eq_some_iff.1 hv).1
  unfold gLogic_B2
  dsimp only
  rw [lt_dec hv,cond_true,gn_ hv,wrapN (by omega)]
  simp only [Option.bind_some]
  rw [gTruthV_eq,Option.bind_some]
  cases gOr3v s (tF_ v)<;>rfl
 ·intro s
  unfold gLogic_B2
  dsimp only
  rw [lF_,cond_false]
theorem gLogic_not (x:Val):gLogic 4 [x]=some (ofT (not3 (tF_ x))):=by
 unfold gLogic
 rw [show getI [x] (0:Int)=some x from rfl,Option.bind_some,gTruthV_eq,Option.bind_some,show decide ((4:Int)=4)=true from rfl,cond_true,gNot_eq (truthF_T3 x),Option.bind_some,gOfV2_eq (not3_T3 _)];rfl
theorem gLogicR_eq (op:Int) (f:Int→Int→Int) (hf : ∀ a b,T3 (f a b)) (hop : ∀ a b,T3 a→T3 b→(bif decide (op=5) then gAndR a b else gOrR a b)=some (f a b)) (x:Val) (l:List Val) (hl:l.length≤1000000):gLogicR op (x::l)=some (ofT (logF f l (tF_ x))):=by
 unfold gLogicR
 rw [show getI (x::l) (0:Int)=some x from rfl,Option.bind_some,gTruth7_eq,Option.bind_some]
 have:=loop_at (l:=x::l) (body:=gLogicR_B1 op (x::l)) (ρ:=Val) (mk:=fun t i=>(t,i)) (f:=fun t v=>(bif decide (op=5) then gAndR t (tF_ v) else gOrR t (tF_ v)).bind fun r=>some (.inl r)) (by
  intro s i v hv
  have hi:=(List.getElem?_eq_some_iff.1 hv).1
  unfold gLogicR_B1
  dsimp only
  rw [lt_dec hv,cond_true,gn_ hv,wrapN (by simp at hi;omega)]
  simp only [Option.bind_some,gTruth7_eq]
  cases decide (op=5)
  ·simp only [cond_false];cases gOrR s (tF_ v)<;>rfl
  ·simp only [cond_true];cases gAndR s (tF_ v)<;>rfl) (by
  intro s
  unfold gLogicR_B1
  dsimp only
  rw [lF_,cond_false]) fuel 1 (tF_ x) (by simp) (by unfold fuel;simp;omega)
 rw [show ((1:Nat):Int)=1 from rfl] at this
 rw [this]
 have h2:=fold_log hf hop l (tF_ x) (truthF_T3 x)
 rw [show (x::l).drop 1=l from rfl,h2]
 show (gOf7 (logF f l (tF_ x))).bind _=_
 rw [gOf7_eq (logF_T3 hf l _ (truthF_T3 x))];rfl
end Go.Proofs.YtfccopdbgfdcdaaGreatDoor
