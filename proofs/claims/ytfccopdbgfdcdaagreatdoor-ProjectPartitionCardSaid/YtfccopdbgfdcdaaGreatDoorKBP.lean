/- Parts of the proof, joined. No condition. -/
import Derived.Test.YtfccopdbgfdcdaaGreatDoorKBK
import Derived.Test.YtfccopdbgfdcdaaGreatDoorKBI
import Derived.Test.YtfccopdbgfdcdaaGreatDoorKBM
import Derived.Test.YtfccopdbgfdcdaaGreatDoorKBO
import Derived.Test.YtfccopdbgfdcdaaGreatDoorKBN
set_option linter.unusedSimpArgs false
set_option linter.unusedVariables false
namespace Go.Proofs.YtfccopdbgfdcdaaGreatDoor
open Go.RowKit Go.MapKept
theorem split32 : ∀ (a b x y:List UInt8),(32:UInt8)∉a→(32:UInt8)∉b→a++32::x=b++32::y→a=b∧x=y
 | [],[],x,y,_,_,h=>by simpa using h
 | [],c::b,x,y,_,hb,h=>by
  simp at h
  exact absurd h.1.symm (fun e=>hb (by rw [e];simp))
 | c::a,[],x,y,ha,_,h=>by
  simp at h
  exact absurd h.1 (fun e=>ha (by rw [e];simp))
 | c::a,d::b,x,y,ha,hb,h=>by
  simp at h
  obtain ⟨h1,h2⟩:=split32 a b x y (fun q=>ha (List.mem_cons_of_mem _ q)) (fun q=>hb (List.mem_cons_of_mem _ q)) h.2
  exact ⟨by rw [h.1,h1],h2⟩
def isDig (b:UInt8):Prop:=48≤b.toNat∧b.toNat≤57
theorem dig_of {d:Nat} (h:d<10):(UInt8.ofNat (48+d)).toNat=48+d:=by
 rw [UInt8.toNat_ofNat'];omega
theorem decDigits_dig (u:Nat) : ∀ b∈Lib.decDigits u,isDig b:=by
 induction u using Nat.strongRecOn with
 | _ u ih =>
  intro b hb
  rw [Lib.decDigits] at hb
  split at hb
  ·rename_i h
   rw [List.mem_singleton.1 hb];unfold isDig;rw [dig_of h];omega
  ·rename_i h
   rcases List.mem_append.1 hb with hb|hb
   ·exact ih (u/10) (by omega) b hb
   ·rw [List.mem_singleton.1 hb];unfold isDig;rw [dig_of (by omega)];omega
def decVal (l:List UInt8):Nat:=l.foldl (fun a b=>a*10+(b.toNat-48)) 0
theorem decVal_snoc (l:List UInt8) (b:UInt8):decVal (l++[b])=decVal l*10+(b.toNat-48):=by unfold decVal;rw [List.foldl_append];rfl
theorem decVal_digits (u:Nat):decVal (Lib.decDigits u)=u:=by
 induction u using Nat.strongRecOn with
 | _ u ih =>
  rw [Lib.decDigits]
  split
  ·rename_i h
   show 0*10+((UInt8.ofNat (48+u)).toNat-48)=u
   rw [dig_of h];omega
  ·rename_i h
   rw [decVal_snoc,ih (u/10) (by omega),dig_of (by omega)];omega
theorem decDigits_inj {u v:Nat} (h:Lib.decDigits u=Lib.decDigits v):u=v:=by rw [← decVal_digits u,h,decVal_digits]
theorem itoa_ne32 (n:Int):(32:UInt8)∉Lib.itoa n:=by
 intro h
 unfold Lib.itoa at h
 split at h
 ·rcases List.mem_cons.1 h with h|h
  ·exact absurd h (by decide)
  ·have:=(decDigits_dig _ _ h).1;exact absurd this (by decide)
 ·have:=(decDigits_dig _ _ h).1;exact absurd this (by decide)
theorem itoa_inj {n m:Int} (h:Lib.itoa n=Lib.itoa m):n=m:=by
 have key : ∀ (a b:Nat),Lib.decDigits a≠45::Lib.decDigits b:=by
  intro a b e
  have:=(decDigits_dig a 45 (by rw [e];simp)).1
  exact absurd this (by decide)
 unfold Lib.itoa at h
 split at h<;>split at h
 ·have:=decDigits_inj (List.cons.inj h).2;omega
 ·exact absurd h.symm (key _ _)
 ·exact absurd h (key _ _)
 ·have:=decDigits_inj h;omega
def codeL (v:Val):List UInt8:=Lib.itoa v.kind++32::(Lib.itoa v.int++32::(Lib.itoa v.text.size++32::v.text.data.toList))
def keyL (l:List Val):List UInt8:=l.flatMap codeL
theorem ba_app (a b:ByteArray):(a++b).data.toList=a.data.toList++b.data.toList:=by simp
theorem keyC_list (l:List Val):(keyC l).data.toList=keyL l:=by
 have : ∀ (l:List Val) (a:ByteArray),(l.foldl (fun a v=>numS a (keyNs v)++v.text) a).data.toList=a.data.toList++keyL l:=by
  intro l
  induction l with
  | nil=>intro a;simp [keyL]
  | cons v l ih =>
   intro a
   rw [List.foldl_cons,ih]
   have e:numS a (keyNs v)=a++itoaB v.kind++c32++itoaB v.int++c32++itoaB v.text.size++c32:=rfl
   have e1 : ∀ n,(itoaB n).data.toList=Lib.itoa n:=fun n=>rfl
   have e2:c32.data.toList=[32]:=rfl
   rw [e]
   simp only [ba_app,e1,e2,keyL,List.flatMap_cons,codeL,List.append_assoc,List.cons_append,List.nil_append]
 have:=this l ⟨#[]⟩
 simpa [keyC] using this
theorem code_cons {v w:Val} {x y:List UInt8} (h:codeL v++x=codeL w++y):v=w∧x=y:=by
 unfold codeL at h
 simp only [List.append_assoc,List.cons_append] at h
 obtain ⟨h1,h⟩:=split32 _ _ _ _ (itoa_ne32 _) (itoa_ne32 _) h
 obtain ⟨h2,h⟩:=split32 _ _ _ _ (itoa_ne32 _) (itoa_ne32 _) h
 obtain ⟨h3,h⟩:=split32 _ _ _ _ (itoa_ne32 _) (itoa_ne32 _) h
 have h3:=itoa_inj h3
 have hs:v.text.data.toList.length=w.text.data.toList.length:=by
  have e : ∀ s:ByteArray,s.data.toList.length=s.size:=fun s=>rfl
  rw [e,e];omega
 obtain ⟨h4,h5⟩:=List.append_inj h hs
 refine ⟨?_,h5⟩
 obtain ⟨a,b,⟨⟨c⟩⟩⟩:=v
 obtain ⟨a',b',⟨⟨c'⟩⟩⟩:=w
 simp only at h1 h2 h4
 rw [itoa_inj h1,itoa_inj h2,h4]
theorem keyL_inj : ∀ (a b:List Val),keyL a=keyL b→a=b
 | [],[],_=>rfl
 | [],w::b,h=>by
  have:=congrArg List.length h
  simp [keyL,codeL] at this
 | v::a,[],h=>by
  have:=congrArg List.length h
  simp [keyL,codeL] at this
 | v::a,w::b,h=>by
  have h':codeL v++keyL a=codeL w++keyL b:=h
  obtain ⟨h1,h2⟩:=code_cons h'
  rw [h1,keyL_inj a b h2]
theorem key_inj {a b:List Val} (h:keyC a=keyC b):a=b:=keyL_inj a b (by rw [← keyC_list, ← keyC_list,h])
end Go.Proofs.YtfccopdbgfdcdaaGreatDoor
namespace Go.Proofs.YtfccopdbgfdcdaaGreatDoor.St
open Go.RowKit
theorem ofL_perm {A B:List ((Int × Int) × Int)} (h:(chg A).Perm (chg B)):ofL A=ofL B:=by
 have h1:rsum A=rsum B:=by
  funext p
  rw [rsum_eq,rsum_eq, ← csum_chg A p, ← csum_chg B p,csum_perm h]
 have h2:ofPts A=ofPts B:=by
  refine (ofPts_spec A).1.ext (ofPts_spec B).1 fun x=>?_
  rw [(ofPts_spec A).2,(ofPts_spec B).2]
  constructor
  ·rintro ⟨h3|⟨y,hy⟩,h4⟩
   ·exact ⟨.inl h3,h4⟩
   ·exact ⟨.inr ⟨y,h.mem_iff.1 hy⟩,h4⟩
  ·rintro ⟨h3|⟨y,hy⟩,h4⟩
   ·exact ⟨.inl h3,h4⟩
   ·exact ⟨.inr ⟨y,h.mem_iff.2 hy⟩,h4⟩
 unfold ofL
 rw [h1,h2]
theorem sasc_pairwise {P:List Int} (h:SAsc P):P.Pairwise (· < ·):=List.pairwise_iff_getElem.2 fun i j hi hj hij=>h i j _ _ hij (List.getElem?_eq_getElem hi) (List.getElem?_eq_getElem hj)
theorem asc_of_pairwise {l:List (Int × Int)} (h:l.Pairwise fun x y=>x.1<y.1):Asc l:=by
 intro i j x y hij hx hy
 obtain ⟨hi,rfl⟩:=List.getElem?_eq_some_iff.1 hx
 obtain ⟨hj,rfl⟩:=List.getElem?_eq_some_iff.1 hy
 exact List.pairwise_iff_getElem.1 h i j hi hj hij
theorem comb_fold (f:Int→Int) : ∀ (P:List Int) (acc:List (Int × Int)),P.Pairwise (· < ·)→(acc.Pairwise fun x y=>x.1<y.1)→(∀ s∈acc, ∀ x∈P,s.1<x)→(∀ s∈acc,s.2=f s.1) →
  ((P.foldl (fun acc p=>putS acc (p,f p)) acc).Pairwise fun x y=>x.1<y.1) ∧ ∀ s∈P.foldl (fun acc p=>putS acc (p,f p)) acc,(s∈acc∨s.1∈P)∧s.2=f s.1
 | [],acc,_,h2,_,h4=>⟨h2,fun s hs=>⟨.inl hs,h4 s hs⟩⟩
 | x::P,acc,h1,h2,h3,h4=>by
  rw [List.foldl_cons]
  have hp:=List.pairwise_cons.1 h1
  have hput : ∀ s∈putS acc (x,f x),s∈acc∨s=(x,f x):=by
   intro s hs
   unfold putS at hs
   split at hs
   ·exact .inl hs
   ·rcases List.mem_append.1 hs with hs|hs
    ·exact .inl hs
    ·exact .inr (List.mem_singleton.1 hs)
  have hpw:(putS acc (x,f x)).Pairwise fun x y=>x.1<y.1:=by
   unfold putS
   split
   ·exact h2
   ·refine List.pairwise_append.2 ⟨h2,List.pairwise_singleton _ _,fun a ha b hb=>?_⟩
    rw [List.mem_singleton.1 hb]
    exact h3 a ha x (by simp)
  obtain ⟨q1,q2⟩:=comb_fold f P (putS acc (x,f x)) hp.2 hpw (fun s hs y hy=>by
   rcases hput s hs with h|rfl
   ·exact h3 s h y (List.mem_cons_of_mem _ hy)
   ·exact hp.1 y hy) (fun s hs=>by
   rcases hput s hs with h|rfl
   ·exact h4 s h
   ·rfl)
  refine ⟨q1,fun s hs=>?_⟩
  obtain ⟨h5,h6⟩:=q2 s hs
  refine ⟨?_,h6⟩
  rcases h5 with h5|h5
  ·rcases hput s h5 with h|rfl
   ·exact .inl h
   ·exact .inr (by simp)
  ·exact .inr (List.mem_cons_of_mem _ h5)
theorem ofL_spec (l:List ((Int × Int) × Int)):Asc (ofL l) ∧ ∀ s∈ofL l,s.1<1099511627776∧s.2=rsum l s.1:=by
 obtain ⟨h1,h2⟩:=comb_fold (rsum l) (ofPts l) [] (sasc_pairwise (ofPts_spec l).1) List.Pairwise.nil (fun s hs=>by cases hs) (fun s hs=>by cases hs)
 refine ⟨asc_of_pairwise h1,fun s hs=>?_⟩
 obtain ⟨h3,h4⟩:=h2 s hs
 rcases h3 with h3|h3
 ·cases h3
 ·exact ⟨((ofPts_spec l).2 s.1).1 h3 |>.2,h4⟩
theorem ofL_len (l:List ((Int × Int) × Int)):(ofL l).length≤1+2*l.length:=by
 have h1:=combS_len (rsum l) (ofPts l)
 have h2:(ofPts l).length≤1+2*l.length:=by
  have ha : ∀ (l:List ((Int × Int) × Int)) (p:List Int),(l.foldl (fun p c=>if pvalid c.1 then ins c.1.2 (ins c.1.1 p) else p) p).length≤p.length+2*l.length:=by
   intro l
   induction l with
   | nil=>intro p;simp
   | cons c l ih =>
    intro p
    rw [List.foldl_cons,List.length_cons]
    have:=ih (if pvalid c.1 then ins c.1.2 (ins c.1.1 p) else p)
    have h3:(if pvalid c.1 then ins c.1.2 (ins c.1.1 p) else p).length≤p.length+2:=by
     split
     ·have q1:=ins_len c.1.2 (ins c.1.1 p);have q2:=ins_len c.1.1 p;omega
     ·omega
    omega
  have h4:=ha l [0]
  have h5:(ofPts l).length≤(ofAll l).length:=by unfold ofPts;exact takeWhile_len _ _
  have h6:ofAll l=l.foldl (fun p c=>if pvalid c.1 then ins c.1.2 (ins c.1.1 p) else p) [0]:=rfl
  rw [h6] at h5
  simp at h4;omega
 show (combS (rsum l) (ofPts l)).length≤_
 omega
theorem isum_ones (p:Int) : ∀ l:List ((Int × Int) × Int),(∀ c∈l,c.2=1)→0≤isum l p∧isum l p≤l.length
 | [],_=>by simp [isum]
 | c::l,h=>by
  have ih:=isum_ones p l fun x hx=>h x (List.mem_cons_of_mem _ hx)
  have hi:isum (c::l) p=(if pcontains c.1 p then c.2 else 0)+isum l p:=by simp [isum]
  have hc:=h c (by simp)
  rw [hi,List.length_cons]
  split<;>omega
theorem rsum_ones {l:List ((Int × Int) × Int)} (p:Int) (h : ∀ c∈l,c.2=1) (hn:l.length≤1000000):rsum l p=isum l p:=by
 have:=isum_ones p l h
 rw [rsum_eq];unfold wrap64;omega
end Go.Proofs.YtfccopdbgfdcdaaGreatDoor.St
namespace Go.Proofs.YtfccopdbgfdcdaaGreatDoor
open Go.RowKit
def ones (ps:List Per):List Cnt:=ps.map fun p=>⟨p,1⟩
def levOf (ps:List Per):List Per:=levV (ofV (ones ps))
theorem ones_two (ps:List Per) : ∀ c∈(ones ps).map toC,c.2=1:=by
 intro c hc
 obtain ⟨x,hx,rfl⟩:=List.mem_map.1 hc
 obtain ⟨p,_,rfl⟩:=List.mem_map.1 hx
 rfl
theorem levOK_of (ps:List Per) (hn:ps.length≤300):LevOK (ofV (ones ps)):=by
 have hl:((ones ps).map toC).length=ps.length:=by simp [ones]
 obtain ⟨h1,h2⟩:=St.ofL_spec ((ones ps).map toC)
 have h3:=St.ofL_len ((ones ps).map toC)
 rw [hl] at h3
 have e:(ofV (ones ps)).map toS=St.ofL ((ones ps).map toC):=by
  unfold ofV
  rw [List.map_map]
  have:(toS∘ofS)=id:=by funext x;rfl
  rw [this,List.map_id]
 refine ⟨by unfold ofV;rw [List.length_map];omega,by rw [e];exact h1,fun s hs=>?_,fun s hs=>?_⟩
 ·have:toS s∈St.ofL ((ones ps).map toC):=by rw [← e];exact List.mem_map_of_mem hs
  exact (h2 _ this).1
 ·have:toS s∈St.ofL ((ones ps).map toC):=by rw [← e];exact List.mem_map_of_mem hs
  have h4:=(h2 _ this).2
  rw [St.rsum_ones _ (ones_two ps) (by omega)] at h4
  have h5:=(St.isum_ones (toS s).1 _ (ones_two ps)).2
  rw [hl] at h5
  show (toS s).2≤600
  omega
theorem chg_ones (ps:List Per):St.chg ((ones ps).map toC)=ps.flatMap fun p=>St.chg1 (toP p,1):=by
 unfold St.chg ones
 rw [List.map_map,List.flatMap_map];rfl
theorem levOf_perm {ps qs:List Per} (h:(ps.filter fun p=>St.pvalid (toP p)).Perm (qs.filter fun p=>St.pvalid (toP p))):levOf ps=levOf qs:=by
 have key : ∀ l:List Per,(l.flatMap fun p=>St.chg1 (toP p,1))=(l.filter fun p=>St.pvalid (toP p)).flatMap fun p=>St.chg1 (toP p,1):=by
  intro l
  induction l with
  | nil=>rfl
  | cons p l ih =>
   rw [List.flatMap_cons,ih,List.filter_cons]
   by_cases hp:St.pvalid (toP p)=true
   ·rw [if_pos hp,List.flatMap_cons]
   ·have e:St.chg1 (toP p,1)=[]:=by unfold St.chg1;rw [if_neg hp]
    rw [if_neg hp,e,List.nil_append]
 have:ofV (ones ps)=ofV (ones qs):=by
  unfold ofV
  rw [St.ofL_perm (A:=(ones ps).map toC) (B:=(ones qs).map toC)]
  rw [chg_ones,chg_ones,key ps,key qs]
  exact h.flatMap_right _
 unfold levOf
 rw [this]
theorem levM_one {x:Int × Int} {l:List (Int × Int)} (h1:St.atl l 1=[x]) (h2 : ∀ j:Nat,St.atl l ((j:Int)+2)=[]):St.levM l=[x]:=by
 have:St.levAll l=[x]:=by
  unfold St.levAll
  rw [show (600:Nat)=599+1 from rfl,List.range_succ_eq_map,List.flatMap_cons]
  rw [show St.atl l (((0:Nat):Int)+1)=[x] from h1]
  have:(List.map Nat.succ (List.range 599)).flatMap (fun j:Nat=>St.atl l ((j:Int)+1))=[]:=by
   rw [List.flatMap_eq_nil_iff]
   intro j hj
   obtain ⟨k,_,rfl⟩:=List.mem_map.1 hj
   have:=h2 k
   rw [show ((k:Int)+2)=((Nat.succ k:Nat):Int)+1 by push_cast;omega] at this
   exact this
  rw [this,List.append_nil]
 unfold St.levM
 rw [this]
 simp [St.placeP]
theorem rsum_single (p:Int × Int) (t:Int):St.rsum [(p,1)] t=if St.pcontains p t then 1 else 0:=by
 rw [St.rsum_ones t (by simp) (by simp)]
 simp [St.isum]
theorem levOf_one (p:Per) (hp:St.pvalid (toP p)=true):levOf [p]=[p]:=by
 obtain ⟨a,b⟩:=p
 have hv:0≤a∧a<b∧b≤1099511627776:=by
  have h:St.pvalid (a,b)=true:=hp
  simp [St.pvalid] at h
  omega
 have hpts:St.ofPts [(((a,b):Int × Int),1)]=(if a=0 then [0] else [0,a])++(if b<1099511627776 then [b] else []):=by
  have e:St.ofAll [(((a,b):Int × Int),1)]=St.ins b (St.ins a [0]):=by
   unfold St.ofAll
   simp only [List.foldl_cons,List.foldl_nil]
   rw [if_pos (show St.pvalid (a,b)=true from hp)]
  unfold St.ofPts
  rw [e]
  have hF:(0:Int)<1099511627776:=by decide
  by_cases h0:a=0
  ·subst h0
   rw [show St.ins 0 [0]=[0] by simp [St.ins],show St.ins b [0]=[0,b] by simp only [St.ins];rw [if_pos (by omega)]]
   by_cases hb:b<1099511627776
   ·simp [List.takeWhile,hb]
   ·simp [List.takeWhile,hb]
  ·rw [show St.ins a [0]=[0,a] by simp only [St.ins];rw [if_pos (by omega)],show St.ins b [0,a]=[0,a,b] by simp only [St.ins];rw [if_pos (by omega),if_pos (by omega)]]
   have ha:a<1099511627776:=by omega
   by_cases hb:b<1099511627776
   ·simp [List.takeWhile,hb,ha,h0]
   ·simp [List.takeWhile,hb,ha,h0]
 have hof:St.ofL [(((a,b):Int × Int),1)]=(if a=0 then [(0,1)] else [(0,0),(a,1)])++(if b<1099511627776 then [(b,0)] else []):=by
  unfold St.ofL
  rw [hpts]
  have r0:St.rsum [(((a,b):Int × Int),1)] 0=if a=0 then 1 else 0:=by
   rw [rsum_single]
   unfold St.pcontains
   have:St.pvalid (a,b)=true:=hp
   rw [this]
   by_cases h0:a=0
   ·subst h0;simp;omega
   ·have : ¬ a≤0:=by omega
    simp [h0,this]
  have ra:St.rsum [(((a,b):Int × Int),1)] a=1:=by
   rw [rsum_single]
   unfold St.pcontains
   have:St.pvalid (a,b)=true:=hp
   rw [this];simp;omega
  have rb:St.rsum [(((a,b):Int × Int),1)] b=0:=by
   rw [rsum_single]
   unfold St.pcontains
   have:St.pvalid (a,b)=true:=hp
   rw [this];simp
  by_cases h0:a=0
  ·rw [if_pos h0,if_pos h0]
   rw [if_pos h0] at r0
   by_cases hb:b<1099511627776
   ·rw [if_pos hb,if_pos hb]
    simp [St.combS,St.putS,r0,rb]
   ·rw [if_neg hb,if_neg hb]
    simp [St.combS,St.putS,r0]
  ·rw [if_neg h0,if_neg h0]
   rw [if_neg h0] at r0
   by_cases hb:b<1099511627776
   ·rw [if_pos hb,if_pos hb]
    simp [St.combS,St.putS,r0,ra,rb]
   ·rw [if_neg hb,if_neg hb]
    simp [St.combS,St.putS,r0,ra]
 have hl:St.levM (St.ofL [(((a,b):Int × Int),1)])=[(a,b)]:=by
  rw [hof]
  refine levM_one ?_ fun j=>?_
  ·by_cases h0:a=0
   ·subst h0
    by_cases hb:b<1099511627776
    ·simp [hb,St.atl,St.segs,St.atStep,St.joinP]
    ·have:b=1099511627776:=by omega
     simp [this,St.atl,St.segs,St.atStep,St.joinP]
   ·by_cases hb:b<1099511627776
    ·simp [hb,h0,St.atl,St.segs,St.atStep,St.joinP]
    ·have:b=1099511627776:=by omega
     simp [this,h0,St.atl,St.segs,St.atStep,St.joinP]
  ·refine St.atl_nil.2 fun s hs=>?_
   have:s.2=0∨s.2=1:=by
    rcases List.mem_append.1 hs with hs|hs
    ·split at hs
     ·rw [List.mem_singleton.1 hs];exact .inr rfl
     ·rcases List.mem_cons.1 hs with rfl|hs
      ·exact .inl rfl
      ·rw [List.mem_singleton.1 hs];exact .inr rfl
    ·split at hs
     ·rw [List.mem_singleton.1 hs];exact .inl rfl
     ·cases hs
   omega
 unfold levOf levV ofV ones
 rw [List.map_map,show (toS∘ofS)=id from rfl,List.map_id]
 show ((St.levM (St.ofL [(((a,b):Int × Int),1)])).map ofP)=_
 rw [hl];rfl
open Go.RowKit Go.MapKept
theorem loop_app {α β ρ:Type} {l:List α} {body:(List β × Int)→Option (Step (List β × Int) ρ)} (g:α→List β) (N:Nat) (h1 : ∀ (s:List β) (i:Nat) x,l[i]?=some x→s.length+(g x).length≤N→body (s,(i:Int))=some (.next (s++g x,((i+1:Nat):Int)))) (h2 : ∀ s:List β,body (s,((l.length:Nat):Int))=some (.exit (s,((l.length:Nat):Int)))) (hl:l.length<fuel) (s:List β) (hN:s.length+(l.flatMap g).length≤N) :
  loopM body fuel (s,(0:Int))=some (.inl (s++l.flatMap g,((l.length:Nat):Int))):=by
 have key : ∀ (n i:Nat) (s:List β),i≤l.length→l.length-i<n→s.length+((l.drop i).flatMap g).length≤N→loopM body n (s,(i:Int))=some (.inl (s++(l.drop i).flatMap g,((l.length:Nat):Int))):=by
  intro n
  induction n with
  | zero=>intro i s _ h _;omega
  | succ n ih =>
   intro i s hi hn hs
   rw [loopM]
   by_cases hlt:i<l.length
   ·obtain ⟨x,hx⟩:=gol_ hlt
    have e1:=(List.getElem?_eq_some_iff.1 hx).2
    rw [List.drop_eq_getElem_cons hlt,e1,List.flatMap_cons] at hs ⊢
    rw [List.length_append] at hs
    rw [h1 s i x hx (by omega)]
    show loopM body n _=_
    rw [ih (i+1) (s++g x) (by omega) (by omega) (by rw [List.length_append];omega),List.append_assoc]
   ·have:i=l.length:=by omega
    subst this
    rw [h2,List.drop_length]
    simp
 have:=key fuel 0 s (Nat.zero_le _) (by omega) (by simpa using hN)
 simpa using this
def SRows (l:List (List Val)):Prop:=l.Pairwise fun a b=>rcmp a b<0
theorem srows_ext : ∀ {a b:List (List Val)}, SRows a→SRows b→(∀ x,x∈a↔x∈b)→a=b
 | [],[],_,_,_=>rfl
 | [],y::b,_,_,h=>by have:=(h y).2 (by simp);cases this
 | x::a,[],_,_,h=>by have:=(h x).1 (by simp);cases this
 | x::a,y::b,ha,hb,h=>by
  have ha:=List.pairwise_cons.1 ha
  have hb:=List.pairwise_cons.1 hb
  have irr : ∀ z, ¬ rcmp z z<0:=fun z=>by rw [tCr_.refl];omega
  have hxy:x=y:=by
   rcases List.mem_cons.1 ((h x).1 (by simp)) with e|e
   ·exact e
   ·rcases List.mem_cons.1 ((h y).2 (by simp)) with e2|e2
    ·exact e2.symm
    ·exact absurd (tCr_.trans _ _ _ (ha.1 y e2) (hb.1 x e)) (irr x)
  subst hxy
  rw [srows_ext ha.2 hb.2 fun z=>?_]
  constructor
  ·intro hz
   rcases List.mem_cons.1 ((h z).1 (List.mem_cons_of_mem _ hz)) with rfl|e
   ·exact absurd (ha.1 z hz) (irr z)
   ·exact e
  ·intro hz
   rcases List.mem_cons.1 ((h z).2 (List.mem_cons_of_mem _ hz)) with rfl|e
   ·exact absurd (hb.1 z hz) (irr z)
   ·exact e
instance decRow (a b:List Val):Decidable (a=b):=if h:rcmp a b=0 then .isTrue (tCr_.zero _ _ h) else .isFalse fun e=>h (by rw [e];exact tCr_.refl _)
def perOf (l:List Fct) (r:List Val):List Per:=(l.filter fun f=>pvalB f.valid&&decide (f.row=r)).map (·.valid)
def RowsOf (l:List Fct) (R:List (List Val)):Prop:=SRows R ∧ ∀ x,x∈R ↔ ∃ f∈l,pvalB f.valid=true∧f.row=x
def bagOf (l:List Fct) (R:List (List Val)):List Fct:=R.flatMap fun r=>(levOf (perOf l r)).map fun p=>⟨r,p⟩
theorem RowsOf.ext {l:List Fct} {R S:List (List Val)} (h:RowsOf l R) (k:RowsOf l S):R=S:=srows_ext h.1 k.1 fun x=>(h.2 x).trans (k.2 x).symm
theorem perOf_snoc (l:List Fct) (f:Fct) (r:List Val):perOf (l++[f]) r=perOf l r++(if pvalB f.valid&&decide (f.row=r) then [f.valid] else []):=by
 unfold perOf
 rw [List.filter_append,List.map_append]
 congr 1
 by_cases h:(pvalB f.valid&&decide (f.row=r))=true
 ·simp [h]
 ·simp [h]
theorem gfind_some {s:ByteArray} : ∀ {G:List GrpC} {i:Nat}, gfind s G=some i → ∃ g,G[i]?=some g∧keyC g.f.row=s
 | [],_,h=>by simp [gfind] at h
 | g::r,i,h=>by
  unfold gfind at h
  split at h
  ·rename_i e;injection h with h;subst h;exact ⟨g,rfl,e.symm⟩
  ·cases hr:gfind s r with
   | none=>rw [hr] at h;cases h
   | some j =>
    rw [hr] at h;injection h with h;subst h
    obtain ⟨g',h1,h2⟩:=gfind_some hr
    exact ⟨g',by simpa using h1,h2⟩
theorem gfind_none {s:ByteArray} : ∀ {G:List GrpC}, gfind s G=none → ∀ g∈G,keyC g.f.row≠s
 | [],_,g,hg=>by cases hg
 | x::r,h,g,hg=>by
  unfold gfind at h
  split at h
  ·cases h
  ·rename_i e
   cases hr:gfind s r with
   | none =>
    rcases List.mem_cons.1 hg with rfl|hg
    ·exact fun q=>e q.symm
    ·exact gfind_none hr g hg
   | some j=>rw [hr] at h;cases h
structure GInv (l:List Fct) (G:List GrpC):Prop where
 nd:G.Pairwise fun g h=>g.f.row≠h.f.row
 ps : ∀ g∈G,g.ps=perOf l g.f.row
 mem : ∀ g∈G, ∃ f∈l,pvalB f.valid=true∧f.row=g.f.row
 all : ∀ f∈l,pvalB f.valid=true → ∃ g∈G,g.f.row=f.row
theorem GInv.step {l:List Fct} {G:List GrpC} (h:GInv l G) (f:Fct):GInv (l++[f]) (gstepC G f):=by
 unfold gstepC
 cases hv:pvalB f.valid with
 | false =>
  rw [cond_false]
  refine ⟨h.nd,fun g hg=>?_,fun g hg=>?_,fun f' hf' hv'=>?_⟩
  ·rw [perOf_snoc,hv];simpa using h.ps g hg
  ·obtain ⟨f',h1,h2⟩:=h.mem g hg;exact ⟨f',List.mem_append_left _ h1,h2⟩
  ·rcases List.mem_append.1 hf' with hf'|hf'
   ·exact h.all f' hf' hv'
   ·rw [List.mem_singleton.1 hf'] at hv';rw [hv] at hv';cases hv'
 | true =>
  rw [cond_true]
  cases hf:gfind (keyC f.row) G with
  | none =>
   have hne : ∀ g∈G,g.f.row≠f.row:=fun g hg e=>gfind_none hf g hg (by rw [e])
   have hemp:perOf l f.row=[]:=by
    unfold perOf
    rw [List.map_eq_nil_iff,List.filter_eq_nil_iff]
    intro f' hf' hc
    rw [Bool.and_eq_true] at hc
    obtain ⟨g,hg,e⟩:=h.all f' hf' hc.1
    exact hne g hg (e.trans (of_decide_eq_true hc.2))
   refine ⟨List.pairwise_append.2 ⟨h.nd,List.pairwise_singleton _ _,fun g hg g' hg'=>by rw [List.mem_singleton.1 hg'];exact hne g hg⟩,fun g hg=>?_,fun g hg=>?_,fun f' hf' hv'=>?_⟩
   ·rcases List.mem_append.1 hg with hg|hg
    ·rw [perOf_snoc,hv,show decide (f.row=g.f.row)=false from decide_eq_false fun e=>hne g hg e.symm]
     simpa using h.ps g hg
    ·rw [List.mem_singleton.1 hg,perOf_snoc,hv,hemp];simp
   ·rcases List.mem_append.1 hg with hg|hg
    ·obtain ⟨f',h1,h2⟩:=h.mem g hg;exact ⟨f',List.mem_append_left _ h1,h2⟩
    ·rw [List.mem_singleton.1 hg];exact ⟨f,by simp,hv,rfl⟩
   ·rcases List.mem_append.1 hf' with hf'|hf'
    ·obtain ⟨g,hg,e⟩:=h.all f' hf' hv';exact ⟨g,List.mem_append_left _ hg,e⟩
    ·rw [List.mem_singleton.1 hf'];exact ⟨⟨f,[f.valid]⟩,by simp,rfl⟩
  | some i =>
   obtain ⟨g0,hg0,hk⟩:=gfind_some hf
   have hrow:g0.f.row=f.row:=key_inj hk
   dsimp only
   rw [hg0]
   dsimp only
   have hil:=(List.getElem?_eq_some_iff.1 hg0).1
   have hmap:(G.set i ⟨g0.f,g0.ps++[f.valid]⟩).map (·.f.row)=G.map (·.f.row):=by
    rw [List.map_set]
    refine List.ext_getElem? fun j=>?_
    rw [List.getElem?_set]
    split
    ·rename_i e;subst e
     rw [List.length_map,if_pos hil,List.getElem?_map,hg0];rfl
    ·rfl
   have hnd:(G.set i ⟨g0.f,g0.ps++[f.valid]⟩).Pairwise fun g h=>g.f.row≠h.f.row:=by
    have h1:(G.map (·.f.row)).Pairwise (· ≠ ·):=List.pairwise_map.2 h.nd
    rw [← hmap] at h1
    exact List.pairwise_map.1 h1
   have hmemG : ∀ g∈G.set i ⟨g0.f,g0.ps++[f.valid]⟩,(g∈G∧g.f.row≠f.row)∨g=⟨g0.f,g0.ps++[f.valid]⟩:=by
    intro g hg
    obtain ⟨j,hj⟩:=List.getElem?_of_mem hg
    rw [List.getElem?_set] at hj
    split at hj
    ·rename_i e
     injection hj with hj
     exact .inr hj.symm
    ·rename_i e
     refine .inl ⟨List.mem_of_getElem? hj,fun q=>?_⟩
     have hjl:=(List.getElem?_eq_some_iff.1 hj).1
     have e1:=(List.getElem?_eq_some_iff.1 hj).2
     have e2:=(List.getElem?_eq_some_iff.1 hg0).2
     rcases Nat.lt_or_gt_of_ne e with hlt|hlt
     ·have:=List.pairwise_iff_getElem.1 h.nd i j hil hjl hlt
      rw [e1,e2] at this;exact this (hrow.trans q.symm)
     ·have:=List.pairwise_iff_getElem.1 h.nd j i hjl hil hlt
      rw [e1,e2] at this;exact this (q.trans hrow.symm)
   have hg0m:=List.mem_of_getElem? hg0
   refine ⟨hnd,fun g hg=>?_,fun g hg=>?_,fun f' hf' hv'=>?_⟩
   ·rcases hmemG g hg with ⟨hg,hne⟩|rfl
    ·rw [perOf_snoc,hv,show decide (f.row=g.f.row)=false from decide_eq_false fun e=>hne e.symm]
     simpa using h.ps g hg
    ·show g0.ps++[f.valid]=perOf (l++[f]) g0.f.row
     rw [perOf_snoc,hv,show decide (f.row=g0.f.row)=true from decide_eq_true hrow.symm, ← h.ps g0 hg0m];rfl
   ·rcases hmemG g hg with ⟨hg,_⟩|rfl
    ·obtain ⟨f',h1,h2⟩:=h.mem g hg;exact ⟨f',List.mem_append_left _ h1,h2⟩
    ·exact ⟨f,by simp,hv,hrow.symm⟩
   ·have hex : ∃ g∈G,g.f.row=f'.row:=by
     rcases List.mem_append.1 hf' with hf'|hf'
     ·exact h.all f' hf' hv'
     ·rw [List.mem_singleton.1 hf'];exact ⟨g0,hg0m,hrow⟩
    obtain ⟨g,hg,e⟩:=hex
    have:g.f.row∈(G.set i ⟨g0.f,g0.ps++[f.valid]⟩).map (·.f.row):=by rw [hmap];exact List.mem_map_of_mem hg
    obtain ⟨g',hg',e'⟩:=List.mem_map.1 this
    exact ⟨g',hg',e'.trans e⟩
theorem gfoldC_inv (l:List Fct):GInv l (gfoldC l):=by
 have : ∀ (l l0:List Fct) (G:List GrpC),GInv l0 G→GInv (l0++l) (l.foldl gstepC G):=by
  intro l
  induction l with
  | nil=>intro l0 G h;simpa using h
  | cons f l ih =>
   intro l0 G h
   have:=ih (l0++[f]) _ (h.step f)
   rw [List.append_assoc] at this
   exact this
 have:=this l [] [] ⟨List.Pairwise.nil,fun g hg=>(by cases hg),fun g hg=>(by cases hg),fun f hf=>(by cases hf)⟩
 simpa [gfoldC] using this
theorem rcmp_le_trans (a b d:List Val) (h1:rcmp a b≤0) (h2:rcmp b d≤0):rcmp a d≤0:=by
 rcases Int.lt_or_eq_of_le h1 with h1|h1
 ·rcases Int.lt_or_eq_of_le h2 with h2|h2
  ·exact Int.le_of_lt (tCr_.trans _ _ _ h1 h2)
  ·rw [← tCr_.zero _ _ h2];exact Int.le_of_lt h1
 ·rw [tCr_.zero _ _ h1];exact h2
theorem rcmp_tot (a b:List Val) (h : ¬ rcmp a b<0):rcmp b a≤0:=by
 have:=(tCr_.anti a b);omega
theorem rowsP_eq (l:List Fct) : ∃ R,RowsOf l R∧rowsP l=R.map fun r=>⟨r,perOf l r⟩:=by
 have hi:=gfoldC_inv l
 have hp:=sortT_perm cmpSG ((gfoldC l).map fun g=>(⟨g.f.row,g.ps⟩:SGroupcoalesce))
 have ha:=sortT_asc (c:=cmpSG) (fun a b d=>rcmp_le_trans a.row b.row d.row) (fun a b=>rcmp_tot a.row b.row) ((gfoldC l).map fun g=>(⟨g.f.row,g.ps⟩:SGroupcoalesce))
 have hn:(rowsP l).Pairwise fun a b=>a.row≠b.row:=by
  have h1:((gfoldC l).map fun g=>(⟨g.f.row,g.ps⟩:SGroupcoalesce)).Pairwise fun a b=>a.row≠b.row:=List.pairwise_map.2 hi.nd
  exact (List.Perm.pairwise_iff (fun {a b} h=>Ne.symm h) hp).2 h1
 have hmem : ∀ s∈rowsP l,s.periods=perOf l s.row ∧ ∃ f∈l,pvalB f.valid=true∧f.row=s.row:=by
  intro s hs
  obtain ⟨g,hg,rfl⟩:=List.mem_map.1 (hp.mem_iff.1 hs)
  exact ⟨hi.ps g hg,hi.mem g hg⟩
 refine ⟨(rowsP l).map (·.row),⟨?_,fun x=>?_⟩,?_⟩
 ·refine List.pairwise_map.2 ?_
  refine (List.Pairwise.and ha hn).imp ?_
  rintro a b ⟨h1,h2⟩
  rcases Int.lt_or_eq_of_le h1 with h|h
  ·exact h
  ·exact absurd (tCr_.zero _ _ h) h2
 ·constructor
  ·intro hx
   obtain ⟨s,hs,rfl⟩:=List.mem_map.1 hx
   exact (hmem s hs).2
  ·rintro ⟨f,hf,hv,rfl⟩
   obtain ⟨g,hg,e⟩:=hi.all f hf hv
   exact List.mem_map.2 ⟨⟨g.f.row,g.ps⟩,hp.mem_iff.2 (List.mem_map.2 ⟨g,hg,rfl⟩),e⟩
 ·rw [List.map_map]
  refine (List.map_id (rowsP l)).symm.trans (List.map_congr_left fun s hs=>?_)
  have:=(hmem s hs).1
  obtain ⟨r,ps⟩:=s
  show (⟨r,ps⟩:SGroupcoalesce)=⟨r,perOf l r⟩
  rw [← this]
theorem fo_ {α β:Type} (f:α→β) : ∀ l:List α,(l.flatMap fun x=>[f x])=l.map f
 | []=>rfl
 | x::l=>by rw [List.flatMap_cons,fo_ f l];rfl
theorem gCounted_eq (ps:List Per) (hn:ps.length≤100000):gCounted ps=some (ofV (ones ps)):=by
 unfold gCounted
 rw [loop_app (l:=ps) (fun p=>[(⟨p,1⟩:Cnt)]) 5864062014805 ?_ ?_ (by unfold fuel;omega) [] (by rw [fo_];simp;omega)]
 ·rw [Option.bind_some,fo_,List.nil_append]
  show (gOfL (ones ps)).bind _=_
  unfold gOfL
  rw [show decide ((ones ps).length≤100000)=true from decide_eq_true (by simpa [ones] using hn)]
  rfl
 ·intro s i x hx hs
  have hi:=(List.getElem?_eq_some_iff.1 hx).1
  unfold gCounted_B1
  dsimp only
  rw [lt_dec hx,cond_true,gn_ hx]
  simp only [Option.bind_some]
  rw [show decide (s.length+1≤5864062014805)=true from decide_eq_true (by simpa using hs),cond_true,wrapN (by omega)]
 ·intro s
  unfold gCounted_B1
  dsimp only
  rw [lF_,cond_false]
theorem levOf_len (ps:List Per):(levOf ps).length≤600*(1+2*ps.length):=by
 unfold levOf levV
 rw [List.length_map,(St.levM_spec _).2.length_eq]
 have h1:=St.levTo_len ((ofV (ones ps)).map toS) 600
 have h2:St.levAll ((ofV (ones ps)).map toS)=St.levTo ((ofV (ones ps)).map toS) 600:=rfl
 rw [h2]
 have h3:((ofV (ones ps)).map toS).length≤1+2*ps.length:=by
  rw [List.length_map]
  unfold ofV
  rw [List.length_map]
  have:=St.ofL_len ((ones ps).map toC)
  simpa [ones] using this
 exact Nat.le_trans h1 (Nat.mul_le_mul_left _ h3)
theorem gBag1_eq (ps:List Per) (hn:ps.length≤300) (hv : ∀ p∈ps,pvalB p=true):gBag1 ps=some (levOf ps):=by
 unfold gBag1
 by_cases h1:ps.length=1
 ·rw [show decide (((ps.length:Nat):Int)=1)=true from decide_eq_true (by omega),cond_true]
  match ps,h1 with
  | [p],_=>rw [levOf_one p (hv p (by simp))]
 ·rw [show decide (((ps.length:Nat):Int)=1)=false from decide_eq_false (by omega),cond_false,gCounted_eq ps (by omega),Option.bind_some]
  unfold gLevL
  rw [if_pos (levOK_of ps hn)]
  rfl
theorem perOf_len (l:List Fct) (r:List Val):(perOf l r).length≤l.length:=by unfold perOf;rw [List.length_map];exact List.length_filter_le _ _
theorem perOf_valid (l:List Fct) (r:List Val) : ∀ p∈perOf l r,pvalB p=true:=by
 intro p hp
 obtain ⟨f,hf,rfl⟩:=List.mem_map.1 hp
 have:=(List.mem_filter.1 hf).2
 rw [Bool.and_eq_true] at this
 exact this.1
def grpF (s:SGroupcoalesce):List Fct:=(levOf s.periods).map fun p=>⟨s.row,p⟩
theorem gBag_eq (l:List Fct) (h:FctsOK l) : ∃ R,RowsOf l R∧gBag l=some (bagOf l R):=by
 obtain ⟨R,hR,hr⟩:=rowsP_eq l
 refine ⟨R,hR,?_⟩
 have hmem : ∀ s∈rowsP l,s.periods.length≤19∧(∀ p∈s.periods,pvalB p=true)∧s.row.length≤1000:=by
  intro s hs
  rw [hr] at hs
  obtain ⟨r,hrR,rfl⟩:=List.mem_map.1 hs
  obtain ⟨f,hf,_,e⟩:=(hR.2 r).1 hrR
  refine ⟨Nat.le_trans (perOf_len l r) h.1,perOf_valid l r,?_⟩
  show r.length≤1000
  rw [← e];exact (h.2 f hf).1
 have hlen:(rowsP l).length≤19:=by
  have h1:=(sortT_perm cmpSG ((gfoldC l).map fun g=>(⟨g.f.row,g.ps⟩:SGroupcoalesce))).length_eq
  have h2:=gfoldC_len l
  have h3:=h.1
  show (sortT cmpSG _).length≤19
  rw [h1,List.length_map];omega
 have hg : ∀ s∈rowsP l,(grpF s).length≤23400:=by
  intro s hs
  unfold grpF
  rw [List.length_map]
  have h1:=levOf_len s.periods
  have h2:=(hmem s hs).1
  omega
 have htot:((rowsP l).flatMap grpF).length≤19*23400:=by
  have : ∀ (L:List SGroupcoalesce),(∀ s∈L,(grpF s).length≤23400)→(L.flatMap grpF).length≤L.length*23400:=by
   intro L
   induction L with
   | nil=>intro _;simp
   | cons s L ih =>
    intro hL
    have h1:=ih fun x hx=>hL x (List.mem_cons_of_mem _ hx)
    have h2:=hL s (by simp)
    rw [List.flatMap_cons,List.length_append,List.length_cons];omega
  exact Nat.le_trans (this _ hg) (Nat.mul_le_mul_right _ hlen)
 have hb:bagOf l R=(rowsP l).flatMap grpF:=by
  rw [hr,List.flatMap_map];rfl
 unfold gBag gBuild
 have e1:gRowsCo l=some (rowsP l):=by unfold gRowsCo;rw [if_pos h]
 rw [e1,Option.bind_some]
 generalize rowsP l=X at hmem hlen hg htot hb ⊢
 rw [loop_app (l:=X) grpF 3518437208883 ?_ ?_ (by unfold fuel;omega) [] (by simp only [List.length_nil];omega)]
 ·simp only [Option.bind_some,gBuild_K3,List.nil_append,hb]
 ·intro s i x hx hs
  have hi:=(List.getElem?_eq_some_iff.1 hx).1
  obtain ⟨m1,m2,m3⟩:=hmem x (List.mem_of_getElem? hx)
  unfold gBuild_B3
  dsimp only
  rw [lt_dec hx,cond_true,gn_ hx]
  simp only [Option.bind_some]
  rw [gBag1_eq x.periods (by omega) m2,Option.bind_some]
  have hgl:(grpF x).length=(levOf x.periods).length:=by unfold grpF;rw [List.length_map]
  have hgx:=hg x (List.mem_of_getElem? hx)
  rw [loop_app (l:=levOf x.periods) (fun p=>[(⟨x.row,p⟩:Fct)]) 3518437208883 ?_ ?_ (by unfold fuel;omega) s (by rw [fo_,List.length_map];omega)]
  ·rw [Option.bind_some,fo_]
   show some (Step.next (s++grpF x,_))=_
   rw [wrapN (by omega)]
  ·intro s' j y hy hs'
   have hj:=(List.getElem?_eq_some_iff.1 hy).1
   unfold gBuild_B4
   dsimp only
   rw [lt_dec hy,cond_true,gn_ hy]
   simp only [Option.bind_some]
   rw [show decide (x.row.length≤4398046511104)=true from decide_eq_true (by omega),cond_true,show decide (s'.length+1≤3518437208883)=true from decide_eq_true (by simpa using hs'),cond_true,wrapN (by omega)]
  ·intro s'
   unfold gBuild_B4
   dsimp only
   rw [lF_,cond_false]
 ·intro s
  unfold gBuild_B3
  dsimp only
  rw [lF_,cond_false]
set_option maxRecDepth 100000
def AscF (l:List Fct):Prop:=l.Pairwise fun a b=>rcmp a.row b.row≤0
def leF (x y:Fct):Bool:=leV x.row y.row
theorem leF_iff (x y:Fct):leF x y=true↔rcmp x.row y.row≤0:=leV_iff x.row y.row
theorem gMerged22_at {a b:List Fct} (ha:a.length≤1000000) (hb:b.length≤1000000) (hra : ∀ r∈a,r.row.length≤1000000) (hrb : ∀ r∈b,r.row.length≤1000000) : ∀ (n i k:Nat) (out:List Fct),i≤a.length→k≤b.length→out.length=i+k→(a.length-i)+(b.length-k)<n→(loopM (gMerged22_B1 a b) n (out,(i:Int),(k:Int))).bind gMerged22_K1=some (out++List.merge (a.drop i) (b.drop k) leF)
 | 0,_,_,_,_,_,_,h=>by omega
 | n+1,i,k,out,h1,h2,ho,hn=>by
  have hg:decide (out.length+1≤3518437208883)=true:=decide_eq_true (by omega)
  rw [loopM]
  by_cases hlt:i<a.length
  ·obtain ⟨x,hx⟩:=gol_ hlt
   have ex:=(List.getElem?_eq_some_iff.1 hx).2
   have hne:decide ((i:Int)=((a.length:Nat):Int))=false:=decide_eq_false (by omega)
   have ihA:=gMerged22_at ha hb hra hrb n (i+1) k (out++[x]) (by omega) (by omega) (by simp;omega) (by omega)
   by_cases hlb:k<b.length
   ·obtain ⟨y,hy⟩:=gol_ hlb
    have ey:=(List.getElem?_eq_some_iff.1 hy).2
    have ihB:=gMerged22_at ha hb hra hrb n i (k+1) (out++[y]) (by omega) (by omega) (by simp;omega) (by omega)
    have eb:gMerged22_B1 a b (out,(i:Int),(k:Int))=bif decide (rcmp y.row x.row<0) then some (.next (out++[y],(i:Int),((k+1:Nat):Int))) else some (.next (out++[x],((i+1:Nat):Int),(k:Int))):=by
     unfold gMerged22_B1
     dsimp only
     rw [lt_dec hx,cond_true,hne,cond_false,lt_dec hy,cond_true,gn_ hy,gn_ hx]
     simp only [Option.bind_some]
     rw [gCmp8_eq y.row x.row (by have:=hrb y (List.mem_of_getElem? hy);omega) (by have:=hra x (List.mem_of_getElem? hx);omega),wrapN (by omega),wrapN (by omega),hg]
     rfl
    rw [eb,List.drop_eq_getElem_cons hlt,List.drop_eq_getElem_cons hlb,ex,ey,List.cons_merge_cons]
    rw [List.drop_eq_getElem_cons hlb,ey] at ihA
    rw [List.drop_eq_getElem_cons hlt,ex] at ihB
    by_cases hc:rcmp y.row x.row<0
    ·rw [show decide (rcmp y.row x.row<0)=true from decide_eq_true hc,cond_true,if_neg (by unfold leF leV;simp [hc])]
     dsimp only
     rw [ihB];simp
    ·rw [show decide (rcmp y.row x.row<0)=false from decide_eq_false hc,cond_false,if_pos (by unfold leF leV;simp [hc])]
     dsimp only
     rw [ihA];simp
   ·have hk:k=b.length:=by omega
    have eb:gMerged22_B1 a b (out,(i:Int),(k:Int))=some (.next (out++[x],((i+1:Nat):Int),(k:Int))):=by
     unfold gMerged22_B1
     dsimp only
     rw [lt_dec hx,cond_true,hne,cond_false,hk,lF_,cond_false,gn_ hx]
     simp only [Option.bind_some]
     rw [wrapN (by omega),hg]
     rfl
    rw [eb]
    dsimp only
    rw [ihA,List.drop_eq_getElem_cons hlt,ex,hk,List.drop_length,List.merge_right,List.merge_right]
    simp
  ·have hi:i=a.length:=by omega
   subst hi
   by_cases hlb:k<b.length
   ·obtain ⟨y,hy⟩:=gol_ hlb
    have ey:=(List.getElem?_eq_some_iff.1 hy).2
    have ihB:=gMerged22_at ha hb hra hrb n a.length (k+1) (out++[y]) (by omega) (by omega) (by simp;omega) (by omega)
    have eb:gMerged22_B1 a b (out,((a.length:Nat):Int),(k:Int))=some (.next (out++[y],((a.length:Nat):Int),((k+1:Nat):Int))):=by
     unfold gMerged22_B1
     dsimp only
     rw [lF_,cond_false,lt_dec hy,cond_true,show decide (((a.length:Nat):Int)=((a.length:Nat):Int))=true from decide_eq_true rfl,cond_true,gn_ hy]
     simp only [Option.bind_some]
     rw [wrapN (by omega),hg]
     rfl
    rw [eb]
    dsimp only
    rw [ihB,List.drop_eq_getElem_cons hlb,ey,List.drop_length,List.nil_merge,List.nil_merge]
    simp
   ·have hk:k=b.length:=by omega
    subst hk
    have eb:gMerged22_B1 a b (out,((a.length:Nat):Int),((b.length:Nat):Int))=some (.exit (out,((a.length:Nat):Int),((b.length:Nat):Int))):=by
     unfold gMerged22_B1
     dsimp only
     rw [lF_,cond_false,lF_,cond_false]
    rw [eb,List.drop_length,List.drop_length,List.nil_merge,List.append_nil]
    rfl
theorem gMerged22_eq {a b:List Fct} (ha:a.length≤1000000) (hb:b.length≤1000000) (hra : ∀ r∈a,r.row.length≤1000000) (hrb : ∀ r∈b,r.row.length≤1000000):gMerged22 a b=some (List.merge a b leF):=by
 unfold gMerged22
 have:=gMerged22_at ha hb hra hrb fuel 0 0 [] (Nat.zero_le _) (Nat.zero_le _) rfl (by unfold fuel;omega)
 rw [show (((0:Nat):Int))=0 from rfl] at this
 rw [this];simp
theorem mergeF_asc {a b:List Fct} (ha:AscF a) (hb:AscF b):AscF (List.merge a b leF):=by
 have:=List.pairwise_merge (le:=leF) (fun x y z h1 h2=>(leF_iff x z).2 (rcmp_le_trans _ _ _ ((leF_iff x y).1 h1) ((leF_iff y z).1 h2))) (fun x y=>by
  rw [Bool.or_eq_true,leF_iff,leF_iff];exact tCr_.total x.row y.row) a b (ha.imp fun h=>(leF_iff _ _).2 h) (hb.imp fun h=>(leF_iff _ _).2 h)
 exact this.imp fun h=>(leF_iff _ _).1 h
theorem gOrdered_eq : ∀ (n:Nat) (l:List Fct),l.length≤n→l.length≤1000000→(∀ r∈l,r.row.length≤1000000) → ∃ r,gOrdered (n+1) l=some r∧AscF r∧r.Perm l:=by
 intro n
 induction n with
 | zero =>
  intro l h _ _
  have:l=[]:=by cases l with|nil=>rfl|cons _ _=>simp at h
  subst this
  exact ⟨[],rfl,List.Pairwise.nil,List.Perm.refl _⟩
 | succ n ih =>
  intro l h hl hr
  match l,h,hl,hr with
  | [],_,_,_=>exact ⟨[],rfl,List.Pairwise.nil,List.Perm.refl _⟩
  | [x],_,_,hr=>exact ⟨[x],rfl,by simp [AscF],List.Perm.refl _⟩
  | x::y::t,h,hl,hr =>
   generalize hL:x::y::t=l at h hl hr
   have h2:2≤l.length:=by rw [← hL];simp
   have hm:IntKind.i64.wrap (((l.length:Nat):Int).tdiv (2:Int))=((l.length/2:Nat):Int):=by
    rw [show ((l.length:Nat):Int).tdiv 2=((l.length/2:Nat):Int) from rfl]
    exact wrap_eq (by omega) (by omega)
   have s1:subI l 0 ((l.length/2:Nat):Int)=some (l.take (l.length/2)):=by
    unfold subI
    rw [if_pos (by omega),Int.toNat_natCast];rfl
   have s2:subI l ((l.length/2:Nat):Int) ((l.length:Nat):Int)=some (l.drop (l.length/2)):=by
    unfold subI
    rw [if_pos (by omega),Int.toNat_natCast,Int.toNat_natCast,List.take_length]
   obtain ⟨r1,e1,a1,p1⟩:=ih (l.take (l.length/2)) (by simp;omega) (by simp;omega) fun r hr'=>hr r (List.mem_of_mem_take hr')
   obtain ⟨r2,e2,a2,p2⟩:=ih (l.drop (l.length/2)) (by simp;omega) (by simp;omega) fun r hr'=>hr r (List.mem_of_mem_drop hr')
   refine ⟨List.merge r1 r2 leF,?_,mergeF_asc a1 a2,?_⟩
   ·show gOrderedB (gOrdered (n+1)) l=_
    unfold gOrderedB
    rw [show decide (((l.length:Nat):Int)<2)=false from decide_eq_false (by omega),cond_false,show decide ((2:Int)≠0)=true from rfl,cond_true,hm,s1]
    simp only [Option.bind_some]
    rw [e1,Option.bind_some,s2,Option.bind_some,e2,Option.bind_some]
    rw [gMerged22_eq (by rw [p1.length_eq];simp;omega) (by rw [p2.length_eq];simp;omega) (fun r hr'=>hr r (List.mem_of_mem_take (p1.mem_iff.1 hr'))) (fun r hr'=>hr r (List.mem_of_mem_drop (p2.mem_iff.1 hr')))]
    rfl
   ·refine (List.merge_perm_append leF).trans ((p1.append p2).trans ?_)
    rw [List.take_append_drop]
theorem gValid1_eq (p:Per):gValid1 p=some (pvalB p):=by
 unfold gValid1 pvalB
 cases h1:decide (0≤p.lo)<;>cases h2:decide (p.lo<p.hi)<;>cases h3:decide (p.hi≤1099511627776)<;>simp_all
theorem gEqual8_self (x:List Val) (h:x.length≤1000000):gEqual8 x x=some true:=by
 unfold gEqual8
 rw [gCmp8_eq x x (by omega) (by omega),Option.bind_some,tCr_.refl];rfl
theorem gDistinct8_rep (r:List Val) (hr:r.length≤1000000) (k:Nat) (hk:k≤63):gDistinct8 (List.replicate k r)=some (if k=0 then [] else [r]):=by
 unfold gDistinct8
 have hp:=sortV_perm (List.replicate k r)
 have hs:sortV (List.replicate k r)=List.replicate k r:=by
  refine List.eq_replicate_iff.2 ⟨by rw [hp.length_eq];simp,fun b hb=>?_⟩
  exact (List.mem_replicate.1 (hp.mem_iff.1 hb)).2
 rw [gSortR_eq _ (by simpa using hk) (fun x hx=>by rw [(List.mem_replicate.1 hx).2];exact hr),Option.bind_some,hs]
 have hlen:(List.replicate k r).length=k:=by simp
 have get : ∀ i,i<k→(List.replicate k r)[i]?=some r:=fun i hi=>by rw [List.getElem?_replicate];simp [hi]
 have loop : ∀ (n i:Nat),1≤i→i≤k→k-i<n→loopM (gDistinct8_B1 (List.replicate k r)) n ([r],(i:Int))=some (.inl ([r],(k:Int))):=by
  intro n
  induction n with
  | zero=>intro i _ _ h;omega
  | succ n ih =>
   intro i h1 h2 hn
   rw [loopM]
   by_cases hlt:i<k
   ·have hx:=get i hlt
    have e:gDistinct8_B1 (List.replicate k r) ([r],(i:Int))=some (.next ([r],((i+1:Nat):Int))):=by
     unfold gDistinct8_B1
     dsimp only
     rw [lt_dec hx,cond_true,show decide ((i:Int)=0)=false from decide_eq_false (by omega),cond_false,show IntKind.i64.wrap ((i:Int)-1)=((i-1:Nat):Int) from wrap_eq (by omega) (by omega),gn_ (get (i-1) (by omega)),gn_ hx]
     simp only [Option.bind_some]
     rw [gEqual8_self r hr]
     simp only [Option.bind_some,Bool.not_true,cond_false]
     rw [wrapN (by omega)]
    rw [e]
    exact ih (i+1) (by omega) (by omega) (by omega)
   ·have:i=k:=by omega
    subst this
    have e:gDistinct8_B1 (List.replicate i r) ([r],(i:Int))=some (.exit ([r],(i:Int))):=by
     unfold gDistinct8_B1
     dsimp only
     rw [show decide ((i:Int)<(((List.replicate i r).length:Nat):Int))=false from decide_eq_false (by simp),cond_false]
    rw [e]
 by_cases h0:k=0
 ·subst h0
  rw [if_pos rfl]
  have e:gDistinct8_B1 (List.replicate 0 r) ([],0)=some (.exit ([],0)):=by
   unfold gDistinct8_B1
   rfl
  show (loopM (gDistinct8_B1 (List.replicate 0 r)) (4611686018427387903+1) ([],0)).bind gDistinct8_K1=_
  rw [loopM,e]
  rfl
 ·rw [if_neg h0]
  have hx:=get 0 (by omega)
  have e:gDistinct8_B1 (List.replicate k r) ([],0)=some (.next ([r],((1:Nat):Int))):=by
   have hg:=gn_ hx
   unfold gDistinct8_B1
   dsimp only
   rw [show decide ((0:Int)<(((List.replicate k r).length:Nat):Int))=true from decide_eq_true (by simp;omega),cond_true,show decide ((0:Int)=0)=true from rfl,cond_true]
   rw [show getI (List.replicate k r) 0=some r from hg]
   rfl
  show (loopM (gDistinct8_B1 (List.replicate k r)) (4611686018427387903+1) ([],0)).bind gDistinct8_K1=_
  rw [loopM,e]
  dsimp only
  rw [loop 4611686018427387903 1 (by omega) (by omega) (by omega)]
  rfl
theorem gRows22_run (s:List Fct) (r:List Val) (hr:r.length≤1000000) (hs : ∀ f∈s,f.row=r) (hn:s.length≤63):gRows22 s=some (if s.any fun f=>pvalB f.valid then [r] else []):=by
 unfold gRows22
 have hfm : ∀ l:List Fct,(∀ f∈l,f.row=r)→(l.flatMap fun f=>if pvalB f.valid then [f.row] else [])=List.replicate (l.countP fun f=>pvalB f.valid) r:=by
  intro l
  induction l with
  | nil=>intro _;rfl
  | cons f l ih =>
   intro h
   rw [List.flatMap_cons,ih fun x hx=>h x (List.mem_cons_of_mem _ hx),List.countP_cons,h f (by simp)]
   by_cases hv:pvalB f.valid=true
   ·rw [if_pos hv,if_pos hv,List.replicate_succ];rfl
   ·rw [if_neg hv,if_neg hv];rfl
 have hc:s.countP (fun f=>pvalB f.valid)≤s.length:=List.countP_le_length
 rw [loop_app (l:=s) (fun f=>if pvalB f.valid then [f.row] else []) 5864062014805 ?_ ?_ (by unfold fuel;omega) [] (by rw [hfm s hs];simp;omega)]
 ·rw [Option.bind_some,hfm s hs,List.nil_append]
  show (gDistinct8 _).bind _=_
  rw [gDistinct8_rep r hr _ (by omega),Option.bind_some]
  by_cases ha:(s.any fun f=>pvalB f.valid)=true
  ·rw [if_pos ha,if_neg]
   intro e
   obtain ⟨f,hf,hv⟩:=List.any_eq_true.1 ha
   have:=(List.countP_pos_iff (p:=fun f:Fct=>pvalB f.valid)).2 ⟨f,hf,hv⟩
   omega
  ·rw [if_neg ha,if_pos]
   rw [List.countP_eq_zero]
   intro f hf hv
   exact ha (List.any_eq_true.2 ⟨f,hf,hv⟩)
 ·intro o i x hx ho
  have hi:=(List.getElem?_eq_some_iff.1 hx).1
  unfold gRows22_B1
  dsimp only
  rw [lt_dec hx,cond_true,gn_ hx]
  simp only [Option.bind_some]
  rw [gValid1_eq,Option.bind_some]
  by_cases hv:pvalB x.valid=true
  ·rw [if_pos hv] at ho ⊢
   rw [hv,cond_true,show decide (o.length+1≤5864062014805)=true from decide_eq_true (by simpa using ho),cond_true,wrapN (by omega)]
  ·rw [if_neg hv]
   rw [Bool.not_eq_true] at hv
   rw [hv,cond_false,wrapN (by omega),List.append_nil]
 ·intro o
  unfold gRows22_B1
  dsimp only
  rw [lF_,cond_false]
def perAll (l:List Fct) (r:List Val):List Per:=(l.filter fun f=>decide (f.row=r)).map (·.valid)
theorem gCounts22_eq (s:List Fct) (r:List Val) (hr:r.length≤1000000) (hs : ∀ f∈s,f.row.length≤1000000) (hn:s.length≤1000):gCounts22 s r=some (ofV (ones (perAll s r))):=by
 unfold gCounts22
 have hfm : ∀ l:List Fct,(l.flatMap fun f=>if f.row=r then [(⟨f.valid,1⟩:Cnt)] else [])=ones (perAll l r):=by
  intro l
  induction l with
  | nil=>rfl
  | cons f l ih =>
   rw [List.flatMap_cons,ih]
   unfold perAll ones
   by_cases e:f.row=r
   ·rw [if_pos e,List.filter_cons_of_pos (by simpa using e)];rfl
   ·rw [if_neg e,List.filter_cons_of_neg (by simpa using e)];rfl
 have hl:(perAll s r).length≤s.length:=by unfold perAll;rw [List.length_map];exact List.length_filter_le _ _
 have hl2:(ones (perAll s r)).length=(perAll s r).length:=by unfold ones;simp
 rw [loop_app (l:=s) (fun f=>if f.row=r then [(⟨f.valid,1⟩:Cnt)] else []) 5864062014805 ?_ ?_ (by unfold fuel;omega) [] (by rw [hfm];simp;omega)]
 ·rw [Option.bind_some,hfm,List.nil_append]
  show (gOfR _).bind _=_
  unfold gOfR
  rw [show decide ((ones (perAll s r)).length≤100000)=true from decide_eq_true (by omega)]
  rfl
 ·intro o i x hx ho
  have hi:=(List.getElem?_eq_some_iff.1 hx).1
  unfold gCounts22_B1
  dsimp only
  rw [lt_dec hx,cond_true,gn_ hx]
  simp only [Option.bind_some]
  rw [gCmp8_eq x.row r (by have:=hs x (List.mem_of_getElem? hx);omega) (by omega),Option.bind_some]
  by_cases e:x.row=r
  ·rw [if_pos e] at ho ⊢
   rw [show decide (rcmp x.row r=0)=true from decide_eq_true (by rw [e];exact tCr_.refl r),cond_true,show decide (o.length+1≤5864062014805)=true from decide_eq_true (by simpa using ho),cond_true,wrapN (by omega)]
  ·rw [if_neg e,show decide (rcmp x.row r=0)=false from decide_eq_false fun q=>e (tCr_.zero _ _ q),cond_false,wrapN (by omega),List.append_nil]
 ·intro o
  unfold gCounts22_B1
  dsimp only
  rw [lF_,cond_false]
theorem gDuring_eq (r:List Val) (ps:List Per) (hn:ps.length≤1000000):gDuring r ps=some (ps.map fun p=>⟨r,p⟩):=by
 unfold gDuring
 rw [loop_app (l:=ps) (fun p=>[(⟨r,p⟩:Fct)]) 3518437208883 ?_ ?_ (by unfold fuel;omega) [] (by rw [fo_];simp;omega)]
 ·rw [Option.bind_some,fo_,List.nil_append];rfl
 ·intro o i x hx ho
  have hi:=(List.getElem?_eq_some_iff.1 hx).1
  unfold gDuring_B1
  dsimp only
  rw [lt_dec hx,cond_true,gn_ hx]
  simp only [Option.bind_some]
  rw [show decide (o.length+1≤3518437208883)=true from decide_eq_true (by simpa using ho),cond_true,wrapN (by omega)]
 ·intro o
  unfold gDuring_B1
  dsimp only
  rw [lF_,cond_false]
end Go.Proofs.YtfccopdbgfdcdaaGreatDoor
