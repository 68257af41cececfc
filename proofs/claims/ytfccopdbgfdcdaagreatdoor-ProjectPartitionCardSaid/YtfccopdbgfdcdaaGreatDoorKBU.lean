/- Parts of the proof, joined. No condition. -/
import Derived.Test.YtfccopdbgfdcdaaGreatDoorKBT
import Derived.Test.YtfccopdbgfdcdaaGreatDoorKBR
import Derived.Test.YtfccopdbgfdcdaaGreatDoorKBN
import Derived.Test.YtfccopdbgfdcdaaGreatDoorKBF
import Derived.Test.YtfccopdbgfdcdaaGreatDoorKBG
import Derived.Test.YtfccopdbgfdcdaaGreatDoorKBP
set_option linter.unusedSimpArgs false
set_option linter.unusedVariables false
namespace Go.Proofs.YtfccopdbgfdcdaaGreatDoor
open Go.RowKit Go.MapKept
set_option maxRecDepth 100000
theorem depth_loop (e:Ex) (m:Int) (hm:2≤m∧m≤1000) (B:Int) (hB:B≤4611686018427387904) (rec:Ex→Option Int) (recP:Ex→Int→Option Int)
  (hrec : ∀ x∈e.args, ∃ d,rec x=some d∧1≤d∧d≤B∧recP x (m-1)=some (min d (m-1))) (hlen:e.args.length≤100000) :
  ∀ (N i:Nat) (a:Int),0≤a→a≤max 0 B→i≤e.args.length→e.args.length-i<N →
   ∃ r,loopM (gDepth11B_B1 e rec) N (a,(i:Int))=some (.inl (r,((e.args.length:Nat):Int)))∧loopM (gDepthPB_B1 e m recP) N (min (a+1) m,(i:Int))=some (.inl (min (r+1) m,((e.args.length:Nat):Int)))∧0≤r∧r≤max 0 B
 | 0,i,a,_,_,_,h=>by omega
 | N+1,i,a,h1,h2,hi,hN=>by
  rw [loopM,loopM]
  by_cases hlt:i<e.args.length
  ·obtain ⟨x,hx⟩:=gol_ hlt
   obtain ⟨d,e1,e2,e3,e4⟩:=hrec x (List.mem_of_getElem? hx)
   have hb:gDepth11B_B1 e rec (a,(i:Int))=some (.next (max a d,((i+1:Nat):Int))):=by
    unfold gDepth11B_B1
    dsimp only
    rw [lt_dec hx,cond_true,gn_ hx,Option.bind_some,e1,Option.bind_some,wrapN (by omega)]
    congr 3
    unfold mxI;split<;>omega
   have hb2:gDepthPB_B1 e m recP (min (a+1) m,(i:Int))=some (.next (min (max a d+1) m,((i+1:Nat):Int))):=by
    unfold gDepthPB_B1
    dsimp only
    rw [lt_dec hx,cond_true,gn_ hx,Option.bind_some,wrap_in (by omega),e4,Option.bind_some,wrap_in (by omega),wrapN (by omega)]
    congr 3
    unfold mxI;split<;>omega
   rw [hb,hb2]
   exact depth_loop e m hm B hB rec recP hrec hlen N (i+1) (max a d) (by omega) (by omega) (by omega) (by omega)
  ·have:i=e.args.length:=by omega
   subst this
   have hb:gDepth11B_B1 e rec (a,((e.args.length:Nat):Int))=some (.exit (a,((e.args.length:Nat):Int))):=by
    unfold gDepth11B_B1
    dsimp only
    rw [lF_,cond_false]
   have hb2:gDepthPB_B1 e m recP (min (a+1) m,((e.args.length:Nat):Int))=some (.exit (min (a+1) m,((e.args.length:Nat):Int))):=by
    unfold gDepthPB_B1
    dsimp only
    rw [lF_,cond_false]
   rw [hb,hb2]
   exact ⟨a,rfl,rfl,h1,h2⟩
theorem depth_same : ∀ (n:Nat) (e:Ex),n≤4611686018427387904→exOK n e → ∃ d,gDepth11 n e=some d∧1≤d∧d≤(n:Int) ∧ ∀ m:Int,1≤m→m≤1000→gDepthP n e m=some (min d m)
 | 0,_,_,h=>h.elim
 | n+1,e,hn,h=>by
  have hd : ∃ r,(∀ m:Int,2≤m→m≤1000→loopM (gDepthPB_B1 e m (gDepthP n)) fuel (1,0)=some (.inl (min (r+1) m,((e.args.length:Nat):Int))))∧loopM (gDepth11B_B1 e (gDepth11 n)) fuel (0,0)=some (.inl (r,((e.args.length:Nat):Int)))∧0≤r∧r≤max 0 (n:Int):=by
   have key : ∀ m:Int,2≤m→m≤1000→_:=fun m h1 h2=>depth_loop e m ⟨h1,h2⟩ (n:Int) (by omega) (gDepth11 n) (gDepthP n) (by
    intro x hx
    obtain ⟨d,e1,e2,e3,e4⟩:=depth_same n x (by omega) (h.2 x hx)
    exact ⟨d,e1,e2,e3,e4 (m-1) (by omega) (by omega)⟩) h.1 fuel 0 0 (Int.le_refl _) (by omega) (Nat.zero_le _) (by unfold fuel;have:=h.1;omega)
   obtain ⟨r,e1,e2,e3,e4⟩:=key 2 (by omega) (by omega)
   refine ⟨r,fun m h1 h2=>?_,e1,e3,e4⟩
   obtain ⟨r',f1,f2,f3,f4⟩:=key m h1 h2
   have:r'=r:=by
    rw [e1] at f1
    have:=Option.some.inj f1
    injection this with this
    injection this with this _
    exact this.symm
   subst this
   rw [show min ((0:Int)+1) m=1 by omega] at f2
   exact f2
  obtain ⟨r,k1,k2,k3,k4⟩:=hd
  refine ⟨r+1,?_,by omega,by omega,fun m h1 h2=>?_⟩
  ·show gDepth11B (gDepth11 n) e=_
   unfold gDepth11B
   rw [k2]
   show some (IntKind.i64.wrap (r+1))=_
   rw [wrap_in (by omega)]
  ·show gDepthPB (gDepthP n) e m=_
   unfold gDepthPB
   by_cases hm:m≤1
   ·rw [decide_eq_true hm,cond_true]
    congr 1;omega
   ·rw [decide_eq_false hm,cond_false,k1 m (by omega) h2];rfl
def uniF:Int→List Int→Option Int
 | t,[]=>some t
 | t,x::l=>if x=0 then uniF t l else if t≠0∧t≠x then none else uniF x l
def uniR (o:Option Int):Int × Bool:=match o with|some k=>(k,true)|none=>(0,false)
theorem uni_fold : ∀ (l:List Int) (t:Int),foldS (ρ:=Int × Bool) (fun t x=>some (if x=0 then .inl t else if t≠0∧t≠x then .inr (0,false) else .inl x)) t l=some (match uniF t l with|some k => .inl k|none => .inr (0,false))
 | [],t=>rfl
 | x::l,t=>by
  rw [foldS,uniF]
  by_cases h:x=0
  ·rw [if_pos h,if_pos h];exact uni_fold l t
  ·rw [if_neg h,if_neg h]
   by_cases h2:t≠0∧t≠x
   ·rw [if_pos h2,if_pos h2]
   ·rw [if_neg h2,if_neg h2];exact uni_fold l x
theorem gUnite_eq (l:List Int) (hl:l.length≤1000000):gUnite l=some (uniR (uniF 0 l)):=by
 unfold gUnite
 rw [loop_list (l:=l) (mk:=fun t i=>(t,i)) (f:=fun t x=>some (if x=0 then .inl t else if t≠0∧t≠x then .inr (0,false) else .inl x)) ?_ ?_ (by unfold fuel;omega) (0:Int)]
 ·rw [uni_fold]
  cases uniF 0 l<;>rfl
 ·intro s i x hx
  have hi:=(List.getElem?_eq_some_iff.1 hx).1
  unfold gUnite_B1
  dsimp only
  rw [lt_dec hx,cond_true,gn_ hx,wrapN (by omega)]
  simp only [Option.bind_some]
  by_cases h:x=0
  ·rw [decide_eq_true h,cond_true,if_pos h];rfl
  ·rw [decide_eq_false h,cond_false,if_neg h]
   by_cases h1:s=0
   ·rw [decide_eq_false (show ¬ s≠0 by omega),cond_false,if_neg (by omega)];rfl
   ·rw [decide_eq_true (show s≠0 from h1),cond_true]
    by_cases h2:s=x
    ·rw [decide_eq_false (show ¬ s≠x by omega),cond_false,if_neg (by omega)];rfl
    ·rw [decide_eq_true (show s≠x from h2),cond_true,if_pos ⟨h1,h2⟩];rfl
 ·intro s
  unfold gUnite_B1
  dsimp only
  rw [lF_,cond_false]
theorem gJoin_eq (l:List Int) (hl:l.length≤1000000):gJoin11 l=some (uniR (uniF 0 l)):=(show gJoin11 l=gUnite l from rfl).trans (gUnite_eq l hl)
def allF11 (l:List Int) (k:Int):Bool:=l.all fun x=>decide (x=k)||decide (x=0)
theorem gAll11_eq (l:List Int) (k:Int) (hl:l.length≤1000000):gAll11 l k=some (allF11 l k):=by
 unfold gAll11
 rw [loop_list (l:=l) (mk:=fun (_:Unit) i=>i) (f:=fun _ x=>some (if x=k∨x=0 then .inl () else .inr false)) ?_ ?_ (by unfold fuel;omega) ()]
 ·have : ∀ l:List Int,foldS (ρ:=Bool) (fun (_:Unit) (x:Int)=>some (if x=k∨x=0 then .inl () else .inr false)) () l=some (if allF11 l k=true then .inl () else .inr false):=by
   intro l
   induction l with
   | nil=>rfl
   | cons x l ih =>
    rw [foldS]
    by_cases h:x=k∨x=0
    ·rw [if_pos h]
     show foldS _ () l=_
     rw [ih]
     have:allF11 (x::l) k=allF11 l k:=by
      unfold allF11
      rw [List.all_cons]
      rcases h with h|h<;>simp [h]
     rw [this]
    ·rw [if_neg h]
     have:allF11 (x::l) k=false:=by
      unfold allF11
      rw [List.all_cons,decide_eq_false (fun e=>h (.inl e)),decide_eq_false (fun e=>h (.inr e))];rfl
     rw [this];rfl
  rw [this]
  cases allF11 l k<;>rfl
 ·intro s i x hx
  have hi:=(List.getElem?_eq_some_iff.1 hx).1
  unfold gAll11_B1
  dsimp only
  rw [lt_dec hx,cond_true,gn_ hx,wrapN (by omega)]
  simp only [Option.bind_some]
  by_cases h:x=k
  ·rw [decide_eq_false (show ¬ x≠k by omega),cond_false,if_pos (.inl h)];rfl
  ·rw [decide_eq_true (show x≠k from h),cond_true]
   by_cases h2:x=0
   ·rw [decide_eq_false (show ¬ x≠0 by omega),cond_false,if_pos (.inr h2)];rfl
   ·rw [decide_eq_true (show x≠0 from h2),cond_true,if_neg (by omega)];rfl
 ·intro s
  unfold gAll11_B1
  dsimp only
  rw [lF_,cond_false]
theorem uni_snoc (k:Int) (hk:k≠0) : ∀ (l:List Int) (t:Int),uniF t (l++[k])=if (t=0∨t=k)∧allF11 l k=true then some k else none
 | [],t=>by
  show (if k=0 then some t else if t≠0∧t≠k then none else some k)=if (t=0∨t=k)∧true=true then some k else none
  rw [if_neg hk]
  by_cases h:t=0∨t=k
  ·rw [if_neg (show ¬ (t≠0∧t≠k) by omega),if_pos (show (t=0∨t=k)∧true=true from ⟨h,rfl⟩)]
  ·rw [if_pos (show t≠0∧t≠k by omega),if_neg (fun e=>h e.1)]
 | x::l,t=>by
  rw [List.cons_append,uniF]
  by_cases h:x=0
  ·rw [if_pos h,uni_snoc k hk l t]
   have:allF11 (x::l) k=allF11 l k:=by unfold allF11;rw [List.all_cons,decide_eq_true h,Bool.or_true,Bool.true_and]
   rw [this]
  ·rw [if_neg h]
   have ha:allF11 (x::l) k=(decide (x=k)&&allF11 l k):=by unfold allF11;rw [List.all_cons,decide_eq_false h,Bool.or_false]
   rw [ha]
   by_cases h2:t≠0∧t≠x
   ·rw [if_pos h2,if_neg]
    rintro ⟨h3,h4⟩
    rw [Bool.and_eq_true] at h4
    have:=of_decide_eq_true h4.1
    omega
   ·rw [if_neg h2,uni_snoc k hk l x]
    by_cases h3:x=k
    ·rw [decide_eq_true h3,Bool.true_and]
     by_cases h4:allF11 l k=true
     ·rw [if_pos ⟨.inr h3,h4⟩,if_pos ⟨by omega,h4⟩]
     ·rw [if_neg (fun e=>h4 e.2),if_neg (fun e=>h4 e.2)]
    ·rw [decide_eq_false h3,Bool.false_and,if_neg (by omega),if_neg (by simp)]
theorem gAllP_eq {l:List Int} {k:Int} (h0:l≠[]) (hl:l.length≤100000) (hk:k≠0):gAllP l k=some (allF11 l k):=by
 have ho:allOk l=true:=by
  unfold allOk
  rw [decide_eq_true hl,Bool.and_true]
  cases l with
  | nil=>exact absurd rfl h0
  | cons a b=>rfl
 unfold gAllP
 rw [ho,cond_true,gUnite_eq _ (by rw [List.length_append];simp;omega),Option.bind_some,uni_snoc k hk]
 cases h:allF11 l k with
 | true=>rw [if_pos ⟨.inl rfl,rfl⟩];show some (bif true then decide (k=k) else false)=_;simp
 | false=>rw [if_neg (by simp)];rfl
theorem result_same {e:Ex} {l:List Int} {kinds:List Int} (hlo:(arF e.op).1≤((l.length:Nat):Int)) (hhi:((l.length:Nat):Int)≤(arF e.op).2) (hl:l.length≤100000) (ho:e.op=1∨e.op=4∨e.op=5∨e.op=6∨e.op=7∨e.op=8∨e.op=9∨e.op=10∨e.op=11∨e.op=12∨e.op=13∨e.op=14∨e.op=15∨e.op=16∨e.op=17∨e.op=18∨e.op=19∨e.op=20∨e.op=21∨e.op=22∨e.op=23∨e.op=24) : ∃ r,gRs11 e l kinds=some r∧gRsP e l=some r:=by
 rcases ho with ho|ho|ho|ho|ho|ho|ho|ho|ho|ho|ho|ho|ho|ho|ho|ho|ho|ho|ho|ho|ho|ho
 ·rw [ho,ar1] at hlo hhi
  dsimp only at hlo hhi
  unfold gRs11 gRsP
  simp only [ho,Int.reduceEq,decide_false,decide_true,cond_true,cond_false]
  exact ⟨_,rfl,rfl⟩
 ·rw [ho,ar4] at hlo hhi
  dsimp only at hlo hhi
  unfold gRs11 gRsP
  simp only [ho,Int.reduceEq,decide_false,decide_true,cond_true,cond_false]
  rw [gAll11_eq _ _ (by omega),gAllP_eq (by rintro rfl;simp at hlo) hl (by decide)];exact ⟨_,rfl,rfl⟩
 ·rw [ho,ar5] at hlo hhi
  dsimp only at hlo hhi
  unfold gRs11 gRsP
  simp only [ho,Int.reduceEq,decide_false,decide_true,cond_true,cond_false]
  rw [gAll11_eq _ _ (by omega),gAllP_eq (by rintro rfl;simp at hlo) hl (by decide)];exact ⟨_,rfl,rfl⟩
 ·rw [ho,ar6] at hlo hhi
  dsimp only at hlo hhi
  unfold gRs11 gRsP
  simp only [ho,Int.reduceEq,decide_false,decide_true,cond_true,cond_false]
  rw [gAll11_eq _ _ (by omega),gAllP_eq (by rintro rfl;simp at hlo) hl (by decide)];exact ⟨_,rfl,rfl⟩
 ·rw [ho,ar7] at hlo hhi
  dsimp only at hlo hhi
  unfold gRs11 gRsP
  simp only [ho,Int.reduceEq,decide_false,decide_true,cond_true,cond_false]
  rw [gJoin_eq _ (by omega),gUnite_eq _ (by omega)];exact ⟨_,rfl,rfl⟩
 ·rw [ho,ar8] at hlo hhi
  dsimp only at hlo hhi
  unfold gRs11 gRsP
  simp only [ho,Int.reduceEq,decide_false,decide_true,cond_true,cond_false]
  rw [gJoin_eq _ (by omega),gUnite_eq _ (by omega)];exact ⟨_,rfl,rfl⟩
 ·rw [ho,ar9] at hlo hhi
  dsimp only at hlo hhi
  unfold gRs11 gRsP
  simp only [ho,Int.reduceEq,decide_false,decide_true,cond_true,cond_false]
  rw [gJoin_eq _ (by omega),gUnite_eq _ (by omega)];exact ⟨_,rfl,rfl⟩
 ·rw [ho,ar10] at hlo hhi
  dsimp only at hlo hhi
  unfold gRs11 gRsP
  simp only [ho,Int.reduceEq,decide_false,decide_true,cond_true,cond_false]
  rw [gJoin_eq _ (by omega),gUnite_eq _ (by omega)];exact ⟨_,rfl,rfl⟩
 ·rw [ho,ar11] at hlo hhi
  dsimp only at hlo hhi
  unfold gRs11 gRsP
  simp only [ho,Int.reduceEq,decide_false,decide_true,cond_true,cond_false]
  rw [gJoin_eq _ (by omega),gUnite_eq _ (by omega)];exact ⟨_,rfl,rfl⟩
 ·rw [ho,ar12] at hlo hhi
  dsimp only at hlo hhi
  unfold gRs11 gRsP
  simp only [ho,Int.reduceEq,decide_false,decide_true,cond_true,cond_false]
  rw [gJoin_eq _ (by omega),gUnite_eq _ (by omega)];exact ⟨_,rfl,rfl⟩
 ·rw [ho,ar13] at hlo hhi
  dsimp only at hlo hhi
  unfold gRs11 gRsP
  simp only [ho,Int.reduceEq,decide_false,decide_true,cond_true,cond_false]
  rw [gAll11_eq _ _ (by omega),gAllP_eq (by rintro rfl;simp at hlo) hl (by decide)];exact ⟨_,rfl,rfl⟩
 ·rw [ho,ar14] at hlo hhi
  dsimp only at hlo hhi
  unfold gRs11 gRsP
  simp only [ho,Int.reduceEq,decide_false,decide_true,cond_true,cond_false]
  rw [gAll11_eq _ _ (by omega),gAllP_eq (by rintro rfl;simp at hlo) hl (by decide)];exact ⟨_,rfl,rfl⟩
 ·rw [ho,ar15] at hlo hhi
  dsimp only at hlo hhi
  unfold gRs11 gRsP
  simp only [ho,Int.reduceEq,decide_false,decide_true,cond_true,cond_false]
  rw [gAll11_eq _ _ (by omega),gAllP_eq (by rintro rfl;simp at hlo) hl (by decide)];exact ⟨_,rfl,rfl⟩
 ·rw [ho,ar16] at hlo hhi
  dsimp only at hlo hhi
  unfold gRs11 gRsP
  simp only [ho,Int.reduceEq,decide_false,decide_true,cond_true,cond_false]
  rw [gAll11_eq _ _ (by omega),gAllP_eq (by rintro rfl;simp at hlo) hl (by decide)];exact ⟨_,rfl,rfl⟩
 ·rw [ho,ar17] at hlo hhi
  dsimp only at hlo hhi
  unfold gRs11 gRsP
  simp only [ho,Int.reduceEq,decide_false,decide_true,cond_true,cond_false]
  rw [gAll11_eq _ _ (by omega),gAllP_eq (by rintro rfl;simp at hlo) hl (by decide)];exact ⟨_,rfl,rfl⟩
 ·rw [ho,ar18] at hlo hhi
  dsimp only at hlo hhi
  unfold gRs11 gRsP
  simp only [ho,Int.reduceEq,decide_false,decide_true,cond_true,cond_false]
  rw [gAll11_eq _ _ (by omega),gAllP_eq (by rintro rfl;simp at hlo) hl (by decide)];exact ⟨_,rfl,rfl⟩
 ·rw [ho,ar19] at hlo hhi
  dsimp only at hlo hhi
  unfold gRs11 gRsP
  simp only [ho,Int.reduceEq,decide_false,decide_true,cond_true,cond_false]
  rw [gAll11_eq _ _ (by omega),gAllP_eq (by rintro rfl;simp at hlo) hl (by decide)];exact ⟨_,rfl,rfl⟩
 ·rw [ho,ar20] at hlo hhi
  dsimp only at hlo hhi
  unfold gRs11 gRsP
  simp only [ho,Int.reduceEq,decide_false,decide_true,cond_true,cond_false]
  rw [gAll11_eq _ _ (by omega),gAllP_eq (by rintro rfl;simp at hlo) hl (by decide)];exact ⟨_,rfl,rfl⟩
 ·rw [ho,ar21] at hlo hhi
  dsimp only at hlo hhi
  unfold gRs11 gRsP
  simp only [ho,Int.reduceEq,decide_false,decide_true,cond_true,cond_false]
  exact ⟨_,rfl,rfl⟩
 ·rw [ho,ar22] at hlo hhi
  dsimp only at hlo hhi
  unfold gRs11 gRsP
  simp only [ho,Int.reduceEq,decide_false,decide_true,cond_true,cond_false]
  obtain ⟨a,b,c,rfl⟩:=len3 (l:=l) (by omega)
  rw [show subI [a,b,c] (1:Int) ((([a,b,c].length:Nat)):Int)=some [b,c] from rfl,show subI [a,b,c] (0:Int) (1:Int)=some [a] from rfl]
  simp only [Option.bind_some]
  rw [gJoin_eq _ (by simp),gUnite_eq _ (by simp)]
  simp only [Option.bind_some]
  rw [gAll11_eq _ _ (by simp),gAllP_eq (by simp) (by simp) (by decide)]
  cases (uniR (uniF 0 [b,c])).2<;>exact ⟨_,rfl,rfl⟩
 ·rw [ho,ar23] at hlo hhi
  dsimp only at hlo hhi
  unfold gRs11 gRsP
  simp only [ho,Int.reduceEq,decide_false,decide_true,cond_true,cond_false]
  rw [gJoin_eq _ (by omega),gUnite_eq _ (by omega)];exact ⟨_,rfl,rfl⟩
 ·rw [ho,ar24] at hlo hhi
  dsimp only at hlo hhi
  unfold gRs11 gRsP
  simp only [ho,Int.reduceEq,decide_false,decide_true,cond_true,cond_false]
  rw [gAll11_eq _ _ (by omega),gAllP_eq (by rintro rfl;simp at hlo) hl (by decide)];exact ⟨_,rfl,rfl⟩
theorem check_loop (e:Ex) (kinds:List Int) (rec:Ex→List Int→Option (Int × Int)) (hrec : ∀ x∈e.args, ∃ c,rec x kinds=some c) (hlen:e.args.length≤100000) :
  ∀ (N i:Nat) (s:List Int),s.length=i→i≤e.args.length→e.args.length-i<N → ∃ r,loopM (gCheck11B_B2 e kinds rec) N (s,(i:Int))=some r ∧ ∀ t j,r = .inl (t,j)→t.length=e.args.length
 | 0,i,s,_,_,h=>by omega
 | N+1,i,s,hs,hi,hN=>by
  rw [loopM]
  by_cases hlt:i<e.args.length
  ·obtain ⟨x,hx⟩:=gol_ hlt
   obtain ⟨c,hc⟩:=hrec x (List.mem_of_getElem? hx)
   by_cases h0:c.2=0
   ·have hb:gCheck11B_B2 e kinds rec (s,(i:Int))=some (.next (s++[c.1],((i+1:Nat):Int))):=by
     unfold gCheck11B_B2
     dsimp only
     rw [lt_dec hx,cond_true,gn_ hx,Option.bind_some,hc,Option.bind_some,decide_eq_false (show ¬ c.2≠0 by omega),cond_false,decide_eq_true (by omega),cond_true,wrapN (by omega)]
    rw [hb]
    exact check_loop e kinds rec hrec hlen N (i+1) (s++[c.1]) (by rw [List.length_append,hs];rfl) (by omega) (by omega)
   ·have hb:gCheck11B_B2 e kinds rec (s,(i:Int))=some (.ret (0,c.2)):=by
     unfold gCheck11B_B2
     dsimp only
     rw [lt_dec hx,cond_true,gn_ hx,Option.bind_some,hc,Option.bind_some,decide_eq_true (show c.2≠0 from h0),cond_true]
    rw [hb]
    exact ⟨_,rfl,fun t j h=>by cases h⟩
  ·have:i=e.args.length:=by omega
   subst this
   have hb:gCheck11B_B2 e kinds rec (s,((e.args.length:Nat):Int))=some (.exit (s,((e.args.length:Nat):Int))):=by
    unfold gCheck11B_B2
    dsimp only
    rw [lF_,cond_false]
   rw [hb]
   exact ⟨_,rfl,fun t j h=>by injection h with h;injection h with h _;rw [← h];exact hs⟩
theorem check_same (kinds:List Int) : ∀ (n:Nat) (e:Ex),exOK n e → ∃ c,gCheck11 n e kinds=some c∧gCheckP n e kinds=some c
 | 0,_,h=>h.elim
 | n+1,e,h=>by
  have hx : ∀ x∈e.args, ∃ c,gCheck11 n x kinds=some c∧gCheckP n x kinds=some c:=fun x hx=>check_same kinds n x (h.2 x hx)
  have hb:gCheckPB_B1 e kinds (gCheckP n)=gCheck11B_B2 e kinds (gCheck11 n):=by
   funext s
   obtain ⟨l,i⟩:=s
   unfold gCheckPB_B1 gCheck11B_B2
   dsimp only
   cases hg:getI e.args i with
   | none=>rfl
   | some x =>
    obtain ⟨c,c1,c2⟩:=hx x (List.mem_of_getElem? (getI_some hg).2)
    simp only [Option.bind_some]
    rw [c1,c2]
  obtain ⟨a1,a2,a3,a4⟩:=arity_cases e.op ((e.args.length:Nat):Int) (by have:=h.1;omega)
  show ∃ c,gCheck11B (gCheck11 n) e kinds=some c∧gCheckPB (gCheckP n) e kinds=some c
  unfold gCheck11B gCheckPB
  rw [a1,a2,Option.bind_some,Option.bind_some]
  dsimp only
  by_cases h00:(arF e.op).1<0
  ·rw [decide_eq_true h00,decide_eq_false (show ¬ 0≤(arF e.op).1 by omega),cond_true]
   exact ⟨_,rfl,rfl⟩
  have h0:0≤(arF e.op).1:=by omega
  rw [decide_eq_false (show ¬ (arF e.op).1<0 by omega),decide_eq_true h0,Bool.not_true,cond_false,cond_false,gFormedR_eq h.1,gFormed_eq h.1,Option.bind_some,Option.bind_some]
  cases hf:formF e with
  | false=>exact ⟨_,rfl,rfl⟩
  | true =>
   rw [Bool.not_true,cond_false,cond_false]
   obtain ⟨hops,hlo,hhi,hrest⟩:=formF_true h.1 hf
   by_cases o2:e.op=2
   ·rw [decide_eq_true o2,cond_true,cond_true]
    by_cases i0:e.int<0
    ·rw [decide_eq_true i0];exact ⟨_,rfl,rfl⟩
    rw [decide_eq_false i0,cond_false,cond_false]
    by_cases i1:((kinds.length:Nat):Int)≤e.int
    ·rw [decide_eq_true i1];exact ⟨_,rfl,rfl⟩
    rw [decide_eq_false i1,cond_false,cond_false]
    obtain ⟨x,hx1⟩:=gol_ (l:=kinds) (i:=e.int.toNat) (by omega)
    have hg:getI kinds e.int=some x:=by unfold getI;rw [if_pos (by omega)];exact hx1
    rw [o2,ar2] at hhi
    dsimp only at hhi
    have hz:e.args.length=0:=by omega
    have hbr:loopM (gCheck11B_B1 e kinds (gCheck11 n)) fuel ([],(0:Int))=some (.inl ([],0)):=by
     have:fuel=(fuel-1)+1:=rfl
     rw [this,loopM]
     unfold gCheck11B_B1
     dsimp only
     rw [hz,show decide ((0:Int)<((0:Nat):Int))=false from rfl,cond_false]
    rw [hbr,hg]
    refine ⟨(x,0),?_,rfl⟩
    show (gRs11 e [] kinds).bind _=_
    unfold gRs11
    rw [o2,show decide ((2:Int)=1)=false from rfl,show decide ((2:Int)=2)=true from rfl,cond_false,cond_true,hg]
    rfl
   ·rw [decide_eq_false o2,cond_false,cond_false,hb]
    obtain ⟨r,hr,hk⟩:=check_loop e kinds (gCheck11 n) (fun x hm=>(hx x hm).imp fun c hc=>hc.1) h.1 fuel 0 [] rfl (Nat.zero_le _) (by unfold fuel;have:=h.1;omega)
    rw [show ((0:Nat):Int)=0 from rfl] at hr
    rw [hr,Option.bind_some,Option.bind_some]
    cases r with
    | inr q=>exact ⟨q,rfl,rfl⟩
    | inl p =>
     obtain ⟨t,j⟩:=p
     have ht:=hk t j rfl
     obtain ⟨q,q1,q2⟩:=result_same (e:=e) (l:=t) (kinds:=kinds) (by rw [ht];exact hlo) (by rw [ht];exact hhi) (by rw [ht];exact h.1) (by omega)
     unfold gCheck11B_K2 gCheckPB_K1
     dsimp only
     rw [q1,q2,Option.bind_some]
     cases q.2<;>exact ⟨_,rfl,rfl⟩
theorem chk_same {e:Ex} (kinds:List Int) (h:exOK fuel e) : ∃ c,gChk11 e kinds=some c∧gChkP e kinds=some c:=by
 obtain ⟨d,d1,d2,d3,d4⟩:=depth_same fuel e (by unfold fuel;omega) h
 obtain ⟨c,c1,c2⟩:=check_same kinds fuel e h
 unfold gChk11 gChkP gDepP
 rw [d1,d4 25 (by omega) (by omega),c1,c2]
 simp only [Option.bind_some]
 by_cases hd:(24:Int)<d
 ·rw [decide_eq_true hd,decide_eq_true (show (24:Int)<min d 25 by omega)];exact ⟨_,rfl,rfl⟩
 ·rw [decide_eq_false hd,decide_eq_false (show ¬ (24:Int)<min d 25 by omega)];exact ⟨_,rfl,rfl⟩
set_option maxHeartbeats 8000000
noncomputable section
def gTruthE (a_e:Ex) (a_row:(List Val)):Option (Int):=(gEval fuel a_e a_row).bind fun r_1=>(gTruthV r_1).bind fun r_2=>some r_2
theorem gTruthE_ok {a_e:Ex} {a_row:(List Val)} {r:Int} (H:gTruthE a_e a_row=some r):Pure Tryz.prog 46 [.agg (tE a_e), .one (.lst (a_row.map cV))] (.val (.one (.int .i64 r))):=by
 unfold gTruthE at H
 rw [tE_eq a_e]
 refine po_ Tryz.func46 Tryz.ntmps46 ?_
 obtain ⟨r_1,c1,H⟩:=bd_ H
 replace c1:=gEval_ok fuel c1
 try simp only [List.map_append,List.map_cons,List.map_nil,List.nil_append,tE_eq] at c1
 obtain ⟨r_2,c2,H⟩:=bd_ H
 replace c2:=gTruthV_ok c2
 cases H
 exact go_
def gRelation (a_kinds:(List Int)) (a_l:(List Fct)):Option (Rln):=bif (decide (a_kinds.length≤17592186044416)) then ((gBag a_l).bind fun r_1=>some (⟨a_kinds,r_1⟩:Rln)) else none
theorem gRelation_ok {a_kinds:(List Int)} {a_l:(List Fct)} {r:Rln} (H:gRelation a_kinds a_l=some r):Pure Tryz.prog 50 [.one (.lst (a_kinds.map (fun x=>[AC.int .i64 x]))), .one (.lst (a_l.map cFct))] (.val (.agg (cRln r))):=by
 unfold gRelation at H
 refine po_ Tryz.func50 Tryz.ntmps50 ?_
 obtain ⟨g1,H⟩:=grd_d H
 obtain ⟨r_1,c2,H⟩:=bd_ H
 replace c2:=gBag_ok c2
 cases H
 exact go_
def gChoose_B1 (a_l:(List Fct)) (a_keep:Fct→Option (Bool)):((List Fct) × Int)→Option (Step ((List Fct) × Int) (Rln)):=fun s=>match s with
 | (out_1,v_2)=>bif (decide (v_2<((a_l.length:Nat):Int))) then (getI a_l v_2).bind fun x_4=>(a_keep x_4).bind fun r_5=>bif r_5 then bif (decide (out_1.length+1≤3518437208883)) then (some (.next ((out_1++[x_4]),(IntKind.i64.wrap (v_2+(1:Int)))))) else none else
 some (.next (out_1,(IntKind.i64.wrap (v_2+(1:Int))))) else
 some (.exit (out_1,v_2))
def gChoose_K1 (a_kinds:(List Int)):Sum ((List Fct) × Int) (Rln)→Option ((Rln))
 | .inl (out_1,v_2)=>(gRelation a_kinds out_1).bind fun r_7=>some r_7
 | .inr q=>some q
def gChoose (a_kinds:(List Int)) (a_l:(List Fct)) (a_keep:Fct→Option (Bool)):Option (Rln):=(loopM (gChoose_B1 a_l a_keep) fuel ([],(0:Int))).bind (gChoose_K1 a_kinds)
theorem gChoose_ok {a_kinds:(List Int)} {a_l:(List Fct)} {a_keep:Fct→Option (Bool)} {r:Rln} {F_a_keep:FuncId} {caps_a_keep:List AC} (hf_a_keep : ∀ (y0:Fct) (r:Bool),a_keep y0=some r→Pure Tryz.prog F_a_keep ([.agg (cFct y0)]++caps_a_keep.map .one) (.val (.one (.bool r)))) (H:gChoose a_kinds a_l a_keep=some r):Pure Tryz.prog 44 [.one (.lst (a_kinds.map (fun x=>[AC.int .i64 x]))), .one (.lst (a_l.map cFct)), .one (.fn F_a_keep caps_a_keep)] (.val (.agg (cRln r))):=by
 unfold gChoose at H
 refine po_ Tryz.func44 Tryz.ntmps44 ?_
 refine gt_ ?_
 refine aw_tok 7 3 rfl ?_
 refine alM_ (fun s:(List Fct) × Int=>match s with|(out_1,v_2)=>[(0, .one (.c (.lst (a_kinds.map (fun x=>[AC.int .i64 x]))))),(2, .one (.c (.fn F_a_keep caps_a_keep))),(6, .one (.ptr 0 0)),(7, .one (.own (out_1.map cFct) 1)),(10, .one (.c (.lst (a_l.map cFct)))),(11, .one (.c (.int .i64 ((a_l.length:Nat):Int)))),(12, .one (.c (.int .i64 v_2)))]) (fun s=>match s with|(out_1,v_2)=>[.box [.emp, .emp], .spare out_1.length 3]) H (fun _=>Nat.zero_le _)
  (fm_ br_ [] rfl bt_ bo_) ?_
 rintro ⟨out_1,v_2⟩ st1 hb1 hk1
 unfold gChoose_B1 at hb1
 dsimp only at hb1 ⊢
 rcases cnd_ hb1 with ⟨q_3,hb1⟩|⟨q_3,hb1⟩
 ·obtain ⟨x_4,i1z,i1,i1x,hb1⟩:=idx_ (f:=cFct) hb1
  obtain ⟨r_5,c2,hb1⟩:=bd_ hb1
  replace c2:=hf_a_keep _ _ c2
  try simp only [List.map_append,List.map_cons,List.map_nil,List.nil_append,tE_eq] at c2
  rcases cnd_ hb1 with ⟨q_6,hb1⟩|⟨q_6,hb1⟩
  ·obtain ⟨g3,hb1⟩:=grd_d hb1
   cases hb1
   refine gt_ ?_
   exact ⟨_,rfl,fm_ bs_ [_] be_ bt_ bo_⟩
  cases hb1
  refine gt_ ?_
  exact ⟨_,rfl,fm_ bs_ [_] be_ bt_ bo_⟩
 cases hb1
 have hx1:gChoose_K1 a_kinds (.inl (out_1,v_2))=some _:=hk1
 unfold gChoose_K1 at hx1
 dsimp only at hx1
 obtain ⟨r_7,c4,hx1⟩:=bd_ hx1
 replace c4:=gRelation_ok c4
 cases hx1
 exact go_
def gFilter1 (a_f:Fct) (v_0:Ex):Option (Bool):=(gTruthE v_0 a_f.row).bind fun r_1=>some (decide (r_1=(2:Int)))
theorem gFilter1_ok {a_f:Fct} {v_0:Ex} {r:Bool} (H:gFilter1 a_f v_0=some r):Pure Tryz.prog 45 [.agg (cFct a_f), .one (.ref [.int .i64 v_0.op, .int .i64 v_0.int, .int .i64 v_0.v.kind, .int .i64 v_0.v.int, .str v_0.v.text, .str v_0.nm, .lst (v_0.args.map tE)])] (.val (.one (.bool r))):=by
 unfold gFilter1 at H
 refine po_ Tryz.func45 Tryz.ntmps45 ?_
 obtain ⟨r_1,c1,H⟩:=bd_ H
 replace c1:=gTruthE_ok c1
 try simp only [List.map_append,List.map_cons,List.map_nil,List.nil_append,tE_eq] at c1
 cases H
 exact go_
def gFilterP (a_r:Rln) (a_e:Ex):Option (Rln):=(gChoose a_r.kinds a_r.facts (fun x0=>gFilter1 x0 a_e)).bind fun r_1=>some r_1
theorem gFilterP_ok {a_r:Rln} {a_e:Ex} {r:Rln} (H:gFilterP a_r a_e=some r):Pure Tryz.prog 16 [.agg (cRln a_r), .agg (tE a_e)] (.val (.agg (cRln r))):=by
 unfold gFilterP at H
 rw [tE_eq a_e]
 refine po_ Tryz.func16 Tryz.ntmps16 ?_
 repeat' (first|refine p_ rfl rfl rfl rfl rfl ?_|refine st_nil ?_|refine x_ rfl rfl rfl rfl rfl rfl rfl rfl ?_|refine l_ rfl rfl rfl rfl ?_|refine s_ rfl rfl rfl ?_|refine t_ rfl rfl rfl rfl ?_|refine k_ rfl rfl rfl ?_|refine k0_ rfl rfl ?_|refine c_ rfl rfl rfl rfl ?_|refine pick_t rfl rfl rfl rfl rfl rfl rfl ?_|refine pick_f rfl rfl rfl rfl rfl rfl rfl ?_|refine aw_seq ?_|refine aw_condT rfl ?_|refine aw_condF rfl ?_|refine aw_block ?_|refine aw_exit ?_|refine aw_ret ?_|refine aw_skip ?_|rw [List.length_map]|rw [mn_norm]|rw [mx_norm])
 refine aw_region tab_ok _ rfl ?_
 repeat' (first|refine p_ rfl rfl rfl rfl rfl ?_|refine st_nil ?_|refine x_ rfl rfl rfl rfl rfl rfl rfl rfl ?_|refine l_ rfl rfl rfl rfl ?_|refine s_ rfl rfl rfl ?_|refine t_ rfl rfl rfl rfl ?_|refine k_ rfl rfl rfl ?_|refine k0_ rfl rfl ?_|refine c_ rfl rfl rfl rfl ?_|refine pick_t rfl rfl rfl rfl rfl rfl rfl ?_|refine pick_f rfl rfl rfl rfl rfl rfl rfl ?_|refine aw_seq ?_|refine aw_condT rfl ?_|refine aw_condF rfl ?_|refine aw_block ?_|refine aw_exit ?_|refine aw_ret ?_|refine aw_skip ?_|rw [List.length_map]|rw [mn_norm]|rw [mx_norm])
 refine aw_freezeBox 1 (by rfl) (by rfl) ?_
 simp only [List.map_cons,List.map_nil,unA,unS,unC,capsC,List.drop,if_true,List.set]
 obtain ⟨r_1,c1,H⟩:=bd_ H
 replace c1:=gChoose_ok (F_a_keep:=45) (caps_a_keep:=[.ref [.int .i64 a_e.op, .int .i64 a_e.int, .int .i64 a_e.v.kind, .int .i64 a_e.v.int, .str a_e.v.text, .str a_e.nm, .lst (a_e.args.map tE)]]) (fun x0 r h=>gFilter1_ok h) c1
 try simp only [List.map_append,List.map_cons,List.map_nil,List.nil_append,tE_eq] at c1
 cases H
 exact go_
end
set_option maxHeartbeats 8000000
noncomputable section
def gTruthR11 (a_e:Ex) (a_row:(List Val)):Option (Int):=(gEvalR fuel a_e a_row).bind fun r_1=>(gTruth7 r_1).bind fun r_2=>some r_2
theorem gTruthR11_ok {a_e:Ex} {a_row:(List Val)} {r:Int} (H:gTruthR11 a_e a_row=some r):Pure Tryz.prog 47 [.agg (tE a_e), .one (.lst (a_row.map cV))] (.val (.one (.int .i64 r))):=by
 unfold gTruthR11 at H
 rw [tE_eq a_e]
 refine po_ Tryz.func47 Tryz.ntmps47 ?_
 obtain ⟨r_1,c1,H⟩:=bd_ H
 replace c1:=gEvalR_ok fuel c1
 try simp only [List.map_append,List.map_cons,List.map_nil,List.nil_append,tE_eq] at c1
 obtain ⟨r_2,c2,H⟩:=bd_ H
 replace c2:=gTruth7_ok c2
 cases H
 exact go_
def gFilterR_B1 (a_r:Rln) (a_e:Ex):((List Fct) × Int)→Option (Step ((List Fct) × Int) (Rln)):=fun s=>match s with
 | (l_1,i_2)=>bif (decide (i_2<((a_r.facts.length:Nat):Int))) then (getI a_r.facts i_2).bind fun x_4=>(gTruthR11 a_e x_4.row).bind fun r_5=>bif (decide (r_5=(2:Int))) then bif (decide (l_1.length+1≤3518437208883)) then (some (.next ((l_1++[x_4]),(IntKind.i64.wrap (i_2+(1:Int)))))) else none else
 some (.next (l_1,(IntKind.i64.wrap (i_2+(1:Int))))) else
 some (.exit (l_1,i_2))
def gFilterR_K1 (a_r:Rln):Sum ((List Fct) × Int) (Rln)→Option ((Rln))
 | .inl (l_1,i_2)=>(gBagR l_1).bind fun r_7=>some (⟨a_r.kinds,r_7⟩:Rln)
 | .inr q=>some q
def gFilterR (a_r:Rln) (a_e:Ex):Option (Rln):=(loopM (gFilterR_B1 a_r a_e) fuel ([],(0:Int))).bind (gFilterR_K1 a_r)
theorem gFilterR_ok {a_r:Rln} {a_e:Ex} {r:Rln} (H:gFilterR a_r a_e=some r):Pure Tryz.prog 17 [.agg (cRln a_r), .agg (tE a_e)] (.val (.agg (cRln r))):=by
 unfold gFilterR at H
 rw [tE_eq a_e]
 refine po_ Tryz.func17 Tryz.ntmps17 ?_
 refine gt_ ?_
 refine aw_tok 5 3 rfl ?_
 refine alM_ (fun s:(List Fct) × Int=>match s with|(l_1,i_2)=>[(2, .one (.ptr 0 0)),(3, .one (.ptr 1 0)),(4, .one (.ptr 2 0)),(5, .one (.own (l_1.map cFct) 3)),(6, .one (.c (.int .i64 i_2)))]) (fun s=>match s with|(l_1,i_2)=>[.box [.c (.lst (a_r.kinds.map (fun x=>[AC.int .i64 x]))), .c (.lst (a_r.facts.map cFct))], .box [.c (.int .i64 a_e.op), .c (.int .i64 a_e.int), .c (.int .i64 a_e.v.kind), .c (.int .i64 a_e.v.int), .c (.str a_e.v.text), .c (.str a_e.nm), .c (.lst (a_e.args.map tE))], .box [.emp, .emp], .spare l_1.length 3]) H (fun _=>Nat.zero_le _)
  (fm_ br_ [] rfl bt_ bo_) ?_
 rintro ⟨l_1,i_2⟩ st1 hb1 hk1
 unfold gFilterR_B1 at hb1
 dsimp only at hb1 ⊢
 rcases cnd_ hb1 with ⟨q_3,hb1⟩|⟨q_3,hb1⟩
 ·obtain ⟨x_4,i1z,i1,i1x,hb1⟩:=idx_ (f:=cFct) hb1
  obtain ⟨r_5,c2,hb1⟩:=bd_ hb1
  replace c2:=gTruthR11_ok c2
  try simp only [List.map_append,List.map_cons,List.map_nil,List.nil_append,tE_eq] at c2
  rcases cnd_ hb1 with ⟨q_6,hb1⟩|⟨q_6,hb1⟩
  ·obtain ⟨g3,hb1⟩:=grd_d hb1
   cases hb1
   refine gt_ ?_
   exact ⟨_,rfl,fm_ bs_ [] be_ bt_ bo_⟩
  cases hb1
  refine gt_ ?_
  exact ⟨_,rfl,fm_ bs_ [] be_ bt_ bo_⟩
 cases hb1
 have hx1:gFilterR_K1 a_r (.inl (l_1,i_2))=some _:=hk1
 unfold gFilterR_K1 at hx1
 dsimp only at hx1
 obtain ⟨r_7,c4,hx1⟩:=bd_ hx1
 replace c4:=gBagR_ok c4
 cases hx1
 exact go_
def gSound_B1 (a_r:Rln):(Int)→Option (Step (Int) (Bool)):=fun s=>match s with
 | i_1=>bif (decide (i_1<((a_r.facts.length:Nat):Int))) then (getI a_r.facts i_1).bind fun x_3=>(gValid1 x_3.valid).bind fun r_4=>bif (!r_4) then some (.ret false) else
 (gFits8 x_3.row a_r.kinds).bind fun r_6=>bif (!r_6) then some (.ret false) else
 some (.next (IntKind.i64.wrap (i_1+(1:Int)))) else
 some (.exit i_1)
def gSound_K1 (a_r:Rln):Sum (Int) (Bool)→Option ((Bool))
 | .inl i_1=>bif (decide ((0:Int)<((a_r.kinds.length:Nat):Int))) then bif (decide (((a_r.kinds.length:Nat):Int)≤(48:Int))) then (gKinds a_r.kinds).bind fun r_10=>some r_10 else
 some false else
 some false
 | .inr q=>some q
def gSound (a_r:Rln):Option (Bool):=(loopM (gSound_B1 a_r) fuel (0:Int)).bind (gSound_K1 a_r)
theorem gSound_ok {a_r:Rln} {r:Bool} (H:gSound a_r=some r):Pure Tryz.prog 37 [.agg (cRln a_r)] (.val (.one (.bool r))):=by
 unfold gSound at H
 refine po_ Tryz.func37 Tryz.ntmps37 ?_
 refine gt_ ?_
 refine alM_ (fun s:Int=>match s with|i_1=>[(1, .one (.ptr 0 0)),(3, .one (.c (.int .i64 i_1)))]) (fun s=>match s with|i_1=>[.box [.c (.lst (a_r.kinds.map (fun x=>[AC.int .i64 x]))), .c (.lst (a_r.facts.map cFct))]]) H (fun _=>Nat.zero_le _)
  (fm_ br_ [] rfl bt_ bo_) ?_
 rintro i_1 st1 hb1 hk1
 unfold gSound_B1 at hb1
 dsimp only at hb1 ⊢
 rcases cnd_ hb1 with ⟨q_2,hb1⟩|⟨q_2,hb1⟩
 ·obtain ⟨x_3,i1z,i1,i1x,hb1⟩:=idx_ (f:=cFct) hb1
  obtain ⟨r_4,c2,hb1⟩:=bd_ hb1
  replace c2:=gValid1_ok c2
  rcases cnd_ hb1 with ⟨q_5,hb1⟩|⟨q_5,hb1⟩
  ·cases hb1
   have hx1:gSound_K1 a_r (.inr false)=some _:=hk1
   unfold gSound_K1 at hx1
   dsimp only at hx1
   cases hx1
   exact go_
  obtain ⟨r_6,c3,hb1⟩:=bd_ hb1
  replace c3:=gFits8_ok c3
  rcases cnd_ hb1 with ⟨q_7,hb1⟩|⟨q_7,hb1⟩
  ·cases hb1
   have hx1:gSound_K1 a_r (.inr false)=some _:=hk1
   unfold gSound_K1 at hx1
   dsimp only at hx1
   cases hx1
   exact go_
  cases hb1
  refine gt_ ?_
  exact ⟨_,rfl,fm_ br_ [] rfl bt_ bo_⟩
 cases hb1
 have hx1:gSound_K1 a_r (.inl i_1)=some _:=hk1
 unfold gSound_K1 at hx1
 dsimp only at hx1
 rcases cnd_ hx1 with ⟨q_8,hx1⟩|⟨q_8,hx1⟩
 ·rcases cnd_ hx1 with ⟨q_9,hx1⟩|⟨q_9,hx1⟩
  ·obtain ⟨r_10,c4,hx1⟩:=bd_ hx1
   replace c4:=gKinds_ok c4
   cases hx1
   exact go_
  cases hx1
  exact go_
 cases hx1
 exact go_
def gAlike (a_a:Rln) (a_b:Rln):Option (Bool):=(gSameKinds a_a.kinds a_b.kinds).bind fun r_1=>bif r_1 then (gIdent a_a.facts a_b.facts).bind fun r_3=>some r_3 else
 some false
theorem gAlike_ok {a_a:Rln} {a_b:Rln} {r:Bool} (H:gAlike a_a a_b=some r):Pure Tryz.prog 15 [.agg (cRln a_a), .agg (cRln a_b)] (.val (.one (.bool r))):=by
 unfold gAlike at H
 refine po_ Tryz.func15 Tryz.ntmps15 ?_
 obtain ⟨r_1,c1,H⟩:=bd_ H
 replace c1:=gSameKinds_ok c1
 rcases cnd_ H with ⟨q_2,H⟩|⟨q_2,H⟩
 ·obtain ⟨r_3,c2,H⟩:=bd_ H
  replace c2:=gIdent_ok c2
  cases H
  exact go_
 cases H
 exact go_
def gFew23 (a_r:Rln):Option (Bool):=bif (decide (((a_r.facts.length:Nat):Int)≤(16:Int))) then bif (decide (((a_r.kinds.length:Nat):Int)≤(48:Int))) then (gSound a_r).bind fun r_3=>some r_3 else
 some false else
 some false
theorem gFew23_ok {a_r:Rln} {r:Bool} (H:gFew23 a_r=some r):Pure Tryz.prog 12 [.agg (cRln a_r)] (.val (.one (.bool r))):=by
 unfold gFew23 at H
 refine po_ Tryz.func12 Tryz.ntmps12 ?_
 rcases cnd_ H with ⟨q_1,H⟩|⟨q_1,H⟩
 ·rcases cnd_ H with ⟨q_2,H⟩|⟨q_2,H⟩
  ·obtain ⟨r_3,c1,H⟩:=bd_ H
   replace c1:=gSound_ok c1
   cases H
   exact go_
  cases H
  exact go_
 cases H
 exact go_
def gChooses (a_e:Ex) (a_kinds:(List Int)):Option (Bool):=(gSmall [a_e] (200:Int)).bind fun r_1=>bif r_1 then (gPred21 a_e a_kinds).bind fun r_3=>some (decide (r_3=(0:Int))) else
 some false
theorem gChooses_ok {a_e:Ex} {a_kinds:(List Int)} {r:Bool} (H:gChooses a_e a_kinds=some r):Pure Tryz.prog 13 [.agg (tE a_e), .one (.lst (a_kinds.map (fun x=>[AC.int .i64 x])))] (.val (.one (.bool r))):=by
 unfold gChooses at H
 rw [tE_eq a_e]
 refine po_ Tryz.func13 Tryz.ntmps13 ?_
 obtain ⟨r_1,c1,H⟩:=bd_ H
 replace c1:=gSmall_ok c1
 try simp only [List.map_append,List.map_cons,List.map_nil,List.nil_append,tE_eq] at c1
 rcases cnd_ H with ⟨q_2,H⟩|⟨q_2,H⟩
 ·obtain ⟨r_3,c2,H⟩:=bd_ H
  replace c2:=gPred21_ok c2
  try simp only [List.map_append,List.map_cons,List.map_nil,List.nil_append,tE_eq] at c2
  cases H
  exact go_
 cases H
 exact go_
end
end Go.Proofs.YtfccopdbgfdcdaaGreatDoor
namespace Go.Proofs.YtfccopdbgfdcdaaGreatDoor.St
open Go.RowKit
theorem Asc.of_list {l:List (Int × Int)} (h:l.Pairwise fun x y=>x.1<y.1):Asc l:=by
 intro i j x y hij hx hy
 obtain ⟨hi,rfl⟩:=List.getElem?_eq_some_iff.1 hx
 obtain ⟨hj,rfl⟩:=List.getElem?_eq_some_iff.1 hy
 exact List.pairwise_iff_getElem.1 h i j hi hj hij
theorem validFrom_asc : ∀ {l:List (Int × Int)} {p:Int × Int}, validFrom p l=true→(p::l).Pairwise (fun x y=>x.1<y.1) ∧ ∀ s∈l,s.1<1099511627776
 | [],p,_=>⟨by simp,by simp⟩
 | q::r,p,h=>by
  simp only [validFrom,Bool.and_eq_true] at h
  obtain ⟨h1,h2⟩:=validFrom_asc (l:=r) (p:=q) h.2
  have hs:p.1<q.1∧q.1<1099511627776:=by have:=h.1;simp [stepOk] at this;omega
  refine ⟨List.pairwise_cons.2 ⟨fun y hy=>?_,h1⟩,fun s hs'=>?_⟩
  ·rcases List.mem_cons.1 hy with e|e
   ·subst e;exact hs.1
   ·have:=(List.pairwise_cons.1 h1).1 y e;omega
  ·rcases List.mem_cons.1 hs' with e|e
   ·subst e;exact hs.2
   ·exact h2 s e
theorem svalid_asc {l:List (Int × Int)} (h:svalid l=true):Asc l∧(∀ s∈l,s.1<1099511627776)∧l≠[] ∧ ∀ x,l[0]?=some x→x.1=0:=by
 match l,h with
 | p::r,h =>
  simp only [svalid,Bool.and_eq_true,beq_iff_eq] at h
  obtain ⟨h1,h2⟩:=validFrom_asc h.2
  refine ⟨Asc.of_list h1,fun s hs=>?_,by simp,fun x hx=>?_⟩
  ·rcases List.mem_cons.1 hs with e|e
   ·subst e;omega
   ·exact h2 s e
  ·simp at hx;subst hx;exact h.1
def lastV (z:Int) (l:List (Int × Int)) (t:Int):Int:=l.foldl (fun n s=>if s.1≤t then s.2 else n) z
theorem rat_in {l:List (Int × Int)} {t:Int} (h1:0≤t) (h2:t<1099511627776):rat l t=lastV 0 l t:=by unfold rat;rw [if_pos ⟨h1,h2⟩];rfl
theorem lastV_cons (z:Int) (p:Int × Int) (l:List (Int × Int)) (t:Int):lastV z (p::l) t=lastV (if p.1≤t then p.2 else z) l t:=rfl
theorem lastV_skip {z:Int} {l:List (Int × Int)} {t:Int} (h : ∀ x∈l,t<x.1):lastV z l t=z:=fold_skip t l z h
theorem lastV_snoc (z:Int) (l:List (Int × Int)) (q:Int × Int) (t:Int):lastV z (l++[q]) t=if q.1≤t then q.2 else lastV z l t:=by unfold lastV;rw [List.foldl_append];rfl
theorem svalid_snoc {u:List (Int × Int)} {x y:Int} {q:Int × Int} (hu:svalid u=true) (hl:u.getLast?=some (x,y)) (h1:x<q.1) (h2:q.1<1099511627776) (h3:q.2≠y):svalid (u++[q])=true:=by
 match u,hu with
 | p::r,hu =>
  simp only [svalid,Bool.and_eq_true,beq_iff_eq] at hu
  simp only [List.cons_append,svalid,Bool.and_eq_true,beq_iff_eq]
  refine ⟨hu.1,?_⟩
  have he:(p::r).getLast (by simp)=(x,y):=by
   rw [List.getLast?_eq_some_getLast (by simp)] at hl
   exact Option.some.inj hl
  rw [validFrom_snoc,hu.2,he]
  unfold stepOk
  simp [h1,h2,h3]
theorem lastV_end {u:List (Int × Int)} (ha:Asc u) {x y t:Int} (hl:u.getLast?=some (x,y)) (ht:x≤t) (z:Int):lastV z u t=y:=by
 have hne:u≠[]:=by intro e;subst e;simp at hl
 have hu:u=u.dropLast++[(x,y)]:=by
  have h1:=List.dropLast_concat_getLast hne
  rw [List.getLast?_eq_some_getLast hne] at hl
  rw [← Option.some.inj hl];exact h1.symm
 rw [hu,lastV_snoc,if_pos ht]
theorem put_val {u:List (Int × Int)} (ha:Asc u) {x y p v:Int} (hl:u.getLast?=some (x,y)) (hp:x<p) (z t:Int):lastV z (putS u (p,v)) t=if p≤t then v else lastV z u t:=by
 unfold putS
 rw [hl]
 simp only [Option.map_some,Option.some.injEq]
 by_cases e:y=v
 ·rw [if_pos e]
  split
  ·rw [lastV_end ha hl (by omega),e]
  ·rfl
 ·rw [if_neg e,lastV_snoc]
theorem put_valid {u:List (Int × Int)} {x y p v:Int} (hu:svalid u=true) (hl:u.getLast?=some (x,y)) (hp:x<p) (hF:p<1099511627776):svalid (putS u (p,v))=true ∧ ∃ x' y',(putS u (p,v)).getLast?=some (x',y')∧x'≤p:=by
 unfold putS
 rw [hl]
 simp only [Option.map_some,Option.some.injEq]
 by_cases e:y=v
 ·rw [if_pos e];exact ⟨hu,x,y,hl,by omega⟩
 ·rw [if_neg e];exact ⟨svalid_snoc hu hl hp hF (fun h=>e h.symm),p,v,by simp,Int.le_refl _⟩
theorem comb_foldF (f:Int→Int) : ∀ (P:List Int) (u:List (Int × Int)) (x y:Int),svalid u=true→u.getLast?=some (x,y)→(∀ p∈P,x<p∧p<1099511627776)→SAsc P →
  svalid (P.foldl (fun acc p=>putS acc (p,f p)) u)=true ∧ ∀ z t,lastV z (P.foldl (fun acc p=>putS acc (p,f p)) u) t=lastV (lastV z u t) (P.map fun p=>(p,f p)) t
 | [],u,x,y,hu,hl,_,_=>⟨hu,fun z t=>rfl⟩
 | p::P,u,x,y,hu,hl,hP,hA=>by
  obtain ⟨h1,h2⟩:=hP p (by simp)
  obtain ⟨g1,x',y',g2,g3⟩:=put_valid (v:=f p) hu hl h1 h2
  obtain ⟨k1,k2⟩:=comb_foldF f P (putS u (p,f p)) x' y' g1 g2 (fun q hq=>⟨by have:=hA.head q hq;omega,(hP q (by simp [hq])).2⟩) hA.tail
  refine ⟨k1,fun z t=>?_⟩
  rw [List.foldl_cons,k2,put_val (svalid_asc hu).1 hl h1,List.map_cons,lastV_cons]
theorem comb_spec (f:Int→Int) {P:List Int} (hA:SAsc P) (h0:P.head?=some 0) (hF : ∀ p∈P,p<1099511627776):svalid (combS f P)=true ∧ ∀ z t,lastV z (combS f P) t=lastV z (P.map fun p=>(p,f p)) t:=by
 match P,h0 with
 | p::P,h0 =>
  simp at h0
  subst h0
  have h1:=comb_foldF f P [(0,f 0)] 0 (f 0) rfl rfl (fun q hq=>⟨hA.head q hq,hF q (by simp [hq])⟩) hA.tail
  have h2:combS f (0::P)=P.foldl (fun acc p=>putS acc (p,f p)) [(0,f 0)]:=rfl
  rw [h2]
  refine ⟨h1.1,fun z t=>?_⟩
  rw [h1.2,List.map_cons,lastV_cons]
  rfl
def Const (g:Int→Int) (P:List Int):Prop := ∀ t p,0≤t→t<1099511627776→p∈P→p≤t→(∀ q∈P,q≤t→q≤p)→g t=g p
theorem lastV_map (g:Int→Int) : ∀ (P:List Int) (z t:Int),SAsc P→(∃ p∈P,p≤t) → ∃ p∈P,p≤t∧(∀ q∈P,q≤t→q≤p)∧lastV z (P.map fun p=>(p,g p)) t=g p
 | [],z,t,_,⟨p,hp,_⟩=>by simp at hp
 | a::P,z,t,hA,⟨p,hp,hpt⟩=>by
  have hat:a≤t:=by
   rcases List.mem_cons.1 hp with e|e
   ·omega
   ·have:=hA.head p e;omega
  rw [List.map_cons,lastV_cons,if_pos hat]
  by_cases h : ∃ q∈P,q≤t
  ·obtain ⟨q,h1,h2,h3,h4⟩:=lastV_map g P (g a) t hA.tail h
   refine ⟨q,by simp [h1],h2,fun r hr hrt=>?_,h4⟩
   rcases List.mem_cons.1 hr with e|e
   ·have:=hA.head q h1;omega
   ·exact h3 r e hrt
  ·refine ⟨a,by simp,hat,fun r hr hrt=>?_,?_⟩
   ·rcases List.mem_cons.1 hr with e|e
    ·omega
    ·exact absurd ⟨r,e,hrt⟩ h
   ·refine lastV_skip fun x hx=>?_
    obtain ⟨q,hq,e⟩:=List.mem_map.1 hx
    subst e
    exact Int.not_le.1 fun hh=>h ⟨q,hq,hh⟩
theorem comb_rat (g:Int→Int) {P:List Int} (hA:SAsc P) (h0:P.head?=some 0) (hF : ∀ p∈P,p<1099511627776) (hC:Const g P) {t:Int} (t1:0≤t) (t2:t<1099511627776):rat (combS g P) t=g t:=by
 rw [rat_in t1 t2,(comb_spec g hA h0 hF).2]
 have h0m:(0:Int)∈P:=List.mem_of_mem_head? h0
 obtain ⟨p,h1,h2,h3,h4⟩:=lastV_map g P 0 t hA ⟨0,h0m,t1⟩
 rw [h4,hC t p t1 t2 h1 h2 h3]
theorem head_zero {P:List Int} (hA:SAsc P) (h0:(0:Int)∈P) (hp : ∀ p∈P,0≤p):P.head?=some 0:=by
 match P,h0 with
 | a::P,h0 =>
  have ha:=hp a (by simp)
  rcases List.mem_cons.1 h0 with e|e
  ·rw [← e];rfl
  ·have:=hA.head 0 e;omega
theorem svalid_nonneg {l:List (Int × Int)} (h:svalid l=true) : ∀ s∈l,0≤s.1:=by
 obtain ⟨h1,_,h3,h4⟩:=svalid_asc h
 intro s hs
 obtain ⟨i,hi,e⟩:=List.mem_iff_getElem.1 hs
 have hpos:0<l.length:=by omega
 have h0:=h4 l[0] (List.getElem?_eq_getElem hpos)
 by_cases e0:i=0
 ·subst e0;rw [← e];omega
 ·have:=h1 0 i _ _ (by omega) (List.getElem?_eq_getElem hpos) (List.getElem?_eq_getElem hi)
  rw [e] at this;omega
theorem of_ok (l:List ((Int × Int) × Int)):svalid (combS (rsum l) (ofPts l))=true ∧ ∀ t,0≤t→t<1099511627776→rat (combS (rsum l) (ofPts l)) t=rsum l t:=by
 obtain ⟨h1,h2⟩:=ofPts_spec l
 have hnn : ∀ p∈ofPts l,0≤p:=by
  intro p hp
  rcases ((h2 p).1 hp).1 with e|⟨y,hy⟩
  ·omega
  ·exact (chg_range (p,y) hy).1
 have h0:(ofPts l).head?=some 0:=head_zero h1 ((h2 0).2 ⟨.inl rfl,by omega⟩) hnn
 have hF : ∀ p∈ofPts l,p<1099511627776:=fun p hp=>((h2 p).1 hp).2
 have hC:Const (rsum l) (ofPts l):=by
  intro t p t1 t2 hp hpt hmax
  rw [rsum_eq,rsum_eq]
  congr 1
  unfold isum
  congr 1
  refine List.map_congr_left fun c hc=>?_
  have hiff:pcontains c.1 t=pcontains c.1 p:=by
   unfold pcontains
   by_cases hv:pvalid c.1=true
   ·have hm : ∀ q,q=c.1.1∨q=c.1.2→q≤t→q≤p:=by
     intro q hq hqt
     refine hmax q ((h2 q).2 ⟨.inr ?_,by omega⟩) hqt
     rcases hq with e|e
     ·exact ⟨c.2,List.mem_flatMap.2 ⟨c,hc,by unfold chg1;rw [if_pos hv];simp [e]⟩⟩
     ·exact ⟨wrap64 (-c.2),List.mem_flatMap.2 ⟨c,hc,by unfold chg1;rw [if_pos hv];simp [e]⟩⟩
    have m1:=hm c.1.1 (.inl rfl)
    have m2:=hm c.1.2 (.inr rfl)
    rw [hv,Bool.true_and,Bool.true_and,Bool.eq_iff_iff]
    simp only [Bool.and_eq_true,decide_eq_true_eq]
    constructor
    ·rintro ⟨u1,u2⟩;exact ⟨m1 u1,by omega⟩
    ·rintro ⟨u1,u2⟩
     refine ⟨by omega,Int.not_le.1 fun hh=>?_⟩
     have:=m2 hh;omega
   ·have:pvalid c.1=false:=by simpa using hv
    rw [this];simp
  rw [hiff]
 exact ⟨(comb_spec _ h1 h0 hF).1,fun t t1 t2=>comb_rat _ h1 h0 hF hC t1 t2⟩
def cnt (X:List (Int × Int)) (t:Int):Int:=(X.map fun p=>if pcontains p t then (1:Int) else 0).sum
def onesP (X:List (Int × Int)):List ((Int × Int) × Int):=X.map fun p=>(p,1)
theorem isum_onesF (X:List (Int × Int)) (t:Int):isum (onesP X) t=cnt X t:=by
 unfold isum onesP cnt;rw [List.map_map];rfl
end Go.Proofs.YtfccopdbgfdcdaaGreatDoor.St
namespace Go.Proofs.YtfccopdbgfdcdaaGreatDoor
open Go.RowKit
def contB (p:Per) (t:Int):Bool:=St.pcontains (toP p) t
theorem contB_eq (p:Per) (t:Int):contB p t=(St.pvalid (toP p)&&(decide (p.lo≤t)&&decide (t<p.hi))):=Bool.and_assoc _ _ _
def cntP (ps:List Per) (t:Int):Nat:=(ps.filter fun p=>contB p t).length
theorem cnt_nat (ps:List Per) (t:Int):St.cnt (ps.map toP) t=(cntP ps t:Int):=by
 unfold St.cnt cntP
 induction ps with
 | nil=>rfl
 | cons p ps ih =>
  rw [List.map_cons,List.map_cons,List.sum_cons,ih,List.filter_cons]
  unfold contB
  by_cases h:St.pcontains (toP p) t=true
  ·rw [if_pos h,if_pos h,List.length_cons];omega
  ·rw [if_neg h,if_neg h];omega
theorem cntP_cons (p:Per) (ps:List Per) (t:Int):cntP (p::ps) t=(if contB p t=true then 1 else 0)+cntP ps t:=by
 unfold cntP
 rw [List.filter_cons]
 split<;>simp<;>omega
theorem cntP_le (ps:List Per) (t:Int):cntP ps t≤ps.length:=List.length_filter_le _ _
def stepsOf (ps:List Per):List (Int × Int):=St.ofL ((ones ps).map toC)
theorem ones_P (ps:List Per):(ones ps).map toC=St.onesP (ps.map toP):=by
 unfold ones St.onesP
 rw [List.map_map,List.map_map];rfl
theorem lev_P (ps:List Per):(levOf ps).map toP=St.levM (stepsOf ps):=by
 unfold levOf levV ofV stepsOf
 rw [List.map_map,List.map_map]
 have e1:(toP∘ofP)=id:=by funext x;rfl
 have e2:(toS∘ofS)=id:=by funext x;rfl
 rw [e1,e2,List.map_id,List.map_id]
theorem steps_valid (ps:List Per):St.svalid (stepsOf ps)=true:=(St.of_ok _).1
def begP (ps:List Per) (x:Int):Nat:=(ps.filter fun p=>St.pvalid (toP p)&&decide (p.lo≤x)).length
theorem begP_cons (p:Per) (ps:List Per) (t:Int):begP (p::ps) t=(if (St.pvalid (toP p)&&decide (p.lo≤t))=true then 1 else 0)+begP ps t:=by
 unfold begP
 rw [List.filter_cons]
 split<;>simp<;>omega
theorem beg_step {x y:Int} (h:x<y) : ∀ ps:List Per,cntP ps y+begP ps x≤cntP ps x+begP ps y
 | []=>by simp [cntP,begP]
 | p::ps=>by
  have ih:=beg_step h ps
  rw [cntP_cons,cntP_cons,begP_cons,begP_cons]
  have:(if contB p y=true then 1 else 0)+(if (St.pvalid (toP p)&&decide (p.lo≤x))=true then 1 else 0)≤(if contB p x=true then 1 else 0)+(if (St.pvalid (toP p)&&decide (p.lo≤y))=true then 1 else 0):=by
   rw [contB_eq,contB_eq]
   cases hv:St.pvalid (toP p)
   ·simp
   ·simp only [Bool.true_and,Bool.and_eq_true,decide_eq_true_eq]
    split<;>split<;>split<;>split<;>omega
  omega
theorem cnt_beg (ps:List Per) (x:Int):cntP ps x≤begP ps x:=by
 induction ps with
 | nil=>simp [cntP,begP]
 | cons p ps ih =>
  rw [cntP_cons,begP_cons]
  have:(if contB p x=true then 1 else 0)≤(if (St.pvalid (toP p)&&decide (p.lo≤x))=true then 1 else 0):=by
   rw [contB_eq]
   cases hv:St.pvalid (toP p)
   ·simp
   ·simp only [Bool.true_and,Bool.and_eq_true,decide_eq_true_eq]
    split<;>split<;>omega
  omega
theorem beg_mono {x y:Int} (h:x≤y) (ps:List Per):begP ps x≤begP ps y:=by
 induction ps with
 | nil=>simp [begP]
 | cons p ps ih =>
  rw [begP_cons,begP_cons]
  have:(if (St.pvalid (toP p)&&decide (p.lo≤x))=true then 1 else 0)≤(if (St.pvalid (toP p)&&decide (p.lo≤y))=true then 1 else 0):=by
   cases hv:St.pvalid (toP p)
   ·simp
   ·simp only [Bool.true_and,decide_eq_true_eq]
    split<;>split<;>omega
  omega
theorem levK_inv2 {l:List (Int × Int)} (ps:List Per) (ha:St.Asc l) (hF : ∀ s∈l,0≤s.1∧s.1<1099511627776) (hy : ∀ s∈l,s.2=(cntP ps s.1:Int)) : ∀ k,k≤l.length →
  (∀ q∈(St.levK l k).2,St.pvalid q=true)∧(∀ f∈(St.levK l k).1,0≤f∧f<1099511627776 ∧ ∃ (j:Nat) (y:Int),j<k∧l[j]?=some (f,y)) ∧
  ((k=0∧(St.levK l k).1=[]∧(St.levK l k).2=[]) ∨ ∃ x y,l[k-1]?=some (x,y)∧0<k∧(St.levK l k).1.length=cntP ps x∧(St.levK l k).2.length+(St.levK l k).1.length≤begP ps x)
 | 0,_=>⟨fun q hq=>(by cases hq),fun f hf=>(by cases hf), .inl ⟨rfl,rfl,rfl⟩⟩
 | k+1,hk=>by
  obtain ⟨h1,h2,h3⟩:=levK_inv2 ps ha hF hy k (by omega)
  have hx:l[k]?=some (l[k]'(by omega)):=List.getElem?_eq_getElem (by omega)
  generalize l[k]'(by omega)=p at hx
  obtain ⟨x,y⟩:=p
  have hm:=List.mem_of_getElem? hx
  have hxF:=hF _ hm
  have hxy:y=(cntP ps x:Int):=hy _ hm
  rw [St.levK_next hx]
  have hc:St.clipL y=cntP ps x:=by
   unfold St.clipL
   rw [hxy]
   split<;>omega
  unfold St.levStep
  dsimp only
  rw [hc]
  refine ⟨fun q hq=>?_,fun f hf=>?_, .inr ⟨x,y,by simpa using hx,by omega,St.setE_len _ _ _,?_⟩⟩
  ·rcases List.mem_append.1 hq with hq|hq
   ·exact h1 q hq
   ·obtain ⟨f,hf,rfl⟩:=List.mem_map.1 hq
    obtain ⟨f1,f2,j,z,hj,hz⟩:=h2 f (List.mem_of_mem_drop hf)
    have:=ha j k _ _ hj hz hx
    show St.pvalid (f,x)=true
    unfold St.pvalid
    simp only [Bool.and_eq_true,decide_eq_true_eq]
    dsimp only at this hxF
    omega
  ·unfold St.setE at hf
   rcases List.mem_append.1 hf with hf|hf
   ·obtain ⟨f1,f2,j,z,hj,hz⟩:=h2 f (List.mem_of_mem_take hf)
    exact ⟨f1,f2,j,z,by omega,hz⟩
   ·obtain ⟨_,rfl⟩:=List.mem_replicate.1 hf
    exact ⟨hxF.1,hxF.2,k,y,by omega,hx⟩
  ·rw [St.setE_len,List.length_append,List.length_map,List.length_drop]
   rcases h3 with ⟨_,e1,e2⟩|⟨x0,y0,hx0,hk0,e1,e2⟩
   ·rw [e1,e2]
    have:=cnt_beg ps x
    simp only [List.length_nil]
    omega
   ·have hlt:=ha (k-1) k _ _ (by omega) hx0 hx
    dsimp only at hlt
    have b1:=beg_step hlt ps
    have b2:=beg_mono (Int.le_of_lt hlt) ps
    omega
theorem levD_facts (ps:List Per) (hn:ps.length≤300):(St.levD (stepsOf ps)).length≤ps.length ∧ ∀ q∈St.levD (stepsOf ps),St.pvalid q=true:=by
 obtain ⟨ha,hF,hne,_⟩:=St.svalid_asc (steps_valid ps)
 have hnn:=St.svalid_nonneg (steps_valid ps)
 have hy : ∀ s∈stepsOf ps,s.2=(cntP ps s.1:Int):=by
  intro s hs
  have h:=((St.ofL_spec ((ones ps).map toC)).2 s hs).2
  rw [h,St.rsum_ones s.1 (ones_two ps) (by simp [ones];omega),ones_P,St.isum_onesF,cnt_nat]
 obtain ⟨h1,h2,h3⟩:=levK_inv2 ps ha (fun s hs=>⟨hnn s hs,hF s hs⟩) hy (stepsOf ps).length (Nat.le_refl _)
 unfold St.levD
 refine ⟨?_,fun q hq=>?_⟩
 ·rw [List.length_append,List.length_map]
  rcases h3 with ⟨_,e1,e2⟩|⟨x,y,_,_,_,e2⟩
  ·rw [e1,e2];exact Nat.zero_le _
  ·exact Nat.le_trans e2 (List.length_filter_le _ _)
 ·rcases List.mem_append.1 hq with hq|hq
  ·exact h1 q hq
  ·obtain ⟨f,hf,rfl⟩:=List.mem_map.1 hq
   obtain ⟨f1,f2,_⟩:=h2 f hf
   show St.pvalid (f,1099511627776)=true
   unfold St.pvalid
   simp only [Bool.and_eq_true,decide_eq_true_eq]
   omega
theorem lev_perm (ps:List Per) (hn:ps.length≤300):((levOf ps).map toP).Perm (St.levD (stepsOf ps)):=by
 obtain ⟨ha,hF,_,_⟩:=St.svalid_asc (steps_valid ps)
 have hM : ∀ s∈stepsOf ps,s.2≤600:=by
  intro s hs
  have h:=((St.ofL_spec ((ones ps).map toC)).2 s hs).2
  rw [h,St.rsum_ones s.1 (ones_two ps) (by simp [ones];omega),ones_P,St.isum_onesF,cnt_nat]
  have:=cntP_le ps s.1
  omega
 rw [lev_P]
 have h0:=(St.place_all (St.levAll (stepsOf ps)) [] .nil).2
 rw [List.nil_append] at h0
 exact h0.trans (St.levD_perm ha hF hM).symm
theorem lev_len (ps:List Per) (hn:ps.length≤300):(levOf ps).length≤ps.length:=by
 have:=(lev_perm ps hn).length_eq
 rw [List.length_map] at this
 rw [this];exact (levD_facts ps hn).1
theorem lev_valid (ps:List Per) (hn:ps.length≤300) : ∀ p∈levOf ps,St.pvalid (toP p)=true:=fun p hp =>
 (levD_facts ps hn).2 _ ((lev_perm ps hn).subset (List.mem_map_of_mem hp))
end Go.Proofs.YtfccopdbgfdcdaaGreatDoor
