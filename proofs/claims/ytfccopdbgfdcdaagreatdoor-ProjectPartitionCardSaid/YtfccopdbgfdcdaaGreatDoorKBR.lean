/- Parts of the proof, joined. No condition. -/
import Derived.Test.YtfccopdbgfdcdaaGreatDoorKBQ
import Derived.Test.YtfccopdbgfdcdaaGreatDoorKBI
import Derived.Test.YtfccopdbgfdcdaaGreatDoorKBO
set_option linter.unusedSimpArgs false
set_option linter.unusedVariables false
namespace Go.Proofs.YtfccopdbgfdcdaaGreatDoor
open Go.RowKit Go.MapKept
set_option maxRecDepth 100000
theorem empty_iff (s:ByteArray):(s.toList==(⟨#[]⟩:ByteArray).toList)=true↔s=ByteArray.empty:=by
 rw [beq_iff_eq,ByteArray.toList_eq,ByteArray.toList_eq]
 constructor
 ·intro h
  have:s.data.toList=[]:=h
  obtain ⟨d⟩:=s
  obtain ⟨l⟩:=d
  simp at this
  subst this;rfl
 ·rintro rfl;rfl
structure VV (v:Val):Prop where
 kind:0≤v.kind∧v.kind≤3
 int : -1125899906842624≤v.int∧v.int≤1125899906842624
 text:v.text.size≤200
theorem vv_of {v:Val} (h:vF v=true):VV v:=by
 have hx:=gValidR_eq v
 rw [h] at hx
 unfold gValidR at hx
 have e0 : ∀ s:ByteArray,s=ByteArray.empty→s.size≤200:=by rintro s rfl;decide
 by_cases k0:v.kind=0
 ·rw [decide_eq_true k0,cond_true] at hx
  by_cases i0:v.int=0
  ·rw [decide_eq_true i0,cond_true] at hx
   have:=(empty_iff _).1 (Option.some.inj hx)
   exact ⟨by omega,by omega,e0 _ this⟩
  ·rw [decide_eq_false i0,cond_false] at hx;cases hx
 rw [decide_eq_false k0,cond_false] at hx
 by_cases k1:v.kind=1
 ·rw [decide_eq_true k1,cond_true] at hx
  by_cases t0:(v.text.toList==(⟨#[]⟩:ByteArray).toList)=true
  ·rw [t0,cond_true] at hx
   by_cases i1:(-1125899906842624:Int)≤v.int
   ·rw [decide_eq_true i1,cond_true] at hx
    have:=of_decide_eq_true (Option.some.inj hx)
    exact ⟨by omega,⟨i1,this⟩,e0 _ ((empty_iff _).1 t0)⟩
   ·rw [decide_eq_false i1,cond_false] at hx;cases hx
  ·rw [Bool.not_eq_true] at t0
   rw [t0,cond_false] at hx;cases hx
 rw [decide_eq_false k1,cond_false] at hx
 by_cases k2:v.kind=2
 ·rw [decide_eq_true k2,cond_true] at hx
  by_cases i0:v.int=0
  ·rw [decide_eq_true i0,cond_true] at hx
   by_cases t2:((v.text.size:Nat):Int)≤200
   ·exact ⟨by omega,by omega,by omega⟩
   ·rw [decide_eq_false t2,cond_false] at hx;cases hx
  ·rw [decide_eq_false i0,cond_false] at hx;cases hx
 rw [decide_eq_false k2,cond_false] at hx
 by_cases k3:v.kind=3
 ·rw [decide_eq_true k3,cond_true] at hx
  by_cases t0:(v.text.toList==(⟨#[]⟩:ByteArray).toList)=true
  ·rw [t0,cond_true] at hx
   by_cases i0:v.int=0
   ·exact ⟨by omega,by omega,e0 _ ((empty_iff _).1 t0)⟩
   ·rw [decide_eq_false i0,cond_false] at hx
    have:=of_decide_eq_true (Option.some.inj hx)
    exact ⟨by omega,by omega,e0 _ ((empty_iff _).1 t0)⟩
  ·rw [Bool.not_eq_true] at t0
   rw [t0,cond_false] at hx;cases hx
 rw [decide_eq_false k3,cond_false] at hx
 cases hx
theorem VV.vok {v:Val} (h:VV v):VOK v:=⟨⟨by have:=h.kind;omega,by have:=h.kind;omega⟩,⟨by have:=h.int;omega,by have:=h.int;omega⟩,by have:=h.text;omega⟩
abbrev intN (n:Int):Val:=orN ⟨1,n,ByteArray.empty⟩
abbrev textN (s:ByteArray):Val:=orN ⟨2,0,s⟩
def ariF (op a b:Int):Val:=(gComputed op a b).getD nulV
theorem mx_abs {a:Int} (h : -1125899906842624≤a∧a≤1125899906842624):mxI a (IntKind.i64.wrap (0-a))=(a.natAbs:Int):=by
 rw [wrap_in (by omega)]
 unfold mxI
 split<;>omega
theorem gProduct_same (a b:Int):gProduct a b=gComputed 15 a b:=by
 unfold gProduct gComputed
 rw [show decide ((15:Int)=13)=false from rfl,show decide ((15:Int)=14)=false from rfl,show decide ((15:Int)=15)=true from rfl]
 simp only [cond_true,cond_false]
 cases decide (a≠0) with
 | false=>simp only [cond_false];rw [gIntP_or,gIntR_or]
 | true =>
  simp only [cond_true]
  unfold gAbs
  simp only [Option.bind_some]
  rw [gIntP_or,gIntR_or]
  rfl
theorem gComputed_ex {op a b:Int} (ha : -1125899906842624≤a∧a≤1125899906842624) : ∃ v,gComputed op a b=some v∧vF v=true:=by
 unfold gComputed
 simp only [gIntR_or,Option.bind_some,gNullR_eq]
 cases decide (op=13) with
 | true=>exact ⟨_,rfl,vF_orN _⟩
 | false =>
 cases decide (op=14) with
 | true=>exact ⟨_,rfl,vF_orN _⟩
 | false =>
 cases decide (op=15) with
 | true =>
  simp only [cond_true,cond_false]
  by_cases h:a=0
  ·subst h;exact ⟨_,rfl,vF_orN _⟩
  ·rw [decide_eq_true (show a≠0 from h),cond_true]
   unfold gAbs
   simp only [Option.bind_some]
   rw [mx_abs ha,decide_eq_true (show ((a.natAbs:Nat):Int)≠0 by omega),cond_true]
   generalize decide (IntKind.i64.wrap ((1125899906842624:Int).tdiv ((a.natAbs:Nat):Int))<mxI b (IntKind.i64.wrap (0-b)))=c
   cases c with
   | true=>exact ⟨_,rfl,vF_nul⟩
   | false=>exact ⟨_,rfl,vF_orN _⟩
 | false =>
  simp only [cond_false]
  by_cases h:b=0
  ·rw [decide_eq_true h];exact ⟨_,rfl,vF_nul⟩
  ·rw [decide_eq_false h,decide_eq_true (show b≠0 from h)]
   simp only [cond_true,cond_false]
   cases decide (op=16) with
   | true=>exact ⟨_,rfl,vF_orN _⟩
   | false=>exact ⟨_,rfl,vF_orN _⟩
theorem gComputed_eq {op a b:Int} (ha : -1125899906842624≤a∧a≤1125899906842624):gComputed op a b=some (ariF op a b)∧vF (ariF op a b)=true:=by
 obtain ⟨v,h1,h2⟩:=gComputed_ex (op:=op) (b:=b) ha
 unfold ariF
 rw [h1];exact ⟨rfl,h2⟩
theorem arith_loop (l:List Val) (hl:l.length≤1000000):loopM (gArith_B1 l) fuel (0:Int)=some (bif areF l 1 then .inl ((l.length:Nat):Int) else .inr nulV):=by
 rw [loop_list (l:=l) (mk:=fun (_:Unit) i=>i) (f:=fun _ v=>some (if v.kind≠1 then .inr nulV else .inl ())) ?_ ?_ (by unfold fuel;omega) ()]
 ·have : ∀ l:List Val,foldS (ρ:=Val) (fun (_:Unit) (v:Val)=>some (if v.kind≠1 then .inr nulV else .inl ())) () l=some (if areF l 1=true then .inl () else .inr nulV):=by
   intro l
   induction l with
   | nil=>rfl
   | cons v l ih =>
    rw [foldS]
    by_cases h:v.kind=1
    ·simp only [ne_eq,h,not_true_eq_false,if_false]
     rw [ih];simp [areF,h]
    ·simp [areF,h]
  rw [this]
  cases areF l 1<;>rfl
 ·intro s i x hx
  have hi:=(List.getElem?_eq_some_iff.1 hx).1
  unfold gArith_B1
  dsimp only
  rw [lt_dec hx,cond_true,gn_ hx,wrapN (by omega)]
  simp only [Option.bind_some]
  by_cases h:x.kind=1
  ·simp [h,foldN]
  ·simp [h,foldN,gNull_eq]
 ·intro s
  unfold gArith_B1
  dsimp only
  rw [lF_,cond_false]
def arith2 (op:Int) (a b:Val):Val:=bif areF [a,b] 1 then ariF op a.int b.int else nulV
theorem gArith_two {op:Int} {a b:Val} (ha:VV a) (h:op=13∨op=14∨op=15∨op=16∨op=17):gArith op [a,b]=some (arith2 op a b):=by
 unfold gArith arith2
 rw [arith_loop _ (by simp)]
 cases areF [a,b] 1 with
 | false=>rfl
 | true =>
  simp only [cond_true,Option.bind_some]
  have hc:=(gComputed_eq (op:=op) (b:=b.int) ha.int).1
  rw [← hc]
  unfold gArith_K1
  dsimp only
  rw [show getI [a,b] (0:Int)=some a from rfl,Option.bind_some,show getI [a,b] (IntKind.i64.wrap ((([a,b].length:Nat):Int)-1))=some b from rfl,Option.bind_some]
  rcases h with rfl|rfl|rfl|rfl|rfl
  ·unfold gComputed
   rw [show decide ((13:Int)=13)=true from rfl,cond_true,cond_true,gIntR_or,gIntP_or]
  ·unfold gComputed
   rw [show decide ((14:Int)=13)=false from rfl,show decide ((14:Int)=14)=true from rfl]
   simp only [cond_true,cond_false]
   rw [gIntR_or,gIntP_or]
  ·rw [show decide ((15:Int)=13)=false from rfl,show decide ((15:Int)=14)=false from rfl,show decide ((15:Int)=15)=true from rfl]
   simp only [cond_true,cond_false]
   rw [gProduct_same]
   cases gComputed 15 a.int b.int<;>rfl
  ·unfold gComputed
   rw [show decide ((16:Int)=13)=false from rfl,show decide ((16:Int)=14)=false from rfl,show decide ((16:Int)=15)=false from rfl,show decide ((16:Int)=18)=false from rfl,show decide ((16:Int)=16)=true from rfl]
   simp only [cond_true,cond_false,gIntP_or,gIntR_or,gNull_eq,gNullR_eq]
  ·unfold gComputed
   rw [show decide ((17:Int)=13)=false from rfl,show decide ((17:Int)=14)=false from rfl,show decide ((17:Int)=15)=false from rfl,show decide ((17:Int)=18)=false from rfl,show decide ((17:Int)=16)=false from rfl]
   simp only [cond_true,cond_false,gIntP_or,gIntR_or,gNull_eq,gNullR_eq]
def negF (a:Val):Val:=bif areF [a] 1 then intN (IntKind.i64.wrap (0-a.int)) else nulV
theorem gArith_neg (a:Val):gArith 18 [a]=some (negF a):=by
 unfold gArith negF
 rw [arith_loop _ (by simp)]
 cases areF [a] 1 with
 | false=>rfl
 | true =>
  simp only [cond_true,Option.bind_some]
  show (gIntP _).bind _=_
  rw [gIntP_or];rfl
def catF (a b:Val):Val:=bif areF [a,b] 2 then textN (a.text++b.text) else nulV
def lenF (a:Val):Val:=bif areF [a] 2 then intN ((a.text.size:Nat):Int) else nulV
theorem gTexts_cat {a b:Val} (ha:VV a) (hb:VV b):gTexts 19 [a,b]=some (catF a b):=by
 unfold gTexts catF
 rw [gAre_eq _ _ (by simp),Option.bind_some]
 cases areF [a,b] 2 with
 | false=>rfl
 | true =>
  have h1:=ha.text
  have h2:=hb.text
  rw [Bool.not_true,cond_false,cond_true,show decide ((19:Int)=19)=true from rfl,cond_true,show getI [a,b] (0:Int)=some a from rfl,Option.bind_some,show getI [a,b] (1:Int)=some b from rfl,Option.bind_some]
  rw [decide_eq_true (show a.text.size+b.text.size≤9223372036854775807 by omega),cond_true,gTextR_or];rfl
theorem gTexts_len (a:Val):gTexts 20 [a]=some (lenF a):=by
 unfold gTexts lenF
 rw [gAre_eq _ _ (by simp),Option.bind_some]
 cases areF [a] 2 with
 | false=>rfl
 | true =>
  rw [Bool.not_true,cond_false,cond_true,show decide ((20:Int)=19)=false from rfl,cond_false,show getI [a] (0:Int)=some a from rfl,Option.bind_some,gIntR_or];rfl
def txtStep (p:Int × ByteArray) (x:Val):Option (Sum (Int × ByteArray) Val):=bif decide (x.kind≠2) then some (.inr nulV) else bif decide (p.2.size+x.text.size≤9223372036854775807) then some (.inl (IntKind.i64.wrap (p.1+((x.text.size:Nat):Int)),p.2++x.text)) else none
theorem gTextE_run (op:Int) (l:List Val) (hl:l.length≤1000000):gTextE op l=(foldR (fun (p:Int × ByteArray) i=>(p.1,p.2,i)) l.length (foldS txtStep (0,⟨#[]⟩) l)).bind (gTextE_K1 op):=by
 unfold gTextE
 rw [loop_list (l:=l) (mk:=fun (p:Int × ByteArray) i=>(p.1,p.2,i)) (f:=txtStep) ?_ ?_ (by unfold fuel;omega) ((0:Int),(⟨#[]⟩:ByteArray))]
 ·intro s i x hx
  have hi:=(List.getElem?_eq_some_iff.1 hx).1
  unfold gTextE_B1 txtStep
  dsimp only
  rw [lt_dec hx,cond_true,gn_ hx,wrapN (by omega)]
  simp only [Option.bind_some]
  cases decide (x.kind≠2) with
  | true=>rfl
  | false =>
   simp only [cond_false]
   cases decide (s.2.size+x.text.size≤9223372036854775807)<;>rfl
 ·intro s
  unfold gTextE_B1
  dsimp only
  rw [lF_,cond_false]
theorem nil_app (s:ByteArray):(⟨#[]⟩:ByteArray)++s=s:=by
 apply ByteArray.ext
 simp
theorem gTextE_cat {a b:Val} (ha:VV a) (hb:VV b):gTextE 19 [a,b]=some (catF a b):=by
 have h1:=ha.text
 have h2:=hb.text
 have h0:(⟨#[]⟩:ByteArray).size=0:=rfl
 rw [gTextE_run _ _ (by simp)]
 unfold catF
 by_cases ka:a.kind=2
 ·by_cases kb:b.kind=2
  ·have e:areF [a,b] 2=true:=by simp [areF,ka,kb]
   rw [e]
   simp only [foldS,txtStep]
   rw [decide_eq_false (show ¬ a.kind≠2 by omega),cond_false,decide_eq_true (show (⟨#[]⟩:ByteArray).size+a.text.size≤9223372036854775807 by rw [h0];omega),cond_true]
   simp only []
   rw [decide_eq_false (show ¬ b.kind≠2 by omega),cond_false,nil_app,decide_eq_true (show a.text.size+b.text.size≤9223372036854775807 by omega),cond_true]
   show (gTextP (a.text++b.text)).bind _=_
   rw [gTextP_or];rfl
  ·have e:areF [a,b] 2=false:=by simp [areF,kb]
   rw [e]
   simp only [foldS,txtStep]
   rw [decide_eq_false (show ¬ a.kind≠2 by omega),cond_false,decide_eq_true (show (⟨#[]⟩:ByteArray).size+a.text.size≤9223372036854775807 by rw [h0];omega),cond_true]
   simp only []
   rw [decide_eq_true (show b.kind≠2 from kb),cond_true];rfl
 ·have e:areF [a,b] 2=false:=by simp [areF,ka]
  rw [e]
  simp only [foldS,txtStep]
  rw [decide_eq_true (show a.kind≠2 from ka),cond_true];rfl
theorem gTextE_len {a:Val} (ha:VV a):gTextE 20 [a]=some (lenF a):=by
 have h1:=ha.text
 have h0:(⟨#[]⟩:ByteArray).size=0:=rfl
 rw [gTextE_run _ _ (by simp)]
 unfold lenF
 by_cases ka:a.kind=2
 ·have e:areF [a] 2=true:=by simp [areF,ka]
  rw [e]
  simp only [foldS,txtStep]
  rw [decide_eq_false (show ¬ a.kind≠2 by omega),cond_false,decide_eq_true (show (⟨#[]⟩:ByteArray).size+a.text.size≤9223372036854775807 by rw [h0];omega),cond_true]
  show (gIntP (IntKind.i64.wrap (0+((a.text.size:Nat):Int)))).bind _=_
  rw [gIntP_or,Int.zero_add,wrap_in (by omega)];rfl
 ·have e:areF [a] 2=false:=by simp [areF,ka]
  rw [e]
  simp only [foldS,txtStep]
  rw [decide_eq_true (show a.kind≠2 from ka),cond_true];rfl
def relV (rel:Int) (a b c d:Val):Val :=
 bif areF [a,b,c,d] 1 then (if pvalB ⟨a.int,b.int⟩=true∧pvalB ⟨c.int,d.int⟩=true then boolV (decide (relF ⟨a.int,b.int⟩ ⟨c.int,d.int⟩=rel)) else nulV) else nulV
theorem gRelatedR_eq (rel:Int) (a b c d:Val):gRelatedR rel [a,b,c,d]=some (relV rel a b c d):=by
 unfold gRelatedR relV
 rw [gAre_eq _ _ (by simp),Option.bind_some]
 cases areF [a,b,c,d] 1 with
 | false=>exact congrArg (fun o:Option Val=>o.bind fun r=>some r) gNullR_eq
 | true =>
  rw [Bool.not_true,cond_false,cond_true,show getI [a,b,c,d] (0:Int)=some a from rfl,show getI [a,b,c,d] (1:Int)=some b from rfl,show getI [a,b,c,d] (2:Int)=some c from rfl,show getI [a,b,c,d] (3:Int)=some d from rfl]
  rw [Option.bind_some,Option.bind_some,Option.bind_some,Option.bind_some,gRel2_eq,Option.bind_some]
  generalize relF ⟨a.int,b.int⟩ ⟨c.int,d.int⟩=x
  generalize pvalB ⟨a.int,b.int⟩=y
  generalize pvalB ⟨c.int,d.int⟩=z
  cases y<;>cases z
  ·exact congrArg (fun o:Option Val=>o.bind fun r=>some r) gNullR_eq
  ·exact congrArg (fun o:Option Val=>o.bind fun r=>some r) gNullR_eq
  ·exact congrArg (fun o:Option Val=>o.bind fun r=>some r) gNullR_eq
  ·exact congrArg (fun o:Option Val=>o.bind fun r=>some r) (gBoolR_eq _)
theorem gRelated_eq (rel:Int) (a b c d:Val):gRelated rel [a,b,c,d]=some (relV rel a b c d):=by
 unfold gRelated relV gPeriodE
 rw [show getI [a,b,c,d] (0:Int)=some a from rfl,show getI [a,b,c,d] (1:Int)=some b from rfl,show getI [a,b,c,d] (2:Int)=some c from rfl,show getI [a,b,c,d] (3:Int)=some d from rfl]
 simp only [Option.bind_some]
 rw [gRel_eq,Option.bind_some,gNull_eq]
 have e:areF [a,b,c,d] 1=((decide (a.kind=1)&&decide (b.kind=1))&&(decide (c.kind=1)&&decide (d.kind=1))):=by
  simp [areF,Bool.and_assoc]
 rw [e]
 generalize (decide (a.kind=1)&&decide (b.kind=1))=u
 generalize (decide (c.kind=1)&&decide (d.kind=1))=v
 generalize relF ⟨a.int,b.int⟩ ⟨c.int,d.int⟩=x
 generalize pvalB ⟨a.int,b.int⟩=y
 generalize pvalB ⟨c.int,d.int⟩=z
 cases u
 ·rfl
 cases v
 ·rfl
 cases y<;>cases z
 ·rfl
 ·rfl
 ·rfl
 ·exact congrArg (fun o:Option Val=>o.bind fun r=>some r) (gBoolP_eq _)
theorem dec_eq3 {n k:Int} : decide (n=k)=(decide (k≤n)&&decide (n≤k)):=by
 rw [Bool.eq_iff_iff];simp only [Bool.and_eq_true,decide_eq_true_eq];omega
theorem dec_le3 {n k:Int} (h:n≤1099511627776):decide (k≤n)=(decide (k≤n)&&decide (n≤1099511627776)):=by
 rw [decide_eq_true h,Bool.and_true]
def arF (op:Int):Int × Int:=(gArity op).getD (-1,0)
theorem arity_cases (op n:Int) (h:n≤1099511627776):gArity op=some (arF op)∧gCounts op n=some (decide (0≤(arF op).1)&&(decide ((arF op).1≤n)&&decide (n≤(arF op).2)),decide (0≤(arF op).1))∧(0≤(arF op).1→op=1∨op=2∨op=4∨op=5∨op=6∨op=7∨op=8∨op=9∨op=10∨op=11∨op=12∨op=13∨op=14∨op=15∨op=16∨op=17∨op=18∨op=19∨op=20∨op=21∨op=22∨op=23∨op=24) ∧ -1≤(arF op).1:=by
 by_cases h1:op=1
 ·subst h1
  refine ⟨rfl,?_,fun _=>by simp,by decide⟩
  show some (decide (n=0),true)=some (true&&(decide ((0:Int)≤n)&&decide (n≤0)),true)
  rw [Bool.true_and, ← dec_eq3]
 by_cases h2:op=2
 ·subst h2
  refine ⟨rfl,?_,fun _=>by simp,by decide⟩
  show some (decide (n=0),true)=some (true&&(decide ((0:Int)≤n)&&decide (n≤0)),true)
  rw [Bool.true_and, ← dec_eq3]
 by_cases h4:op=4
 ·subst h4
  refine ⟨rfl,?_,fun _=>by simp,by decide⟩
  show some (decide (n=1),true)=some (true&&(decide ((1:Int)≤n)&&decide (n≤1)),true)
  rw [Bool.true_and, ← dec_eq3]
 by_cases h5:op=5
 ·subst h5
  refine ⟨rfl,?_,fun _=>by simp,by decide⟩
  show some (decide ((2:Int)≤n),true)=some (true&&(decide ((2:Int)≤n)&&decide (n≤1099511627776)),true)
  rw [Bool.true_and, ← dec_le3 h]
 by_cases h6:op=6
 ·subst h6
  refine ⟨rfl,?_,fun _=>by simp,by decide⟩
  show some (decide ((2:Int)≤n),true)=some (true&&(decide ((2:Int)≤n)&&decide (n≤1099511627776)),true)
  rw [Bool.true_and, ← dec_le3 h]
 by_cases h7:op=7
 ·subst h7
  refine ⟨rfl,?_,fun _=>by simp,by decide⟩
  show some (decide (n=2),true)=some (true&&(decide ((2:Int)≤n)&&decide (n≤2)),true)
  rw [Bool.true_and, ← dec_eq3]
 by_cases h8:op=8
 ·subst h8
  refine ⟨rfl,?_,fun _=>by simp,by decide⟩
  show some (decide (n=2),true)=some (true&&(decide ((2:Int)≤n)&&decide (n≤2)),true)
  rw [Bool.true_and, ← dec_eq3]
 by_cases h9:op=9
 ·subst h9
  refine ⟨rfl,?_,fun _=>by simp,by decide⟩
  show some (decide (n=2),true)=some (true&&(decide ((2:Int)≤n)&&decide (n≤2)),true)
  rw [Bool.true_and, ← dec_eq3]
 by_cases h10:op=10
 ·subst h10
  refine ⟨rfl,?_,fun _=>by simp,by decide⟩
  show some (decide (n=2),true)=some (true&&(decide ((2:Int)≤n)&&decide (n≤2)),true)
  rw [Bool.true_and, ← dec_eq3]
 by_cases h11:op=11
 ·subst h11
  refine ⟨rfl,?_,fun _=>by simp,by decide⟩
  show some (decide (n=2),true)=some (true&&(decide ((2:Int)≤n)&&decide (n≤2)),true)
  rw [Bool.true_and, ← dec_eq3]
 by_cases h12:op=12
 ·subst h12
  refine ⟨rfl,?_,fun _=>by simp,by decide⟩
  show some (decide (n=2),true)=some (true&&(decide ((2:Int)≤n)&&decide (n≤2)),true)
  rw [Bool.true_and, ← dec_eq3]
 by_cases h13:op=13
 ·subst h13
  refine ⟨rfl,?_,fun _=>by simp,by decide⟩
  show some (decide (n=2),true)=some (true&&(decide ((2:Int)≤n)&&decide (n≤2)),true)
  rw [Bool.true_and, ← dec_eq3]
 by_cases h14:op=14
 ·subst h14
  refine ⟨rfl,?_,fun _=>by simp,by decide⟩
  show some (decide (n=2),true)=some (true&&(decide ((2:Int)≤n)&&decide (n≤2)),true)
  rw [Bool.true_and, ← dec_eq3]
 by_cases h15:op=15
 ·subst h15
  refine ⟨rfl,?_,fun _=>by simp,by decide⟩
  show some (decide (n=2),true)=some (true&&(decide ((2:Int)≤n)&&decide (n≤2)),true)
  rw [Bool.true_and, ← dec_eq3]
 by_cases h16:op=16
 ·subst h16
  refine ⟨rfl,?_,fun _=>by simp,by decide⟩
  show some (decide (n=2),true)=some (true&&(decide ((2:Int)≤n)&&decide (n≤2)),true)
  rw [Bool.true_and, ← dec_eq3]
 by_cases h17:op=17
 ·subst h17
  refine ⟨rfl,?_,fun _=>by simp,by decide⟩
  show some (decide (n=2),true)=some (true&&(decide ((2:Int)≤n)&&decide (n≤2)),true)
  rw [Bool.true_and, ← dec_eq3]
 by_cases h18:op=18
 ·subst h18
  refine ⟨rfl,?_,fun _=>by simp,by decide⟩
  show some (decide (n=1),true)=some (true&&(decide ((1:Int)≤n)&&decide (n≤1)),true)
  rw [Bool.true_and, ← dec_eq3]
 by_cases h19:op=19
 ·subst h19
  refine ⟨rfl,?_,fun _=>by simp,by decide⟩
  show some (decide (n=2),true)=some (true&&(decide ((2:Int)≤n)&&decide (n≤2)),true)
  rw [Bool.true_and, ← dec_eq3]
 by_cases h20:op=20
 ·subst h20
  refine ⟨rfl,?_,fun _=>by simp,by decide⟩
  show some (decide (n=1),true)=some (true&&(decide ((1:Int)≤n)&&decide (n≤1)),true)
  rw [Bool.true_and, ← dec_eq3]
 by_cases h21:op=21
 ·subst h21
  refine ⟨rfl,?_,fun _=>by simp,by decide⟩
  show some (decide (n=1),true)=some (true&&(decide ((1:Int)≤n)&&decide (n≤1)),true)
  rw [Bool.true_and, ← dec_eq3]
 by_cases h22:op=22
 ·subst h22
  refine ⟨rfl,?_,fun _=>by simp,by decide⟩
  show some (decide (n=3),true)=some (true&&(decide ((3:Int)≤n)&&decide (n≤3)),true)
  rw [Bool.true_and, ← dec_eq3]
 by_cases h23:op=23
 ·subst h23
  refine ⟨rfl,?_,fun _=>by simp,by decide⟩
  show some (decide ((1:Int)≤n),true)=some (true&&(decide ((1:Int)≤n)&&decide (n≤1099511627776)),true)
  rw [Bool.true_and, ← dec_le3 h]
 by_cases h24:op=24
 ·subst h24
  refine ⟨rfl,?_,fun _=>by simp,by decide⟩
  show some (decide (n=4),true)=some (true&&(decide ((4:Int)≤n)&&decide (n≤4)),true)
  rw [Bool.true_and, ← dec_eq3]
 have e1:gArity op=some (-1,0):=by
  unfold gArity;simp only [decide_eq_false h1,decide_eq_false h2,decide_eq_false h4,decide_eq_false h5,decide_eq_false h6,decide_eq_false h7,decide_eq_false h8,decide_eq_false h9,decide_eq_false h10,decide_eq_false h11,decide_eq_false h12,decide_eq_false h13,decide_eq_false h14,decide_eq_false h15,decide_eq_false h16,decide_eq_false h17,decide_eq_false h18,decide_eq_false h19,decide_eq_false h20,decide_eq_false h21,decide_eq_false h22,decide_eq_false h23,decide_eq_false h24,cond_false]
 have e2:gCounts op n=some (false,false):=by
  unfold gCounts;simp only [decide_eq_false h1,decide_eq_false h2,decide_eq_false h4,decide_eq_false h5,decide_eq_false h6,decide_eq_false h7,decide_eq_false h8,decide_eq_false h9,decide_eq_false h10,decide_eq_false h11,decide_eq_false h12,decide_eq_false h13,decide_eq_false h14,decide_eq_false h15,decide_eq_false h16,decide_eq_false h17,decide_eq_false h18,decide_eq_false h19,decide_eq_false h20,decide_eq_false h21,decide_eq_false h22,decide_eq_false h23,decide_eq_false h24,cond_false]
 have e3:arF op=(-1,0):=by unfold arF;rw [e1];rfl
 rw [e1,e2,e3]
 exact ⟨rfl,rfl,fun h=>absurd h (by decide),by decide⟩
theorem ar1:arF 1=(0,0):=rfl
theorem ar2:arF 2=(0,0):=rfl
theorem ar4:arF 4=(1,1):=rfl
theorem ar5:arF 5=(2,1099511627776):=rfl
theorem ar6:arF 6=(2,1099511627776):=rfl
theorem ar7:arF 7=(2,2):=rfl
theorem ar8:arF 8=(2,2):=rfl
theorem ar9:arF 9=(2,2):=rfl
theorem ar10:arF 10=(2,2):=rfl
theorem ar11:arF 11=(2,2):=rfl
theorem ar12:arF 12=(2,2):=rfl
theorem ar13:arF 13=(2,2):=rfl
theorem ar14:arF 14=(2,2):=rfl
theorem ar15:arF 15=(2,2):=rfl
theorem ar16:arF 16=(2,2):=rfl
theorem ar17:arF 17=(2,2):=rfl
theorem ar18:arF 18=(1,1):=rfl
theorem ar19:arF 19=(2,2):=rfl
theorem ar20:arF 20=(1,1):=rfl
theorem ar21:arF 21=(1,1):=rfl
theorem ar22:arF 22=(3,3):=rfl
theorem ar23:arF 23=(1,1099511627776):=rfl
theorem ar24:arF 24=(4,4):=rfl
def formF (e:Ex):Bool:=(gFormedR e).getD false
def nulS (v:Val):Bool:=sameS [.c (.int .i64 v.kind), .c (.int .i64 v.int), .c (.str v.text)] [.c (.int .i64 (0:Int)), .c (.int .i64 (0:Int)), .c (.str ByteArray.empty)]
def restF (e:Ex):Bool:=(e.nm.toList==(⟨#[]⟩:ByteArray).toList)&&(if e.op=1 then decide (e.int=0)&&vF e.v else if e.op=2 then nulS e.v else if e.op=24 then nulS e.v&&(decide (0≤e.int)&&decide (e.int<13)) else decide (e.int=0)&&nulS e.v)
theorem formed_both (e:Ex) (h:e.args.length≤100000):gFormedR e=some ((decide (0≤(arF e.op).1)&&(decide ((arF e.op).1≤((e.args.length:Nat):Int))&&decide (((e.args.length:Nat):Int)≤(arF e.op).2)))&&restF e)∧gFormed e=some ((decide (0≤(arF e.op).1)&&(decide ((arF e.op).1≤((e.args.length:Nat):Int))&&decide (((e.args.length:Nat):Int)≤(arF e.op).2)))&&restF e):=by
 obtain ⟨h1,h2,h3,h4⟩:=arity_cases e.op ((e.args.length:Nat):Int) (by omega)
 generalize arF e.op=a at h1 h2 h3 h4
 obtain ⟨lo,hi⟩:=a
 dsimp only at h1 h2 h3 h4 ⊢
 have hR:gFormedR e=(bif decide (0≤lo)&&(decide (lo≤((e.args.length:Nat):Int))&&decide (((e.args.length:Nat):Int)≤hi)) then some (restF e) else some false):=by
  unfold gFormedR
  rw [h1,Option.bind_some]
  dsimp only
  by_cases c1:0≤lo
  ·rw [decide_eq_false (show ¬ lo<0 by omega),decide_eq_true c1,cond_false,Bool.true_and]
   by_cases c2:lo≤((e.args.length:Nat):Int)
   ·rw [decide_eq_false (show ¬ ((e.args.length:Nat):Int)<lo by omega),decide_eq_true c2,cond_false,Bool.true_and]
    by_cases c3:((e.args.length:Nat):Int)≤hi
    ·rw [decide_eq_false (show ¬ hi<((e.args.length:Nat):Int) by omega),decide_eq_true c3,cond_false,cond_true]
     unfold restF
     cases (e.nm.toList==(⟨#[]⟩:ByteArray).toList) with
     | false=>rfl
     | true =>
      rw [Bool.not_true,cond_false,Bool.true_and]
      by_cases o1:e.op=1
      ·rw [decide_eq_true o1,cond_true,if_pos o1,gValidR_eq]
       cases decide (e.int=0)<;>rfl
      ·rw [decide_eq_false o1,cond_false,if_neg o1,gNullR_eq]
       by_cases o2:e.op=2
       ·rw [decide_eq_true o2,cond_true,if_pos o2];rfl
       ·rw [decide_eq_false o2,cond_false,if_neg o2]
        by_cases o3:e.op=24
        ·rw [decide_eq_true o3,cond_true,if_pos o3]
         show (bif nulS e.v then _ else _)=_
         cases nulS e.v
         ·rfl
         ·rw [cond_true,Bool.true_and]
          cases decide (0≤e.int)<;>rfl
        ·rw [decide_eq_false o3,cond_false,if_neg o3]
         cases decide (e.int=0)<;>rfl
    ·rw [decide_eq_true (show hi<((e.args.length:Nat):Int) by omega),decide_eq_false c3,cond_true];rfl
   ·rw [decide_eq_true (show ((e.args.length:Nat):Int)<lo by omega),decide_eq_false c2,cond_true];rfl
  ·rw [decide_eq_true (show lo<0 by omega),decide_eq_false c1,cond_true];rfl
 have hP:gFormed e=(bif decide (0≤lo)&&(decide (lo≤((e.args.length:Nat):Int))&&decide (((e.args.length:Nat):Int)≤hi)) then some (restF e) else some false):=by
  unfold gFormed
  rw [h2,Option.bind_some]
  dsimp only
  cases (decide (0≤lo)&&(decide (lo≤((e.args.length:Nat):Int))&&decide (((e.args.length:Nat):Int)≤hi))) with
  | false=>rfl
  | true =>
   rw [Bool.not_true,cond_false,cond_true]
   unfold restF
   cases (e.nm.toList==(⟨#[]⟩:ByteArray).toList) with
   | false=>rfl
   | true =>
    rw [Bool.not_true,cond_false,Bool.true_and]
    by_cases o1:e.op=1
    ·rw [decide_eq_true o1,cond_true,if_pos o1,gValidP_eq]
     cases decide (e.int=0)<;>rfl
    ·rw [decide_eq_false o1,cond_false,if_neg o1]
     by_cases o3:e.op=24
     ·have o2 : ¬ e.op=2:=by omega
      rw [decide_eq_true o3,cond_true,if_neg o2,if_pos o3]
      by_cases i1:0≤e.int
      ·rw [decide_eq_false (show ¬ e.int<0 by omega),cond_false,decide_eq_true i1,Bool.true_and]
       by_cases i2:e.int<13
       ·rw [decide_eq_false (show ¬ 13≤e.int by omega),cond_false,decide_eq_true i2,Bool.and_true];rfl
       ·rw [decide_eq_true (show 13≤e.int by omega),cond_true,decide_eq_false i2,Bool.and_false]
      ·rw [decide_eq_true (show e.int<0 by omega),cond_true,decide_eq_false i1,Bool.false_and,Bool.and_false]
     ·rw [decide_eq_false o3,cond_false]
      by_cases o2:e.op=2
      ·rw [decide_eq_true o2,cond_true,if_pos o2];rfl
      ·rw [decide_eq_false o2,cond_false,if_neg o2,if_neg o3]
       cases decide (e.int=0)<;>rfl
 rw [hR,hP]
 cases (decide (0≤lo)&&(decide (lo≤((e.args.length:Nat):Int))&&decide (((e.args.length:Nat):Int)≤hi)))<;>exact ⟨rfl,rfl⟩
theorem gFormedR_eq {e:Ex} (h:e.args.length≤100000):gFormedR e=some (formF e):=by unfold formF;rw [(formed_both e h).1];rfl
theorem gFormed_eq {e:Ex} (h:e.args.length≤100000):gFormed e=some (formF e):=by unfold formF;rw [(formed_both e h).2,(formed_both e h).1];rfl
theorem formF_true {e:Ex} (h:e.args.length≤100000) (hf:formF e=true):(e.op=1∨e.op=2∨e.op=4∨e.op=5∨e.op=6∨e.op=7∨e.op=8∨e.op=9∨e.op=10∨e.op=11∨e.op=12∨e.op=13∨e.op=14∨e.op=15∨e.op=16∨e.op=17∨e.op=18∨e.op=19∨e.op=20∨e.op=21∨e.op=22∨e.op=23∨e.op=24)∧(arF e.op).1≤((e.args.length:Nat):Int)∧((e.args.length:Nat):Int)≤(arF e.op).2∧restF e=true:=by
 obtain ⟨_,_,h3,_⟩:=arity_cases e.op ((e.args.length:Nat):Int) (by omega)
 unfold formF at hf
 rw [(formed_both e h).1,Option.getD_some,Bool.and_eq_true,Bool.and_eq_true,Bool.and_eq_true] at hf
 exact ⟨h3 (of_decide_eq_true hf.1.1),of_decide_eq_true hf.1.2.1,of_decide_eq_true hf.1.2.2,hf.2⟩
theorem rest_const {e:Ex} (h:e.op=1) (hr:restF e=true):vF e.v=true:=by
 unfold restF at hr
 rw [if_pos h,Bool.and_eq_true,Bool.and_eq_true] at hr
 exact hr.2.2
set_option maxHeartbeats 8000000
def gTruthB (rec:Ex→List Val→Option Val) (a_e:Ex) (a_row:(List Val)):Option (Int):=(rec a_e a_row).bind fun r_1=>(gTruthV r_1).bind fun r_2=>some r_2
theorem gTruthB_ok {rec:Ex→List Val→Option Val}  (hrec : ∀ {x:Ex} {y:List Val} {r:Val}, rec x y=some r→Pure Tryz.prog 49 [.agg (tE x), .one (.lst (y.map cV))] (.val (.agg (cV r)))) {a_e:Ex} {a_row:(List Val)} {r:Int} (H:gTruthB rec a_e a_row=some r):Pure Tryz.prog 46 [.agg (tE a_e), .one (.lst (a_row.map cV))] (.val (.one (.int .i64 r))):=by
 unfold gTruthB at H
 rw [tE_eq a_e]
 refine po_ Tryz.func46 Tryz.ntmps46 ?_
 obtain ⟨r_1,c1,H⟩:=bd_ H
 replace c1:=hrec c1
 try simp only [List.map_append,List.map_cons,List.map_nil,List.nil_append,tE_eq] at c1
 obtain ⟨r_2,c2,H⟩:=bd_ H
 replace c2:=gTruthV_ok c2
 cases H
 exact go_
def gEvalB_B2 (c_15:(List Val)):(Int)→Option (Step (Int) (Val)):=fun s=>match s with
 | v_30=>bif (decide (v_30<((c_15.length:Nat):Int))) then (getI c_15 v_30).bind fun x_32=>bif (decide (x_32.kind≠(0:Int))) then some (.ret x_32) else
 some (.next (IntKind.i64.wrap (v_30+(1:Int)))) else
 some (.exit v_30)
def gEvalB_K2:Sum (Int) (Val)→Option ((Val))
 | .inl v_30=>(gNull ).bind fun r_34=>some r_34
 | .inr q=>some q
def gEvalB_B1 (a_e:Ex) (a_row:(List Val)) (rec:Ex→List Val→Option Val):((List Val) × Int)→Option (Step ((List Val) × Int) (Val)):=fun s=>match s with
 | (c_15,v_16)=>bif (decide (v_16<((a_e.args.length:Nat):Int))) then (getI a_e.args v_16).bind fun x_18=>(rec x_18 a_row).bind fun r_19=>bif (decide (0≤v_16)) then (bif (decide (v_16<((a_e.args.length:Nat):Int))) then (bif (decide ((0+v_16.toNat)<c_15.length)) then (some (.next ((c_15.set (0+v_16.toNat) r_19),(IntKind.i64.wrap (v_16+(1:Int)))))) else none) else none) else none else
 some (.exit (c_15,v_16))
def gEvalB_K1 (a_e:Ex):Sum ((List Val) × Int) (Val)→Option ((Val))
 | .inl (c_15,v_16)=>bif (decide (c_15.length=a_e.args.length)) then (bif (decide (a_e.op=(4:Int))) then (gLogic a_e.op c_15).bind fun r_21=>some r_21 else
 bif (decide (a_e.op=(5:Int))) then (gLogic a_e.op c_15).bind fun r_23=>some r_23 else
 bif (decide (a_e.op=(6:Int))) then (gLogic a_e.op c_15).bind fun r_25=>some r_25 else
 bif (decide (a_e.op=(21:Int))) then (getI c_15 (0:Int)).bind fun x_27=>(gBoolP (decide (x_27.kind=(0:Int)))).bind fun r_28=>some r_28 else
 bif (decide (a_e.op=(23:Int))) then (loopM (gEvalB_B2 c_15) fuel (0:Int)).bind (gEvalB_K2) else
 bif (decide (a_e.op=(24:Int))) then (gRelated a_e.int c_15).bind fun r_36=>some r_36 else
 bif (decide (a_e.op=(19:Int))) then (gTextE a_e.op c_15).bind fun r_38=>some r_38 else
 bif (decide (a_e.op=(20:Int))) then (gTextE a_e.op c_15).bind fun r_40=>some r_40 else
 bif (decide (a_e.op=(13:Int))) then (gArith a_e.op c_15).bind fun r_42=>some r_42 else
 bif (decide (a_e.op=(14:Int))) then (gArith a_e.op c_15).bind fun r_44=>some r_44 else
 bif (decide (a_e.op=(15:Int))) then (gArith a_e.op c_15).bind fun r_46=>some r_46 else
 bif (decide (a_e.op=(16:Int))) then (gArith a_e.op c_15).bind fun r_48=>some r_48 else
 bif (decide (a_e.op=(17:Int))) then (gArith a_e.op c_15).bind fun r_50=>some r_50 else
 bif (decide (a_e.op=(18:Int))) then (gArith a_e.op c_15).bind fun r_52=>some r_52 else
 (getI c_15 (0:Int)).bind fun x_53=>(getI c_15 (1:Int)).bind fun x_54=>(gComparison a_e.op x_53 x_54).bind fun r_55=>(gOfV2 r_55).bind fun r_56=>some r_56) else none
 | .inr q=>some q
def gEvalB (rec:Ex→List Val→Option Val) (a_e:Ex) (a_row:(List Val)):Option (Val):=(gFormed a_e).bind fun r_1=>bif (!r_1) then (gNull ).bind fun r_3=>some r_3 else
 bif (decide (a_e.op=(1:Int))) then some a_e.v else
 bif (decide (a_e.op=(2:Int))) then (gColumn a_row a_e.int).bind fun r_6=>some r_6 else
 bif (decide (a_e.op=(22:Int))) then (getI a_e.args (0:Int)).bind fun x_8=>(gTruthB rec x_8 a_row).bind fun r_9=>bif (decide (r_9=(2:Int))) then (getI a_e.args (1:Int)).bind fun x_11=>(rec x_11 a_row).bind fun r_12=>some r_12 else
 (getI a_e.args (2:Int)).bind fun x_13=>(rec x_13 a_row).bind fun r_14=>some r_14 else
 bif (decide (0≤((a_e.args.length:Nat):Int))) then (bif (decide ((32:Int)*((a_e.args.length:Nat):Int)≤281474976710656)) then (bif (decide (((a_e.args.length:Nat):Int)≤9223372036854775807)) then ((loopM (gEvalB_B1 a_e a_row rec) fuel ((List.replicate a_e.args.length ((⟨(0:Int),(0:Int),ByteArray.empty⟩:Val))),(0:Int))).bind (gEvalB_K1 a_e)) else none) else none) else none
theorem gEvalB_w {p q:Prop} (k:q) (h:Bx q→p:=by
 intro hq
 repeat' (first|refine st_sop rfl rfl rfl rfl rfl (sop_makeN tab_ok (k:=3) (by_:=32) rfl rfl rfl (by decide) rfl rfl rfl rfl rfl (by decide) (by omega) (by omega) (by omega)) ?_|refine st_strX (enc:=cV) rfl rfl rfl rfl rfl (by omega) rfl (fun _=>rfl) rfl ?_|refine p_ rfl rfl rfl rfl rfl ?_|refine st_nil ?_|refine x_ rfl rfl rfl rfl rfl rfl rfl rfl ?_|refine l_ rfl rfl rfl rfl ?_|refine s_ rfl rfl rfl ?_|refine t_ rfl rfl rfl rfl ?_|refine k_ rfl rfl rfl ?_|refine k0_ rfl rfl ?_|refine c_ rfl rfl rfl rfl ?_|refine pick_t rfl rfl rfl rfl rfl rfl rfl ?_|refine pick_f rfl rfl rfl rfl rfl rfl rfl ?_|refine aw_seq ?_|refine aw_region tab_ok _ rfl ?_|refine aw_drawn2 tabS_ok _ rfl mx_ (by decide +kernel) ?_|refine aw_condT rfl ?_|refine aw_condF rfl ?_|refine aw_block ?_|refine aw_exit ?_|refine aw_ret ?_|refine aw_skip ?_|rw [List.length_map]|rw [mn_norm]|rw [mx_norm])
 exact hq.out):p:=h ⟨k⟩
theorem gEvalB_g {p:Prop} (h:p:=by
 repeat' (first|refine st_sop rfl rfl rfl rfl rfl (sop_makeN tab_ok (k:=3) (by_:=32) rfl rfl rfl (by decide) rfl rfl rfl rfl rfl (by decide) (by omega) (by omega) (by omega)) ?_|refine st_strX (enc:=cV) rfl rfl rfl rfl rfl (by omega) rfl (fun _=>rfl) rfl ?_|refine p_ rfl rfl rfl rfl rfl ?_|refine st_nil ?_|refine x_ rfl rfl rfl rfl rfl rfl rfl rfl ?_|refine l_ rfl rfl rfl rfl ?_|refine s_ rfl rfl rfl ?_|refine t_ rfl rfl rfl rfl ?_|refine k_ rfl rfl rfl ?_|refine k0_ rfl rfl ?_|refine c_ rfl rfl rfl rfl ?_|refine pick_t rfl rfl rfl rfl rfl rfl rfl ?_|refine pick_f rfl rfl rfl rfl rfl rfl rfl ?_|refine aw_seq ?_|refine aw_region tab_ok _ rfl ?_|refine aw_drawn2 tabS_ok _ rfl mx_ (by decide +kernel) ?_|refine aw_condT rfl ?_|refine aw_condF rfl ?_|refine aw_block ?_|refine aw_exit ?_|refine aw_ret ?_|refine aw_skip ?_|rw [List.length_map]|rw [mn_norm]|rw [mx_norm])
 refine end_ret (res_of rfl ?_ ?_)
 ·repeat' (first|exact trivial|rfl|exact Nat.le_of_ble_eq_true rfl|omega|apply And.intro)
 ·first|rfl|(simp only [List.map_append,List.map_cons,List.map_nil,List.nil_append]<;>rfl)):p:=h
theorem gEvalB_ok {rec:Ex→List Val→Option Val}  (hrec : ∀ {x:Ex} {y:List Val} {r:Val}, rec x y=some r→Pure Tryz.prog 49 [.agg (tE x), .one (.lst (y.map cV))] (.val (.agg (cV r)))) {a_e:Ex} {a_row:(List Val)} {r:Val} (H:gEvalB rec a_e a_row=some r):Pure Tryz.prog 49 [.agg (tE a_e), .one (.lst (a_row.map cV))] (.val (.agg (cV r))):=by
 unfold gEvalB at H
 rw [tE_eq a_e]
 refine po_ Tryz.func49 Tryz.ntmps49 ?_
 obtain ⟨r_1,c1,H⟩:=bd_ H
 replace c1:=gFormed_ok c1
 try simp only [List.map_append,List.map_cons,List.map_nil,List.nil_append,tE_eq] at c1
 rcases cnd_ H with ⟨q_2,H⟩|⟨q_2,H⟩
 ·obtain ⟨r_3,c2,H⟩:=bd_ H
  replace c2:=gNull_ok c2
  cases H
  exact gEvalB_g
 rcases cnd_ H with ⟨q_4,H⟩|⟨q_4,H⟩
 ·cases H
  exact gEvalB_g
 refine gEvalB_w ?_
 rcases cnd_ H with ⟨q_5,H⟩|⟨q_5,H⟩
 ·obtain ⟨r_6,c3,H⟩:=bd_ H
  replace c3:=gColumn_ok c3
  cases H
  exact gEvalB_g
 rcases cnd_ H with ⟨q_7,H⟩|⟨q_7,H⟩
 ·obtain ⟨x_8,i4z,i4,i4x,H⟩:=idx_ (f:=tE) H
  simp only [List.map_append,List.map_cons,List.map_nil,List.nil_append,tE_eq] at i4x
  obtain ⟨r_9,c5,H⟩:=bd_ H
  replace c5:=gTruthB_ok hrec c5
  try simp only [List.map_append,List.map_cons,List.map_nil,List.nil_append,tE_eq] at c5
  rcases cnd_ H with ⟨q_10,H⟩|⟨q_10,H⟩
  ·obtain ⟨x_11,i6z,i6,i6x,H⟩:=idx_ (f:=tE) H
   simp only [List.map_append,List.map_cons,List.map_nil,List.nil_append,tE_eq] at i6x
   obtain ⟨r_12,c7,H⟩:=bd_ H
   replace c7:=hrec c7
   try simp only [List.map_append,List.map_cons,List.map_nil,List.nil_append,tE_eq] at c7
   cases H
   exact gEvalB_g
  obtain ⟨x_13,i8z,i8,i8x,H⟩:=idx_ (f:=tE) H
  simp only [List.map_append,List.map_cons,List.map_nil,List.nil_append,tE_eq] at i8x
  obtain ⟨r_14,c9,H⟩:=bd_ H
  replace c9:=hrec c9
  try simp only [List.map_append,List.map_cons,List.map_nil,List.nil_append,tE_eq] at c9
  cases H
  exact gEvalB_g
 obtain ⟨g10,H⟩:=grd_d H
 obtain ⟨g11,H⟩:=grd_d H
 obtain ⟨g12,H⟩:=grd_d H
 refine gEvalB_w ?_
 refine alM_ (fun s:(List Val) × Int=>match s with|(c_15,v_16)=>[(1, .one (.c (.lst (a_row.map cV)))),(2, .one (.ptr 0 0)),(4, .one (.ptr 1 0)),(5, .one (.sl 2 (27+65536) 0 a_e.args.length)),(52, .one (.c (.lst (a_e.args.map tE)))),(53, .one (.c (.int .i64 ((a_e.args.length:Nat):Int)))),(54, .one (.c (.int .i64 v_16)))]) (fun s=>match s with|(c_15,v_16)=>[.box [.c (.int .i64 a_e.op), .c (.int .i64 a_e.int), .c (.int .i64 a_e.v.kind), .c (.int .i64 a_e.v.int), .c (.str a_e.v.text), .c (.str a_e.nm), .c (.lst (a_e.args.map tE))], .box [.c (.int .i64 (0:Int)), .c (.int .i64 (0:Int)), .c (.str ByteArray.empty)], .row (27+65536) ((c_15.map cV).map (List.map SV.c)) 3]) H (fun _=>Nat.zero_le _)
  (fm_ br_ [] (by simp only [List.map_replicate]<;>rfl) bt_ ⟨ob_below (by rfl),ob_below (by rfl),rowX_below _ _ _ _ _,trivial⟩) ?_
 rintro ⟨c_15,v_16⟩ st1 hb1 hk1
 unfold gEvalB_B1 at hb1
 dsimp only at hb1 ⊢
 rcases cnd_ hb1 with ⟨q_17,hb1⟩|⟨q_17,hb1⟩
 ·obtain ⟨x_18,i13z,i13,i13x,hb1⟩:=idx_ (f:=tE) hb1
  simp only [List.map_append,List.map_cons,List.map_nil,List.nil_append,tE_eq] at i13x
  obtain ⟨r_19,c14,hb1⟩:=bd_ hb1
  replace c14:=hrec c14
  try simp only [List.map_append,List.map_cons,List.map_nil,List.nil_append,tE_eq] at c14
  obtain ⟨g15,hb1⟩:=grd_d hb1
  obtain ⟨g16,hb1⟩:=grd_d hb1
  obtain ⟨g17,hb1⟩:=grd_d hb1
  cases hb1
  refine gEvalB_w ?_
  exact ⟨_,rfl,fm_ br_ [_] rfl bt_ ⟨ob_below (by rfl),ob_below (by rfl),rowX_below _ _ _ _ _,trivial⟩⟩
 cases hb1
 have hx1:gEvalB_K1 a_e (.inl (c_15,v_16))=some _:=hk1
 unfold gEvalB_K1 at hx1
 dsimp only at hx1
 obtain ⟨g18,hx1⟩:=grd_d hx1
 have z19:((c_15.map cV).drop 0).take a_e.args.length=c_15.map cV:=by rw [List.drop_zero,List.take_of_length_le];rw [List.length_map];omega
 refine aw_freezeRow 2 (cs:=c_15.map cV) rfl (normR_c _) ?_
 simp only [List.map_cons,List.map_nil,thA,thS,and_self,if_true,eq_self,List.set,z19]
 refine gEvalB_w ?_
 rcases cnd_ hx1 with ⟨q_20,hx1⟩|⟨q_20,hx1⟩
 ·obtain ⟨r_21,c20,hx1⟩:=bd_ hx1
  replace c20:=gLogic_ok c20
  cases hx1
  exact gEvalB_g
 rcases cnd_ hx1 with ⟨q_22,hx1⟩|⟨q_22,hx1⟩
 ·obtain ⟨r_23,c21,hx1⟩:=bd_ hx1
  replace c21:=gLogic_ok c21
  cases hx1
  exact gEvalB_g
 rcases cnd_ hx1 with ⟨q_24,hx1⟩|⟨q_24,hx1⟩
 ·obtain ⟨r_25,c22,hx1⟩:=bd_ hx1
  replace c22:=gLogic_ok c22
  cases hx1
  exact gEvalB_g
 refine gEvalB_w ?_
 rcases cnd_ hx1 with ⟨q_26,hx1⟩|⟨q_26,hx1⟩
 ·obtain ⟨x_27,i23z,i23,i23x,hx1⟩:=idx_ (f:=cV) hx1
  obtain ⟨r_28,c24,hx1⟩:=bd_ hx1
  replace c24:=gBoolP_ok c24
  cases hx1
  exact gEvalB_g
 rcases cnd_ hx1 with ⟨q_29,hx1⟩|⟨q_29,hx1⟩
 ·refine gEvalB_w ?_
  refine alM_ (fun s:Int=>match s with|v_30=>[(4, .one (.ptr 1 0)),(86, .one (.c (.lst (c_15.map cV)))),(87, .one (.c (.int .i64 ((c_15.length:Nat):Int)))),(88, .one (.c (.int .i64 v_30)))]) (fun s=>match s with|v_30=>[.box [.c (.int .i64 a_e.op), .c (.int .i64 a_e.int), .c (.int .i64 a_e.v.kind), .c (.int .i64 a_e.v.int), .c (.str a_e.v.text), .c (.str a_e.nm), .c (.lst (a_e.args.map tE))], .box [.c (.int .i64 (0:Int)), .c (.int .i64 (0:Int)), .c (.str ByteArray.empty)], .dead]) hx1 (fun _=>Nat.zero_le _)
   (fm_ br_ [] rfl bt_ bo_) ?_
  rintro v_30 st2 hb2 hk2
  unfold gEvalB_B2 at hb2
  dsimp only at hb2 ⊢
  rcases cnd_ hb2 with ⟨q_31,hb2⟩|⟨q_31,hb2⟩
  ·obtain ⟨x_32,i25z,i25,i25x,hb2⟩:=idx_ (f:=cV) hb2
   refine gEvalB_w ?_
   rcases cnd_ hb2 with ⟨q_33,hb2⟩|⟨q_33,hb2⟩
   ·cases hb2
    have hx2:gEvalB_K2 (.inr x_32)=some _:=hk2
    unfold gEvalB_K2 at hx2
    dsimp only at hx2
    cases hx2
    exact gEvalB_g
   cases hb2
   refine gEvalB_w ?_
   exact ⟨_,rfl,fm_ br_ [_] rfl bt_ bo_⟩
  cases hb2
  have hx2:gEvalB_K2 (.inl v_30)=some _:=hk2
  unfold gEvalB_K2 at hx2
  dsimp only at hx2
  obtain ⟨r_34,c26,hx2⟩:=bd_ hx2
  replace c26:=gNull_ok c26
  cases hx2
  exact gEvalB_g
 rcases cnd_ hx1 with ⟨q_35,hx1⟩|⟨q_35,hx1⟩
 ·obtain ⟨r_36,c27,hx1⟩:=bd_ hx1
  replace c27:=gRelated_ok c27
  cases hx1
  exact gEvalB_g
 refine gEvalB_w ?_
 rcases cnd_ hx1 with ⟨q_37,hx1⟩|⟨q_37,hx1⟩
 ·obtain ⟨r_38,c28,hx1⟩:=bd_ hx1
  replace c28:=gTextE_ok c28
  cases hx1
  exact gEvalB_g
 rcases cnd_ hx1 with ⟨q_39,hx1⟩|⟨q_39,hx1⟩
 ·obtain ⟨r_40,c29,hx1⟩:=bd_ hx1
  replace c29:=gTextE_ok c29
  cases hx1
  exact gEvalB_g
 rcases cnd_ hx1 with ⟨q_41,hx1⟩|⟨q_41,hx1⟩
 ·obtain ⟨r_42,c30,hx1⟩:=bd_ hx1
  replace c30:=gArith_ok c30
  cases hx1
  exact gEvalB_g
 refine gEvalB_w ?_
 rcases cnd_ hx1 with ⟨q_43,hx1⟩|⟨q_43,hx1⟩
 ·obtain ⟨r_44,c31,hx1⟩:=bd_ hx1
  replace c31:=gArith_ok c31
  cases hx1
  exact gEvalB_g
 rcases cnd_ hx1 with ⟨q_45,hx1⟩|⟨q_45,hx1⟩
 ·obtain ⟨r_46,c32,hx1⟩:=bd_ hx1
  replace c32:=gArith_ok c32
  cases hx1
  exact gEvalB_g
 rcases cnd_ hx1 with ⟨q_47,hx1⟩|⟨q_47,hx1⟩
 ·obtain ⟨r_48,c33,hx1⟩:=bd_ hx1
  replace c33:=gArith_ok c33
  cases hx1
  exact gEvalB_g
 refine gEvalB_w ?_
 rcases cnd_ hx1 with ⟨q_49,hx1⟩|⟨q_49,hx1⟩
 ·obtain ⟨r_50,c34,hx1⟩:=bd_ hx1
  replace c34:=gArith_ok c34
  cases hx1
  exact gEvalB_g
 rcases cnd_ hx1 with ⟨q_51,hx1⟩|⟨q_51,hx1⟩
 ·obtain ⟨r_52,c35,hx1⟩:=bd_ hx1
  replace c35:=gArith_ok c35
  cases hx1
  exact gEvalB_g
 obtain ⟨x_53,i36z,i36,i36x,hx1⟩:=idx_ (f:=cV) hx1
 obtain ⟨x_54,i37z,i37,i37x,hx1⟩:=idx_ (f:=cV) hx1
 obtain ⟨r_55,c38,hx1⟩:=bd_ hx1
 replace c38:=gComparison_ok c38
 obtain ⟨r_56,c39,hx1⟩:=bd_ hx1
 replace c39:=gOfV2_ok c39
 cases hx1
 exact gEvalB_g
def gEval:Nat→Ex→List Val→Option Val
 | 0,_,_=>none
 | n+1,e,r=>gEvalB (gEval n) e r
theorem gEval_ok : ∀ (n:Nat) {x:Ex} {y:List Val} {r:Val}, gEval n x y=some r→Pure Tryz.prog 49 [.agg (tE x), .one (.lst (y.map cV))] (.val (.agg (cV r)))
 | 0,_,_,_,h=>nomatch h
 | n+1,_,_,_,h=>gEvalB_ok (gEval_ok n) h
set_option maxHeartbeats 8000000
def gEvalRB_B1 (a_e:Ex) (a_row:(List Val)) (rec:Ex→List Val→Option Val):((List Val) × Int)→Option (Step ((List Val) × Int) (Val)):=fun s=>match s with
 | (l_4,i_5)=>bif (decide (i_5<((a_e.args.length:Nat):Int))) then (getI a_e.args i_5).bind fun x_7=>(rec x_7 a_row).bind fun r_8=>bif (decide (l_4.length+1≤4398046511104)) then (some (.next ((l_4++[r_8]),(IntKind.i64.wrap (i_5+(1:Int)))))) else none else
 some (.exit (l_4,i_5))
def gER_K (a_e:Ex) (a_row:(List Val)):Sum ((List Val) × Int) (Val)→Option ((Val))
 | .inl (l_4,i_5)=>bif (decide (a_e.op=(1:Int))) then (gLeaf a_e a_row).bind fun r_10=>some r_10 else
 bif (decide (a_e.op=(2:Int))) then (gLeaf a_e a_row).bind fun r_12=>some r_12 else
 bif (decide (a_e.op=(4:Int))) then (getI l_4 (0:Int)).bind fun x_14=>(gTruth7 x_14).bind fun r_15=>(gNotR r_15).bind fun r_16=>(gOf7 r_16).bind fun r_17=>some r_17 else
 bif (decide (a_e.op=(5:Int))) then (gLogicR a_e.op l_4).bind fun r_19=>some r_19 else
 bif (decide (a_e.op=(6:Int))) then (gLogicR a_e.op l_4).bind fun r_21=>some r_21 else
 bif (decide (a_e.op=(7:Int))) then (getI l_4 (0:Int)).bind fun x_23=>(getI l_4 (1:Int)).bind fun x_24=>(gCompared a_e.op x_23 x_24).bind fun r_25=>(gOf7 r_25).bind fun r_26=>some r_26 else
 bif (decide (a_e.op=(8:Int))) then (getI l_4 (0:Int)).bind fun x_28=>(getI l_4 (1:Int)).bind fun x_29=>(gCompared a_e.op x_28 x_29).bind fun r_30=>(gOf7 r_30).bind fun r_31=>some r_31 else
 bif (decide (a_e.op=(9:Int))) then (getI l_4 (0:Int)).bind fun x_33=>(getI l_4 (1:Int)).bind fun x_34=>(gCompared a_e.op x_33 x_34).bind fun r_35=>(gOf7 r_35).bind fun r_36=>some r_36 else
 bif (decide (a_e.op=(10:Int))) then (getI l_4 (0:Int)).bind fun x_38=>(getI l_4 (1:Int)).bind fun x_39=>(gCompared a_e.op x_38 x_39).bind fun r_40=>(gOf7 r_40).bind fun r_41=>some r_41 else
 bif (decide (a_e.op=(11:Int))) then (getI l_4 (0:Int)).bind fun x_43=>(getI l_4 (1:Int)).bind fun x_44=>(gCompared a_e.op x_43 x_44).bind fun r_45=>(gOf7 r_45).bind fun r_46=>some r_46 else
 bif (decide (a_e.op=(12:Int))) then (getI l_4 (0:Int)).bind fun x_48=>(getI l_4 (1:Int)).bind fun x_49=>(gCompared a_e.op x_48 x_49).bind fun r_50=>(gOf7 r_50).bind fun r_51=>some r_51 else
 bif (decide (a_e.op=(18:Int))) then (gAre l_4 (1:Int)).bind fun r_53=>bif (!r_53) then (gNullR ).bind fun r_55=>some r_55 else
 (getI l_4 (0:Int)).bind fun x_56=>(gIntR (IntKind.i64.wrap (0-x_56.int))).bind fun r_57=>some r_57 else
 bif (decide (a_e.op=(19:Int))) then (gTexts a_e.op l_4).bind fun r_59=>some r_59 else
 bif (decide (a_e.op=(20:Int))) then (gTexts a_e.op l_4).bind fun r_61=>some r_61 else
 bif (decide (a_e.op=(21:Int))) then (getI l_4 (0:Int)).bind fun x_63=>(gBoolR (decide (x_63.kind=(0:Int)))).bind fun r_64=>some r_64 else
 bif (decide (a_e.op=(22:Int))) then (gChosen a_e.op l_4).bind fun r_66=>some r_66 else
 bif (decide (a_e.op=(23:Int))) then (gChosen a_e.op l_4).bind fun r_68=>some r_68 else
 bif (decide (a_e.op=(24:Int))) then (gRelatedR a_e.int l_4).bind fun r_70=>some r_70 else
 (gAre l_4 (1:Int)).bind fun r_71=>bif (!r_71) then (gNullR ).bind fun r_73=>some r_73 else
 (getI l_4 (0:Int)).bind fun x_74=>(getI l_4 (1:Int)).bind fun x_75=>(gComputed a_e.op x_74.int x_75.int).bind fun r_76=>some r_76
 | .inr q=>some q
def gEvalRB (rec:Ex→List Val→Option Val) (a_e:Ex) (a_row:(List Val)):Option (Val):=(gFormedR a_e).bind fun r_1=>bif (!r_1) then (gNullR ).bind fun r_3=>some r_3 else
 (loopM (gEvalRB_B1 a_e a_row rec) fuel ([],(0:Int))).bind (gER_K a_e a_row)
theorem gEvalRB_ok {rec:Ex→List Val→Option Val}  (hrec : ∀ {x:Ex} {y:List Val} {r:Val}, rec x y=some r→Pure Tryz.prog 75 [.agg (tE x), .one (.lst (y.map cV))] (.val (.agg (cV r)))) {a_e:Ex} {a_row:(List Val)} {r:Val} (H:gEvalRB rec a_e a_row=some r):Pure Tryz.prog 75 [.agg (tE a_e), .one (.lst (a_row.map cV))] (.val (.agg (cV r))):=by
 unfold gEvalRB at H
 rw [tE_eq a_e]
 refine po_ Tryz.func75 Tryz.ntmps75 ?_
 obtain ⟨r_1,c1,H⟩:=bd_ H
 replace c1:=gFormedR_ok c1
 try simp only [List.map_append,List.map_cons,List.map_nil,List.nil_append,tE_eq] at c1
 rcases cnd_ H with ⟨q_2,H⟩|⟨q_2,H⟩
 ·obtain ⟨r_3,c2,H⟩:=bd_ H
  replace c2:=gNullR_ok c2
  cases H
  exact go_
 refine gt_ ?_
 refine aw_tok 5 3 rfl ?_
 refine alM_ (fun s:(List Val) × Int=>match s with|(l_4,i_5)=>[(1, .one (.c (.lst (a_row.map cV)))),(2, .one (.ptr 0 0)),(4, .one (.ptr 1 0)),(5, .one (.own (l_4.map cV) 2)),(6, .one (.c (.int .i64 i_5)))]) (fun s=>match s with|(l_4,i_5)=>[.box [.c (.int .i64 a_e.op), .c (.int .i64 a_e.int), .c (.int .i64 a_e.v.kind), .c (.int .i64 a_e.v.int), .c (.str a_e.v.text), .c (.str a_e.nm), .c (.lst (a_e.args.map tE))], .box [.c (.int .i64 (0:Int)), .c (.int .i64 (0:Int)), .c (.str ByteArray.empty)], .spare l_4.length 3]) H (fun _=>Nat.zero_le _)
  (fm_ br_ [] rfl bt_ bo_) ?_
 rintro ⟨l_4,i_5⟩ st1 hb1 hk1
 unfold gEvalRB_B1 at hb1
 dsimp only at hb1 ⊢
 rcases cnd_ hb1 with ⟨q_6,hb1⟩|⟨q_6,hb1⟩
 ·obtain ⟨x_7,i3z,i3,i3x,hb1⟩:=idx_ (f:=tE) hb1
  simp only [List.map_append,List.map_cons,List.map_nil,List.nil_append,tE_eq] at i3x
  obtain ⟨r_8,c4,hb1⟩:=bd_ hb1
  replace c4:=hrec c4
  try simp only [List.map_append,List.map_cons,List.map_nil,List.nil_append,tE_eq] at c4
  obtain ⟨g5,hb1⟩:=grd_d hb1
  cases hb1
  refine gt_ ?_
  exact ⟨_,rfl,fm_ bs_ [] be_ bt_ bo_⟩
 cases hb1
 have hx1:gER_K a_e a_row (.inl (l_4,i_5))=some _:=hk1
 unfold gER_K at hx1
 dsimp only at hx1
 refine gt_ ?_
 rcases cnd_ hx1 with ⟨q_9,hx1⟩|⟨q_9,hx1⟩
 ·obtain ⟨r_10,c6,hx1⟩:=bd_ hx1
  replace c6:=gLeaf_ok c6
  try simp only [List.map_append,List.map_cons,List.map_nil,List.nil_append,tE_eq] at c6
  cases hx1
  exact go_
 rcases cnd_ hx1 with ⟨q_11,hx1⟩|⟨q_11,hx1⟩
 ·obtain ⟨r_12,c7,hx1⟩:=bd_ hx1
  replace c7:=gLeaf_ok c7
  try simp only [List.map_append,List.map_cons,List.map_nil,List.nil_append,tE_eq] at c7
  cases hx1
  exact go_
 rcases cnd_ hx1 with ⟨q_13,hx1⟩|⟨q_13,hx1⟩
 ·obtain ⟨x_14,i8z,i8,i8x,hx1⟩:=idx_ (f:=cV) hx1
  obtain ⟨r_15,c9,hx1⟩:=bd_ hx1
  replace c9:=gTruth7_ok c9
  obtain ⟨r_16,c10,hx1⟩:=bd_ hx1
  replace c10:=gNotR_ok c10
  obtain ⟨r_17,c11,hx1⟩:=bd_ hx1
  replace c11:=gOf7_ok c11
  cases hx1
  exact go_
 refine gt_ ?_
 rcases cnd_ hx1 with ⟨q_18,hx1⟩|⟨q_18,hx1⟩
 ·obtain ⟨r_19,c12,hx1⟩:=bd_ hx1
  replace c12:=gLogicR_ok c12
  cases hx1
  exact go_
 rcases cnd_ hx1 with ⟨q_20,hx1⟩|⟨q_20,hx1⟩
 ·obtain ⟨r_21,c13,hx1⟩:=bd_ hx1
  replace c13:=gLogicR_ok c13
  cases hx1
  exact go_
 rcases cnd_ hx1 with ⟨q_22,hx1⟩|⟨q_22,hx1⟩
 ·obtain ⟨x_23,i14z,i14,i14x,hx1⟩:=idx_ (f:=cV) hx1
  obtain ⟨x_24,i15z,i15,i15x,hx1⟩:=idx_ (f:=cV) hx1
  obtain ⟨r_25,c16,hx1⟩:=bd_ hx1
  replace c16:=gCompared_ok c16
  obtain ⟨r_26,c17,hx1⟩:=bd_ hx1
  replace c17:=gOf7_ok c17
  cases hx1
  exact go_
 refine gt_ ?_
 rcases cnd_ hx1 with ⟨q_27,hx1⟩|⟨q_27,hx1⟩
 ·obtain ⟨x_28,i18z,i18,i18x,hx1⟩:=idx_ (f:=cV) hx1
  obtain ⟨x_29,i19z,i19,i19x,hx1⟩:=idx_ (f:=cV) hx1
  obtain ⟨r_30,c20,hx1⟩:=bd_ hx1
  replace c20:=gCompared_ok c20
  obtain ⟨r_31,c21,hx1⟩:=bd_ hx1
  replace c21:=gOf7_ok c21
  cases hx1
  exact go_
 rcases cnd_ hx1 with ⟨q_32,hx1⟩|⟨q_32,hx1⟩
 ·obtain ⟨x_33,i22z,i22,i22x,hx1⟩:=idx_ (f:=cV) hx1
  obtain ⟨x_34,i23z,i23,i23x,hx1⟩:=idx_ (f:=cV) hx1
  obtain ⟨r_35,c24,hx1⟩:=bd_ hx1
  replace c24:=gCompared_ok c24
  obtain ⟨r_36,c25,hx1⟩:=bd_ hx1
  replace c25:=gOf7_ok c25
  cases hx1
  exact go_
 rcases cnd_ hx1 with ⟨q_37,hx1⟩|⟨q_37,hx1⟩
 ·obtain ⟨x_38,i26z,i26,i26x,hx1⟩:=idx_ (f:=cV) hx1
  obtain ⟨x_39,i27z,i27,i27x,hx1⟩:=idx_ (f:=cV) hx1
  obtain ⟨r_40,c28,hx1⟩:=bd_ hx1
  replace c28:=gCompared_ok c28
  obtain ⟨r_41,c29,hx1⟩:=bd_ hx1
  replace c29:=gOf7_ok c29
  cases hx1
  exact go_
 refine gt_ ?_
 rcases cnd_ hx1 with ⟨q_42,hx1⟩|⟨q_42,hx1⟩
 ·obtain ⟨x_43,i30z,i30,i30x,hx1⟩:=idx_ (f:=cV) hx1
  obtain ⟨x_44,i31z,i31,i31x,hx1⟩:=idx_ (f:=cV) hx1
  obtain ⟨r_45,c32,hx1⟩:=bd_ hx1
  replace c32:=gCompared_ok c32
  obtain ⟨r_46,c33,hx1⟩:=bd_ hx1
  replace c33:=gOf7_ok c33
  cases hx1
  exact go_
 rcases cnd_ hx1 with ⟨q_47,hx1⟩|⟨q_47,hx1⟩
 ·obtain ⟨x_48,i34z,i34,i34x,hx1⟩:=idx_ (f:=cV) hx1
  obtain ⟨x_49,i35z,i35,i35x,hx1⟩:=idx_ (f:=cV) hx1
  obtain ⟨r_50,c36,hx1⟩:=bd_ hx1
  replace c36:=gCompared_ok c36
  obtain ⟨r_51,c37,hx1⟩:=bd_ hx1
  replace c37:=gOf7_ok c37
  cases hx1
  exact go_
 rcases cnd_ hx1 with ⟨q_52,hx1⟩|⟨q_52,hx1⟩
 ·obtain ⟨r_53,c38,hx1⟩:=bd_ hx1
  replace c38:=gAre_ok c38
  refine gt_ ?_
  rcases cnd_ hx1 with ⟨q_54,hx1⟩|⟨q_54,hx1⟩
  ·obtain ⟨r_55,c39,hx1⟩:=bd_ hx1
   replace c39:=gNullR_ok c39
   cases hx1
   exact go_
  obtain ⟨x_56,i40z,i40,i40x,hx1⟩:=idx_ (f:=cV) hx1
  obtain ⟨r_57,c41,hx1⟩:=bd_ hx1
  replace c41:=gIntR_ok c41
  cases hx1
  exact go_
 refine gt_ ?_
 rcases cnd_ hx1 with ⟨q_58,hx1⟩|⟨q_58,hx1⟩
 ·obtain ⟨r_59,c42,hx1⟩:=bd_ hx1
  replace c42:=gTexts_ok c42
  cases hx1
  exact go_
 rcases cnd_ hx1 with ⟨q_60,hx1⟩|⟨q_60,hx1⟩
 ·obtain ⟨r_61,c43,hx1⟩:=bd_ hx1
  replace c43:=gTexts_ok c43
  cases hx1
  exact go_
 rcases cnd_ hx1 with ⟨q_62,hx1⟩|⟨q_62,hx1⟩
 ·obtain ⟨x_63,i44z,i44,i44x,hx1⟩:=idx_ (f:=cV) hx1
  obtain ⟨r_64,c45,hx1⟩:=bd_ hx1
  replace c45:=gBoolR_ok c45
  cases hx1
  exact go_
 refine gt_ ?_
 rcases cnd_ hx1 with ⟨q_65,hx1⟩|⟨q_65,hx1⟩
 ·obtain ⟨r_66,c46,hx1⟩:=bd_ hx1
  replace c46:=gChosen_ok c46
  cases hx1
  exact go_
 rcases cnd_ hx1 with ⟨q_67,hx1⟩|⟨q_67,hx1⟩
 ·obtain ⟨r_68,c47,hx1⟩:=bd_ hx1
  replace c47:=gChosen_ok c47
  cases hx1
  exact go_
 rcases cnd_ hx1 with ⟨q_69,hx1⟩|⟨q_69,hx1⟩
 ·obtain ⟨r_70,c48,hx1⟩:=bd_ hx1
  replace c48:=gRelatedR_ok c48
  cases hx1
  exact go_
 obtain ⟨r_71,c49,hx1⟩:=bd_ hx1
 replace c49:=gAre_ok c49
 refine gt_ ?_
 rcases cnd_ hx1 with ⟨q_72,hx1⟩|⟨q_72,hx1⟩
 ·obtain ⟨r_73,c50,hx1⟩:=bd_ hx1
  replace c50:=gNullR_ok c50
  cases hx1
  exact go_
 obtain ⟨x_74,i51z,i51,i51x,hx1⟩:=idx_ (f:=cV) hx1
 obtain ⟨x_75,i52z,i52,i52x,hx1⟩:=idx_ (f:=cV) hx1
 obtain ⟨r_76,c53,hx1⟩:=bd_ hx1
 replace c53:=gComputed_ok c53
 cases hx1
 exact go_
def gEvalR:Nat→Ex→List Val→Option Val
 | 0,_,_=>none
 | n+1,e,r=>gEvalRB (gEvalR n) e r
theorem gEvalR_ok : ∀ (n:Nat) {x:Ex} {y:List Val} {r:Val}, gEvalR n x y=some r→Pure Tryz.prog 75 [.agg (tE x), .one (.lst (y.map cV))] (.val (.agg (cV r)))
 | 0,_,_,_,h=>nomatch h
 | n+1,_,_,_,h=>gEvalRB_ok (gEvalR_ok n) h
end Go.Proofs.YtfccopdbgfdcdaaGreatDoor
