/- Parts of the proof, joined. No condition. -/
import Derived.Test.YtfccopdbgfdcdaaGreatDoorKAA
import Derived.Test.YtfccopdbgfdcdaaGreatDoorKBQ
import Derived.Test.YtfccopdbgfdcdaaGreatDoorKBI
import Derived.Test.YtfccopdbgfdcdaaGreatDoorKBO
set_option linter.unusedSimpArgs false
set_option linter.unusedVariables false
namespace Go.Proofs.YtfccopdbgfdcdaaGreatDoor
open Go.RowKit Go.MapKept
set_option maxRecDepth 100000
theorem yn (s:ByteArray):(s.toList==(⟨#[]⟩:ByteArray).toList)=true↔s=ByteArray.empty:=by
 rw [beq_iff_eq,ByteArray.toList_eq,ByteArray.toList_eq]
 constructor
 ·intro h
  have:s.data.toList=[]:=h
  obtain ⟨d⟩:=s
  obtain ⟨l⟩:=d
  simp at this
  subst this;rfl
 ·rintro rfl;rfl
structure VV (v:Val):Prop where
 kind:0<=v.kind/\v.kind<=3
 int : -1125899906842624<=v.int/\v.int<=1125899906842624
 text:v.text.size<=200
theorem xq {v:Val} (h:vF v=true):VV v:=by
 have hx:=jG v
 rw [h] at hx
 unfold dQ at hx
 have e0 : ∀ s:ByteArray,s=ByteArray.empty->s.size<=200:=by rintro s rfl;decide
 by_cases k0:v.kind=0
 ·rw [adM k0,adK] at hx
  by_cases i0:v.int=0
  ·rw [adM i0,adK] at hx
   have:=(yn _).1 (aee hx)
   exact ⟨by omega,by omega,e0 _ this⟩
  ·rw [adL i0,adJ] at hx;cases hx
 rw [adL k0,adJ] at hx
 by_cases k1:v.kind=1
 ·rw [adM k1,adK] at hx
  by_cases t0:(v.text.toList==(⟨#[]⟩:ByteArray).toList)=true
  ·rw [t0,adK] at hx
   by_cases i1:(-1125899906842624:Int)<=v.int
   ·rw [adM i1,adK] at hx
    have:=aea (aee hx)
    exact ⟨by omega,⟨i1,this⟩,e0 _ ((yn _).1 t0)⟩
   ·rw [adL i1,adJ] at hx;cases hx
  ·rw [Bool.not_eq_true] at t0
   rw [t0,adJ] at hx;cases hx
 rw [adL k1,adJ] at hx
 by_cases k2:v.kind=2
 ·rw [adM k2,adK] at hx
  by_cases i0:v.int=0
  ·rw [adM i0,adK] at hx
   by_cases t2:((v.text.size:Nat):Int)<=200
   ·exact ⟨by omega,by omega,by omega⟩
   ·rw [adL t2,adJ] at hx;cases hx
  ·rw [adL i0,adJ] at hx;cases hx
 rw [adL k2,adJ] at hx
 by_cases k3:v.kind=3
 ·rw [adM k3,adK] at hx
  by_cases t0:(v.text.toList==(⟨#[]⟩:ByteArray).toList)=true
  ·rw [t0,adK] at hx
   by_cases i0:v.int=0
   ·exact ⟨by omega,by omega,e0 _ ((yn _).1 t0)⟩
   ·rw [adL i0,adJ] at hx
    have:=aea (aee hx)
    exact ⟨by omega,by omega,e0 _ ((yn _).1 t0)⟩
  ·rw [Bool.not_eq_true] at t0
   rw [t0,adJ] at hx;cases hx
 rw [adL k3,adJ] at hx
 cases hx
theorem VV.vok {v:Val} (h:VV v):VOK v:=⟨⟨by have:=h.kind;omega,by have:=h.kind;omega⟩,⟨by have:=h.int;omega,by have:=h.int;omega⟩,by have:=h.text;omega⟩
abbrev ab8 (n:Int):Val:=Jk ⟨1,n,ByteArray.empty⟩
abbrev acx (s:ByteArray):Val:=Jk ⟨2,0,s⟩
def ZK (op a b:Int):Val:=(dK op a b).getD jr
theorem aaM {a:Int} (h : -1125899906842624<=a/\a<=1125899906842624):zg a (IntKind.i64.wrap (0-a))=(a.natAbs:Int):=by
 rw [fJ (by omega)]
 unfold zg
 split<;>omega
theorem Jl (a b:Int):yg a b=dK 15 a b:=by
 unfold yg dK
 rw [show decide ((15:Int)=13)=false from rfl,show decide ((15:Int)=14)=false from rfl,show decide ((15:Int)=15)=true from rfl]
 simp only [adK,adJ]
 cases decide (a≠0) with
 | false=>simp only [adJ];rw [mQ,kH]
 | true =>
  simp only [adK]
  unfold UZ
  simp only [adH]
  rw [mQ,kH]
  rfl
theorem NG {op a b:Int} (ha : -1125899906842624<=a/\a<=1125899906842624) : ∃ v,dK op a b=some v/\vF v=true:=by
 unfold dK
 simp only [kH,adH,bV]
 cases decide (op=13) with
 | true=>exact ⟨_,rfl,rG _⟩
 | false =>
 cases decide (op=14) with
 | true=>exact ⟨_,rfl,rG _⟩
 | false =>
 cases decide (op=15) with
 | true =>
  simp only [adK,adJ]
  by_cases h:a=0
  ·subst h;exact ⟨_,rfl,rG _⟩
  ·rw [adM (show a≠0 from h),adK]
   unfold UZ
   simp only [adH]
   rw [aaM ha,adM (show ((a.natAbs:Nat):Int)≠0 by omega),adK]
   generalize decide (IntKind.i64.wrap ((1125899906842624:Int).tdiv ((a.natAbs:Nat):Int))<zg b (IntKind.i64.wrap (0-b)))=c
   cases c with
   | true=>exact ⟨_,rfl,mX⟩
   | false=>exact ⟨_,rfl,rG _⟩
 | false =>
  simp only [adJ]
  by_cases h:b=0
  ·rw [adM h];exact ⟨_,rfl,mX⟩
  ·rw [adL h,adM (show b≠0 from h)]
   simp only [adK,adJ]
   cases decide (op=16) with
   | true=>exact ⟨_,rfl,rG _⟩
   | false=>exact ⟨_,rfl,rG _⟩
theorem gJ {op a b:Int} (ha : -1125899906842624<=a/\a<=1125899906842624):dK op a b=some (ZK op a b)/\vF (ZK op a b)=true:=by
 obtain ⟨v,h1,h2⟩:=NG (op:=op) (b:=b) ha
 unfold ZK
 rw [h1];exact ⟨rfl,h2⟩
theorem F6 (l:List Val) (hl:l.length<=1000000):az (tZ l) fuel (0:Int)=some (bif fM l 1 then .inl ((l.length:Nat):Int) else .inr jr):=by
 rw [bW (l:=l) (mk:=fun (_:Unit) i=>i) (f:=fun _ v=>some (if v.kind≠1 then .inr jr else .inl ())) ?_ ?_ (by unfold fuel;omega) ()]
 ·have : ∀ l:List Val,dh (ρ:=Val) (fun (_:Unit) (v:Val)=>some (if v.kind≠1 then .inr jr else .inl ())) () l=some (if fM l 1=true then .inl () else .inr jr):=by
   intro l
   induction l with
   | nil=>rfl
   | cons v l ih =>
    rw [dh]
    by_cases h:v.kind=1
    ·simp only [ne_eq,h,not_true_eq_false,if_false]
     rw [ih];simp [fM,h]
    ·simp [fM,h]
  rw [this]
  cases fM l 1<;>rfl
 ·intro s i x hx
  have hi:=(adI.1 hx).1
  unfold tZ
  dsimp only
  rw [aI hx,adK,gn_ hx,wrapN (by omega)]
  simp only [adH]
  by_cases h:x.kind=1
  ·simp [h,tF]
  ·simp [h,tF,mo]
 ·intro s
  unfold tZ
  dsimp only
  rw [lF_,adJ]
def fP (op:Int) (a b:Val):Val:=bif fM [a,b] 1 then ZK op a.int b.int else jr
theorem pQ {op:Int} {a b:Val} (ha:VV a) (h:op=13\/op=14\/op=15\/op=16\/op=17):mY op [a,b]=some (fP op a b):=by
 unfold mY fP
 rw [F6 _ (by simp)]
 cases fM [a,b] 1 with
 | false=>rfl
 | true =>
  simp only [adK,adH]
  have hc:=(gJ (op:=op) (b:=b.int) ha.int).1
  rw [<- hc]
  unfold oH
  dsimp only
  rw [show aA [a,b] (0:Int)=some a from rfl,adH,show aA [a,b] (IntKind.i64.wrap ((([a,b].length:Nat):Int)-1))=some b from rfl,adH]
  rcases h with rfl|rfl|rfl|rfl|rfl
  ·unfold dK
   rw [show decide ((13:Int)=13)=true from rfl,adK,adK,kH,mQ]
  ·unfold dK
   rw [show decide ((14:Int)=13)=false from rfl,show decide ((14:Int)=14)=true from rfl]
   simp only [adK,adJ]
   rw [kH,mQ]
  ·rw [show decide ((15:Int)=13)=false from rfl,show decide ((15:Int)=14)=false from rfl,show decide ((15:Int)=15)=true from rfl]
   simp only [adK,adJ]
   rw [Jl]
   cases dK 15 a.int b.int<;>rfl
  ·unfold dK
   rw [show decide ((16:Int)=13)=false from rfl,show decide ((16:Int)=14)=false from rfl,show decide ((16:Int)=15)=false from rfl,show decide ((16:Int)=18)=false from rfl,show decide ((16:Int)=16)=true from rfl]
   simp only [adK,adJ,mQ,kH,mo,bV]
  ·unfold dK
   rw [show decide ((17:Int)=13)=false from rfl,show decide ((17:Int)=14)=false from rfl,show decide ((17:Int)=15)=false from rfl,show decide ((17:Int)=18)=false from rfl,show decide ((17:Int)=16)=false from rfl]
   simp only [adK,adJ,mQ,kH,mo,bV]
def Od (a:Val):Val:=bif fM [a] 1 then ab8 (IntKind.i64.wrap (0-a.int)) else jr
theorem RJ (a:Val):mY 18 [a]=some (Od a):=by
 unfold mY Od
 rw [F6 _ (by simp)]
 cases fM [a] 1 with
 | false=>rfl
 | true =>
  simp only [adK,adH]
  show (qi _).bind _=_
  rw [mQ];rfl
def MF (a b:Val):Val:=bif fM [a,b] 2 then acx (a.text++b.text) else jr
def Me (a:Val):Val:=bif fM [a] 2 then ab8 ((a.text.size:Nat):Int) else jr
theorem RX {a b:Val} (ha:VV a) (hb:VV b):xX 19 [a,b]=some (MF a b):=by
 unfold xX MF
 rw [nD _ _ (by simp),adH]
 cases fM [a,b] 2 with
 | false=>rfl
 | true =>
  have h1:=ha.text
  have h2:=hb.text
  rw [Bool.not_true,adJ,adK,show decide ((19:Int)=19)=true from rfl,adK,show aA [a,b] (0:Int)=some a from rfl,adH,show aA [a,b] (1:Int)=some b from rfl,adH]
  rw [adM (show a.text.size+b.text.size<=9223372036854775807 by omega),adK,VM];rfl
theorem RZ (a:Val):xX 20 [a]=some (Me a):=by
 unfold xX Me
 rw [nD _ _ (by simp),adH]
 cases fM [a] 2 with
 | false=>rfl
 | true =>
  rw [Bool.not_true,adJ,adK,show decide ((20:Int)=19)=false from rfl,adJ,show aA [a] (0:Int)=some a from rfl,adH,kH];rfl
def qO (p:Int × ByteArray) (x:Val):Option (Sum (Int × ByteArray) Val):=bif decide (x.kind≠2) then some (.inr jr) else bif decide (p.2.size+x.text.size<=9223372036854775807) then some (.inl (IntKind.i64.wrap (p.1+((x.text.size:Nat):Int)),p.2++x.text)) else none
theorem Io (op:Int) (l:List Val) (hl:l.length<=1000000):yb op l=(Gm (fun (p:Int × ByteArray) i=>(p.1,p.2,i)) l.length (dh qO (0,⟨#[]⟩) l)).bind (n_ op):=by
 unfold yb
 rw [bW (l:=l) (mk:=fun (p:Int × ByteArray) i=>(p.1,p.2,i)) (f:=qO) ?_ ?_ (by unfold fuel;omega) ((0:Int),(⟨#[]⟩:ByteArray))]
 ·intro s i x hx
  have hi:=(adI.1 hx).1
  unfold yP qO
  dsimp only
  rw [aI hx,adK,gn_ hx,wrapN (by omega)]
  simp only [adH]
  cases decide (x.kind≠2) with
  | true=>rfl
  | false =>
   simp only [adJ]
   cases decide (s.2.size+x.text.size<=9223372036854775807)<;>rfl
 ·intro s
  unfold yP
  dsimp only
  rw [lF_,adJ]
theorem YZ (s:ByteArray):(⟨#[]⟩:ByteArray)++s=s:=by
 apply ByteArray.ext
 simp
theorem RV {a b:Val} (ha:VV a) (hb:VV b):yb 19 [a,b]=some (MF a b):=by
 have h1:=ha.text
 have h2:=hb.text
 have h0:(⟨#[]⟩:ByteArray).size=0:=rfl
 rw [Io _ _ (by simp)]
 unfold MF
 by_cases ka:a.kind=2
 ·by_cases kb:b.kind=2
  ·have e:fM [a,b] 2=true:=by simp [fM,ka,kb]
   rw [e]
   simp only [dh,qO]
   rw [adL (show ¬ a.kind≠2 by omega),adJ,adM (show (⟨#[]⟩:ByteArray).size+a.text.size<=9223372036854775807 by rw [h0];omega),adK]
   simp only []
   rw [adL (show ¬ b.kind≠2 by omega),adJ,YZ,adM (show a.text.size+b.text.size<=9223372036854775807 by omega),adK]
   show (C_ (a.text++b.text)).bind _=_
   rw [Ur];rfl
  ·have e:fM [a,b] 2=false:=by simp [fM,kb]
   rw [e]
   simp only [dh,qO]
   rw [adL (show ¬ a.kind≠2 by omega),adJ,adM (show (⟨#[]⟩:ByteArray).size+a.text.size<=9223372036854775807 by rw [h0];omega),adK]
   simp only []
   rw [adM (show b.kind≠2 from kb),adK];rfl
 ·have e:fM [a,b] 2=false:=by simp [fM,ka]
  rw [e]
  simp only [dh,qO]
  rw [adM (show a.kind≠2 from ka),adK];rfl
theorem R5 {a:Val} (ha:VV a):yb 20 [a]=some (Me a):=by
 have h1:=ha.text
 have h0:(⟨#[]⟩:ByteArray).size=0:=rfl
 rw [Io _ _ (by simp)]
 unfold Me
 by_cases ka:a.kind=2
 ·have e:fM [a] 2=true:=by simp [fM,ka]
  rw [e]
  simp only [dh,qO]
  rw [adL (show ¬ a.kind≠2 by omega),adJ,adM (show (⟨#[]⟩:ByteArray).size+a.text.size<=9223372036854775807 by rw [h0];omega),adK]
  show (qi (IntKind.i64.wrap (0+((a.text.size:Nat):Int)))).bind _=_
  rw [mQ,Int.zero_add,fJ (by omega)];rfl
 ·have e:fM [a] 2=false:=by simp [fM,ka]
  rw [e]
  simp only [dh,qO]
  rw [adM (show a.kind≠2 from ka),adK];rfl
def NB (rel:Int) (a b c d:Val):Val :=
 bif fM [a,b,c,d] 1 then (if aM ⟨a.int,b.int⟩=true/\aM ⟨c.int,d.int⟩=true then nu (decide (dM ⟨a.int,b.int⟩ ⟨c.int,d.int⟩=rel)) else jr) else jr
theorem ND (rel:Int) (a b c d:Val):su rel [a,b,c,d]=some (NB rel a b c d):=by
 unfold su NB
 rw [nD _ _ (by simp),adH]
 cases fM [a,b,c,d] 1 with
 | false=>exact congrArg (fun o:Option Val=>o.bind fun r=>some r) bV
 | true =>
  rw [Bool.not_true,adJ,adK,show aA [a,b,c,d] (0:Int)=some a from rfl,show aA [a,b,c,d] (1:Int)=some b from rfl,show aA [a,b,c,d] (2:Int)=some c from rfl,show aA [a,b,c,d] (3:Int)=some d from rfl]
  rw [adH,adH,adH,adH,Ws,adH]
  generalize dM ⟨a.int,b.int⟩ ⟨c.int,d.int⟩=x
  generalize aM ⟨a.int,b.int⟩=y
  generalize aM ⟨c.int,d.int⟩=z
  cases y<;>cases z
  ·exact congrArg (fun o:Option Val=>o.bind fun r=>some r) bV
  ·exact congrArg (fun o:Option Val=>o.bind fun r=>some r) bV
  ·exact congrArg (fun o:Option Val=>o.bind fun r=>some r) bV
  ·exact congrArg (fun o:Option Val=>o.bind fun r=>some r) (yX _)
theorem Pp (rel:Int) (a b c d:Val):xK rel [a,b,c,d]=some (NB rel a b c d):=by
 unfold xK NB BO
 rw [show aA [a,b,c,d] (0:Int)=some a from rfl,show aA [a,b,c,d] (1:Int)=some b from rfl,show aA [a,b,c,d] (2:Int)=some c from rfl,show aA [a,b,c,d] (3:Int)=some d from rfl]
 simp only [adH]
 rw [Tp,adH,mo]
 have e:fM [a,b,c,d] 1=((decide (a.kind=1)&&decide (b.kind=1))&&(decide (c.kind=1)&&decide (d.kind=1))):=by
  simp [fM,Bool.and_assoc]
 rw [e]
 generalize (decide (a.kind=1)&&decide (b.kind=1))=u
 generalize (decide (c.kind=1)&&decide (d.kind=1))=v
 generalize dM ⟨a.int,b.int⟩ ⟨c.int,d.int⟩=x
 generalize aM ⟨a.int,b.int⟩=y
 generalize aM ⟨c.int,d.int⟩=z
 cases u
 ·rfl
 cases v
 ·rfl
 cases y<;>cases z
 ·rfl
 ·rfl
 ·rfl
 ·exact congrArg (fun o:Option Val=>o.bind fun r=>some r) (J7 _)
theorem dJ {n k:Int} : decide (n=k)=(decide (k<=n)&&decide (n<=k)):=by
 rw [Bool.eq_iff_iff];simp only [ad1,decide_eq_true_eq];omega
theorem LV {n k:Int} (h:n<=1099511627776):decide (k<=n)=(decide (k<=n)&&decide (n<=1099511627776)):=by
 rw [adM h,Bool.and_true]
def kS (op:Int):Int × Int:=(v_ op).getD (-1,0)
theorem qM (op n:Int) (h:n<=1099511627776):v_ op=some (kS op)/\vH op n=some (decide (0<=(kS op).1)&&(decide ((kS op).1<=n)&&decide (n<=(kS op).2)),decide (0<=(kS op).1))/\(0<=(kS op).1->op=1\/op=2\/op=4\/op=5\/op=6\/op=7\/op=8\/op=9\/op=10\/op=11\/op=12\/op=13\/op=14\/op=15\/op=16\/op=17\/op=18\/op=19\/op=20\/op=21\/op=22\/op=23\/op=24) /\ -1<=(kS op).1:=by
 by_cases h1:op=1
 ·subst h1
  refine ⟨rfl,?_,fun _=>by simp,by decide⟩
  show some (decide (n=0),true)=some (true&&(decide ((0:Int)<=n)&&decide (n<=0)),true)
  rw [aef, <- dJ]
 by_cases h2:op=2
 ·subst h2
  refine ⟨rfl,?_,fun _=>by simp,by decide⟩
  show some (decide (n=0),true)=some (true&&(decide ((0:Int)<=n)&&decide (n<=0)),true)
  rw [aef, <- dJ]
 by_cases h4:op=4
 ·subst h4
  refine ⟨rfl,?_,fun _=>by simp,by decide⟩
  show some (decide (n=1),true)=some (true&&(decide ((1:Int)<=n)&&decide (n<=1)),true)
  rw [aef, <- dJ]
 by_cases h5:op=5
 ·subst h5
  refine ⟨rfl,?_,fun _=>by simp,by decide⟩
  show some (decide ((2:Int)<=n),true)=some (true&&(decide ((2:Int)<=n)&&decide (n<=1099511627776)),true)
  rw [aef, <- LV h]
 by_cases h6:op=6
 ·subst h6
  refine ⟨rfl,?_,fun _=>by simp,by decide⟩
  show some (decide ((2:Int)<=n),true)=some (true&&(decide ((2:Int)<=n)&&decide (n<=1099511627776)),true)
  rw [aef, <- LV h]
 by_cases h7:op=7
 ·subst h7
  refine ⟨rfl,?_,fun _=>by simp,by decide⟩
  show some (decide (n=2),true)=some (true&&(decide ((2:Int)<=n)&&decide (n<=2)),true)
  rw [aef, <- dJ]
 by_cases h8:op=8
 ·subst h8
  refine ⟨rfl,?_,fun _=>by simp,by decide⟩
  show some (decide (n=2),true)=some (true&&(decide ((2:Int)<=n)&&decide (n<=2)),true)
  rw [aef, <- dJ]
 by_cases h9:op=9
 ·subst h9
  refine ⟨rfl,?_,fun _=>by simp,by decide⟩
  show some (decide (n=2),true)=some (true&&(decide ((2:Int)<=n)&&decide (n<=2)),true)
  rw [aef, <- dJ]
 by_cases h10:op=10
 ·subst h10
  refine ⟨rfl,?_,fun _=>by simp,by decide⟩
  show some (decide (n=2),true)=some (true&&(decide ((2:Int)<=n)&&decide (n<=2)),true)
  rw [aef, <- dJ]
 by_cases h11:op=11
 ·subst h11
  refine ⟨rfl,?_,fun _=>by simp,by decide⟩
  show some (decide (n=2),true)=some (true&&(decide ((2:Int)<=n)&&decide (n<=2)),true)
  rw [aef, <- dJ]
 by_cases h12:op=12
 ·subst h12
  refine ⟨rfl,?_,fun _=>by simp,by decide⟩
  show some (decide (n=2),true)=some (true&&(decide ((2:Int)<=n)&&decide (n<=2)),true)
  rw [aef, <- dJ]
 by_cases h13:op=13
 ·subst h13
  refine ⟨rfl,?_,fun _=>by simp,by decide⟩
  show some (decide (n=2),true)=some (true&&(decide ((2:Int)<=n)&&decide (n<=2)),true)
  rw [aef, <- dJ]
 by_cases h14:op=14
 ·subst h14
  refine ⟨rfl,?_,fun _=>by simp,by decide⟩
  show some (decide (n=2),true)=some (true&&(decide ((2:Int)<=n)&&decide (n<=2)),true)
  rw [aef, <- dJ]
 by_cases h15:op=15
 ·subst h15
  refine ⟨rfl,?_,fun _=>by simp,by decide⟩
  show some (decide (n=2),true)=some (true&&(decide ((2:Int)<=n)&&decide (n<=2)),true)
  rw [aef, <- dJ]
 by_cases h16:op=16
 ·subst h16
  refine ⟨rfl,?_,fun _=>by simp,by decide⟩
  show some (decide (n=2),true)=some (true&&(decide ((2:Int)<=n)&&decide (n<=2)),true)
  rw [aef, <- dJ]
 by_cases h17:op=17
 ·subst h17
  refine ⟨rfl,?_,fun _=>by simp,by decide⟩
  show some (decide (n=2),true)=some (true&&(decide ((2:Int)<=n)&&decide (n<=2)),true)
  rw [aef, <- dJ]
 by_cases h18:op=18
 ·subst h18
  refine ⟨rfl,?_,fun _=>by simp,by decide⟩
  show some (decide (n=1),true)=some (true&&(decide ((1:Int)<=n)&&decide (n<=1)),true)
  rw [aef, <- dJ]
 by_cases h19:op=19
 ·subst h19
  refine ⟨rfl,?_,fun _=>by simp,by decide⟩
  show some (decide (n=2),true)=some (true&&(decide ((2:Int)<=n)&&decide (n<=2)),true)
  rw [aef, <- dJ]
 by_cases h20:op=20
 ·subst h20
  refine ⟨rfl,?_,fun _=>by simp,by decide⟩
  show some (decide (n=1),true)=some (true&&(decide ((1:Int)<=n)&&decide (n<=1)),true)
  rw [aef, <- dJ]
 by_cases h21:op=21
 ·subst h21
  refine ⟨rfl,?_,fun _=>by simp,by decide⟩
  show some (decide (n=1),true)=some (true&&(decide ((1:Int)<=n)&&decide (n<=1)),true)
  rw [aef, <- dJ]
 by_cases h22:op=22
 ·subst h22
  refine ⟨rfl,?_,fun _=>by simp,by decide⟩
  show some (decide (n=3),true)=some (true&&(decide ((3:Int)<=n)&&decide (n<=3)),true)
  rw [aef, <- dJ]
 by_cases h23:op=23
 ·subst h23
  refine ⟨rfl,?_,fun _=>by simp,by decide⟩
  show some (decide ((1:Int)<=n),true)=some (true&&(decide ((1:Int)<=n)&&decide (n<=1099511627776)),true)
  rw [aef, <- LV h]
 by_cases h24:op=24
 ·subst h24
  refine ⟨rfl,?_,fun _=>by simp,by decide⟩
  show some (decide (n=4),true)=some (true&&(decide ((4:Int)<=n)&&decide (n<=4)),true)
  rw [aef, <- dJ]
 have e1:v_ op=some (-1,0):=by
  unfold v_;simp only [adL h1,adL h2,adL h4,adL h5,adL h6,adL h7,adL h8,adL h9,adL h10,adL h11,adL h12,adL h13,adL h14,adL h15,adL h16,adL h17,adL h18,adL h19,adL h20,adL h21,adL h22,adL h23,adL h24,adJ]
 have e2:vH op n=some (false,false):=by
  unfold vH;simp only [adL h1,adL h2,adL h4,adL h5,adL h6,adL h7,adL h8,adL h9,adL h10,adL h11,adL h12,adL h13,adL h14,adL h15,adL h16,adL h17,adL h18,adL h19,adL h20,adL h21,adL h22,adL h23,adL h24,adJ]
 have e3:kS op=(-1,0):=by unfold kS;rw [e1];rfl
 rw [e1,e2,e3]
 exact ⟨rfl,rfl,fun h=>absurd h (by decide),by decide⟩
theorem ar1:kS 1=(0,0):=rfl
theorem ar2:kS 2=(0,0):=rfl
theorem ar4:kS 4=(1,1):=rfl
theorem ar5:kS 5=(2,1099511627776):=rfl
theorem ar6:kS 6=(2,1099511627776):=rfl
theorem ar7:kS 7=(2,2):=rfl
theorem ar8:kS 8=(2,2):=rfl
theorem ar9:kS 9=(2,2):=rfl
theorem ado:kS 10=(2,2):=rfl
theorem adk:kS 11=(2,2):=rfl
theorem adz:kS 12=(2,2):=rfl
theorem acH:kS 13=(2,2):=rfl
theorem abP:kS 14=(2,2):=rfl
theorem abV:kS 15=(2,2):=rfl
theorem abR:kS 16=(2,2):=rfl
theorem acm:kS 17=(2,2):=rfl
theorem ac5:kS 18=(1,1):=rfl
theorem adn:kS 19=(2,2):=rfl
theorem ade:kS 20=(1,1):=rfl
theorem adw:kS 21=(1,1):=rfl
theorem abr:kS 22=(3,3):=rfl
theorem adc:kS 23=(1,1099511627776):=rfl
theorem ac7:kS 24=(4,4):=rfl
def jk (e:Ex):Bool:=(jo e).getD false
def Rm (v:Val):Bool:=dw [.c (.int .i64 v.kind), .c (.int .i64 v.int), .c (.str v.text)] [.c (.int .i64 (0:Int)), .c (.int .i64 (0:Int)), .c (.str ByteArray.empty)]
def wM (e:Ex):Bool:=(e.nm.toList==(⟨#[]⟩:ByteArray).toList)&&(if e.op=1 then decide (e.int=0)&&vF e.v else if e.op=2 then Rm e.v else if e.op=24 then Rm e.v&&(decide (0<=e.int)&&decide (e.int<13)) else decide (e.int=0)&&Rm e.v)
theorem qR (e:Ex) (h:e.args.length<=100000):jo e=some ((decide (0<=(kS e.op).1)&&(decide ((kS e.op).1<=((e.args.length:Nat):Int))&&decide (((e.args.length:Nat):Int)<=(kS e.op).2)))&&wM e)/\qw e=some ((decide (0<=(kS e.op).1)&&(decide ((kS e.op).1<=((e.args.length:Nat):Int))&&decide (((e.args.length:Nat):Int)<=(kS e.op).2)))&&wM e):=by
 obtain ⟨h1,h2,h3,h4⟩:=qM e.op ((e.args.length:Nat):Int) (by omega)
 generalize kS e.op=a at h1 h2 h3 h4
 obtain ⟨lo,hi⟩:=a
 dsimp only at h1 h2 h3 h4 ⊢
 have hR:jo e=(bif decide (0<=lo)&&(decide (lo<=((e.args.length:Nat):Int))&&decide (((e.args.length:Nat):Int)<=hi)) then some (wM e) else some false):=by
  unfold jo
  rw [h1,adH]
  dsimp only
  by_cases c1:0<=lo
  ·rw [adL (show ¬ lo<0 by omega),adM c1,adJ,aef]
   by_cases c2:lo<=((e.args.length:Nat):Int)
   ·rw [adL (show ¬ ((e.args.length:Nat):Int)<lo by omega),adM c2,adJ,aef]
    by_cases c3:((e.args.length:Nat):Int)<=hi
    ·rw [adL (show ¬ hi<((e.args.length:Nat):Int) by omega),adM c3,adJ,adK]
     unfold wM
     cases (e.nm.toList==(⟨#[]⟩:ByteArray).toList) with
     | false=>rfl
     | true =>
      rw [Bool.not_true,adJ,aef]
      by_cases o1:e.op=1
      ·rw [adM o1,adK,if_pos o1,jG]
       cases decide (e.int=0)<;>rfl
      ·rw [adL o1,adJ,if_neg o1,bV]
       by_cases o2:e.op=2
       ·rw [adM o2,adK,if_pos o2];rfl
       ·rw [adL o2,adJ,if_neg o2]
        by_cases o3:e.op=24
        ·rw [adM o3,adK,if_pos o3]
         show (bif Rm e.v then _ else _)=_
         cases Rm e.v
         ·rfl
         ·rw [adK,aef]
          cases decide (0<=e.int)<;>rfl
        ·rw [adL o3,adJ,if_neg o3]
         cases decide (e.int=0)<;>rfl
    ·rw [adM (show hi<((e.args.length:Nat):Int) by omega),adL c3,adK];rfl
   ·rw [adM (show ((e.args.length:Nat):Int)<lo by omega),adL c2,adK];rfl
  ·rw [adM (show lo<0 by omega),adL c1,adK];rfl
 have hP:qw e=(bif decide (0<=lo)&&(decide (lo<=((e.args.length:Nat):Int))&&decide (((e.args.length:Nat):Int)<=hi)) then some (wM e) else some false):=by
  unfold qw
  rw [h2,adH]
  dsimp only
  cases (decide (0<=lo)&&(decide (lo<=((e.args.length:Nat):Int))&&decide (((e.args.length:Nat):Int)<=hi))) with
  | false=>rfl
  | true =>
   rw [Bool.not_true,adJ,adK]
   unfold wM
   cases (e.nm.toList==(⟨#[]⟩:ByteArray).toList) with
   | false=>rfl
   | true =>
    rw [Bool.not_true,adJ,aef]
    by_cases o1:e.op=1
    ·rw [adM o1,adK,if_pos o1,Al]
     cases decide (e.int=0)<;>rfl
    ·rw [adL o1,adJ,if_neg o1]
     by_cases o3:e.op=24
     ·have o2 : ¬ e.op=2:=by omega
      rw [adM o3,adK,if_neg o2,if_pos o3]
      by_cases i1:0<=e.int
      ·rw [adL (show ¬ e.int<0 by omega),adJ,adM i1,aef]
       by_cases i2:e.int<13
       ·rw [adL (show ¬ 13<=e.int by omega),adJ,adM i2,Bool.and_true];rfl
       ·rw [adM (show 13<=e.int by omega),adK,adL i2,Bool.and_false]
      ·rw [adM (show e.int<0 by omega),adK,adL i1,Bool.false_and,Bool.and_false]
     ·rw [adL o3,adJ]
      by_cases o2:e.op=2
      ·rw [adM o2,adK,if_pos o2];rfl
      ·rw [adL o2,adJ,if_neg o2,if_neg o3]
       cases decide (e.int=0)<;>rfl
 rw [hR,hP]
 cases (decide (0<=lo)&&(decide (lo<=((e.args.length:Nat):Int))&&decide (((e.args.length:Nat):Int)<=hi)))<;>exact ⟨rfl,rfl⟩
theorem qC {e:Ex} (h:e.args.length<=100000):jo e=some (jk e):=by unfold jk;rw [(qR e h).1];rfl
theorem Gi {e:Ex} (h:e.args.length<=100000):qw e=some (jk e):=by unfold jk;rw [(qR e h).2,(qR e h).1];rfl
theorem o6 {e:Ex} (h:e.args.length<=100000) (hf:jk e=true):(e.op=1\/e.op=2\/e.op=4\/e.op=5\/e.op=6\/e.op=7\/e.op=8\/e.op=9\/e.op=10\/e.op=11\/e.op=12\/e.op=13\/e.op=14\/e.op=15\/e.op=16\/e.op=17\/e.op=18\/e.op=19\/e.op=20\/e.op=21\/e.op=22\/e.op=23\/e.op=24)/\(kS e.op).1<=((e.args.length:Nat):Int)/\((e.args.length:Nat):Int)<=(kS e.op).2/\wM e=true:=by
 obtain ⟨_,_,h3,_⟩:=qM e.op ((e.args.length:Nat):Int) (by omega)
 unfold jk at hf
 rw [(qR e h).1,Option.getD_some,ad1,ad1,ad1] at hf
 exact ⟨h3 (aea hf.1.1),aea hf.1.2.1,aea hf.1.2.2,hf.2⟩
theorem I4 {e:Ex} (h:e.op=1) (hr:wM e=true):vF e.v=true:=by
 unfold wM at hr
 rw [if_pos h,ad1,ad1] at hr
 exact hr.2.2
set_option maxHeartbeats 8000000
def Ff (rec:Ex->List Val->Option Val) (a_e:Ex) (a_row:(List Val)):Option (Int):=(rec a_e a_row).bind fun r_1=>(lY r_1).bind fun r_2=>some r_2
theorem RI {rec:Ex->List Val->Option Val}  (hrec : ∀ {x:Ex} {y:List Val} {r:Val}, rec x y=some r->Pure Tryz.prog 49 [.agg (tE x), .one (.lst (y.map cV))] (.val (.agg (cV r)))) {a_e:Ex} {a_row:(List Val)} {r:Int} (H:Ff rec a_e a_row=some r):Pure Tryz.prog 46 [.agg (tE a_e), .one (.lst (a_row.map cV))] (.val (.one (.int .i64 r))):=by
 unfold Ff at H
 rw [aj a_e]
 refine po_ Tryz.func46 Tryz.ntmps46 ?_
 obtain ⟨r_1,c1,H⟩:=bd_ H
 replace c1:=hrec c1
 try simp only [adV,adT,adX,adN,aj] at c1
 obtain ⟨r_2,c2,H⟩:=bd_ H
 replace c2:=pJ c2
 cases H
 exact af
def tq (c_15:(List Val)):(Int)->Option (Step (Int) (Val)):=fun s=>match s with
 | v_30=>bif (decide (v_30<((c_15.length:Nat):Int))) then (aA c_15 v_30).bind fun x_32=>bif (decide (x_32.kind≠(0:Int))) then some (.ret x_32) else
 some (.next (IntKind.i64.wrap (v_30+(1:Int)))) else
 some (.exit v_30)
def oz:Sum (Int) (Val)->Option ((Val))
 | .inl v_30=>(ma ).bind fun r_34=>some r_34
 | .inr q=>some q
def sD (a_e:Ex) (a_row:(List Val)) (rec:Ex->List Val->Option Val):((List Val) × Int)->Option (Step ((List Val) × Int) (Val)):=fun s=>match s with
 | (c_15,v_16)=>bif (decide (v_16<((a_e.args.length:Nat):Int))) then (aA a_e.args v_16).bind fun x_18=>(rec x_18 a_row).bind fun r_19=>bif (decide (0<=v_16)) then (bif (decide (v_16<((a_e.args.length:Nat):Int))) then (bif (decide ((0+v_16.toNat)<c_15.length)) then (some (.next ((c_15.set (0+v_16.toNat) r_19),(IntKind.i64.wrap (v_16+(1:Int)))))) else none) else none) else none else
 some (.exit (c_15,v_16))
def bD (a_e:Ex):Sum ((List Val) × Int) (Val)->Option ((Val))
 | .inl (c_15,v_16)=>bif (decide (c_15.length=a_e.args.length)) then (bif (decide (a_e.op=(4:Int))) then (o9 a_e.op c_15).bind fun r_21=>some r_21 else
 bif (decide (a_e.op=(5:Int))) then (o9 a_e.op c_15).bind fun r_23=>some r_23 else
 bif (decide (a_e.op=(6:Int))) then (o9 a_e.op c_15).bind fun r_25=>some r_25 else
 bif (decide (a_e.op=(21:Int))) then (aA c_15 (0:Int)).bind fun x_27=>(wY (decide (x_27.kind=(0:Int)))).bind fun r_28=>some r_28 else
 bif (decide (a_e.op=(23:Int))) then (az (tq c_15) fuel (0:Int)).bind (oz) else
 bif (decide (a_e.op=(24:Int))) then (xK a_e.int c_15).bind fun r_36=>some r_36 else
 bif (decide (a_e.op=(19:Int))) then (yb a_e.op c_15).bind fun r_38=>some r_38 else
 bif (decide (a_e.op=(20:Int))) then (yb a_e.op c_15).bind fun r_40=>some r_40 else
 bif (decide (a_e.op=(13:Int))) then (mY a_e.op c_15).bind fun r_42=>some r_42 else
 bif (decide (a_e.op=(14:Int))) then (mY a_e.op c_15).bind fun r_44=>some r_44 else
 bif (decide (a_e.op=(15:Int))) then (mY a_e.op c_15).bind fun r_46=>some r_46 else
 bif (decide (a_e.op=(16:Int))) then (mY a_e.op c_15).bind fun r_48=>some r_48 else
 bif (decide (a_e.op=(17:Int))) then (mY a_e.op c_15).bind fun r_50=>some r_50 else
 bif (decide (a_e.op=(18:Int))) then (mY a_e.op c_15).bind fun r_52=>some r_52 else
 (aA c_15 (0:Int)).bind fun x_53=>(aA c_15 (1:Int)).bind fun x_54=>(mG a_e.op x_53 x_54).bind fun r_55=>(Cf r_55).bind fun r_56=>some r_56) else none
 | .inr q=>some q
def D9 (rec:Ex->List Val->Option Val) (a_e:Ex) (a_row:(List Val)):Option (Val):=(qw a_e).bind fun r_1=>bif (!r_1) then (ma ).bind fun r_3=>some r_3 else
 bif (decide (a_e.op=(1:Int))) then some a_e.v else
 bif (decide (a_e.op=(2:Int))) then (Ci a_row a_e.int).bind fun r_6=>some r_6 else
 bif (decide (a_e.op=(22:Int))) then (aA a_e.args (0:Int)).bind fun x_8=>(Ff rec x_8 a_row).bind fun r_9=>bif (decide (r_9=(2:Int))) then (aA a_e.args (1:Int)).bind fun x_11=>(rec x_11 a_row).bind fun r_12=>some r_12 else
 (aA a_e.args (2:Int)).bind fun x_13=>(rec x_13 a_row).bind fun r_14=>some r_14 else
 bif (decide (0<=((a_e.args.length:Nat):Int))) then (bif (decide ((32:Int)*((a_e.args.length:Nat):Int)<=281474976710656)) then (bif (decide (((a_e.args.length:Nat):Int)<=9223372036854775807)) then ((az (sD a_e a_row rec) fuel ((List.replicate a_e.args.length ((⟨(0:Int),(0:Int),ByteArray.empty⟩:Val))),(0:Int))).bind (bD a_e)) else none) else none) else none
theorem iB {p q:Prop} (k:q) (h:Bx q->p:=by
 intro hq
 repeat' (first|refine iy rfl rfl rfl rfl rfl (Dy tab_ok (k:=3) (by_:=32) rfl rfl rfl (by decide) rfl rfl rfl rfl rfl (by decide) (by omega) (by omega) (by omega)) ?_|refine Tc (enc:=cV) rfl rfl rfl rfl rfl (by omega) rfl (fun _=>rfl) rfl ?_|refine gs_ ?_|fail)
 exact hq.out):p:=h ⟨k⟩
theorem bY {p:Prop} (h:p:=by
 repeat' (first|refine iy rfl rfl rfl rfl rfl (Dy tab_ok (k:=3) (by_:=32) rfl rfl rfl (by decide) rfl rfl rfl rfl rfl (by decide) (by omega) (by omega) (by omega)) ?_|refine Tc (enc:=cV) rfl rfl rfl rfl rfl (by omega) rfl (fun _=>rfl) rfl ?_|refine gs_ ?_|fail)
 refine bE (bR rfl ?_ ?_)
 ·repeat' (first|exact trivial|rfl|exact adS rfl|omega|apply And.intro)
 ·first|rfl|(simp only [adV,adT,adX,adN]<;>rfl)):p:=h
theorem UE {rec:Ex->List Val->Option Val}  (hrec : ∀ {x:Ex} {y:List Val} {r:Val}, rec x y=some r->Pure Tryz.prog 49 [.agg (tE x), .one (.lst (y.map cV))] (.val (.agg (cV r)))) {a_e:Ex} {a_row:(List Val)} {r:Val} (H:D9 rec a_e a_row=some r):Pure Tryz.prog 49 [.agg (tE a_e), .one (.lst (a_row.map cV))] (.val (.agg (cV r))):=by
 unfold D9 at H
 rw [aj a_e]
 refine po_ Tryz.func49 Tryz.ntmps49 ?_
 obtain ⟨r_1,c1,H⟩:=bd_ H
 replace c1:=GG c1
 try simp only [adV,adT,adX,adN,aj] at c1
 rcases aa H with ⟨q_2,H⟩|⟨q_2,H⟩
 ·obtain ⟨r_3,c2,H⟩:=bd_ H
  replace c2:=fG c2
  cases H
  exact bY
 rcases aa H with ⟨q_4,H⟩|⟨q_4,H⟩
 ·cases H
  exact bY
 refine iB ?_
 rcases aa H with ⟨q_5,H⟩|⟨q_5,H⟩
 ·obtain ⟨r_6,c3,H⟩:=bd_ H
  replace c3:=Qy c3
  cases H
  exact bY
 rcases aa H with ⟨q_7,H⟩|⟨q_7,H⟩
 ·obtain ⟨x_8,i4z,i4,i4x,H⟩:=aR (f:=tE) H
  simp only [adV,adT,adX,adN,aj] at i4x
  obtain ⟨r_9,c5,H⟩:=bd_ H
  replace c5:=RI hrec c5
  try simp only [adV,adT,adX,adN,aj] at c5
  rcases aa H with ⟨q_10,H⟩|⟨q_10,H⟩
  ·obtain ⟨x_11,i6z,i6,i6x,H⟩:=aR (f:=tE) H
   simp only [adV,adT,adX,adN,aj] at i6x
   obtain ⟨r_12,c7,H⟩:=bd_ H
   replace c7:=hrec c7
   try simp only [adV,adT,adX,adN,aj] at c7
   cases H
   exact bY
  obtain ⟨x_13,i8z,i8,i8x,H⟩:=aR (f:=tE) H
  simp only [adV,adT,adX,adN,aj] at i8x
  obtain ⟨r_14,c9,H⟩:=bd_ H
  replace c9:=hrec c9
  try simp only [adV,adT,adX,adN,aj] at c9
  cases H
  exact bY
 obtain ⟨g10,H⟩:=bu H
 obtain ⟨g11,H⟩:=bu H
 obtain ⟨g12,H⟩:=bu H
 refine iB ?_
 refine alM_ (fun s:(List Val) × Int=>match s with|(c_15,v_16)=>[(1, .one (.c (.lst (a_row.map cV)))),(2, .one (.ptr 0 0)),(4, .one (.ptr 1 0)),(5, .one (.sl 2 (27+65536) 0 a_e.args.length)),(52, .one (.c (.lst (a_e.args.map tE)))),(53, .one (.c (.int .i64 ((a_e.args.length:Nat):Int)))),(54, .one (.c (.int .i64 v_16)))]) (fun s=>match s with|(c_15,v_16)=>[.box [.c (.int .i64 a_e.op), .c (.int .i64 a_e.int), .c (.int .i64 a_e.v.kind), .c (.int .i64 a_e.v.int), .c (.str a_e.v.text), .c (.str a_e.nm), .c (.lst (a_e.args.map tE))], .box [.c (.int .i64 (0:Int)), .c (.int .i64 (0:Int)), .c (.str ByteArray.empty)], .row (27+65536) ((c_15.map cV).map (List.map SV.c)) 3]) H (fun _=>ad4 _)
  (fm_ dL [] (by simp only [List.map_replicate]<;>rfl) bL ⟨jl (by rfl),jl (by rfl),Ji _ _ _ _ _,trivial⟩) ?_
 rintro ⟨c_15,v_16⟩ st1 hb1 hk1
 unfold sD at hb1
 dsimp only at hb1 ⊢
 rcases aa hb1 with ⟨q_17,hb1⟩|⟨q_17,hb1⟩
 ·obtain ⟨x_18,i13z,i13,i13x,hb1⟩:=aR (f:=tE) hb1
  simp only [adV,adT,adX,adN,aj] at i13x
  obtain ⟨r_19,c14,hb1⟩:=bd_ hb1
  replace c14:=hrec c14
  try simp only [adV,adT,adX,adN,aj] at c14
  obtain ⟨g15,hb1⟩:=bu hb1
  obtain ⟨g16,hb1⟩:=bu hb1
  obtain ⟨g17,hb1⟩:=bu hb1
  cases hb1
  refine iB ?_
  exact ⟨_,rfl,fm_ dL [_] rfl bL ⟨jl (by rfl),jl (by rfl),Ji _ _ _ _ _,trivial⟩⟩
 cases hb1
 have hx1:bD a_e (.inl (c_15,v_16))=some _:=hk1
 unfold bD at hx1
 dsimp only at hx1
 obtain ⟨g18,hx1⟩:=bu hx1
 have z19:((c_15.map cV).drop 0).take a_e.args.length=c_15.map cV:=by rw [List.drop_zero,ael];rw [adU];omega
 refine vG 2 (cs:=c_15.map cV) rfl (Fp _) ?_
 simp only [adT,adX,thA,thS,and_self,if_true,eq_self,List.set,z19]
 refine iB ?_
 rcases aa hx1 with ⟨q_20,hx1⟩|⟨q_20,hx1⟩
 ·obtain ⟨r_21,c20,hx1⟩:=bd_ hx1
  replace c20:=Ee c20
  cases hx1
  exact bY
 rcases aa hx1 with ⟨q_22,hx1⟩|⟨q_22,hx1⟩
 ·obtain ⟨r_23,c21,hx1⟩:=bd_ hx1
  replace c21:=Ee c21
  cases hx1
  exact bY
 rcases aa hx1 with ⟨q_24,hx1⟩|⟨q_24,hx1⟩
 ·obtain ⟨r_25,c22,hx1⟩:=bd_ hx1
  replace c22:=Ee c22
  cases hx1
  exact bY
 refine iB ?_
 rcases aa hx1 with ⟨q_26,hx1⟩|⟨q_26,hx1⟩
 ·obtain ⟨x_27,i23z,i23,i23x,hx1⟩:=aR (f:=cV) hx1
  obtain ⟨r_28,c24,hx1⟩:=bd_ hx1
  replace c24:=si c24
  cases hx1
  exact bY
 rcases aa hx1 with ⟨q_29,hx1⟩|⟨q_29,hx1⟩
 ·refine iB ?_
  refine alM_ (fun s:Int=>match s with|v_30=>[(4, .one (.ptr 1 0)),(86, .one (.c (.lst (c_15.map cV)))),(87, .one (.c (.int .i64 ((c_15.length:Nat):Int)))),(88, .one (.c (.int .i64 v_30)))]) (fun s=>match s with|v_30=>[.box [.c (.int .i64 a_e.op), .c (.int .i64 a_e.int), .c (.int .i64 a_e.v.kind), .c (.int .i64 a_e.v.int), .c (.str a_e.v.text), .c (.str a_e.nm), .c (.lst (a_e.args.map tE))], .box [.c (.int .i64 (0:Int)), .c (.int .i64 (0:Int)), .c (.str ByteArray.empty)], .dead]) hx1 (fun _=>ad4 _)
   (fm_ dL [] rfl bL cZ) ?_
  rintro v_30 st2 hb2 hk2
  unfold tq at hb2
  dsimp only at hb2 ⊢
  rcases aa hb2 with ⟨q_31,hb2⟩|⟨q_31,hb2⟩
  ·obtain ⟨x_32,i25z,i25,i25x,hb2⟩:=aR (f:=cV) hb2
   refine iB ?_
   rcases aa hb2 with ⟨q_33,hb2⟩|⟨q_33,hb2⟩
   ·cases hb2
    have hx2:oz (.inr x_32)=some _:=hk2
    unfold oz at hx2
    dsimp only at hx2
    cases hx2
    exact bY
   cases hb2
   refine iB ?_
   exact ⟨_,rfl,fm_ dL [_] rfl bL cZ⟩
  cases hb2
  have hx2:oz (.inl v_30)=some _:=hk2
  unfold oz at hx2
  dsimp only at hx2
  obtain ⟨r_34,c26,hx2⟩:=bd_ hx2
  replace c26:=fG c26
  cases hx2
  exact bY
 rcases aa hx1 with ⟨q_35,hx1⟩|⟨q_35,hx1⟩
 ·obtain ⟨r_36,c27,hx1⟩:=bd_ hx1
  replace c27:=Oh c27
  cases hx1
  exact bY
 refine iB ?_
 rcases aa hx1 with ⟨q_37,hx1⟩|⟨q_37,hx1⟩
 ·obtain ⟨r_38,c28,hx1⟩:=bd_ hx1
  replace c28:=KM c28
  cases hx1
  exact bY
 rcases aa hx1 with ⟨q_39,hx1⟩|⟨q_39,hx1⟩
 ·obtain ⟨r_40,c29,hx1⟩:=bd_ hx1
  replace c29:=KM c29
  cases hx1
  exact bY
 rcases aa hx1 with ⟨q_41,hx1⟩|⟨q_41,hx1⟩
 ·obtain ⟨r_42,c30,hx1⟩:=bd_ hx1
  replace c30:=oq c30
  cases hx1
  exact bY
 refine iB ?_
 rcases aa hx1 with ⟨q_43,hx1⟩|⟨q_43,hx1⟩
 ·obtain ⟨r_44,c31,hx1⟩:=bd_ hx1
  replace c31:=oq c31
  cases hx1
  exact bY
 rcases aa hx1 with ⟨q_45,hx1⟩|⟨q_45,hx1⟩
 ·obtain ⟨r_46,c32,hx1⟩:=bd_ hx1
  replace c32:=oq c32
  cases hx1
  exact bY
 rcases aa hx1 with ⟨q_47,hx1⟩|⟨q_47,hx1⟩
 ·obtain ⟨r_48,c33,hx1⟩:=bd_ hx1
  replace c33:=oq c33
  cases hx1
  exact bY
 refine iB ?_
 rcases aa hx1 with ⟨q_49,hx1⟩|⟨q_49,hx1⟩
 ·obtain ⟨r_50,c34,hx1⟩:=bd_ hx1
  replace c34:=oq c34
  cases hx1
  exact bY
 rcases aa hx1 with ⟨q_51,hx1⟩|⟨q_51,hx1⟩
 ·obtain ⟨r_52,c35,hx1⟩:=bd_ hx1
  replace c35:=oq c35
  cases hx1
  exact bY
 obtain ⟨x_53,i36z,i36,i36x,hx1⟩:=aR (f:=cV) hx1
 obtain ⟨x_54,i37z,i37,i37x,hx1⟩:=aR (f:=cV) hx1
 obtain ⟨r_55,c38,hx1⟩:=bd_ hx1
 replace c38:=GX c38
 obtain ⟨r_56,c39,hx1⟩:=bd_ hx1
 replace c39:=BC c39
 cases hx1
 exact bY
def xw:Nat->Ex->List Val->Option Val
 | 0,_,_=>none
 | n+1,e,r=>D9 (xw n) e r
theorem Hd : ∀ (n:Nat) {x:Ex} {y:List Val} {r:Val}, xw n x y=some r->Pure Tryz.prog 49 [.agg (tE x), .one (.lst (y.map cV))] (.val (.agg (cV r)))
 | 0,_,_,_,h=>nomatch h
 | n+1,_,_,_,h=>UE (Hd n) h
set_option maxHeartbeats 8000000
def ed (a_e:Ex) (a_row:(List Val)) (rec:Ex->List Val->Option Val):((List Val) × Int)->Option (Step ((List Val) × Int) (Val)):=fun s=>match s with
 | (l_4,i_5)=>bif (decide (i_5<((a_e.args.length:Nat):Int))) then (aA a_e.args i_5).bind fun x_7=>(rec x_7 a_row).bind fun r_8=>bif (decide (l_4.length+1<=4398046511104)) then (some (.next ((l_4++[r_8]),(IntKind.i64.wrap (i_5+(1:Int)))))) else none else
 some (.exit (l_4,i_5))
def gER_K (a_e:Ex) (a_row:(List Val)):Sum ((List Val) × Int) (Val)->Option ((Val))
 | .inl (l_4,i_5)=>bif (decide (a_e.op=(1:Int))) then (Eg a_e a_row).bind fun r_10=>some r_10 else
 bif (decide (a_e.op=(2:Int))) then (Eg a_e a_row).bind fun r_12=>some r_12 else
 bif (decide (a_e.op=(4:Int))) then (aA l_4 (0:Int)).bind fun x_14=>(ik x_14).bind fun r_15=>(Ic r_15).bind fun r_16=>(ER r_16).bind fun r_17=>some r_17 else
 bif (decide (a_e.op=(5:Int))) then (yC a_e.op l_4).bind fun r_19=>some r_19 else
 bif (decide (a_e.op=(6:Int))) then (yC a_e.op l_4).bind fun r_21=>some r_21 else
 bif (decide (a_e.op=(7:Int))) then (aA l_4 (0:Int)).bind fun x_23=>(aA l_4 (1:Int)).bind fun x_24=>(g_ a_e.op x_23 x_24).bind fun r_25=>(ER r_25).bind fun r_26=>some r_26 else
 bif (decide (a_e.op=(8:Int))) then (aA l_4 (0:Int)).bind fun x_28=>(aA l_4 (1:Int)).bind fun x_29=>(g_ a_e.op x_28 x_29).bind fun r_30=>(ER r_30).bind fun r_31=>some r_31 else
 bif (decide (a_e.op=(9:Int))) then (aA l_4 (0:Int)).bind fun x_33=>(aA l_4 (1:Int)).bind fun x_34=>(g_ a_e.op x_33 x_34).bind fun r_35=>(ER r_35).bind fun r_36=>some r_36 else
 bif (decide (a_e.op=(10:Int))) then (aA l_4 (0:Int)).bind fun x_38=>(aA l_4 (1:Int)).bind fun x_39=>(g_ a_e.op x_38 x_39).bind fun r_40=>(ER r_40).bind fun r_41=>some r_41 else
 bif (decide (a_e.op=(11:Int))) then (aA l_4 (0:Int)).bind fun x_43=>(aA l_4 (1:Int)).bind fun x_44=>(g_ a_e.op x_43 x_44).bind fun r_45=>(ER r_45).bind fun r_46=>some r_46 else
 bif (decide (a_e.op=(12:Int))) then (aA l_4 (0:Int)).bind fun x_48=>(aA l_4 (1:Int)).bind fun x_49=>(g_ a_e.op x_48 x_49).bind fun r_50=>(ER r_50).bind fun r_51=>some r_51 else
 bif (decide (a_e.op=(18:Int))) then (P6 l_4 (1:Int)).bind fun r_53=>bif (!r_53) then (eX ).bind fun r_55=>some r_55 else
 (aA l_4 (0:Int)).bind fun x_56=>(qo (IntKind.i64.wrap (0-x_56.int))).bind fun r_57=>some r_57 else
 bif (decide (a_e.op=(19:Int))) then (xX a_e.op l_4).bind fun r_59=>some r_59 else
 bif (decide (a_e.op=(20:Int))) then (xX a_e.op l_4).bind fun r_61=>some r_61 else
 bif (decide (a_e.op=(21:Int))) then (aA l_4 (0:Int)).bind fun x_63=>(vC (decide (x_63.kind=(0:Int)))).bind fun r_64=>some r_64 else
 bif (decide (a_e.op=(22:Int))) then (uT a_e.op l_4).bind fun r_66=>some r_66 else
 bif (decide (a_e.op=(23:Int))) then (uT a_e.op l_4).bind fun r_68=>some r_68 else
 bif (decide (a_e.op=(24:Int))) then (su a_e.int l_4).bind fun r_70=>some r_70 else
 (P6 l_4 (1:Int)).bind fun r_71=>bif (!r_71) then (eX ).bind fun r_73=>some r_73 else
 (aA l_4 (0:Int)).bind fun x_74=>(aA l_4 (1:Int)).bind fun x_75=>(dK a_e.op x_74.int x_75.int).bind fun r_76=>some r_76
 | .inr q=>some q
def jZ (rec:Ex->List Val->Option Val) (a_e:Ex) (a_row:(List Val)):Option (Val):=(jo a_e).bind fun r_1=>bif (!r_1) then (eX ).bind fun r_3=>some r_3 else
 (az (ed a_e a_row rec) fuel ([],(0:Int))).bind (gER_K a_e a_row)
theorem R4 {rec:Ex->List Val->Option Val}  (hrec : ∀ {x:Ex} {y:List Val} {r:Val}, rec x y=some r->Pure Tryz.prog 75 [.agg (tE x), .one (.lst (y.map cV))] (.val (.agg (cV r)))) {a_e:Ex} {a_row:(List Val)} {r:Val} (H:jZ rec a_e a_row=some r):Pure Tryz.prog 75 [.agg (tE a_e), .one (.lst (a_row.map cV))] (.val (.agg (cV r))):=by
 unfold jZ at H
 rw [aj a_e]
 refine po_ Tryz.func75 Tryz.ntmps75 ?_
 obtain ⟨r_1,c1,H⟩:=bd_ H
 replace c1:=EK c1
 try simp only [adV,adT,adX,adN,aj] at c1
 rcases aa H with ⟨q_2,H⟩|⟨q_2,H⟩
 ·obtain ⟨r_3,c2,H⟩:=bd_ H
  replace c2:=bX c2
  cases H
  exact af
 refine bv ?_
 refine dz 5 3 rfl ?_
 refine alM_ (fun s:(List Val) × Int=>match s with|(l_4,i_5)=>[(1, .one (.c (.lst (a_row.map cV)))),(2, .one (.ptr 0 0)),(4, .one (.ptr 1 0)),(5, .one (.own (l_4.map cV) 2)),(6, .one (.c (.int .i64 i_5)))]) (fun s=>match s with|(l_4,i_5)=>[.box [.c (.int .i64 a_e.op), .c (.int .i64 a_e.int), .c (.int .i64 a_e.v.kind), .c (.int .i64 a_e.v.int), .c (.str a_e.v.text), .c (.str a_e.nm), .c (.lst (a_e.args.map tE))], .box [.c (.int .i64 (0:Int)), .c (.int .i64 (0:Int)), .c (.str ByteArray.empty)], .spare l_4.length 3]) H (fun _=>ad4 _)
  (fm_ dL [] rfl bL cZ) ?_
 rintro ⟨l_4,i_5⟩ st1 hb1 hk1
 unfold ed at hb1
 dsimp only at hb1 ⊢
 rcases aa hb1 with ⟨q_6,hb1⟩|⟨q_6,hb1⟩
 ·obtain ⟨x_7,i3z,i3,i3x,hb1⟩:=aR (f:=tE) hb1
  simp only [adV,adT,adX,adN,aj] at i3x
  obtain ⟨r_8,c4,hb1⟩:=bd_ hb1
  replace c4:=hrec c4
  try simp only [adV,adT,adX,adN,aj] at c4
  obtain ⟨g5,hb1⟩:=bu hb1
  cases hb1
  refine bv ?_
  exact ⟨_,rfl,fm_ kM [] jY bL cZ⟩
 cases hb1
 have hx1:gER_K a_e a_row (.inl (l_4,i_5))=some _:=hk1
 unfold gER_K at hx1
 dsimp only at hx1
 refine bv ?_
 rcases aa hx1 with ⟨q_9,hx1⟩|⟨q_9,hx1⟩
 ·obtain ⟨r_10,c6,hx1⟩:=bd_ hx1
  replace c6:=Qa c6
  try simp only [adV,adT,adX,adN,aj] at c6
  cases hx1
  exact af
 rcases aa hx1 with ⟨q_11,hx1⟩|⟨q_11,hx1⟩
 ·obtain ⟨r_12,c7,hx1⟩:=bd_ hx1
  replace c7:=Qa c7
  try simp only [adV,adT,adX,adN,aj] at c7
  cases hx1
  exact af
 rcases aa hx1 with ⟨q_13,hx1⟩|⟨q_13,hx1⟩
 ·obtain ⟨x_14,i8z,i8,i8x,hx1⟩:=aR (f:=cV) hx1
  obtain ⟨r_15,c9,hx1⟩:=bd_ hx1
  replace c9:=lJ c9
  obtain ⟨r_16,c10,hx1⟩:=bd_ hx1
  replace c10:=Cu c10
  obtain ⟨r_17,c11,hx1⟩:=bd_ hx1
  replace c11:=qp c11
  cases hx1
  exact af
 refine bv ?_
 rcases aa hx1 with ⟨q_18,hx1⟩|⟨q_18,hx1⟩
 ·obtain ⟨r_19,c12,hx1⟩:=bd_ hx1
  replace c12:=Gp c12
  cases hx1
  exact af
 rcases aa hx1 with ⟨q_20,hx1⟩|⟨q_20,hx1⟩
 ·obtain ⟨r_21,c13,hx1⟩:=bd_ hx1
  replace c13:=Gp c13
  cases hx1
  exact af
 rcases aa hx1 with ⟨q_22,hx1⟩|⟨q_22,hx1⟩
 ·obtain ⟨x_23,i14z,i14,i14x,hx1⟩:=aR (f:=cV) hx1
  obtain ⟨x_24,i15z,i15,i15x,hx1⟩:=aR (f:=cV) hx1
  obtain ⟨r_25,c16,hx1⟩:=bd_ hx1
  replace c16:=ja c16
  obtain ⟨r_26,c17,hx1⟩:=bd_ hx1
  replace c17:=qp c17
  cases hx1
  exact af
 refine bv ?_
 rcases aa hx1 with ⟨q_27,hx1⟩|⟨q_27,hx1⟩
 ·obtain ⟨x_28,i18z,i18,i18x,hx1⟩:=aR (f:=cV) hx1
  obtain ⟨x_29,i19z,i19,i19x,hx1⟩:=aR (f:=cV) hx1
  obtain ⟨r_30,c20,hx1⟩:=bd_ hx1
  replace c20:=ja c20
  obtain ⟨r_31,c21,hx1⟩:=bd_ hx1
  replace c21:=qp c21
  cases hx1
  exact af
 rcases aa hx1 with ⟨q_32,hx1⟩|⟨q_32,hx1⟩
 ·obtain ⟨x_33,i22z,i22,i22x,hx1⟩:=aR (f:=cV) hx1
  obtain ⟨x_34,i23z,i23,i23x,hx1⟩:=aR (f:=cV) hx1
  obtain ⟨r_35,c24,hx1⟩:=bd_ hx1
  replace c24:=ja c24
  obtain ⟨r_36,c25,hx1⟩:=bd_ hx1
  replace c25:=qp c25
  cases hx1
  exact af
 rcases aa hx1 with ⟨q_37,hx1⟩|⟨q_37,hx1⟩
 ·obtain ⟨x_38,i26z,i26,i26x,hx1⟩:=aR (f:=cV) hx1
  obtain ⟨x_39,i27z,i27,i27x,hx1⟩:=aR (f:=cV) hx1
  obtain ⟨r_40,c28,hx1⟩:=bd_ hx1
  replace c28:=ja c28
  obtain ⟨r_41,c29,hx1⟩:=bd_ hx1
  replace c29:=qp c29
  cases hx1
  exact af
 refine bv ?_
 rcases aa hx1 with ⟨q_42,hx1⟩|⟨q_42,hx1⟩
 ·obtain ⟨x_43,i30z,i30,i30x,hx1⟩:=aR (f:=cV) hx1
  obtain ⟨x_44,i31z,i31,i31x,hx1⟩:=aR (f:=cV) hx1
  obtain ⟨r_45,c32,hx1⟩:=bd_ hx1
  replace c32:=ja c32
  obtain ⟨r_46,c33,hx1⟩:=bd_ hx1
  replace c33:=qp c33
  cases hx1
  exact af
 rcases aa hx1 with ⟨q_47,hx1⟩|⟨q_47,hx1⟩
 ·obtain ⟨x_48,i34z,i34,i34x,hx1⟩:=aR (f:=cV) hx1
  obtain ⟨x_49,i35z,i35,i35x,hx1⟩:=aR (f:=cV) hx1
  obtain ⟨r_50,c36,hx1⟩:=bd_ hx1
  replace c36:=ja c36
  obtain ⟨r_51,c37,hx1⟩:=bd_ hx1
  replace c37:=qp c37
  cases hx1
  exact af
 rcases aa hx1 with ⟨q_52,hx1⟩|⟨q_52,hx1⟩
 ·obtain ⟨r_53,c38,hx1⟩:=bd_ hx1
  replace c38:=FC c38
  refine bv ?_
  rcases aa hx1 with ⟨q_54,hx1⟩|⟨q_54,hx1⟩
  ·obtain ⟨r_55,c39,hx1⟩:=bd_ hx1
   replace c39:=bX c39
   cases hx1
   exact af
  obtain ⟨x_56,i40z,i40,i40x,hx1⟩:=aR (f:=cV) hx1
  obtain ⟨r_57,c41,hx1⟩:=bd_ hx1
  replace c41:=mF c41
  cases hx1
  exact af
 refine bv ?_
 rcases aa hx1 with ⟨q_58,hx1⟩|⟨q_58,hx1⟩
 ·obtain ⟨r_59,c42,hx1⟩:=bd_ hx1
  replace c42:=KQ c42
  cases hx1
  exact af
 rcases aa hx1 with ⟨q_60,hx1⟩|⟨q_60,hx1⟩
 ·obtain ⟨r_61,c43,hx1⟩:=bd_ hx1
  replace c43:=KQ c43
  cases hx1
  exact af
 rcases aa hx1 with ⟨q_62,hx1⟩|⟨q_62,hx1⟩
 ·obtain ⟨x_63,i44z,i44,i44x,hx1⟩:=aR (f:=cV) hx1
  obtain ⟨r_64,c45,hx1⟩:=bd_ hx1
  replace c45:=om c45
  cases hx1
  exact af
 refine bv ?_
 rcases aa hx1 with ⟨q_65,hx1⟩|⟨q_65,hx1⟩
 ·obtain ⟨r_66,c46,hx1⟩:=bd_ hx1
  replace c46:=I9 c46
  cases hx1
  exact af
 rcases aa hx1 with ⟨q_67,hx1⟩|⟨q_67,hx1⟩
 ·obtain ⟨r_68,c47,hx1⟩:=bd_ hx1
  replace c47:=I9 c47
  cases hx1
  exact af
 rcases aa hx1 with ⟨q_69,hx1⟩|⟨q_69,hx1⟩
 ·obtain ⟨r_70,c48,hx1⟩:=bd_ hx1
  replace c48:=Ms c48
  cases hx1
  exact af
 obtain ⟨r_71,c49,hx1⟩:=bd_ hx1
 replace c49:=FC c49
 refine bv ?_
 rcases aa hx1 with ⟨q_72,hx1⟩|⟨q_72,hx1⟩
 ·obtain ⟨r_73,c50,hx1⟩:=bd_ hx1
  replace c50:=bX c50
  cases hx1
  exact af
 obtain ⟨x_74,i51z,i51,i51x,hx1⟩:=aR (f:=cV) hx1
 obtain ⟨x_75,i52z,i52,i52x,hx1⟩:=aR (f:=cV) hx1
 obtain ⟨r_76,c53,hx1⟩:=bd_ hx1
 replace c53:=LP c53
 cases hx1
 exact af
def dE:Nat->Ex->List Val->Option Val
 | 0,_,_=>none
 | n+1,e,r=>jZ (dE n) e r
theorem D5 : ∀ (n:Nat) {x:Ex} {y:List Val} {r:Val}, dE n x y=some r->Pure Tryz.prog 75 [.agg (tE x), .one (.lst (y.map cV))] (.val (.agg (cV r)))
 | 0,_,_,_,h=>nomatch h
 | n+1,_,_,_,h=>R4 (D5 n) h
end Go.Proofs.YtfccopdbgfdcdaaGreatDoor
