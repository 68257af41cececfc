/- Parts of the proof, joined. No condition. -/
import Derived.Test.YtfccopdbgfdcdaaGreatDoorKAA
import Derived.Test.YtfccopdbgfdcdaaGreatDoorKBK
import Derived.Test.YtfccopdbgfdcdaaGreatDoorKBI
import Derived.Test.YtfccopdbgfdcdaaGreatDoorKBM
import Derived.Test.YtfccopdbgfdcdaaGreatDoorKBO
import Derived.Test.YtfccopdbgfdcdaaGreatDoorKBN
set_option linter.unusedSimpArgs false
set_option linter.unusedVariables false
namespace Go.Proofs.YtfccopdbgfdcdaaGreatDoor
open Go.RowKit Go.MapKept
theorem EY : ∀ (a b x y:List UInt8),(32:UInt8)∉a->(32:UInt8)∉b->a++32::x=b++32::y->a=b/\x=y
 | [],[],x,y,_,_,h=>by simpa using h
 | [],c::b,x,y,_,hb,h=>by
  simp at h
  exact absurd h.1.symm (fun e=>hb (by rw [e];simp))
 | c::a,[],x,y,ha,_,h=>by
  simp at h
  exact absurd h.1 (fun e=>ha (by rw [e];simp))
 | c::a,d::b,x,y,ha,hb,h=>by
  simp at h
  obtain ⟨h1,h2⟩:=EY a b x y (fun q=>ha (ad7 _ q)) (fun q=>hb (ad7 _ q)) h.2
  exact ⟨by rw [h.1,h1],h2⟩
def VY (b:UInt8):Prop:=48<=b.toNat/\b.toNat<=57
theorem MI {d:Nat} (h:d<10):(UInt8.ofNat (48+d)).toNat=48+d:=by
 rw [UInt8.toNat_ofNat'];omega
theorem rz (u:Nat) : ∀ b∈Lib.decDigits u,VY b:=by
 induction u using Nat.strongRecOn with
 | _ u ih =>
  intro b hb
  rw [Lib.decDigits] at hb
  split at hb
  ·rename_i h
   rw [aem.1 hb];unfold VY;rw [MI h];omega
  ·rename_i h
   rcases ad'.1 hb with hb|hb
   ·exact ih (u/10) (by omega) b hb
   ·rw [aem.1 hb];unfold VY;rw [MI (by omega)];omega
def Mq (l:List UInt8):Nat:=l.foldl (fun a b=>a*10+(b.toNat-48)) 0
theorem NN (l:List UInt8) (b:UInt8):Mq (l++[b])=Mq l*10+(b.toNat-48):=by unfold Mq;rw [List.foldl_append];rfl
theorem zN (u:Nat):Mq (Lib.decDigits u)=u:=by
 induction u using Nat.strongRecOn with
 | _ u ih =>
  rw [Lib.decDigits]
  split
  ·rename_i h
   show 0*10+((UInt8.ofNat (48+u)).toNat-48)=u
   rw [MI h];omega
  ·rename_i h
   rw [NN,ih (u/10) (by omega),MI (by omega)];omega
theorem zC {u v:Nat} (h:Lib.decDigits u=Lib.decDigits v):u=v:=by rw [<- zN u,h,zN]
theorem oD (n:Int):(32:UInt8)∉Lib.itoa n:=by
 intro h
 unfold Lib.itoa at h
 split at h
 ·rcases adZ.1 h with h|h
  ·exact absurd h (by decide)
  ·have:=(rz _ _ h).1;exact absurd this (by decide)
 ·have:=(rz _ _ h).1;exact absurd this (by decide)
theorem FU {n m:Int} (h:Lib.itoa n=Lib.itoa m):n=m:=by
 have key : ∀ (a b:Nat),Lib.decDigits a≠45::Lib.decDigits b:=by
  intro a b e
  have:=(rz a 45 (by rw [e];simp)).1
  exact absurd this (by decide)
 unfold Lib.itoa at h
 split at h<;>split at h
 ·have:=zC (List.cons.inj h).2;omega
 ·exact absurd h.symm (key _ _)
 ·exact absurd h (key _ _)
 ·have:=zC h;omega
def BB (v:Val):List UInt8:=Lib.itoa v.kind++32::(Lib.itoa v.int++32::(Lib.itoa v.text.size++32::v.text.data.toList))
def JZ (l:List Val):List UInt8:=l.flatMap BB
theorem aaz (a b:ByteArray):(a++b).data.toList=a.data.toList++b.data.toList:=by simp
theorem KH (l:List Val):(jg l).data.toList=JZ l:=by
 have : ∀ (l:List Val) (a:ByteArray),(l.foldl (fun a v=>kY a (BI v)++v.text) a).data.toList=a.data.toList++JZ l:=by
  intro l
  induction l with
  | nil=>intro a;simp [JZ]
  | cons v l ih =>
   intro a
   rw [aew,ih]
   have e:kY a (BI v)=a++kR v.kind++c32++kR v.int++c32++kR v.text.size++c32:=rfl
   have e1 : ∀ n,(kR n).data.toList=Lib.itoa n:=fun n=>rfl
   have e2:c32.data.toList=[32]:=rfl
   rw [e]
   simp only [aaz,e1,e2,JZ,aej,BB,ad_,List.cons_append,adN]
 have:=this l ⟨#[]⟩
 simpa [jg] using this
theorem VR {v w:Val} {x y:List UInt8} (h:BB v++x=BB w++y):v=w/\x=y:=by
 unfold BB at h
 simp only [ad_,List.cons_append] at h
 obtain ⟨h1,h⟩:=EY _ _ _ _ (oD _) (oD _) h
 obtain ⟨h2,h⟩:=EY _ _ _ _ (oD _) (oD _) h
 obtain ⟨h3,h⟩:=EY _ _ _ _ (oD _) (oD _) h
 have h3:=FU h3
 have hs:v.text.data.toList.length=w.text.data.toList.length:=by
  have e : ∀ s:ByteArray,s.data.toList.length=s.size:=fun s=>rfl
  rw [e,e];omega
 obtain ⟨h4,h5⟩:=List.append_inj h hs
 refine ⟨?_,h5⟩
 obtain ⟨a,b,⟨⟨c⟩⟩⟩:=v
 obtain ⟨a',b',⟨⟨c'⟩⟩⟩:=w
 simp only at h1 h2 h4
 rw [FU h1,FU h2,h4]
theorem Qc : ∀ (a b:List Val),JZ a=JZ b->a=b
 | [],[],_=>rfl
 | [],w::b,h=>by
  have:=congrArg List.length h
  simp [JZ,BB] at this
 | v::a,[],h=>by
  have:=congrArg List.length h
  simp [JZ,BB] at this
 | v::a,w::b,h=>by
  have h':BB v++JZ a=BB w++JZ b:=h
  obtain ⟨h1,h2⟩:=VR h'
  rw [h1,Qc a b h2]
theorem key_inj {a b:List Val} (h:jg a=jg b):a=b:=Qc a b (by rw [<- KH, <- KH,h])
end Go.Proofs.YtfccopdbgfdcdaaGreatDoor
namespace Go.Proofs.YtfccopdbgfdcdaaGreatDoor.St
open Go.RowKit
theorem XF {A B:List ((Int × Int) × Int)} (h:(Bq A).Perm (Bq B)):NJ A=NJ B:=by
 have h1:nk A=nk B:=by
  funext p
  rw [vg,vg, <- BV A p, <- BV B p,Kb h]
 have h2:gm A=gm B:=by
  refine (iw A).1.ext (iw B).1 fun x=>?_
  rw [(iw A).2,(iw B).2]
  constructor
  ·rintro ⟨h3|⟨y,hy⟩,h4⟩
   ·exact ⟨.inl h3,h4⟩
   ·exact ⟨.inr ⟨y,h.mem_iff.1 hy⟩,h4⟩
  ·rintro ⟨h3|⟨y,hy⟩,h4⟩
   ·exact ⟨.inl h3,h4⟩
   ·exact ⟨.inr ⟨y,h.mem_iff.2 hy⟩,h4⟩
 unfold NJ
 rw [h1,h2]
theorem JK {P:List Int} (h:dG P):P.Pairwise (· < ·):=List.pairwise_iff_getElem.2 fun i j hi hj hij=>h i j _ _ hij (adR hi) (adR hj)
theorem EO {l:List (Int × Int)} (h:l.Pairwise fun x y=>x.1<y.1):Asc l:=by
 intro i j x y hij hx hy
 obtain ⟨hi,rfl⟩:=adI.1 hx
 obtain ⟨hj,rfl⟩:=adI.1 hy
 exact List.pairwise_iff_getElem.1 h i j hi hj hij
theorem KY (f:Int->Int) : ∀ (P:List Int) (acc:List (Int × Int)),P.Pairwise (· < ·)->(acc.Pairwise fun x y=>x.1<y.1)->(∀ s∈acc, ∀ x∈P,s.1<x)->(∀ s∈acc,s.2=f s.1) ->
  ((P.foldl (fun acc p=>fe acc (p,f p)) acc).Pairwise fun x y=>x.1<y.1) /\ ∀ s∈P.foldl (fun acc p=>fe acc (p,f p)) acc,(s∈acc\/s.1∈P)/\s.2=f s.1
 | [],acc,_,h2,_,h4=>⟨h2,fun s hs=>⟨.inl hs,h4 s hs⟩⟩
 | x::P,acc,h1,h2,h3,h4=>by
  rw [aew]
  have hp:=aeC.1 h1
  have hput : ∀ s∈fe acc (x,f x),s∈acc\/s=(x,f x):=by
   intro s hs
   unfold fe at hs
   split at hs
   ·exact .inl hs
   ·rcases ad'.1 hs with hs|hs
    ·exact .inl hs
    ·exact .inr (aem.1 hs)
  have hpw:(fe acc (x,f x)).Pairwise fun x y=>x.1<y.1:=by
   unfold fe
   split
   ·exact h2
   ·refine List.pairwise_append.2 ⟨h2,List.pairwise_singleton _ _,fun a ha b hb=>?_⟩
    rw [aem.1 hb]
    exact h3 a ha x (by simp)
  obtain ⟨q1,q2⟩:=KY f P (fe acc (x,f x)) hp.2 hpw (fun s hs y hy=>by
   rcases hput s hs with h|rfl
   ·exact h3 s h y (ad7 _ hy)
   ·exact hp.1 y hy) (fun s hs=>by
   rcases hput s hs with h|rfl
   ·exact h4 s h
   ·rfl)
  refine ⟨q1,fun s hs=>?_⟩
  obtain ⟨h5,h6⟩:=q2 s hs
  refine ⟨?_,h6⟩
  rcases h5 with h5|h5
  ·rcases hput s h5 with h|rfl
   ·exact .inl h
   ·exact .inr (by simp)
  ·exact .inr (ad7 _ h5)
theorem I8 (l:List ((Int × Int) × Int)):Asc (NJ l) /\ ∀ s∈NJ l,s.1<1099511627776/\s.2=nk l s.1:=by
 obtain ⟨h1,h2⟩:=KY (nk l) (gm l) [] (JK (iw l).1) List.Pairwise.nil (fun s hs=>by cases hs) (fun s hs=>by cases hs)
 refine ⟨EO h1,fun s hs=>?_⟩
 obtain ⟨h3,h4⟩:=h2 s hs
 rcases h3 with h3|h3
 ·cases h3
 ·exact ⟨((iw l).2 s.1).1 h3 |>.2,h4⟩
theorem SQ (l:List ((Int × Int) × Int)):(NJ l).length<=1+2*l.length:=by
 have h1:=oG (nk l) (gm l)
 have h2:(gm l).length<=1+2*l.length:=by
  have ha : ∀ (l:List ((Int × Int) × Int)) (p:List Int),(l.foldl (fun p c=>if aH c.1 then ins c.1.2 (ins c.1.1 p) else p) p).length<=p.length+2*l.length:=by
   intro l
   induction l with
   | nil=>intro p;simp
   | cons c l ih =>
    intro p
    rw [aew,ad5]
    have:=ih (if aH c.1 then ins c.1.2 (ins c.1.1 p) else p)
    have h3:(if aH c.1 then ins c.1.2 (ins c.1.1 p) else p).length<=p.length+2:=by
     split
     ·have q1:=q8 c.1.2 (ins c.1.1 p);have q2:=q8 c.1.1 p;omega
     ·omega
    omega
  have h4:=ha l [0]
  have h5:(gm l).length<=(ED l).length:=by unfold gm;exact zH _ _
  have h6:ED l=l.foldl (fun p c=>if aH c.1 then ins c.1.2 (ins c.1.1 p) else p) [0]:=rfl
  rw [h6] at h5
  simp at h4;omega
 show (di (nk l) (gm l)).length<=_
 omega
theorem Dh (p:Int) : ∀ l:List ((Int × Int) × Int),(∀ c∈l,c.2=1)->0<=ry l p/\ry l p<=l.length
 | [],_=>by simp [ry]
 | c::l,h=>by
  have ih:=Dh p l fun x hx=>h x (ad7 _ hx)
  have hi:ry (c::l) p=(if aV c.1 p then c.2 else 0)+ry l p:=by simp [ry]
  have hc:=h c (by simp)
  rw [hi,ad5]
  split<;>omega
theorem sK {l:List ((Int × Int) × Int)} (p:Int) (h : ∀ c∈l,c.2=1) (hn:l.length<=1000000):nk l p=ry l p:=by
 have:=Dh p l h
 rw [vg];unfold wrap64;omega
end Go.Proofs.YtfccopdbgfdcdaaGreatDoor.St
namespace Go.Proofs.YtfccopdbgfdcdaaGreatDoor
open Go.RowKit
def ones (ps:List aW):List DI:=ps.map fun p=>⟨p,1⟩
def bO (ps:List aW):List aW:=DY (zL (ones ps))
theorem xM (ps:List aW) : ∀ c∈(ones ps).map toC,c.2=1:=by
 intro c hc
 obtain ⟨x,hx,rfl⟩:=aeh.1 hc
 obtain ⟨p,_,rfl⟩:=aeh.1 hx
 rfl
theorem Br (ps:List aW) (hn:ps.length<=300):KT (zL (ones ps)):=by
 have hl:((ones ps).map toC).length=ps.length:=by simp [ones]
 obtain ⟨h1,h2⟩:=St.I8 ((ones ps).map toC)
 have h3:=St.SQ ((ones ps).map toC)
 rw [hl] at h3
 have e:(zL (ones ps)).map toS=St.NJ ((ones ps).map toC):=by
  unfold zL
  rw [List.map_map]
  have:(toS∘ofS)=id:=by funext x;rfl
  rw [this,List.map_id]
 refine ⟨by unfold zL;rw [adU];omega,by rw [e];exact h1,fun s hs=>?_,fun s hs=>?_⟩
 ·have:toS s∈St.NJ ((ones ps).map toC):=by rw [<- e];exact List.mem_map_of_mem hs
  exact (h2 _ this).1
 ·have:toS s∈St.NJ ((ones ps).map toC):=by rw [<- e];exact List.mem_map_of_mem hs
  have h4:=(h2 _ this).2
  rw [St.sK _ (xM ps) (by omega)] at h4
  have h5:=(St.Dh (toS s).1 _ (xM ps)).2
  rw [hl] at h5
  show (toS s).2<=600
  omega
theorem Pb (ps:List aW):St.Bq ((ones ps).map toC)=ps.flatMap fun p=>St.mZ (toP p,1):=by
 unfold St.Bq ones
 rw [List.map_map,List.flatMap_map];rfl
theorem Rk {ps qs:List aW} (h:(ps.filter fun p=>St.aH (toP p)).Perm (qs.filter fun p=>St.aH (toP p))):bO ps=bO qs:=by
 have key : ∀ l:List aW,(l.flatMap fun p=>St.mZ (toP p,1))=(l.filter fun p=>St.aH (toP p)).flatMap fun p=>St.mZ (toP p,1):=by
  intro l
  induction l with
  | nil=>rfl
  | cons p l ih =>
   rw [aej,ih,List.filter_cons]
   by_cases hp:St.aH (toP p)=true
   ·rw [if_pos hp,aej]
   ·have e:St.mZ (toP p,1)=[]:=by unfold St.mZ;rw [if_neg hp]
    rw [if_neg hp,e,adN]
 have:zL (ones ps)=zL (ones qs):=by
  unfold zL
  rw [St.XF (A:=(ones ps).map toC) (B:=(ones qs).map toC)]
  rw [Pb,Pb,key ps,key qs]
  exact h.flatMap_right _
 unfold bO
 rw [this]
theorem Wy {x:Int × Int} {l:List (Int × Int)} (h1:St.Fh l 1=[x]) (h2 : ∀ j:Nat,St.Fh l ((j:Int)+2)=[]):St.tC l=[x]:=by
 have:St.j_ l=[x]:=by
  unfold St.j_
  rw [show (600:Nat)=599+1 from rfl,List.range_succ_eq_map,aej]
  rw [show St.Fh l (((0:Nat):Int)+1)=[x] from h1]
  have:(List.map Nat.succ (List.range 599)).flatMap (fun j:Nat=>St.Fh l ((j:Int)+1))=[]:=by
   rw [List.flatMap_eq_nil_iff]
   intro j hj
   obtain ⟨k,_,rfl⟩:=aeh.1 hj
   have:=h2 k
   rw [show ((k:Int)+2)=((Nat.succ k:Nat):Int)+1 by push_cast;omega] at this
   exact this
  rw [this,aeg]
 unfold St.tC
 rw [this]
 simp [St.h_]
theorem xg (p:Int × Int) (t:Int):St.nk [(p,1)] t=if St.aV p t then 1 else 0:=by
 rw [St.sK t (by simp) (by simp)]
 simp [St.ry]
theorem U0 (p:aW) (hp:St.aH (toP p)=true):bO [p]=[p]:=by
 obtain ⟨a,b⟩:=p
 have hv:0<=a/\a<b/\b<=1099511627776:=by
  have h:St.aH (a,b)=true:=hp
  simp [St.aH] at h
  omega
 have hpts:St.gm [(((a,b):Int × Int),1)]=(if a=0 then [0] else [0,a])++(if b<1099511627776 then [b] else []):=by
  have e:St.ED [(((a,b):Int × Int),1)]=St.ins b (St.ins a [0]):=by
   unfold St.ED
   simp only [aew,List.foldl_nil]
   rw [if_pos (show St.aH (a,b)=true from hp)]
  unfold St.gm
  rw [e]
  have hF:(0:Int)<1099511627776:=by decide
  by_cases h0:a=0
  ·subst h0
   rw [show St.ins 0 [0]=[0] by simp [St.ins],show St.ins b [0]=[0,b] by simp only [St.ins];rw [if_pos (by omega)]]
   by_cases hb:b<1099511627776
   ·simp [List.takeWhile,hb]
   ·simp [List.takeWhile,hb]
  ·rw [show St.ins a [0]=[0,a] by simp only [St.ins];rw [if_pos (by omega)],show St.ins b [0,a]=[0,a,b] by simp only [St.ins];rw [if_pos (by omega),if_pos (by omega)]]
   have ha:a<1099511627776:=by omega
   by_cases hb:b<1099511627776
   ·simp [List.takeWhile,hb,ha,h0]
   ·simp [List.takeWhile,hb,ha,h0]
 have hof:St.NJ [(((a,b):Int × Int),1)]=(if a=0 then [(0,1)] else [(0,0),(a,1)])++(if b<1099511627776 then [(b,0)] else []):=by
  unfold St.NJ
  rw [hpts]
  have r0:St.nk [(((a,b):Int × Int),1)] 0=if a=0 then 1 else 0:=by
   rw [xg]
   unfold St.aV
   have:St.aH (a,b)=true:=hp
   rw [this]
   by_cases h0:a=0
   ·subst h0;simp;omega
   ·have : ¬ a<=0:=by omega
    simp [h0,this]
  have ra:St.nk [(((a,b):Int × Int),1)] a=1:=by
   rw [xg]
   unfold St.aV
   have:St.aH (a,b)=true:=hp
   rw [this];simp;omega
  have rb:St.nk [(((a,b):Int × Int),1)] b=0:=by
   rw [xg]
   unfold St.aV
   have:St.aH (a,b)=true:=hp
   rw [this];simp
  by_cases h0:a=0
  ·rw [if_pos h0,if_pos h0]
   rw [if_pos h0] at r0
   by_cases hb:b<1099511627776
   ·rw [if_pos hb,if_pos hb]
    simp [St.di,St.fe,r0,rb]
   ·rw [if_neg hb,if_neg hb]
    simp [St.di,St.fe,r0]
  ·rw [if_neg h0,if_neg h0]
   rw [if_neg h0] at r0
   by_cases hb:b<1099511627776
   ·rw [if_pos hb,if_pos hb]
    simp [St.di,St.fe,r0,ra,rb]
   ·rw [if_neg hb,if_neg hb]
    simp [St.di,St.fe,r0,ra]
 have hl:St.tC (St.NJ [(((a,b):Int × Int),1)])=[(a,b)]:=by
  rw [hof]
  refine Wy ?_ fun j=>?_
  ·by_cases h0:a=0
   ·subst h0
    by_cases hb:b<1099511627776
    ·simp [hb,St.Fh,St.qf,St.dF,St.iE]
    ·have:b=1099511627776:=by omega
     simp [this,St.Fh,St.qf,St.dF,St.iE]
   ·by_cases hb:b<1099511627776
    ·simp [hb,h0,St.Fh,St.qf,St.dF,St.iE]
    ·have:b=1099511627776:=by omega
     simp [this,h0,St.Fh,St.qf,St.dF,St.iE]
  ·refine St.Fx.2 fun s hs=>?_
   have:s.2=0\/s.2=1:=by
    rcases ad'.1 hs with hs|hs
    ·split at hs
     ·rw [aem.1 hs];exact .inr rfl
     ·rcases adZ.1 hs with rfl|hs
      ·exact .inl rfl
      ·rw [aem.1 hs];exact .inr rfl
    ·split at hs
     ·rw [aem.1 hs];exact .inl rfl
     ·cases hs
   omega
 unfold bO DY zL ones
 rw [List.map_map,show (toS∘ofS)=id from rfl,List.map_id]
 show ((St.tC (St.NJ [(((a,b):Int × Int),1)])).map ofP)=_
 rw [hl];rfl
open Go.RowKit Go.MapKept
theorem bJ {α β ρ:Type} {l:List α} {body:(List β × Int)->Option (Step (List β × Int) ρ)} (g:α->List β) (N:Nat) (h1 : ∀ (s:List β) (i:Nat) x,l[i]?=some x->s.length+(g x).length<=N->body (s,(i:Int))=some (.next (s++g x,((i+1:Nat):Int)))) (h2 : ∀ s:List β,body (s,((l.length:Nat):Int))=some (.exit (s,((l.length:Nat):Int)))) (hl:l.length<fuel) (s:List β) (hN:s.length+(l.flatMap g).length<=N) :
  az body fuel (s,(0:Int))=some (.inl (s++l.flatMap g,((l.length:Nat):Int))):=by
 have key : ∀ (n i:Nat) (s:List β),i<=l.length->l.length-i<n->s.length+((l.drop i).flatMap g).length<=N->az body n (s,(i:Int))=some (.inl (s++(l.drop i).flatMap g,((l.length:Nat):Int))):=by
  intro n
  induction n with
  | zero=>intro i s _ h _;omega
  | succ n ih =>
   intro i s hi hn hs
   rw [az]
   by_cases hlt:i<l.length
   ·obtain ⟨x,hx⟩:=gol_ hlt
    have e1:=(adI.1 hx).2
    rw [aed hlt,e1,aej] at hs ⊢
    rw [adQ] at hs
    rw [h1 s i x hx (by omega)]
    show az body n _=_
    rw [ih (i+1) (s++g x) (by omega) (by omega) (by rw [adQ];omega),ad_]
   ·have:i=l.length:=by omega
    subst this
    rw [h2,aeB]
    simp
 have:=key fuel 0 s (ad4 _) (by omega) (by simpa using hN)
 simpa using this
def K5 (l:List (List Val)):Prop:=l.Pairwise fun a b=>cu a b<0
theorem De : ∀ {a b:List (List Val)}, K5 a->K5 b->(∀ x,x∈a↔x∈b)->a=b
 | [],[],_,_,_=>rfl
 | [],y::b,_,_,h=>by have:=(h y).2 (by simp);cases this
 | x::a,[],_,_,h=>by have:=(h x).1 (by simp);cases this
 | x::a,y::b,ha,hb,h=>by
  have ha:=aeC.1 ha
  have hb:=aeC.1 hb
  have irr : ∀ z, ¬ cu z z<0:=fun z=>by rw [tCr_.refl];omega
  have hxy:x=y:=by
   rcases adZ.1 ((h x).1 (by simp)) with e|e
   ·exact e
   ·rcases adZ.1 ((h y).2 (by simp)) with e2|e2
    ·exact e2.symm
    ·exact absurd (tCr_.trans _ _ _ (ha.1 y e2) (hb.1 x e)) (irr x)
  subst hxy
  rw [De ha.2 hb.2 fun z=>?_]
  constructor
  ·intro hz
   rcases adZ.1 ((h z).1 (ad7 _ hz)) with rfl|e
   ·exact absurd (ha.1 z hz) (irr z)
   ·exact e
  ·intro hz
   rcases adZ.1 ((h z).2 (ad7 _ hz)) with rfl|e
   ·exact absurd (hb.1 z hz) (irr z)
   ·exact e
instance decRow (a b : List Val) : Decidable (a = b) := if h : cu a b = 0 then .isTrue (tCr_.zero _ _ h) else .isFalse fun e => h (by rw [e]; exact tCr_.refl _)
def bn (l:List aG) (r:List Val):List aW:=(l.filter fun f=>aM f.valid&&decide (f.row=r)).map (·.valid)
def eZ (l:List aG) (R:List (List Val)):Prop:=K5 R /\ ∀ x,x∈R ↔ ∃ f∈l,aM f.valid=true/\f.row=x
def eQ (l:List aG) (R:List (List Val)):List aG:=R.flatMap fun r=>(bO (bn l r)).map fun p=>⟨r,p⟩
theorem eZ.ext {l:List aG} {R S:List (List Val)} (h:eZ l R) (k:eZ l S):R=S:=De h.1 k.1 fun x=>(h.2 x).trans (k.2 x).symm
theorem qa (l:List aG) (f:aG) (r:List Val):bn (l++[f]) r=bn l r++(if aM f.valid&&decide (f.row=r) then [f.valid] else []):=by
 unfold bn
 rw [List.filter_append,adV]
 congr 1
 by_cases h:(aM f.valid&&decide (f.row=r))=true
 ·simp [h]
 ·simp [h]
theorem IJ {s:ByteArray} : ∀ {G:List bN} {i:Nat}, iN s G=some i -> ∃ g,G[i]?=some g/\jg g.f.row=s
 | [],_,h=>by simp [iN] at h
 | g::r,i,h=>by
  unfold iN at h
  split at h
  ·rename_i e;injection h with h;subst h;exact ⟨g,rfl,e.symm⟩
  ·cases hr:iN s r with
   | none=>rw [hr] at h;cases h
   | some j =>
    rw [hr] at h;injection h with h;subst h
    obtain ⟨g',h1,h2⟩:=IJ hr
    exact ⟨g',by simpa using h1,h2⟩
theorem I1 {s:ByteArray} : ∀ {G:List bN}, iN s G=none -> ∀ g∈G,jg g.f.row≠s
 | [],_,g,hg=>by cases hg
 | x::r,h,g,hg=>by
  unfold iN at h
  split at h
  ·cases h
  ·rename_i e
   cases hr:iN s r with
   | none =>
    rcases adZ.1 hg with rfl|hg
    ·exact fun q=>e q.symm
    ·exact I1 hr g hg
   | some j=>rw [hr] at h;cases h
structure GInv (l:List aG) (G:List bN):Prop where
 nd:G.Pairwise fun g h=>g.f.row≠h.f.row
 ps : ∀ g∈G,g.ps=bn l g.f.row
 mem : ∀ g∈G, ∃ f∈l,aM f.valid=true/\f.row=g.f.row
 all : ∀ f∈l,aM f.valid=true -> ∃ g∈G,g.f.row=f.row
theorem GInv.step {l:List aG} {G:List bN} (h:GInv l G) (f:aG):GInv (l++[f]) (jK G f):=by
 unfold jK
 cases hv:aM f.valid with
 | false =>
  rw [adJ]
  refine ⟨h.nd,fun g hg=>?_,fun g hg=>?_,fun f' hf' hv'=>?_⟩
  ·rw [qa,hv];simpa using h.ps g hg
  ·obtain ⟨f',h1,h2⟩:=h.mem g hg;exact ⟨f',List.mem_append_left _ h1,h2⟩
  ·rcases ad'.1 hf' with hf'|hf'
   ·exact h.all f' hf' hv'
   ·rw [aem.1 hf'] at hv';rw [hv] at hv';cases hv'
 | true =>
  rw [adK]
  cases hf:iN (jg f.row) G with
  | none =>
   have hne : ∀ g∈G,g.f.row≠f.row:=fun g hg e=>I1 hf g hg (by rw [e])
   have hemp:bn l f.row=[]:=by
    unfold bn
    rw [List.map_eq_nil_iff,List.filter_eq_nil_iff]
    intro f' hf' hc
    rw [ad1] at hc
    obtain ⟨g,hg,e⟩:=h.all f' hf' hc.1
    exact hne g hg (e.trans (aea hc.2))
   refine ⟨List.pairwise_append.2 ⟨h.nd,List.pairwise_singleton _ _,fun g hg g' hg'=>by rw [aem.1 hg'];exact hne g hg⟩,fun g hg=>?_,fun g hg=>?_,fun f' hf' hv'=>?_⟩
   ·rcases ad'.1 hg with hg|hg
    ·rw [qa,hv,show decide (f.row=g.f.row)=false from adL fun e=>hne g hg e.symm]
     simpa using h.ps g hg
    ·rw [aem.1 hg,qa,hv,hemp];simp
   ·rcases ad'.1 hg with hg|hg
    ·obtain ⟨f',h1,h2⟩:=h.mem g hg;exact ⟨f',List.mem_append_left _ h1,h2⟩
    ·rw [aem.1 hg];exact ⟨f,by simp,hv,rfl⟩
   ·rcases ad'.1 hf' with hf'|hf'
    ·obtain ⟨g,hg,e⟩:=h.all f' hf' hv';exact ⟨g,List.mem_append_left _ hg,e⟩
    ·rw [aem.1 hf'];exact ⟨⟨f,[f.valid]⟩,by simp,rfl⟩
  | some i =>
   obtain ⟨g0,hg0,hk⟩:=IJ hf
   have hrow:g0.f.row=f.row:=key_inj hk
   dsimp only
   rw [hg0]
   dsimp only
   have hil:=(adI.1 hg0).1
   have hmap:(G.set i ⟨g0.f,g0.ps++[f.valid]⟩).map (·.f.row)=G.map (·.f.row):=by
    rw [List.map_set]
    refine List.ext_getElem? fun j=>?_
    rw [List.getElem?_set]
    split
    ·rename_i e;subst e
     rw [adU,if_pos hil,ad6,hg0];rfl
    ·rfl
   have hnd:(G.set i ⟨g0.f,g0.ps++[f.valid]⟩).Pairwise fun g h=>g.f.row≠h.f.row:=by
    have h1:(G.map (·.f.row)).Pairwise (· ≠ ·):=List.pairwise_map.2 h.nd
    rw [<- hmap] at h1
    exact List.pairwise_map.1 h1
   have hmemG : ∀ g∈G.set i ⟨g0.f,g0.ps++[f.valid]⟩,(g∈G/\g.f.row≠f.row)\/g=⟨g0.f,g0.ps++[f.valid]⟩:=by
    intro g hg
    obtain ⟨j,hj⟩:=List.getElem?_of_mem hg
    rw [List.getElem?_set] at hj
    split at hj
    ·rename_i e
     injection hj with hj
     exact .inr hj.symm
    ·rename_i e
     refine .inl ⟨adO hj,fun q=>?_⟩
     have hjl:=(adI.1 hj).1
     have e1:=(adI.1 hj).2
     have e2:=(adI.1 hg0).2
     rcases Nat.lt_or_gt_of_ne e with hlt|hlt
     ·have:=List.pairwise_iff_getElem.1 h.nd i j hil hjl hlt
      rw [e1,e2] at this;exact this (hrow.trans q.symm)
     ·have:=List.pairwise_iff_getElem.1 h.nd j i hjl hil hlt
      rw [e1,e2] at this;exact this (q.trans hrow.symm)
   have hg0m:=adO hg0
   refine ⟨hnd,fun g hg=>?_,fun g hg=>?_,fun f' hf' hv'=>?_⟩
   ·rcases hmemG g hg with ⟨hg,hne⟩|rfl
    ·rw [qa,hv,show decide (f.row=g.f.row)=false from adL fun e=>hne e.symm]
     simpa using h.ps g hg
    ·show g0.ps++[f.valid]=bn (l++[f]) g0.f.row
     rw [qa,hv,show decide (f.row=g0.f.row)=true from adM hrow.symm, <- h.ps g0 hg0m];rfl
   ·rcases hmemG g hg with ⟨hg,_⟩|rfl
    ·obtain ⟨f',h1,h2⟩:=h.mem g hg;exact ⟨f',List.mem_append_left _ h1,h2⟩
    ·exact ⟨f,by simp,hv,hrow.symm⟩
   ·have hex : ∃ g∈G,g.f.row=f'.row:=by
     rcases ad'.1 hf' with hf'|hf'
     ·exact h.all f' hf' hv'
     ·rw [aem.1 hf'];exact ⟨g0,hg0m,hrow⟩
    obtain ⟨g,hg,e⟩:=hex
    have:g.f.row∈(G.set i ⟨g0.f,g0.ps++[f.valid]⟩).map (·.f.row):=by rw [hmap];exact List.mem_map_of_mem hg
    obtain ⟨g',hg',e'⟩:=aeh.1 this
    exact ⟨g',hg',e'.trans e⟩
theorem QK (l:List aG):GInv l (fo l):=by
 have : ∀ (l l0:List aG) (G:List bN),GInv l0 G->GInv (l0++l) (l.foldl jK G):=by
  intro l
  induction l with
  | nil=>intro l0 G h;simpa using h
  | cons f l ih =>
   intro l0 G h
   have:=ih (l0++[f]) _ (h.step f)
   rw [ad_] at this
   exact this
 have:=this l [] [] ⟨List.Pairwise.nil,fun g hg=>(by cases hg),fun g hg=>(by cases hg),fun f hf=>(by cases hf)⟩
 simpa [fo] using this
theorem zK (a b d:List Val) (h1:cu a b<=0) (h2:cu b d<=0):cu a d<=0:=by
 rcases Int.lt_or_eq_of_le h1 with h1|h1
 ·rcases Int.lt_or_eq_of_le h2 with h2|h2
  ·exact Int.le_of_lt (tCr_.trans _ _ _ h1 h2)
  ·rw [<- tCr_.zero _ _ h2];exact Int.le_of_lt h1
 ·rw [tCr_.zero _ _ h1];exact h2
theorem Yt (a b:List Val) (h : ¬ cu a b<0):cu b a<=0:=by
 have:=(tCr_.anti a b);omega
theorem Jc (l:List aG) : ∃ R,eZ l R/\oW l=R.map fun r=>⟨r,bn l r⟩:=by
 have hi:=QK l
 have hp:=Am mi ((fo l).map fun g=>(⟨g.f.row,g.ps⟩:ay))
 have ha:=U3 (c:=mi) (fun a b d=>zK a.row b.row d.row) (fun a b=>Yt a.row b.row) ((fo l).map fun g=>(⟨g.f.row,g.ps⟩:ay))
 have hn:(oW l).Pairwise fun a b=>a.row≠b.row:=by
  have h1:((fo l).map fun g=>(⟨g.f.row,g.ps⟩:ay)).Pairwise fun a b=>a.row≠b.row:=List.pairwise_map.2 hi.nd
  exact (List.Perm.pairwise_iff (fun {a b} h=>Ne.symm h) hp).2 h1
 have hmem : ∀ s∈oW l,s.periods=bn l s.row /\ ∃ f∈l,aM f.valid=true/\f.row=s.row:=by
  intro s hs
  obtain ⟨g,hg,rfl⟩:=aeh.1 (hp.mem_iff.1 hs)
  exact ⟨hi.ps g hg,hi.mem g hg⟩
 refine ⟨(oW l).map (·.row),⟨?_,fun x=>?_⟩,?_⟩
 ·refine List.pairwise_map.2 ?_
  refine (List.Pairwise.and ha hn).imp ?_
  rintro a b ⟨h1,h2⟩
  rcases Int.lt_or_eq_of_le h1 with h|h
  ·exact h
  ·exact absurd (tCr_.zero _ _ h) h2
 ·constructor
  ·intro hx
   obtain ⟨s,hs,rfl⟩:=aeh.1 hx
   exact (hmem s hs).2
  ·rintro ⟨f,hf,hv,rfl⟩
   obtain ⟨g,hg,e⟩:=hi.all f hf hv
   exact aeh.2 ⟨⟨g.f.row,g.ps⟩,hp.mem_iff.2 (aeh.2 ⟨g,hg,rfl⟩),e⟩
 ·rw [List.map_map]
  refine (List.map_id (oW l)).symm.trans (List.map_congr_left fun s hs=>?_)
  have:=(hmem s hs).1
  obtain ⟨r,ps⟩:=s
  show (⟨r,ps⟩:ay)=⟨r,bn l r⟩
  rw [<- this]
theorem fo_ {α β:Type} (f:α->β) : ∀ l:List α,(l.flatMap fun x=>[f x])=l.map f
 | []=>rfl
 | x::l=>by rw [aej,fo_ f l];rfl
theorem Qi (ps:List aW) (hn:ps.length<=100000):wQ ps=some (zL (ones ps)):=by
 unfold wQ
 rw [bJ (l:=ps) (fun p=>[(⟨p,1⟩:DI)]) 5864062014805 ?_ ?_ (by unfold fuel;omega) [] (by rw [fo_];simp;omega)]
 ·rw [adH,fo_,adN]
  show (Wj (ones ps)).bind _=_
  unfold Wj
  rw [show decide ((ones ps).length<=100000)=true from adM (by simpa [ones] using hn)]
  rfl
 ·intro s i x hx hs
  have hi:=(adI.1 hx).1
  unfold rf
  dsimp only
  rw [aI hx,adK,gn_ hx]
  simp only [adH]
  rw [show decide (s.length+1<=5864062014805)=true from adM (by simpa using hs),adK,wrapN (by omega)]
 ·intro s
  unfold rf
  dsimp only
  rw [lF_,adJ]
theorem J6 (ps:List aW):(bO ps).length<=600*(1+2*ps.length):=by
 unfold bO DY
 rw [adU,(St.Dj _).2.length_eq]
 have h1:=St.yY ((zL (ones ps)).map toS) 600
 have h2:St.j_ ((zL (ones ps)).map toS)=St.jV ((zL (ones ps)).map toS) 600:=rfl
 rw [h2]
 have h3:((zL (ones ps)).map toS).length<=1+2*ps.length:=by
  rw [adU]
  unfold zL
  rw [adU]
  have:=St.SQ ((ones ps).map toC)
  simpa [ones] using this
 exact Nat.le_trans h1 (Nat.mul_le_mul_left _ h3)
theorem XD (ps:List aW) (hn:ps.length<=300) (hv : ∀ p∈ps,aM p=true):OE ps=some (bO ps):=by
 unfold OE
 by_cases h1:ps.length=1
 ·rw [show decide (((ps.length:Nat):Int)=1)=true from adM (by omega),adK]
  match ps,h1 with
  | [p],_=>rw [U0 p (hv p (by simp))]
 ·rw [show decide (((ps.length:Nat):Int)=1)=false from adL (by omega),adJ,Qi ps (by omega),adH]
  unfold SK
  rw [if_pos (Br ps hn)]
  rfl
theorem Lh (l:List aG) (r:List Val):(bn l r).length<=l.length:=by unfold bn;rw [adU];exact List.length_filter_le _ _
theorem EA (l:List aG) (r:List Val) : ∀ p∈bn l r,aM p=true:=by
 intro p hp
 obtain ⟨f,hf,rfl⟩:=aeh.1 hp
 have:=(List.mem_filter.1 hf).2
 rw [ad1] at this
 exact this.1
def Ju (s:ay):List aG:=(bO s.periods).map fun p=>⟨s.row,p⟩
theorem Sz (l:List aG) (h:bM l) : ∃ R,eZ l R/\Nl l=some (eQ l R):=by
 obtain ⟨R,hR,hr⟩:=Jc l
 refine ⟨R,hR,?_⟩
 have hmem : ∀ s∈oW l,s.periods.length<=19/\(∀ p∈s.periods,aM p=true)/\s.row.length<=1000:=by
  intro s hs
  rw [hr] at hs
  obtain ⟨r,hrR,rfl⟩:=aeh.1 hs
  obtain ⟨f,hf,_,e⟩:=(hR.2 r).1 hrR
  refine ⟨Nat.le_trans (Lh l r) h.1,EA l r,?_⟩
  show r.length<=1000
  rw [<- e];exact (h.2 f hf).1
 have hlen:(oW l).length<=19:=by
  have h1:=(Am mi ((fo l).map fun g=>(⟨g.f.row,g.ps⟩:ay))).length_eq
  have h2:=zV l
  have h3:=h.1
  show (ww mi _).length<=19
  rw [h1,adU];omega
 have hg : ∀ s∈oW l,(Ju s).length<=23400:=by
  intro s hs
  unfold Ju
  rw [adU]
  have h1:=J6 s.periods
  have h2:=(hmem s hs).1
  omega
 have htot:((oW l).flatMap Ju).length<=19*23400:=by
  have : ∀ (L:List ay),(∀ s∈L,(Ju s).length<=23400)->(L.flatMap Ju).length<=L.length*23400:=by
   intro L
   induction L with
   | nil=>intro _;simp
   | cons s L ih =>
    intro hL
    have h1:=ih fun x hx=>hL x (ad7 _ hx)
    have h2:=hL s (by simp)
    rw [aej,adQ,ad5];omega
  exact Nat.le_trans (this _ hg) (aei _ hlen)
 have hb:eQ l R=(oW l).flatMap Ju:=by
  rw [hr,List.flatMap_map];rfl
 unfold Nl L6
 have e1:Bz l=some (oW l):=by unfold Bz;rw [if_pos h]
 rw [e1,adH]
 generalize oW l=X at hmem hlen hg htot hb ⊢
 rw [bJ (l:=X) Ju 3518437208883 ?_ ?_ (by unfold fuel;omega) [] (by simp only [aec];omega)]
 ·simp only [adH,yo,adN,hb]
 ·intro s i x hx hs
  have hi:=(adI.1 hx).1
  obtain ⟨m1,m2,m3⟩:=hmem x (adO hx)
  unfold yZ
  dsimp only
  rw [aI hx,adK,gn_ hx]
  simp only [adH]
  rw [XD x.periods (by omega) m2,adH]
  have hgl:(Ju x).length=(bO x.periods).length:=by unfold Ju;rw [adU]
  have hgx:=hg x (adO hx)
  rw [bJ (l:=bO x.periods) (fun p=>[(⟨x.row,p⟩:aG)]) 3518437208883 ?_ ?_ (by unfold fuel;omega) s (by rw [fo_,adU];omega)]
  ·rw [adH,fo_]
   show some (Step.next (s++Ju x,_))=_
   rw [wrapN (by omega)]
  ·intro s' j y hy hs'
   have hj:=(adI.1 hy).1
   unfold yB
   dsimp only
   rw [aI hy,adK,gn_ hy]
   simp only [adH]
   rw [show decide (x.row.length<=4398046511104)=true from adM (by omega),adK,show decide (s'.length+1<=3518437208883)=true from adM (by simpa using hs'),adK,wrapN (by omega)]
  ·intro s'
   unfold yB
   dsimp only
   rw [lF_,adJ]
 ·intro s
  unfold yZ
  dsimp only
  rw [lF_,adJ]
set_option maxRecDepth 100000
def RD (l:List aG):Prop:=l.Pairwise fun a b=>cu a.row b.row<=0
def Z4 (x y:aG):Bool:=VQ x.row y.row
theorem qz (x y:aG):Z4 x y=true↔cu x.row y.row<=0:=nN x.row y.row
theorem nI {a b:List aG} (ha:a.length<=1000000) (hb:b.length<=1000000) (hra : ∀ r∈a,r.row.length<=1000000) (hrb : ∀ r∈b,r.row.length<=1000000) : ∀ (n i k:Nat) (out:List aG),i<=a.length->k<=b.length->out.length=i+k->(a.length-i)+(b.length-k)<n->(az (dm a b) n (out,(i:Int),(k:Int))).bind nU=some (out++List.merge (a.drop i) (b.drop k) Z4)
 | 0,_,_,_,_,_,_,h=>by omega
 | n+1,i,k,out,h1,h2,ho,hn=>by
  have hg:decide (out.length+1<=3518437208883)=true:=adM (by omega)
  rw [az]
  by_cases hlt:i<a.length
  ·obtain ⟨x,hx⟩:=gol_ hlt
   have ex:=(adI.1 hx).2
   have hne:decide ((i:Int)=((a.length:Nat):Int))=false:=adL (by omega)
   have ihA:=nI ha hb hra hrb n (i+1) k (out++[x]) (by omega) (by omega) (by simp;omega) (by omega)
   by_cases hlb:k<b.length
   ·obtain ⟨y,hy⟩:=gol_ hlb
    have ey:=(adI.1 hy).2
    have ihB:=nI ha hb hra hrb n i (k+1) (out++[y]) (by omega) (by omega) (by simp;omega) (by omega)
    have eb:dm a b (out,(i:Int),(k:Int))=bif decide (cu y.row x.row<0) then some (.next (out++[y],(i:Int),((k+1:Nat):Int))) else some (.next (out++[x],((i+1:Nat):Int),(k:Int))):=by
     unfold dm
     dsimp only
     rw [aI hx,adK,hne,adJ,aI hy,adK,gn_ hy,gn_ hx]
     simp only [adH]
     rw [mr y.row x.row (by have:=hrb y (adO hy);omega) (by have:=hra x (adO hx);omega),wrapN (by omega),wrapN (by omega),hg]
     rfl
    rw [eb,aed hlt,aed hlb,ex,ey,List.cons_merge_cons]
    rw [aed hlb,ey] at ihA
    rw [aed hlt,ex] at ihB
    by_cases hc:cu y.row x.row<0
    ·rw [show decide (cu y.row x.row<0)=true from adM hc,adK,if_neg (by unfold Z4 VQ;simp [hc])]
     dsimp only
     rw [ihB];simp
    ·rw [show decide (cu y.row x.row<0)=false from adL hc,adJ,if_pos (by unfold Z4 VQ;simp [hc])]
     dsimp only
     rw [ihA];simp
   ·have hk:k=b.length:=by omega
    have eb:dm a b (out,(i:Int),(k:Int))=some (.next (out++[x],((i+1:Nat):Int),(k:Int))):=by
     unfold dm
     dsimp only
     rw [aI hx,adK,hne,adJ,hk,lF_,adJ,gn_ hx]
     simp only [adH]
     rw [wrapN (by omega),hg]
     rfl
    rw [eb]
    dsimp only
    rw [ihA,aed hlt,ex,hk,aeB,List.merge_right,List.merge_right]
    simp
  ·have hi:i=a.length:=by omega
   subst hi
   by_cases hlb:k<b.length
   ·obtain ⟨y,hy⟩:=gol_ hlb
    have ey:=(adI.1 hy).2
    have ihB:=nI ha hb hra hrb n a.length (k+1) (out++[y]) (by omega) (by omega) (by simp;omega) (by omega)
    have eb:dm a b (out,((a.length:Nat):Int),(k:Int))=some (.next (out++[y],((a.length:Nat):Int),((k+1:Nat):Int))):=by
     unfold dm
     dsimp only
     rw [lF_,adJ,aI hy,adK,show decide (((a.length:Nat):Int)=((a.length:Nat):Int))=true from adM rfl,adK,gn_ hy]
     simp only [adH]
     rw [wrapN (by omega),hg]
     rfl
    rw [eb]
    dsimp only
    rw [ihB,aed hlb,ey,aeB,List.nil_merge,List.nil_merge]
    simp
   ·have hk:k=b.length:=by omega
    subst hk
    have eb:dm a b (out,((a.length:Nat):Int),((b.length:Nat):Int))=some (.exit (out,((a.length:Nat):Int),((b.length:Nat):Int))):=by
     unfold dm
     dsimp only
     rw [lF_,adJ,lF_,adJ]
    rw [eb,aeB,aeB,List.nil_merge,aeg]
    rfl
theorem MH {a b:List aG} (ha:a.length<=1000000) (hb:b.length<=1000000) (hra : ∀ r∈a,r.row.length<=1000000) (hrb : ∀ r∈b,r.row.length<=1000000):sV a b=some (List.merge a b Z4):=by
 unfold sV
 have:=nI ha hb hra hrb fuel 0 0 [] (ad4 _) (ad4 _) rfl (by unfold fuel;omega)
 rw [show (((0:Nat):Int))=0 from rfl] at this
 rw [this];simp
theorem Rz {a b:List aG} (ha:RD a) (hb:RD b):RD (List.merge a b Z4):=by
 have:=List.pairwise_merge (le:=Z4) (fun x y z h1 h2=>(qz x z).2 (zK _ _ _ ((qz x y).1 h1) ((qz y z).1 h2))) (fun x y=>by
  rw [Bool.or_eq_true,qz,qz];exact tCr_.total x.row y.row) a b (ha.imp fun h=>(qz _ _).2 h) (hb.imp fun h=>(qz _ _).2 h)
 exact this.imp fun h=>(qz _ _).1 h
theorem OW : ∀ (n:Nat) (l:List aG),l.length<=n->l.length<=1000000->(∀ r∈l,r.row.length<=1000000) -> ∃ r,xS (n+1) l=some r/\RD r/\r.Perm l:=by
 intro n
 induction n with
 | zero =>
  intro l h _ _
  have:l=[]:=by cases l with|nil=>rfl|cons _ _=>simp at h
  subst this
  exact ⟨[],rfl,List.Pairwise.nil,List.Perm.refl _⟩
 | succ n ih =>
  intro l h hl hr
  match l,h,hl,hr with
  | [],_,_,_=>exact ⟨[],rfl,List.Pairwise.nil,List.Perm.refl _⟩
  | [x],_,_,hr=>exact ⟨[x],rfl,by simp [RD],List.Perm.refl _⟩
  | x::y::t,h,hl,hr =>
   generalize hL:x::y::t=l at h hl hr
   have h2:2<=l.length:=by rw [<- hL];simp
   have hm:IntKind.i64.wrap (((l.length:Nat):Int).tdiv (2:Int))=((l.length/2:Nat):Int):=by
    rw [show ((l.length:Nat):Int).tdiv 2=((l.length/2:Nat):Int) from rfl]
    exact iY (by omega) (by omega)
   have s1:jI l 0 ((l.length/2:Nat):Int)=some (l.take (l.length/2)):=by
    unfold jI
    rw [if_pos (by omega),Int.toNat_natCast];rfl
   have s2:jI l ((l.length/2:Nat):Int) ((l.length:Nat):Int)=some (l.drop (l.length/2)):=by
    unfold jI
    rw [if_pos (by omega),Int.toNat_natCast,Int.toNat_natCast,List.take_length]
   obtain ⟨r1,e1,a1,p1⟩:=ih (l.take (l.length/2)) (by simp;omega) (by simp;omega) fun r hr'=>hr r (aeD hr')
   obtain ⟨r2,e2,a2,p2⟩:=ih (l.drop (l.length/2)) (by simp;omega) (by simp;omega) fun r hr'=>hr r (List.mem_of_mem_drop hr')
   refine ⟨List.merge r1 r2 Z4,?_,Rz a1 a2,?_⟩
   ·show rU (xS (n+1)) l=_
    unfold rU
    rw [show decide (((l.length:Nat):Int)<2)=false from adL (by omega),adJ,show decide ((2:Int)≠0)=true from rfl,adK,hm,s1]
    simp only [adH]
    rw [e1,adH,s2,adH,e2,adH]
    rw [MH (by rw [p1.length_eq];simp;omega) (by rw [p2.length_eq];simp;omega) (fun r hr'=>hr r (aeD (p1.mem_iff.1 hr'))) (fun r hr'=>hr r (List.mem_of_mem_drop (p2.mem_iff.1 hr')))]
    rfl
   ·refine (List.merge_perm_append Z4).trans ((p1.append p2).trans ?_)
    rw [aer]
theorem kU (p:aW):lT p=some (aM p):=by
 unfold lT aM
 cases h1:decide (0<=p.lo)<;>cases h2:decide (p.lo<p.hi)<;>cases h3:decide (p.hi<=1099511627776)<;>simp_all
theorem Mo (x:List Val) (h:x.length<=1000000):kI x x=some true:=by
 unfold kI
 rw [mr x x (by omega) (by omega),adH,tCr_.refl];rfl
theorem F3 (r:List Val) (hr:r.length<=1000000) (k:Nat) (hk:k<=63):kX (List.replicate k r)=some (if k=0 then [] else [r]):=by
 unfold kX
 have hp:=gL (List.replicate k r)
 have hs:gD (List.replicate k r)=List.replicate k r:=by
  refine List.eq_replicate_iff.2 ⟨by rw [hp.length_eq];simp,fun b hb=>?_⟩
  exact (List.mem_replicate.1 (hp.mem_iff.1 hb)).2
 rw [za _ (by simpa using hk) (fun x hx=>by rw [(List.mem_replicate.1 hx).2];exact hr),adH,hs]
 have hlen:(List.replicate k r).length=k:=by simp
 have get : ∀ i,i<k->(List.replicate k r)[i]?=some r:=fun i hi=>by rw [List.getElem?_replicate];simp [hi]
 have loop : ∀ (n i:Nat),1<=i->i<=k->k-i<n->az (bP (List.replicate k r)) n ([r],(i:Int))=some (.inl ([r],(k:Int))):=by
  intro n
  induction n with
  | zero=>intro i _ _ h;omega
  | succ n ih =>
   intro i h1 h2 hn
   rw [az]
   by_cases hlt:i<k
   ·have hx:=get i hlt
    have e:bP (List.replicate k r) ([r],(i:Int))=some (.next ([r],((i+1:Nat):Int))):=by
     unfold bP
     dsimp only
     rw [aI hx,adK,show decide ((i:Int)=0)=false from adL (by omega),adJ,show IntKind.i64.wrap ((i:Int)-1)=((i-1:Nat):Int) from iY (by omega) (by omega),gn_ (get (i-1) (by omega)),gn_ hx]
     simp only [adH]
     rw [Mo r hr]
     simp only [adH,Bool.not_true,adJ]
     rw [wrapN (by omega)]
    rw [e]
    exact ih (i+1) (by omega) (by omega) (by omega)
   ·have:i=k:=by omega
    subst this
    have e:bP (List.replicate i r) ([r],(i:Int))=some (.exit ([r],(i:Int))):=by
     unfold bP
     dsimp only
     rw [show decide ((i:Int)<(((List.replicate i r).length:Nat):Int))=false from adL (by simp),adJ]
    rw [e]
 by_cases h0:k=0
 ·subst h0
  rw [if_pos rfl]
  have e:bP (List.replicate 0 r) ([],0)=some (.exit ([],0)):=by
   unfold bP
   rfl
  show (az (bP (List.replicate 0 r)) (4611686018427387903+1) ([],0)).bind jq=_
  rw [az,e]
  rfl
 ·rw [if_neg h0]
  have hx:=get 0 (by omega)
  have e:bP (List.replicate k r) ([],0)=some (.next ([r],((1:Nat):Int))):=by
   have hg:=gn_ hx
   unfold bP
   dsimp only
   rw [show decide ((0:Int)<(((List.replicate k r).length:Nat):Int))=true from adM (by simp;omega),adK,show decide ((0:Int)=0)=true from rfl,adK]
   rw [show aA (List.replicate k r) 0=some r from hg]
   rfl
  show (az (bP (List.replicate k r)) (4611686018427387903+1) ([],0)).bind jq=_
  rw [az,e]
  dsimp only
  rw [loop 4611686018427387903 1 (by omega) (by omega) (by omega)]
  rfl
theorem OT (s:List aG) (r:List Val) (hr:r.length<=1000000) (hs : ∀ f∈s,f.row=r) (hn:s.length<=63):BD s=some (if s.any fun f=>aM f.valid then [r] else []):=by
 unfold BD
 have hfm : ∀ l:List aG,(∀ f∈l,f.row=r)->(l.flatMap fun f=>if aM f.valid then [f.row] else [])=List.replicate (l.countP fun f=>aM f.valid) r:=by
  intro l
  induction l with
  | nil=>intro _;rfl
  | cons f l ih =>
   intro h
   rw [aej,ih fun x hx=>h x (ad7 _ hx),List.countP_cons,h f (by simp)]
   by_cases hv:aM f.valid=true
   ·rw [if_pos hv,if_pos hv,List.replicate_succ];rfl
   ·rw [if_neg hv,if_neg hv];rfl
 have hc:s.countP (fun f=>aM f.valid)<=s.length:=List.countP_le_length
 rw [bJ (l:=s) (fun f=>if aM f.valid then [f.row] else []) 5864062014805 ?_ ?_ (by unfold fuel;omega) [] (by rw [hfm s hs];simp;omega)]
 ·rw [adH,hfm s hs,adN]
  show (kX _).bind _=_
  rw [F3 r hr _ (by omega),adH]
  by_cases ha:(s.any fun f=>aM f.valid)=true
  ·rw [if_pos ha,if_neg]
   intro e
   obtain ⟨f,hf,hv⟩:=List.any_eq_true.1 ha
   have:=(List.countP_pos_iff (p:=fun f:aG=>aM f.valid)).2 ⟨f,hf,hv⟩
   omega
  ·rw [if_neg ha,if_pos]
   rw [List.countP_eq_zero]
   intro f hf hv
   exact ha (List.any_eq_true.2 ⟨f,hf,hv⟩)
 ·intro o i x hx ho
  have hi:=(adI.1 hx).1
  unfold uS
  dsimp only
  rw [aI hx,adK,gn_ hx]
  simp only [adH]
  rw [kU,adH]
  by_cases hv:aM x.valid=true
  ·rw [if_pos hv] at ho ⊢
   rw [hv,adK,show decide (o.length+1<=5864062014805)=true from adM (by simpa using ho),adK,wrapN (by omega)]
  ·rw [if_neg hv]
   rw [Bool.not_eq_true] at hv
   rw [hv,adJ,wrapN (by omega),aeg]
 ·intro o
  unfold uS
  dsimp only
  rw [lF_,adJ]
def dR (l:List aG) (r:List Val):List aW:=(l.filter fun f=>decide (f.row=r)).map (·.valid)
theorem Nz (s:List aG) (r:List Val) (hr:r.length<=1000000) (hs : ∀ f∈s,f.row.length<=1000000) (hn:s.length<=1000):sZ s r=some (zL (ones (dR s r))):=by
 unfold sZ
 have hfm : ∀ l:List aG,(l.flatMap fun f=>if f.row=r then [(⟨f.valid,1⟩:DI)] else [])=ones (dR l r):=by
  intro l
  induction l with
  | nil=>rfl
  | cons f l ih =>
   rw [aej,ih]
   unfold dR ones
   by_cases e:f.row=r
   ·rw [if_pos e,List.filter_cons_of_pos (by simpa using e)];rfl
   ·rw [if_neg e,List.filter_cons_of_neg (by simpa using e)];rfl
 have hl:(dR s r).length<=s.length:=by unfold dR;rw [adU];exact List.length_filter_le _ _
 have hl2:(ones (dR s r)).length=(dR s r).length:=by unfold ones;simp
 rw [bJ (l:=s) (fun f=>if f.row=r then [(⟨f.valid,1⟩:DI)] else []) 5864062014805 ?_ ?_ (by unfold fuel;omega) [] (by rw [hfm];simp;omega)]
 ·rw [adH,hfm,adN]
  show (X9 _).bind _=_
  unfold X9
  rw [show decide ((ones (dR s r)).length<=100000)=true from adM (by omega)]
  rfl
 ·intro o i x hx ho
  have hi:=(adI.1 hx).1
  unfold nW
  dsimp only
  rw [aI hx,adK,gn_ hx]
  simp only [adH]
  rw [mr x.row r (by have:=hs x (adO hx);omega) (by omega),adH]
  by_cases e:x.row=r
  ·rw [if_pos e] at ho ⊢
   rw [show decide (cu x.row r=0)=true from adM (by rw [e];exact tCr_.refl r),adK,show decide (o.length+1<=5864062014805)=true from adM (by simpa using ho),adK,wrapN (by omega)]
  ·rw [if_neg e,show decide (cu x.row r=0)=false from adL fun q=>e (tCr_.zero _ _ q),adJ,wrapN (by omega),aeg]
 ·intro o
  unfold nW
  dsimp only
  rw [lF_,adJ]
theorem RB (r:List Val) (ps:List aW) (hn:ps.length<=1000000):CO r ps=some (ps.map fun p=>⟨r,p⟩):=by
 unfold CO
 rw [bJ (l:=ps) (fun p=>[(⟨r,p⟩:aG)]) 3518437208883 ?_ ?_ (by unfold fuel;omega) [] (by rw [fo_];simp;omega)]
 ·rw [adH,fo_,adN];rfl
 ·intro o i x hx ho
  have hi:=(adI.1 hx).1
  unfold u7
  dsimp only
  rw [aI hx,adK,gn_ hx]
  simp only [adH]
  rw [show decide (o.length+1<=3518437208883)=true from adM (by simpa using ho),adK,wrapN (by omega)]
 ·intro o
  unfold u7
  dsimp only
  rw [lF_,adJ]
end Go.Proofs.YtfccopdbgfdcdaaGreatDoor
