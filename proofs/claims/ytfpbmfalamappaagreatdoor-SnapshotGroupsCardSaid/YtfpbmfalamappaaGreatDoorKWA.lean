/- Parts of the proof, joined. No condition. -/
import Derived.Test.YtfpbmfalamappaaGreatDoorKAA
import Derived.Test.YtfpbmfalamappaaGreatDoorKAD
import Derived.Test.YtfpbmfalamappaaGreatDoorKAC
import Derived.LoopN
import Derived.Test.YtfpbmfalamappaaGreatDoorKAE
import Derived.IntWalk
import Derived.Test.YtfpbmfalamappaaGreatDoorKAJ
import Derived.Test.YtfpbmfalamappaaGreatDoorKAH
import Derived.Test.YtfpbmfalamappaaGreatDoorKAR
import Derived.Test.YtfpbmfalamappaaGreatDoorKBD
set_option linter.unusedSimpArgs false
set_option linter.unusedVariables false
namespace Go.Proofs.YtfpbmfalamappaaGreatDoor
open Go.RowKit
section
variable {P:Program} {ti:TI} {N n0:Nat} {Q:AX->Tm->List Ob->Prop} {T:Tm} {L:List Ob}
theorem S9 {c:Code} {T1:Tm} {L1:List Ob} (hn1:n0<=L1.length) (hf:Fits T L T1 L1) (h:Aw P N n0 c Q T1 L1):Aw P N n0 c Q T L:=by
 intro hn B R γ w a hi hT
 obtain ⟨i1,t1⟩:=hf.sound hi hT
 exact wp_mono (h hn1 B R _ w a i1 t1) fun _ _ _ hh=>hh.ext (Ext.refl _ _ _) hi.len (hf.mvn hi hn1)
end
def Zf (n:Int):CV := .val (.one (.int .i64 n))
section
variable {P:Program} {ti:TI} {N n0:Nat} {ds:List (Option Tmp)} {K:Tm->List Ob->Prop} {o:Oper} {rest:List Oper} {T:Tm} {L:List Ob}
theorem V5 {Q:AX->Tm->List Ob->Prop} {c:Code} (t:Nat) {x:SV} {y:AC} (ht:T.lookup t=some (.one x)) (hy:x.norm=some y) (h:Aw P N n0 c Q ((t, .one (.c y))::T) L):Aw P N n0 c Q T L:=by
 intro hn B R γ w a hi hT
 refine h hn B R γ w a hi ⟨hT.size,hT.defers,fun t' z hz=>?_⟩
 rw [List.lookup_cons] at hz
 by_cases e:t'=t
 ·subst e
  simp at hz;subst hz
  obtain ⟨u,h1,h2⟩:=hT.slot t' _ ht
  exact ⟨u,h1,SV.norm_rep h2 hy⟩
 ·have:(t'==t)=false:=by simpa using e
  rw [this] at hz
  exact hT.slot t' z hz
end
open Go.RowKit Go.MapKept
structure aZ where
 key:(List Val)
 row:(List Val)
def cu (x:aZ):List AC:=[.lst (x.key.map cV), .lst (x.row.map cV)]
set_option maxRecDepth 100000
def mU (n:Int):Val:=if -1125899906842624<=n/\n<=1125899906842624 then ⟨1,n,ByteArray.empty⟩ else ⟨0,0,ByteArray.empty⟩
theorem Fe (n:Int):lM n=some (mU n):=by
 unfold lM sJ dW dJ mU
 have e:(ByteArray.empty.toList==(⟨#[]⟩:ByteArray).toList)=true:=by rw [ByteArray.toList_eq,ByteArray.toList_eq];rfl
 dsimp only
 rw [e,show decide ((1:Int)=0)=false from rfl,show decide ((1:Int)=1)=true from rfl]
 by_cases h1 : -1125899906842624<=n
 ·by_cases h2:n<=1125899906842624
  ·simp [h1,h2]
  ·simp [h1,h2]
 ·simp [h1]
def dQ (M:List (ByteArray × Int)):List (AC × AV):=M.map fun p=>(.str p.1, .one (.c (.int .i64 p.2)))
def dm:List (ByteArray × Int)->ByteArray->Int
 | [],_=>0
 | p::r,s=>if s=p.1 then p.2 else dm r s
def d9:List (ByteArray × Int)->ByteArray->Int->List (ByteArray × Int)
 | [],s,n=>[(s,n)]
 | p::r,s,n=>if s=p.1 then (s,n)::r else p::d9 r s n
theorem Bi (M:List (ByteArray × Int)):strKeys (dQ M):=by intro p hp;obtain ⟨q,_,rfl⟩:=abK.1 hp;exact ⟨q.1,rfl⟩
theorem OY (s:ByteArray) : ∀ (M:List (ByteArray × Int)),(iR s (dQ M)=none/\dm M s=0 /\ ∀ n,d9 M s n=M++[(s,n)])\/(∃ i p,iR s (dQ M)=some i/\M[i]?=some p/\dm M s=p.2 /\ ∀ n,d9 M s n=M.set i (s,n))
 | [] => .inl ⟨rfl,rfl,fun _=>rfl⟩
 | p::r=>by
  have hk:iR s (dQ (p::r))=if s=p.1 then some 0 else (iR s (dQ r)).map (· + 1):=rfl
  by_cases h:s=p.1
  ·exact .inr ⟨0,p,by rw [hk,if_pos h],rfl,by simp [dm,h],fun n=>by simp [d9,h]⟩
  ·rcases OY s r with ⟨h1,h2,h3⟩|⟨i,q,h1,h2,h3,h4⟩
   ·exact .inl ⟨by rw [hk,if_neg h,h1];rfl,by simp [dm,h,h2],fun n=>by simp [d9,h,h3]⟩
   ·exact .inr ⟨i+1,q,by rw [hk,if_neg h,h1];rfl,by simpa using h2,by simp [dm,h,h3],fun n=>by simp [d9,h,h4]⟩
theorem UM (M:List (ByteArray × Int)) (s:ByteArray):qB (dQ M) s (.one (.c (.int .i64 0))) = .one (.c (.int .i64 (dm M s))):=by
 unfold qB
 rcases OY s M with ⟨h1,h2,_⟩|⟨i,p,h1,h2,h3,_⟩
 ·rw [h1,h2]
 ·have:(dQ M)[i]?=some (.str p.1, .one (.c (.int .i64 p.2))):=by unfold dQ;rw [abx,h2];rfl
  rw [h1];simp only [this];rw [h3]
theorem Xe (M:List (ByteArray × Int)) (s:ByteArray) (n:Int):DI (dQ M) s (.one (.c (.int .i64 n)))=dQ (d9 M s n):=by
 unfold DI
 rcases OY s M with ⟨h1,_,h3⟩|⟨i,p,h1,h2,_,h4⟩
 ·rw [h1,h3];simp [dQ]
 ·rw [h1,h4];unfold dQ;rw [List.map_set]
theorem bN (n:Nat) (M:List (ByteArray × Int)):(Ob.map (dQ M)).below n:=by
 intro p hp;obtain ⟨q,_,rfl⟩:=abK.1 hp;trivial
theorem wJ {P:Program} {ti:TI} {ρ:Operand->Option AV} {L:List Ob} {t:TypeId} {kt et:TypeId} {x k y:Operand} {s:ByteArray} {id:Nat} {n:Int} {M:List (ByteArray × Int)} (hti:TIok P ti) (hx:ρ x=some (.one (.mp id))) (hk:ρ k=some (.one (.c (.str s)))) (hy:ρ y=some (.one (.c (.int .i64 n)))) (hL:L[id]?=some (.map (dQ M)))
  (ht:ti.kind t=some (.map kt et)) (hkt:ti.kind kt=some .string):rX P ρ L (.mapUpdate t x k y) .undef (L.set id (.map (dQ (d9 M s n)))):=by
 have:=qp (P:=P) hx hk hy hL (Bi M) (hti.kind _ _ ht) (hti.kind _ _ hkt)
 rw [Xe] at this
 exact this
theorem nX (s t:ByteArray) (n:Int) : ∀ (M:List (ByteArray × Int)),dm (d9 M s n) t=if t=s then n else dm M t
 | []=>by by_cases h:t=s<;>simp [d9,dm,h]
 | p::r=>by
  unfold d9
  by_cases h:s=p.1
  ·rw [if_pos h]
   by_cases h2:t=s
   ·simp [dm,h2]
   ·have : ¬ t=p.1:=fun e=>h2 (e.trans h.symm)
    simp [dm,h2,this]
  ·rw [if_neg h]
   have ih:=nX s t n r
   by_cases h2:t=p.1
   ·have : ¬ t=s:=fun e=>h (e.symm.trans h2)
    simp [dm,h2,this]
    intro e;exact absurd e.symm h
   ·simp only [dm,h2,if_false,ih]
theorem a_ {n:Nat} {x y:AC} : (Ob.box [.c x, .c y]).below n:=by
 intro z hz
 rcases abq.1 hz with rfl|hz
 ·trivial
 rcases abq.1 hz with rfl|hz
 ·trivial
 cases hz
def uD:Val:=⟨0,0,⟨#[]⟩⟩
def SB (v:Val):CV := .val (.agg [.int .i64 v.kind, .int .i64 v.int, .str v.text])
theorem rD:Pure Tryz.prog 94 [] (.val (.agg [.int .i64 0, .int .i64 0, .str ⟨#[]⟩])):=ed (r:=uD) rfl
theorem Td (n:Int):mK n=some (mU n):=by
 unfold mK ug qa kL mU
 have e:(ByteArray.empty.toList==(⟨#[]⟩:ByteArray).toList)=true:=by rw [ByteArray.toList_eq,ByteArray.toList_eq];rfl
 dsimp only
 rw [e,show decide ((1:Int)=0)=false from rfl,show decide ((1:Int)=1)=true from rfl]
 by_cases h1 : -1125899906842624<=n
 ·by_cases h2:n<=1125899906842624
  ·simp [h1,h2]
  ·simp [h1,h2]
 ·simp [h1]
theorem BQ (n:Int):Pure Tryz.prog 93 [.one (.int .i64 n)] (SB (mU n)):=j5 (Td n)
theorem Sv (v w:Val):Pure Tryz.prog 96 [.agg [.int .i64 v.kind, .int .i64 v.int, .str v.text], .agg [.int .i64 w.kind, .int .i64 w.int, .str w.text]] (Zf (ni v w)):=zR (u_ v w)
def Qq (r:List Val) (i:Int):Val:=if 0<=i then (r[i.toNat]?).getD uD else uD
theorem QB (r:List Val) (i:Int) (hr:r.length<=1000000):Pure Tryz.prog 92 [.one (bO r), .one (.int .i64 i)] (SB (Qq r i)):=by
 refine pa_ aN Tryz.func92 rfl rfl Tryz.ntmps92 (by simp) ?_
 simp only [argT,PV.av,abk,abo]
 have hml:(((r.map cV).length:Nat):Int)=r.length:=by simp
 have fin : ∀ {T:Tm} {L:List Ob} {w:Val}, w=Qq r i->Res Dx Tryz.f92.results.toList T L (SB w)->Res Dx Tryz.f92.results.toList T L (SB (Qq r i)):=fun e h=>by rw [<- e];exact h
 by_cases h1:i<0
 ·have hA:decide (i<0)=true:=by simp [h1]
  have hv:uD=Qq r i:=by unfold Qq;rw [if_neg (by omega)]
  repeat' (first
   | refine st_nil ?_
   | rw [hA]
   | refine ay rfl rfl rfl rfl ph_ ?_
   | refine az rfl rfl rfl rfl ph_ ?_
   | refine sS_ rfl rfl rfl ph_ ?_
   | refine aC rfl rfl rfl rfl ph_ ?_
   | refine aj rfl rfl rfl ?_
   | refine sk0_ rfl rfl ?_
   | refine aG rfl rfl rfl rfl rD rfl ?_
   | (refine aM rfl (fun hb=>?_) (fun hb=>?_)<;>(first|exact (fx_ hb).elim|rw [hb]))
   | refine aw_seq ?_
   | refine aw_region aN _ rfl ?_
   | refine aw_drawn2 aF _ rfl mixed (by decide +kernel) ?_
   | (refine ah rfl (fun hb=>?_) (fun hb=>?_)<;>(try exact (fx_ hb).elim))
   | refine aw_block ?_
   | refine aw_exit ?_
   | refine aw_ret ?_
   | refine aw_skip ?_)
  exact aO (fin hv (aR rfl ⟨abp 3,trivial⟩ rfl))
 ·have hA:decide (i<0)=false:=by simp [h1]
  by_cases h2:i<r.length
  ·obtain ⟨x,hx⟩:=gol_ (show i.toNat<r.length by omega)
   have hB:decide ((((r.map cV).length:Nat):Int)<=i)=false:=by rw [hml];simp;exact h2
   have hv:x=Qq r i:=by unfold Qq;rw [if_pos (by omega),hx];rfl
   have hx2:(r.map cV)[i.toNat]?=some (cV x):=by rw [abx,hx];rfl
   repeat' (first
    | refine st_nil ?_
    | rw [hA]
    | rw [hB]
    | refine ay rfl rfl rfl rfl ph_ ?_
    | (refine aW rfl rfl rfl rfl rfl rfl rfl rfl hx2 ?_ ?_; · exact ⟨by omega,rfl⟩)
    | refine az rfl rfl rfl rfl ph_ ?_
    | refine sS_ rfl rfl rfl ph_ ?_
    | refine aC rfl rfl rfl rfl ph_ ?_
    | refine aj rfl rfl rfl ?_
    | refine sk0_ rfl rfl ?_
    | (refine aM rfl (fun hb=>?_) (fun hb=>?_)<;>(first|exact (fx_ hb).elim|rw [hb]))
    | refine aw_seq ?_
    | refine aw_region aN _ rfl ?_
    | refine aw_drawn2 aF _ rfl mixed (by decide +kernel) ?_
    | (refine ah rfl (fun hb=>?_) (fun hb=>?_)<;>(try exact (fx_ hb).elim))
    | refine aw_block ?_
    | refine aw_exit ?_
    | refine aw_ret ?_
    | refine aw_skip ?_)
   exact aO (fin hv (aR rfl ⟨abp 3,trivial⟩ rfl))
  ·have hB:decide ((((r.map cV).length:Nat):Int)<=i)=true:=by rw [hml];simp;omega
   have hv:uD=Qq r i:=by unfold Qq;rw [if_pos (by omega),List.getElem?_eq_none (by omega)];rfl
   repeat' (first
    | refine st_nil ?_
    | rw [hA]
    | rw [hB]
    | refine ay rfl rfl rfl rfl ph_ ?_
    | refine az rfl rfl rfl rfl ph_ ?_
    | refine sS_ rfl rfl rfl ph_ ?_
    | refine aC rfl rfl rfl rfl ph_ ?_
    | refine aj rfl rfl rfl ?_
    | refine sk0_ rfl rfl ?_
    | refine aG rfl rfl rfl rfl rD rfl ?_
    | (refine aM rfl (fun hb=>?_) (fun hb=>?_)<;>(first|exact (fx_ hb).elim|rw [hb]))
    | refine aw_seq ?_
    | refine aw_region aN _ rfl ?_
    | refine aw_drawn2 aF _ rfl mixed (by decide +kernel) ?_
    | (refine ah rfl (fun hb=>?_) (fun hb=>?_)<;>(try exact (fx_ hb).elim))
    | refine aw_block ?_
    | refine aw_exit ?_
    | refine aw_ret ?_
    | refine aw_skip ?_)
   exact aO (fin hv (aR rfl ⟨abp 3,trivial⟩ rfl))
def bY (r:List Val) (l:List Int):List Val:=l.map (Qq r)
theorem Jb (r:List Val) (l:List Int) (hr:r.length<=1000000) (hl:l.length<=1000000):Pure Tryz.prog 55 [.one (bO r), .one (bB l)] (.val (.one (bO (bY r l)))):=by
 refine pa_ aN Tryz.func55 rfl rfl Tryz.ntmps55 (by simp) ?_
 simp only [argT,PV.av,abk,abo]
 obtain ⟨n,hn⟩ : ∃ n,l.length=n:=⟨_,rfl⟩
 have hml:(((l.map fun x=>[AC.int .i64 x]).length:Nat):Int)=n:=by simp [hn]
 repeat' (first
  | refine st_nil ?_
  | (refine cZ rfl rfl rfl rfl rfl (lQ aN (k:=3) (by_:=32) rfl rfl rfl rfl rfl rfl (by decide) (by omega) (by rw [hml];omega) (by rw [hml];omega)) ?_)
  | refine ay rfl rfl rfl rfl ph_ ?_
  | refine az rfl rfl rfl rfl ph_ ?_
  | refine sS_ rfl rfl rfl ph_ ?_
  | refine aC rfl rfl rfl rfl ph_ ?_
  | refine aj rfl rfl rfl ?_
  | refine sk0_ rfl rfl ?_
  | (refine aM rfl (fun hb=>?_) (fun hb=>?_)<;>(first|exact (fx_ hb).elim|rw [hb]))
  | refine aw_seq ?_
  | refine aw_region aN _ rfl ?_
  | refine aw_drawn2 aF _ rfl mixed (by decide +kernel) ?_
  | (refine ah rfl (fun hb=>?_) (fun hb=>?_)<;>(try exact (fx_ hb).elim))
  | refine aw_block ?_
  | refine aw_exit ?_
  | refine aw_ret ?_
  | refine aw_skip ?_)
 refine df (fun i:Nat=>[(0, .one (.c (bO r))),(5, .one (.own ((bY r (l.take i)).map cV) 0)),(11, .one (.c (bB l))),(12, .one (.c (.int .i64 n))),(13, .one (.c (.int .i64 i)))]) (fun i=>[.spare i 3]) (fun i=>i<=n) (fun i=>n-i) 0 (by omega) (fun _ _=>abv _)
  (fm_ ⟨rfl,rfl,rfl,aT hml,rfl,trivial⟩ [] rfl ⟨trivial,by show 0<1;omega,trivial,trivial,trivial,trivial⟩ ⟨trivial,trivial⟩) ?_
 intro i hi
 by_cases hlt:i<n
 ·obtain ⟨x,hx⟩:=gol_ (show i<l.length by omega)
  have hlen:((bY r (l.take i)).map cV).length=i:=by simp [bY];omega
  have hnx:(bY r (l.take (i+1))).map cV=(bY r (l.take i)).map cV++[cV (Qq r x)]:=by rw [bS hx];simp [bY]
  repeat' (first
   | refine st_nil ?_
   | (refine ay rfl rfl rfl rfl ?_ ?_; · (repeat' (first|exact trivial|rfl|exact abj rfl|omega|(intro e he;simp at he;subst he;rfl)|exact hlen|(show (_+1)*32<=_;omega)|(show _+1<=_;omega)|apply And.intro)))
   | (refine aW rfl rfl rfl rfl rfl rfl rfl rfl (bg hx) ?_ ?_; · exact ⟨by omega,rfl⟩)
   | (refine az rfl rfl rfl rfl ?_ ?_; · (repeat' (first|exact trivial|rfl|exact abj rfl|omega|(intro e he;simp at he;subst he;rfl)|exact hlen|(show (_+1)*32<=_;omega)|(show _+1<=_;omega)|apply And.intro)))
   | (refine sS_ rfl rfl rfl ?_ ?_; · (repeat' (first|exact trivial|rfl|exact abj rfl|omega|(intro e he;simp at he;subst he;rfl)|exact hlen|(show (_+1)*32<=_;omega)|(show _+1<=_;omega)|apply And.intro)))
   | (refine aC rfl rfl rfl rfl ?_ ?_; · (repeat' (first|exact trivial|rfl|exact abj rfl|omega|(intro e he;simp at he;subst he;rfl)|exact hlen|(show (_+1)*32<=_;omega)|(show _+1<=_;omega)|apply And.intro)))
   | refine aj rfl rfl rfl ?_
   | refine sk0_ rfl rfl ?_
   | refine aG rfl rfl rfl rfl (QB r x hr) rfl ?_
   | (refine aM rfl (fun hb=>?_) (fun hb=>?_)<;>(first|exact (fx_ hb).elim|rw [hb]))
   | refine aw_seq ?_
   | refine aw_region aN _ rfl ?_
   | refine aw_drawn2 aF _ rfl mixed (by decide +kernel) ?_
   | (refine ah rfl (fun hb=>?_) (fun hb=>?_)<;>(try exact (fx_ hb).elim))
   | refine aw_block ?_
   | refine aw_exit ?_
   | refine aw_ret ?_
   | refine aw_skip ?_)
  exact ⟨i+1,by omega,by omega,fm_ ⟨rfl,cB (by rw [hnx];rfl),rfl,rfl,aT (bu (by omega) (by omega)),trivial⟩ [] rfl ⟨trivial,by show 0<1;omega,trivial,trivial,trivial,trivial⟩ ⟨trivial,trivial⟩⟩
 ·have htk:l.take i=l:=abP (by omega)
  rw [htk]
  repeat' (first
   | refine st_nil ?_
   | refine ay rfl rfl rfl rfl ph_ ?_
   | refine az rfl rfl rfl rfl ph_ ?_
   | refine sS_ rfl rfl rfl ph_ ?_
   | refine aC rfl rfl rfl rfl ph_ ?_
   | refine aj rfl rfl rfl ?_
   | refine sk0_ rfl rfl ?_
   | (refine aM rfl (fun hb=>?_) (fun hb=>?_)<;>(first|exact (fx_ hb).elim|rw [hb]))
   | refine aw_seq ?_
   | refine aw_region aN _ rfl ?_
   | refine aw_drawn2 aF _ rfl mixed (by decide +kernel) ?_
   | (refine ah rfl (fun hb=>?_) (fun hb=>?_)<;>(try exact (fx_ hb).elim))
   | refine aw_block ?_
   | refine aw_exit ?_
   | refine aw_ret ?_
   | refine aw_skip ?_)
  exact aO (aR rfl (by trivial) rfl)
def G5 (x:Int):Int:=IntKind.i64.wrap (BitVec.ofInt IntKind.i64.bits x &&& BitVec.ofInt IntKind.i64.bits 1048575).toNat
def mg (x:Int):Int:=x.fdiv (2 ^ (min (20:Int).toNat IntKind.i64.bits))
def AQ (x:Int):Int:=IntKind.i64.wrap (x*2 ^ (min (20:Int).toNat IntKind.i64.bits))
theorem Lx (x:Int):mg x=x/1048576:=by
 have:(2:Int) ^ (min (20:Int).toNat IntKind.i64.bits)=1048576:=by decide
 unfold mg
 rw [this]
 exact Int.fdiv_eq_ediv_of_nonneg x (by decide)
theorem Qo (x:Int):G5 x=x%1048576:=by
 have h1:(BitVec.ofInt IntKind.i64.bits x &&& BitVec.ofInt IntKind.i64.bits 1048575).toNat=(x%18446744073709551616).toNat%1048576:=by
  rw [BitVec.toNat_and,BitVec.toNat_ofInt,BitVec.toNat_ofInt]
  have e1:((2 ^ IntKind.i64.bits:Nat):Int)=18446744073709551616:=by decide
  rw [e1]
  have e2:((1048575:Int)%18446744073709551616).toNat=2 ^ 20-1:=by decide
  rw [e2,Nat.and_two_pow_sub_one_eq_mod]
 unfold G5
 rw [h1]
 have h2:(((x%18446744073709551616).toNat%1048576:Nat):Int)=x%1048576:=by omega
 rw [h2]
 exact bJ (by omega)
theorem U2 (x:Int) (h : -4294967296<=x/\x<=4294967296):AQ x=x*1048576:=by
 have:(2:Int) ^ (min (20:Int).toNat IntKind.i64.bits)=1048576:=by decide
 unfold AQ
 rw [this]
 exact bJ (by omega)
def Bo (l:List Val):Int:=(l.map fun v=>v.int).sum
def xW (s:Int × Int) (v:Val):Int × Int:=(IntKind.i64.wrap (s.1+mg v.int),IntKind.i64.wrap (s.2+G5 v.int))
theorem El : ∀ (l:List Val) (s:Int × Int) (m:Int),(∀ v∈l, -1125899906842624<=v.int/\v.int<=1125899906842624)->0<=m->m+l.length<=1000000->(-1073741825*m<=s.1/\s.1<=1073741825*m)->(0<=s.2/\s.2<=1048576*m) ->
  (-1073741825*(m+l.length)<=(l.foldl xW s).1/\(l.foldl xW s).1<=1073741825*(m+l.length))/\(0<=(l.foldl xW s).2/\(l.foldl xW s).2<=1048576*(m+l.length))/\(l.foldl xW s).1*1048576+(l.foldl xW s).2=s.1*1048576+s.2+Bo l
 | [],s,m,_,h0,hm,h1,h2=>by
  simp only [List.foldl_nil,abF,Bo,abo,List.sum_nil]
  omega
 | v::l,s,m,hv,h0,hm,h1,h2=>by
  have hx:=hv v (by simp)
  simp only [abw] at hm ⊢
  have e1:xW s v=(s.1+v.int/1048576,s.2+v.int%1048576):=by
   unfold xW
   rw [Lx,Qo,bJ (by omega),bJ (by omega)]
  have ih:=El l (s.1+v.int/1048576,s.2+v.int%1048576) (m+1) (fun x hx=>hv x (aby _ hx)) (by omega) (by omega) (by simp only;omega) (by simp only;omega)
  rw [abX,e1]
  have e2:Bo (v::l)=v.int+Bo l:=by unfold Bo;simp
  rw [e2]
  simp only at ih ⊢
  push_cast at ih ⊢
  omega
def KJ (s:Int × Int):Val :=
 bif (bif decide (IntKind.i64.wrap (s.1+mg s.2) < -2147483648) then true else decide (2147483648<IntKind.i64.wrap (s.1+mg s.2))) then ⟨0,0,ByteArray.empty⟩
 else mU (IntKind.i64.wrap (AQ (IntKind.i64.wrap (s.1+mg s.2))+G5 s.2))
theorem QV (l:List Val) (hl:l.length<=1000000) (hv : ∀ v∈l, -1125899906842624<=v.int/\v.int<=1125899906842624):KJ (l.foldl xW (0,0))=mU (Bo l):=by
 obtain ⟨h1,h2,h3⟩:=El l (0,0) 0 hv (by omega) (by omega) (by simp only;omega) (by simp only;omega)
 simp only [Int.zero_add,Int.zero_mul] at h1 h2 h3
 generalize l.foldl xW (0,0)=s at h1 h2 h3
 obtain ⟨a,b⟩:=s
 simp only at h1 h2 h3
 have hl2:(l.length:Int)<=1000000:=by omega
 unfold KJ
 simp only [Lx,Qo]
 rw [bJ (x:=a+b/1048576) (by omega)]
 by_cases hlo:a+b/1048576 < -2147483648
 ·rw [abb hlo,aa',aa']
  unfold mU
  rw [if_neg (by omega)]
 ·rw [aba hlo,aa_]
  by_cases hhi:2147483648<a+b/1048576
  ·rw [abb hhi,aa']
   unfold mU
   rw [if_neg (by omega)]
  ·rw [aba hhi,aa_,U2 _ (by omega),bJ (by omega)]
   congr 1
   omega
def Dm (s:Int × Int) (v:Val):Int × Int:=(s.1+v.int.tdiv 1048576,s.2+v.int.tmod 1048576)
theorem FB : ∀ (l:List Val) (s:Int × Int),(l.foldl Dm s).1*1048576+(l.foldl Dm s).2=s.1*1048576+s.2+Bo l
 | [],s=>by simp [Bo]
 | v::l,s=>by
  rw [abX,FB l]
  have e2:Bo (v::l)=v.int+Bo l:=by unfold Bo;simp
  have:=Int.tmod_add_mul_tdiv v.int 1048576
  rw [e2]
  unfold Dm
  simp only
  omega
theorem fE {n:Nat} {x y z:AC} : (Ob.box [.c x, .c y, .c z]).below n:=by
 intro w hw
 rcases abq.1 hw with rfl|hw
 ·trivial
 rcases abq.1 hw with rfl|hw
 ·trivial
 rcases abq.1 hw with rfl|hw
 ·trivial
 cases hw
def mQ (s:Int × Int) (v:Val):Int × Int:=(IntKind.i64.wrap (s.1+mg v.int),IntKind.i64.wrap (s.2+G5 v.int))
def Bz (s:Int × Int):Val :=
 bif (bif decide (IntKind.i64.wrap (s.1+mg s.2) < -2147483648) then true else decide (2147483648<IntKind.i64.wrap (s.1+mg s.2))) then uD
 else bif (bif decide (IntKind.i64.wrap (AQ (IntKind.i64.wrap (s.1+mg s.2))+G5 s.2) < -1125899906842624) then true else decide (1125899906842624<IntKind.i64.wrap (AQ (IntKind.i64.wrap (s.1+mg s.2))+G5 s.2))) then uD
 else mU (IntKind.i64.wrap (AQ (IntKind.i64.wrap (s.1+mg s.2))+G5 s.2))
def JX (l:List Val):Val:=Bz (l.foldl mQ (0,0))
theorem Tn (l:List Val) (hl:l.length<=1000000):Pure Tryz.prog 95 [.one (bO l)] (SB (JX l)):=by
 refine pa_ aN Tryz.func95 rfl rfl Tryz.ntmps95 (by simp) ?_
 simp only [argT,PV.av,abk,abo]
 obtain ⟨n,hn⟩ : ∃ n,l.length=n:=⟨_,rfl⟩
 have hml:(((l.map cV).length:Nat):Int)=n:=by simp [hn]
 have fin : ∀ {T:Tm} {L:List Ob} {w:Val}, w=JX l->Res Dx Tryz.f95.results.toList T L (SB w)->Res Dx Tryz.f95.results.toList T L (SB (JX l)):=fun e h=>by rw [<- e];exact h
 repeat' (first
  | refine st_nil ?_
  | refine ay rfl rfl rfl rfl ph_ ?_
  | refine az rfl rfl rfl rfl ph_ ?_
  | refine sS_ rfl rfl rfl ph_ ?_
  | refine aC rfl rfl rfl rfl ph_ ?_
  | refine aj rfl rfl rfl ?_
  | refine sk0_ rfl rfl ?_
  | (refine aM rfl (fun hb=>?_) (fun hb=>?_)<;>(first|exact (fx_ hb).elim|rw [hb]))
  | refine aw_seq ?_
  | refine aw_region aN _ rfl ?_
  | refine aw_drawn2 aF _ rfl mixed (by decide +kernel) ?_
  | (refine ah rfl (fun hb=>?_) (fun hb=>?_)<;>(try exact (fx_ hb).elim))
  | refine aw_block ?_
  | refine aw_exit ?_
  | refine aw_ret ?_
  | refine aw_skip ?_)
 refine df (fun i:Nat=>[(2, .one (.ptr 0 0)),(3, .one (.c (.int .i64 ((l.take i).foldl mQ (0,0)).1))),(4, .one (.c (.int .i64 ((l.take i).foldl mQ (0,0)).2))),(8, .one (.c (bO l))),(9, .one (.c (.int .i64 n))),(10, .one (.c (.int .i64 i)))]) (fun i=>[.box [.c (.int .i64 0), .c (.int .i64 0), .c (.str ⟨#[]⟩)]]) (fun i=>i<=n) (fun i=>n-i) 0 (by omega) (fun _ _=>abv _)
  (fm_ ⟨rfl,rfl,rfl,rfl,aT hml,rfl,trivial⟩ [] rfl ⟨by show 0<1;omega,trivial,trivial,trivial,trivial,trivial,trivial⟩ ⟨fE,trivial⟩) ?_
 intro i hi
 by_cases hlt:i<n
 ·obtain ⟨x,hx⟩:=gol_ (show i<l.length by omega)
  have hnx:(l.take (i+1)).foldl mQ (0,0)=mQ ((l.take i).foldl mQ (0,0)) x:=by rw [bS hx,List.foldl_append];rfl
  generalize (l.take i).foldl mQ (0,0)=S at hnx
  repeat' (first
   | refine st_nil ?_
   | refine ay rfl rfl rfl rfl ph_ ?_
   | (refine aW rfl rfl rfl rfl rfl rfl rfl rfl (bg hx) ?_ ?_; · exact ⟨by omega,rfl⟩)
   | refine az rfl rfl rfl rfl ph_ ?_
   | refine sS_ rfl rfl rfl ph_ ?_
   | refine aC rfl rfl rfl rfl ph_ ?_
   | refine aj rfl rfl rfl ?_
   | refine sk0_ rfl rfl ?_
   | (refine aM rfl (fun hb=>?_) (fun hb=>?_)<;>(first|exact (fx_ hb).elim|rw [hb]))
   | refine aw_seq ?_
   | refine aw_region aN _ rfl ?_
   | refine aw_drawn2 aF _ rfl mixed (by decide +kernel) ?_
   | (refine ah rfl (fun hb=>?_) (fun hb=>?_)<;>(try exact (fx_ hb).elim))
   | refine aw_block ?_
   | refine aw_exit ?_
   | refine aw_ret ?_
   | refine aw_skip ?_)
  exact ⟨i+1,by omega,by omega,fm_ ⟨rfl,by rw [hnx];rfl,by rw [hnx];rfl,rfl,rfl,aT (bu (by omega) (by omega)),trivial⟩ [_] rfl ⟨by show 0<1;omega,trivial,trivial,trivial,trivial,trivial,trivial⟩ ⟨fE,trivial⟩⟩
 ·have htk:l.take i=l:=abP (by omega)
  rw [htk]
  have hS:JX l=Bz (l.foldl mQ (0,0)):=rfl
  generalize l.foldl mQ (0,0)=S at hS
  repeat' (first
   | refine st_nil ?_
   | refine ay rfl rfl rfl rfl ph_ ?_
   | refine az rfl rfl rfl rfl ph_ ?_
   | refine sS_ rfl rfl rfl ph_ ?_
   | refine aC rfl rfl rfl rfl ph_ ?_
   | refine aj rfl rfl rfl ?_
   | refine sk0_ rfl rfl ?_
   | refine aG rfl rfl rfl rfl rD rfl ?_
   | refine aG rfl rfl rfl rfl (BQ _) rfl ?_
   | (refine aM rfl (fun hb=>?_) (fun hb=>?_)<;>(first|exact (fx_ hb).elim|rw [hb]))
   | refine aw_seq ?_
   | refine aw_region aN _ rfl ?_
   | refine aw_drawn2 aF _ rfl mixed (by decide +kernel) ?_
   | (refine ah rfl (fun hb=>?_) (fun hb=>?_)<;>(try exact (fx_ hb).elim))
   | refine aw_block ?_
   | refine aw_exit ?_
   | refine aw_ret ?_
   | refine aw_skip ?_)
  all_goals first
   | exact aO (fin (w:=uD) (by rw [hS];unfold Bz AQ mg G5;simp only [*, aa',aa_]) (aR rfl ⟨abp 3,trivial⟩ rfl))
   | exact aO (fin (w:=mU (_)) (by rw [hS];unfold Bz AQ mg G5;simp only [*, aa',aa_]) (aR rfl ⟨abp 3,trivial⟩ rfl))
def gI (arg:Int) (acc:List Val) (r:List Val):List Val :=
 bif decide (arg<r.length) then (match r[arg.toNat]? with
  | some v=>bif decide (v.kind≠0) then acc++[v] else acc
  | none=>acc) else acc
def uG (arg:Int) (rows:List (List Val)):List Val:=rows.foldl (gI arg) []
def dI (op:Int) (o v:Val):Val:=bif (bif (bif decide (op=3) then decide (ni v o<0) else false) then true else (bif decide (op=4) then decide (0<ni v o) else false)) then v else o
def fZ (op arg:Int) (rows:List (List Val)):Val :=
 bif decide (arg<0) then mU (rows.length) else bif decide (op=1) then mU ((uG arg rows).length) else match uG arg rows with
  | []=>uD
  | x::l=>bif decide (op=2) then JX (x::l) else (x::l).foldl (dI op) x
theorem J7 (arg:Int) (rows:List (List Val)):(uG arg rows).length<=rows.length:=by
 have : ∀ (rows:List (List Val)) (acc:List Val),(rows.foldl (gI arg) acc).length<=acc.length+rows.length:=by
  intro rows
  induction rows with
  | nil=>intro acc;simp
  | cons r rows ih =>
   intro acc
   rw [abX]
   have h1:=ih (gI arg acc r)
   have h2:(gI arg acc r).length<=acc.length+1:=by
    unfold gI
    cases decide (arg<(r.length:Int)) with
    | false=>simp
    | true =>
     simp only [aa']
     split
     ·rename_i v _
      cases decide (v.kind≠0)<;>simp
     ·omega
   simp only [abw];omega
 have:=this rows []
 simpa [uG] using this
set_option maxHeartbeats 2000000 in
theorem EH (op arg:Int) (rows:List (List Val)) (hl:rows.length<=1000000) (hr : ∀ r∈rows,r.length<=1000000):Pure Tryz.prog 56 [.one (bM rows), .agg [.int .i64 op, .int .i64 arg]] (SB (fZ op arg rows)):=by
 refine pa_ aN Tryz.func56 rfl rfl Tryz.ntmps56 (by simp) ?_
 simp only [argT,PV.av,abk,abo]
 obtain ⟨n,hn⟩ : ∃ n,rows.length=n:=⟨_,rfl⟩
 have hml:(((rows.map fun r=>[bO r]).length:Nat):Int)=n:=by simp [hn]
 have fin : ∀ {T:Tm} {L:List Ob} {w:Val}, w=fZ op arg rows->Res Dx Tryz.f56.results.toList T L (SB w)->Res Dx Tryz.f56.results.toList T L (SB (fZ op arg rows)):=fun e h=>by rw [<- e];exact h
 have e1:Pure Tryz.prog 93 [.one (.int .i64 ((rows.map fun r=>[bO r]).length:Nat))] (SB (mU (rows.length))):=by
  have:=BQ rows.length
  simpa using this
 by_cases ha:arg<0
 ·have hA:decide (arg<0)=true:=by simp [ha]
  repeat' (first
   | refine st_nil ?_
   | rw [hA]
   | refine ay rfl rfl rfl rfl ph_ ?_
   | refine az rfl rfl rfl rfl ph_ ?_
   | refine sS_ rfl rfl rfl ph_ ?_
   | refine aC rfl rfl rfl rfl ph_ ?_
   | refine aj rfl rfl rfl ?_
   | refine sk0_ rfl rfl ?_
   | refine aG rfl rfl rfl rfl e1 rfl ?_
   | (refine aM rfl (fun hb=>?_) (fun hb=>?_)<;>(first|exact (fx_ hb).elim|rw [hb]))
   | refine aw_seq ?_
   | refine aw_region aN _ rfl ?_
   | refine aw_drawn2 aF _ rfl mixed (by decide +kernel) ?_
   | (refine ah rfl (fun hb=>?_) (fun hb=>?_)<;>(try exact (fx_ hb).elim))
   | refine aw_block ?_
   | refine aw_exit ?_
   | refine aw_ret ?_
   | refine aw_skip ?_)
  all_goals exact aO (fin (w:=mU (rows.length)) (by unfold fZ;rw [hA,aa']) (aR rfl ⟨abp 3,trivial⟩ rfl))
 ·have hA:decide (arg<0)=false:=by simp [ha]
  repeat' (first
   | refine st_nil ?_
   | rw [hA]
   | refine ay rfl rfl rfl rfl ph_ ?_
   | refine az rfl rfl rfl rfl ph_ ?_
   | refine sS_ rfl rfl rfl ph_ ?_
   | refine aC rfl rfl rfl rfl ph_ ?_
   | refine aj rfl rfl rfl ?_
   | refine sk0_ rfl rfl ?_
   | (refine aM rfl (fun hb=>?_) (fun hb=>?_)<;>(first|exact (fx_ hb).elim|rw [hb]))
   | refine aw_seq ?_
   | refine aw_region aN _ rfl ?_
   | refine aw_drawn2 aF _ rfl mixed (by decide +kernel) ?_
   | (refine ah rfl (fun hb=>?_) (fun hb=>?_)<;>(try exact (fx_ hb).elim))
   | refine aw_block ?_
   | refine aw_exit ?_
   | refine aw_ret ?_
   | refine aw_skip ?_)
  refine dh 5 3 rfl ?_
  refine df (fun i:Nat=>[(3, .one (.ptr 0 0)),(4, .one (.ptr 1 0)),(5, .one (.own ((uG arg (rows.take i)).map cV) 2)),(18, .one (.c (bM rows))),(19, .one (.c (.int .i64 n))),(20, .one (.c (.int .i64 i)))]) (fun i=>[.box [.c (.int .i64 op), .c (.int .i64 arg)], .box [.c (.int .i64 0), .c (.int .i64 0), .c (.str ⟨#[]⟩)], .spare (uG arg (rows.take i)).length 3]) (fun i=>i<=n) (fun i=>n-i) 0 (by omega) (fun _ _=>abv _)
   (fm_ ⟨rfl,rfl,rfl,rfl,aT hml,rfl,trivial⟩ [] rfl ⟨by show 0<3;omega,by show 1<3;omega,by show 2<3;omega,trivial,trivial,trivial,trivial⟩ ⟨a_,fE,trivial,trivial⟩) ?_
  intro i hi
  by_cases hlt:i<n
  ·obtain ⟨r,hx⟩:=gol_ (show i<rows.length by omega)
   have hcl:=J7 arg (rows.take i)
   rw [abY] at hcl
   have hnx:uG arg (rows.take (i+1))=gI arg (uG arg (rows.take i)) r:=by rw [bS hx];unfold uG;rw [List.foldl_append];rfl
   generalize uG arg (rows.take i)=C at hcl hnx
   have hcm:(C.map cV).length=C.length:=by simp
   have hrl:(((r.map cV).length:Nat):Int)=r.length:=by simp
   have hN:decide ((i:Int)<n)=true:=by simp;exact hlt
   by_cases hB:arg<r.length
   ·obtain ⟨v,hv⟩:=gol_ (show arg.toNat<r.length by omega)
    have hv2:(r.map cV)[arg.toNat]?=some (cV v):=by rw [abx,hv];rfl
    have hD:decide (arg<((r.map cV).length:Nat))=true:=by rw [hrl];simp [hB]
    have hD2:decide (arg<(r.length:Int))=true:=by simp [hB]
    unfold gI at hnx
    rw [hD2,aa',hv] at hnx
    simp only at hnx
    repeat' (first
     | refine st_nil ?_
     | rw [hN]
     | rw [hD]
     | (refine ay rfl rfl rfl rfl ?_ ?_; · (repeat' (first|exact trivial|rfl|exact abj rfl|omega|(intro e he;simp at he;subst he;rfl)|exact hcm|(show (_+1)*32<=_;omega)|(show _+1<=_;omega)|apply And.intro)))
     | (refine aW rfl rfl rfl rfl rfl rfl rfl rfl (bg hx) ?_ ?_; · exact ⟨by omega,rfl⟩)
     | (refine aW rfl rfl rfl rfl rfl rfl rfl rfl hv2 ?_ ?_; · exact ⟨by omega,rfl⟩)
     | (refine az rfl rfl rfl rfl ?_ ?_; · (repeat' (first|exact trivial|rfl|exact abj rfl|omega|(intro e he;simp at he;subst he;rfl)|exact hcm|(show (_+1)*32<=_;omega)|(show _+1<=_;omega)|apply And.intro)))
     | (refine sS_ rfl rfl rfl ?_ ?_; · (repeat' (first|exact trivial|rfl|exact abj rfl|omega|(intro e he;simp at he;subst he;rfl)|exact hcm|(show (_+1)*32<=_;omega)|(show _+1<=_;omega)|apply And.intro)))
     | (refine aC rfl rfl rfl rfl ?_ ?_; · (repeat' (first|exact trivial|rfl|exact abj rfl|omega|(intro e he;simp at he;subst he;rfl)|exact hcm|(show (_+1)*32<=_;omega)|(show _+1<=_;omega)|apply And.intro)))
     | refine aj rfl rfl rfl ?_
     | refine sk0_ rfl rfl ?_
     | (refine aM rfl (fun hb=>?_) (fun hb=>?_)<;>(first|exact (fx_ hb).elim|rw [hb]))
     | refine aw_seq ?_
     | refine aw_region aN _ rfl ?_
     | refine aw_drawn2 aF _ rfl mixed (by decide +kernel) ?_
     | (refine ah rfl (fun hb=>?_) (fun hb=>?_)<;>(try exact (fx_ hb).elim))
     | refine aw_block ?_
     | refine aw_exit ?_
     | refine aw_ret ?_
     | refine aw_skip ?_)
    ·rw [hb,aa'] at hnx
     exact ⟨i+1,by omega,by omega,by rw [hnx];exact fm_ ⟨rfl,rfl,cB (by rw [abm];rfl),rfl,rfl,aT (bu (by omega) (by omega)),trivial⟩ [] (by simp) ⟨by show 0<3;omega,by show 1<3;omega,by show 2<3;omega,trivial,trivial,trivial,trivial⟩ ⟨a_,fE,trivial,trivial⟩⟩
    ·rw [hb,aa_] at hnx
     exact ⟨i+1,by omega,by omega,by rw [hnx];exact fm_ ⟨rfl,rfl,rfl,rfl,rfl,aT (bu (by omega) (by omega)),trivial⟩ [] rfl ⟨by show 0<3;omega,by show 1<3;omega,by show 2<3;omega,trivial,trivial,trivial,trivial⟩ ⟨a_,fE,trivial,trivial⟩⟩
   ·have hD:decide (arg<((r.map cV).length:Nat))=false:=by rw [hrl];simp;omega
    have hD2:decide (arg<(r.length:Int))=false:=by simp;omega
    unfold gI at hnx
    rw [hD2,aa_] at hnx
    repeat' (first
     | refine st_nil ?_
     | rw [hN]
     | rw [hD]
     | (refine ay rfl rfl rfl rfl ?_ ?_; · (repeat' (first|exact trivial|rfl|exact abj rfl|omega|(intro e he;simp at he;subst he;rfl)|exact hcm|(show (_+1)*32<=_;omega)|(show _+1<=_;omega)|apply And.intro)))
     | (refine aW rfl rfl rfl rfl rfl rfl rfl rfl (bg hx) ?_ ?_; · exact ⟨by omega,rfl⟩)
     | (refine az rfl rfl rfl rfl ?_ ?_; · (repeat' (first|exact trivial|rfl|exact abj rfl|omega|(intro e he;simp at he;subst he;rfl)|exact hcm|(show (_+1)*32<=_;omega)|(show _+1<=_;omega)|apply And.intro)))
     | (refine sS_ rfl rfl rfl ?_ ?_; · (repeat' (first|exact trivial|rfl|exact abj rfl|omega|(intro e he;simp at he;subst he;rfl)|exact hcm|(show (_+1)*32<=_;omega)|(show _+1<=_;omega)|apply And.intro)))
     | (refine aC rfl rfl rfl rfl ?_ ?_; · (repeat' (first|exact trivial|rfl|exact abj rfl|omega|(intro e he;simp at he;subst he;rfl)|exact hcm|(show (_+1)*32<=_;omega)|(show _+1<=_;omega)|apply And.intro)))
     | refine aj rfl rfl rfl ?_
     | refine sk0_ rfl rfl ?_
     | (refine aM rfl (fun hb=>?_) (fun hb=>?_)<;>(first|exact (fx_ hb).elim|rw [hb]))
     | refine aw_seq ?_
     | refine aw_region aN _ rfl ?_
     | refine aw_drawn2 aF _ rfl mixed (by decide +kernel) ?_
     | (refine ah rfl (fun hb=>?_) (fun hb=>?_)<;>(try exact (fx_ hb).elim))
     | refine aw_block ?_
     | refine aw_exit ?_
     | refine aw_ret ?_
     | refine aw_skip ?_)
    exact ⟨i+1,by omega,by omega,by rw [hnx];exact fm_ ⟨rfl,rfl,rfl,rfl,rfl,aT (bu (by omega) (by omega)),trivial⟩ [] rfl ⟨by show 0<3;omega,by show 1<3;omega,by show 2<3;omega,trivial,trivial,trivial,trivial⟩ ⟨a_,fE,trivial,trivial⟩⟩
  ·have htk:rows.take i=rows:=abP (by omega)
   have hN:decide ((i:Int)<n)=false:=by simp;omega
   have hcl:=J7 arg rows
   rw [htk]
   have hV:fZ op arg rows=bif decide (op=1) then mU ((uG arg rows).length) else match uG arg rows with
    | []=>uD
    | x::l=>bif decide (op=2) then JX (x::l) else (x::l).foldl (dI op) x:=by unfold fZ;rw [hA,aa_]
   generalize uG arg rows=C at hcl hV
   have hcm:(((C.map cV).length:Nat):Int)=C.length:=by simp
   have e2:Pure Tryz.prog 93 [.one (.int .i64 ((C.map cV).length:Nat))] (SB (mU (C.length))):=by
    have:=BQ C.length
    simpa using this
   cases C with
   | nil =>
    repeat' (first
     | refine st_nil ?_
     | rw [hN]
     | refine ay rfl rfl rfl rfl ph_ ?_
     | refine az rfl rfl rfl rfl ph_ ?_
     | refine sS_ rfl rfl rfl ph_ ?_
     | refine aC rfl rfl rfl rfl ph_ ?_
     | refine aj rfl rfl rfl ?_
     | refine sk0_ rfl rfl ?_
     | refine aG rfl rfl rfl rfl e2 rfl ?_
     | refine aG rfl rfl rfl rfl rD rfl ?_
     | (refine aM rfl (fun hb=>?_) (fun hb=>?_)<;>(first|exact (fx_ hb).elim|rw [hb]))
     | refine aw_seq ?_
     | refine aw_region aN _ rfl ?_
     | refine aw_drawn2 aF _ rfl mixed (by decide +kernel) ?_
     | (refine ah rfl (fun hb=>?_) (fun hb=>?_)<;>(try exact (fx_ hb).elim))
     | refine aw_block ?_
     | refine aw_exit ?_
     | refine aw_ret ?_
     | refine aw_skip ?_)
    all_goals first
     | exact aO (fin (w:=mU ((([]:List Val).length:Nat))) (by rw [hV,hb,aa']) (aR rfl ⟨abp 3,trivial⟩ rfl))
     | exact aO (fin (w:=uD) (by rw [hV];rename_i q1 q2;rw [q2,aa_]) (aR rfl ⟨abp 3,trivial⟩ rfl))
   | cons x l =>
    have hne:decide ((((x::l).map cV).length:Int)=0)=false:=by simp;omega
    have hsum:=Tn (x::l) (by omega)
    repeat' (first
     | refine st_nil ?_
     | rw [hN]
     | rw [hne]
     | refine ay rfl rfl rfl rfl ph_ ?_
     | refine az rfl rfl rfl rfl ph_ ?_
     | refine sS_ rfl rfl rfl ph_ ?_
     | refine aC rfl rfl rfl rfl ph_ ?_
     | refine aj rfl rfl rfl ?_
     | refine sk0_ rfl rfl ?_
     | refine aG rfl rfl rfl rfl e2 rfl ?_
     | refine aG rfl rfl rfl rfl rD rfl ?_
     | refine aG rfl rfl rfl rfl hsum rfl ?_
     | (refine aM rfl (fun hb=>?_) (fun hb=>?_)<;>(first|exact (fx_ hb).elim|rw [hb]))
     | refine aw_seq ?_
     | refine aw_region aN _ rfl ?_
     | refine aw_drawn2 aF _ rfl mixed (by decide +kernel) ?_
     | (refine ah rfl (fun hb=>?_) (fun hb=>?_)<;>(try exact (fx_ hb).elim))
     | refine aw_block ?_
     | refine aw_exit ?_
     | refine aw_ret ?_
     | refine aw_skip ?_)
    ·exact aO (fin (w:=mU (((x::l).length:Nat))) (by rw [hV,hb,aa']) (aR rfl ⟨abp 3,trivial⟩ rfl))
    ·exact aO (fin (w:=JX (x::l)) (by rw [hV];rename_i q1 q2 q3;rw [q2,hb,aa_];simp only [aa']) (aR rfl ⟨abp 3,trivial⟩ rfl))
    ·rename_i q1 q2
     have hV2:fZ op arg rows=(x::l).foldl (dI op) x:=by rw [hV];simp only [q1,q2,hb,aa_]
     obtain ⟨m,hm⟩ : ∃ m,(x::l).length=m:=⟨_,rfl⟩
     generalize hC:x::l=C at hV2 hm hcm hcl
     have hmb:m<=1000000:=by omega
     refine df (fun j:Nat=>[(3, .one (.ptr 0 0)),(4, .one (.ptr 1 0)),(8, .one (.ptr 3 0)),(68, .one (.own (C.map cV) 2)),(69, .one (.c (.int .i64 m))),(70, .one (.c (.int .i64 j)))]) (fun j=>[.box [.c (.int .i64 op), .c (.int .i64 arg)], .box [.c (.int .i64 0), .c (.int .i64 0), .c (.str ⟨#[]⟩)], .spare m 3, .box [.c (.int .i64 ((C.take j).foldl (dI op) x).kind), .c (.int .i64 ((C.take j).foldl (dI op) x).int), .c (.str ((C.take j).foldl (dI op) x).text)]]) (fun j=>j<=m) (fun j=>m-j) 0 (by omega) (fun _ _=>abv _)
      (fm_ ⟨rfl,rfl,rfl,by rw [<- hC];rfl,aT (by rw [<- hm, <- hC];simp),rfl,trivial⟩ [] (by rw [<- hm, <- hC];rfl) ⟨by show 0<4;omega,by show 1<4;omega,by show 3<4;omega,by show 2<4;omega,trivial,trivial,trivial⟩ ⟨a_,fE,trivial,fE,trivial⟩) ?_
     intro j hj
     by_cases hlt3:j<m
     ·obtain ⟨v,hv⟩:=gol_ (show j<C.length by omega)
      have hnx:(C.take (j+1)).foldl (dI op) x=dI op ((C.take j).foldl (dI op) x) v:=by rw [bS hv,List.foldl_append];rfl
      generalize (C.take j).foldl (dI op) x=o at hnx
      generalize hst:dI op o v=w at hnx
      unfold dI at hst
      have hN3:decide ((j:Int)<m)=true:=by simp;exact hlt3
      repeat' (first
       | refine st_nil ?_
       | rw [hN3]
       | refine ay rfl rfl rfl rfl ph_ ?_
       | (refine aW rfl rfl rfl rfl rfl rfl rfl rfl (bg hv) ?_ ?_; · exact ⟨by omega,rfl⟩)
       | refine az rfl rfl rfl rfl ph_ ?_
       | refine sS_ rfl rfl rfl ph_ ?_
       | refine aC rfl rfl rfl rfl ph_ ?_
       | refine aj rfl rfl rfl ?_
       | refine sk0_ rfl rfl ?_
       | refine aG rfl rfl rfl rfl (Sv v o) rfl ?_
       | (refine aM rfl (fun hb=>?_) (fun hb=>?_)<;>(first|exact (fx_ hb).elim|rw [hb]))
       | refine aw_seq ?_
       | refine aw_region aN _ rfl ?_
       | refine aw_drawn2 aF _ rfl mixed (by decide +kernel) ?_
       | (refine ah rfl (fun hb=>?_) (fun hb=>?_)<;>(try exact (fx_ hb).elim))
       | refine aw_block ?_
       | refine aw_exit ?_
       | refine aw_ret ?_
       | refine aw_skip ?_)
      all_goals first
       | (clear hV hV2 fin e1 e2 hsum hl hr hcl hcm hC hm;simp only [*, aa',aa_] at hst;subst hst;exact ⟨j+1,by omega,by omega,by rw [hnx];exact fm_ ⟨rfl,rfl,rfl,rfl,rfl,aT (bu (by omega) (by omega)),trivial⟩ [_] rfl ⟨by show 0<4;omega,by show 1<4;omega,by show 3<4;omega,by show 2<4;omega,trivial,trivial,trivial⟩ ⟨a_,fE,trivial,fE,trivial⟩⟩)
     ·have hN3:decide ((j:Int)<m)=false:=by simp;omega
      have htk3:C.take j=C:=abP (by omega)
      rw [htk3, <- hV2]
      repeat' (first
       | refine st_nil ?_
       | rw [hN3]
       | refine ay rfl rfl rfl rfl ph_ ?_
       | refine az rfl rfl rfl rfl ph_ ?_
       | refine sS_ rfl rfl rfl ph_ ?_
       | refine aC rfl rfl rfl rfl ph_ ?_
       | refine aj rfl rfl rfl ?_
       | refine sk0_ rfl rfl ?_
       | (refine aM rfl (fun hb=>?_) (fun hb=>?_)<;>(first|exact (fx_ hb).elim|rw [hb]))
       | refine aw_seq ?_
       | refine aw_region aN _ rfl ?_
       | refine aw_drawn2 aF _ rfl mixed (by decide +kernel) ?_
       | (refine ah rfl (fun hb=>?_) (fun hb=>?_)<;>(try exact (fx_ hb).elim))
       | refine aw_block ?_
       | refine aw_exit ?_
       | refine aw_ret ?_
       | refine aw_skip ?_)
      exact aO (aR rfl ⟨abp 3,trivial⟩ rfl)
end Go.Proofs.YtfpbmfalamappaaGreatDoor
