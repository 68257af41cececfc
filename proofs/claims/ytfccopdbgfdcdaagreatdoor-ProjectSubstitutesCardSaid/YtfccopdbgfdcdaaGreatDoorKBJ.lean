/- Parts of the proof, joined. No condition. -/
import Derived.Test.YtfccopdbgfdcdaaGreatDoorKAA
import Derived.Test.YtfccopdbgfdcdaaGreatDoorKBI
import Derived.Shelf.LaysM
import Derived.Shelf.Strconv.Itoa3
import Derived.Ground.NamesProg
import Derived.Test.YtfccopdbgfdcdaaGreatDoorProg
import Derived.Test.YtfccopdbgfdcdaaGreatDoorKAI
import Derived.Lib.Walk
import Derived.Lib.ItoaMem
import Derived.WalkKit
import Derived.BigCall
import Derived.BigGuard
import Derived.Lib.AppendIntMem
set_option linter.unusedSimpArgs false
set_option linter.unusedVariables false
namespace Go.Proofs.YtfccopdbgfdcdaaGreatDoor
open Go.RowKit Go.MapKept
set_option maxRecDepth 100000
def gW (p:SV) (u:Nat) (s:ByteArray) (i:Nat):Ob := .row (186+65536) [[p, .sl (i+1) u 0 s.size]] 2
def gX (u:Nat) (s:ByteArray):Ob := .row u (bA s) 1
theorem aap : ∃ fn, Tryz.prog.funcs[224]? = some fn /\ (fn.name == "runtime.NumGoroutine") = false /\ fn.body.isNone = true /\ Extern.findNext fn = none /\ Extern.find fn = some Extern.AbiNoEscape.same := ⟨_, Tryz.func224, by kernel_rfl, by kernel_rfl, by kernel_rfl, by kernel_rfl⟩
theorem SB : ∃ j,Tryz.prog.info? 186=some j/\j.size=2:=by
 have h:(Tryz.prog.info? 186).map (·.size)=some 2:=by kernel_rfl
 cases hi:Tryz.prog.info? 186 with
 | none=>rw [hi] at h;cases h
 | some j=>rw [hi] at h;exact ⟨j,rfl,by simpa using h⟩
theorem bZ {n v k:Nat} {a b:SV} (ha:a.below n) (hb:b.below n):(Ob.row v [[a,b]] k).below n:=by
 intro e he x hx
 rcases adZ.1 he with rfl|he
 ·rcases adZ.1 hx with rfl|hx
  ·exact ha
  ·rcases adZ.1 hx with rfl|hx
   ·exact hb
   ·cases hx
 ·cases he
theorem bg (n u:Nat) (s:ByteArray):(gX u s).below n:=by
 intro e he x hx
 obtain ⟨y,_,rfl⟩:=aeh.1 he
 rcases adZ.1 hx with rfl|hx
 ·trivial
 ·cases hx
theorem bQ (s:ByteArray):(bA s).length=s.size:=by unfold bA;rw [adU];simp
theorem kw (s t:ByteArray):bA (s++t)=bA s++bA t:=by
 unfold bA
 rw [<- adV];congr 1
theorem Ow (σ:List Nat) (s:ByteArray):(bA s).map (List.map (SV.ren σ))=bA s:=by
 unfold bA
 rw [List.map_map];rfl
theorem iK (σ:List Nat) (u:Nat) (s:ByteArray):(gX u s).ren σ=gX u s:=by simp only [gX,Ob.ren,Ow]
theorem FQ {i j:Nat} {L L':List Ob} {a b a' b':Ob} (ha:a.ren [i,j]=a') (hb:b.ren [i,j]=b') (h:(L.set i a').set j b'=L'):joinL [i,j] L [a,b]=L':=by
 subst ha hb h
 simp [joinL,join,lL,fV,Ac]
theorem xE {L:List Ob} {a b:Ob} {x:AV} {xs:List AV} {i j:Nat} (h0:L[i]?=some (a.ren [i,j])) (h1:L[j]?=some (b.ren [i,j])) (hne:i≠j) (ha:a.below 2) (hb:b.below 2) (hx : ∀ y∈x::xs,y.below 2):nE [i,j] [a,b] (x::xs) L:=by
 refine ⟨rfl,by simp [hne],fun k y hy=>?_,cz ⟨ha,hb,trivial⟩,hx⟩
 match k,hy with
 | 0,hy=>simp at hy;subst hy;exact h0
 | 1,hy=>simp at hy;subst hy;exact h1
 | k+2,hy=>simp at hy
theorem Oq:Tryz.prog.cellsOf 186=2:=by kernel_rfl
theorem Xq:Tryz.prog.cellsOf 5=1:=by kernel_rfl
theorem wD (x:SV) (o:Ob) (hx:x.below 2) (ho:o.below 2):Run Tryz.prog 206 [.row (186+65536) [[(.c (.nul .ptr)),x]] 2,o] [.one (.ep 0 (186+65536) 0 0)] [.row (186+65536) [[(.ep 0 (186+65536) 0 0),x]] 2,o] (.tup []):=by
 obtain ⟨j,hj,hj2⟩:=SB
 obtain ⟨fn,hf,hnm,hbd,hnx,hfd⟩:=aap
 refine dV ah Tryz.func206 rfl rfl Tryz.ntmps206 (by simp) ?_
 simp only [ut]
 repeat' (first
  | refine st_nil ?_
  | refine aP rfl rfl rfl rfl ph_ ?_
  | refine aT rfl rfl rfl rfl ph_ ?_
  | refine sS_ rfl rfl rfl ph_ ?_
  | refine aS rfl rfl rfl rfl ph_ ?_
  | refine aK rfl rfl rfl ?_
  | refine sk0_ rfl rfl ?_
  | (refine bF rfl (fun hb=>?_) (fun hb=>?_)<;>(first|exact (fx_ hb).elim|rw [hb]))
  | refine aw_seq ?_
  | refine aw_region ah _ rfl ?_
  | refine aw_drawn2 bq _ rfl mixed (by decide +kernel) ?_
  | (refine aJ rfl (fun hb=>?_) (fun hb=>?_)<;>(try exact (fx_ hb).elim))
  | refine aw_block ?_
  | refine aw_exit ?_
  | refine aw_ret ?_
  | refine aw_skip ?_
  | (refine fw rfl rfl rfl rfl rfl (D_ rfl rfl (ah.kind 183 _ rfl)) ?_)
  | (refine fw rfl rfl rfl rfl rfl (wZ rfl rfl rfl (ah.kind 183 _ rfl)) ?_)
  | (refine fw rfl rfl rfl rfl rfl (wP rfl rfl rfl (ah.kind 183 _ rfl) hj) ?_)
  | (refine fw rfl rfl rfl rfl rfl (o_ rfl rfl (ah.kind 183 _ rfl) (ah.kind 224 _ rfl) hj (by rw [hj2];decide)) ?_)
  | (refine fw rfl rfl rfl rfl rfl (uj rfl rfl (ah.kind 224 _ rfl) (ah.kind 183 _ rfl) hj Oq rfl) ?_)
  | (refine iy rfl rfl rfl rfl rfl (uK rfl hf hnm hbd hnx hfd) ?_))
 all_goals exact ⟨.inl rfl,⟨.inr ⟨.tup [],⟨trivial,rfl⟩,rfl⟩,⟨[],rfl⟩,by simp,cz ⟨bZ (by show 0<2;omega) hx,ho,trivial⟩,by simp [CV.av,AV.below]⟩⟩
theorem xA (x:SV) (o:Ob) (hx:x.below 2) (ho:o.below 2):Run Tryz.prog 206 [.row (186+65536) [[(.ep 0 (186+65536) 0 0),x]] 2,o] [.one (.ep 0 (186+65536) 0 0)] [.row (186+65536) [[(.ep 0 (186+65536) 0 0),x]] 2,o] (.tup []):=by
 obtain ⟨j,hj,hj2⟩:=SB
 obtain ⟨fn,hf,hnm,hbd,hnx,hfd⟩:=aap
 refine dV ah Tryz.func206 rfl rfl Tryz.ntmps206 (by simp) ?_
 simp only [ut]
 repeat' (first
  | refine st_nil ?_
  | refine aP rfl rfl rfl rfl ph_ ?_
  | refine aT rfl rfl rfl rfl ph_ ?_
  | refine sS_ rfl rfl rfl ph_ ?_
  | refine aS rfl rfl rfl rfl ph_ ?_
  | refine aK rfl rfl rfl ?_
  | refine sk0_ rfl rfl ?_
  | (refine bF rfl (fun hb=>?_) (fun hb=>?_)<;>(first|exact (fx_ hb).elim|rw [hb]))
  | refine aw_seq ?_
  | refine aw_region ah _ rfl ?_
  | refine aw_drawn2 bq _ rfl mixed (by decide +kernel) ?_
  | (refine aJ rfl (fun hb=>?_) (fun hb=>?_)<;>(try exact (fx_ hb).elim))
  | refine aw_block ?_
  | refine aw_exit ?_
  | refine aw_ret ?_
  | refine aw_skip ?_
  | (refine fw rfl rfl rfl rfl rfl (D_ rfl rfl (ah.kind 183 _ rfl)) ?_)
  | (refine fw rfl rfl rfl rfl rfl (wZ rfl rfl rfl (ah.kind 183 _ rfl)) ?_)
  | (refine fw rfl rfl rfl rfl rfl (wP rfl rfl rfl (ah.kind 183 _ rfl) hj) ?_)
  | (refine fw rfl rfl rfl rfl rfl (o_ rfl rfl (ah.kind 183 _ rfl) (ah.kind 224 _ rfl) hj (by rw [hj2];decide)) ?_)
  | (refine fw rfl rfl rfl rfl rfl (uj rfl rfl (ah.kind 224 _ rfl) (ah.kind 183 _ rfl) hj Oq rfl) ?_)
  | (refine iy rfl rfl rfl rfl rfl (uK rfl hf hnm hbd hnx hfd) ?_))
 all_goals exact ⟨.inl rfl,⟨.inr ⟨.tup [],⟨trivial,rfl⟩,rfl⟩,⟨[],rfl⟩,by simp,cz ⟨bZ (by show 0<2;omega) hx,ho,trivial⟩,by simp [CV.av,AV.below]⟩⟩
theorem Ny (u:Nat) (s:ByteArray) (t:ByteArray) (hu:u%65536=5) (hs:s.size<=100000000000000) (ht:t.size<=1000000000000):Run Tryz.prog 188 [gW (.c (.nul .ptr)) u s 0,gX u s] [.one (.ep 0 (186+65536) 0 0), .one (.c (.str t))] [gW (.ep 0 (186+65536) 0 0) (u+65536) (s++t) 0,gX (u+65536) (s++t)] (.tup [.one (.int .i64 t.size), .one (.nul .iface)]):=by
 refine dV ah Tryz.func188 rfl rfl Tryz.ntmps188 (by simp) ?_
 simp only [ut]
 unfold gW
 repeat' (first
  | refine st_nil ?_
  | (refine iy rfl rfl rfl rfl rfl (yT ah (k:=1) (by_:=1) (xs:=bA t) rfl rfl rfl rfl ⟨rfl,rfl⟩ rfl hu rfl rfl rfl (by omega) (by exact bQ s) (by rw [bQ];omega) (by rw [bQ];omega)) ?_)
  | (refine aP rfl rfl rfl rfl ?_ ?_; · (repeat' (first|exact trivial|rfl|exact adS rfl|omega|(intro e he;simp at he;subst he;rfl)|apply And.intro)))
  | (refine aT rfl rfl rfl rfl ?_ ?_; · (repeat' (first|exact trivial|rfl|exact adS rfl|omega|(intro e he;simp at he;subst he;rfl)|apply And.intro)))
  | (refine sS_ rfl rfl rfl ?_ ?_; · (repeat' (first|exact trivial|rfl|exact adS rfl|omega|(intro e he;simp at he;subst he;rfl)|apply And.intro)))
  | (refine aS rfl rfl rfl rfl ?_ ?_; · (repeat' (first|exact trivial|rfl|exact adS rfl|omega|(intro e he;simp at he;subst he;rfl)|apply And.intro)))
  | refine aK rfl rfl rfl ?_
  | refine sk0_ rfl rfl ?_
  | (refine lH [0,1] rfl rfl rfl rfl (wD (.sl 1 u 0 s.size) (gX u s) (by show 1<2;omega) (bg _ _ _)) rfl (xE (by rfl) (by rw [iK];rfl) (by decide) (bZ trivial (by show 1<2;omega)) (bg _ _ _) (fun y hy=>by rcases adZ.1 hy with rfl|hy<;>first|(show 0<2;omega)|cases hy)) rfl (FQ rfl (iK _ _ _) rfl) ?_)
  | (refine bF rfl (fun hb=>?_) (fun hb=>?_)<;>(first|exact (fx_ hb).elim|rw [hb]))
  | refine aw_seq ?_
  | refine aw_region ah _ rfl ?_
  | refine aw_drawn2 bq _ rfl mixed (by decide +kernel) ?_
  | (refine aJ rfl (fun hb=>?_) (fun hb=>?_)<;>(try exact (fx_ hb).elim))
  | refine aw_block ?_
  | refine aw_exit ?_
  | refine aw_ret ?_
  | refine aw_skip ?_)
 all_goals refine ⟨.inr rfl,⟨.inr ⟨.tup [.one (.int .i64 t.size), .one (.nul .iface)],⟨⟨trivial,trivial,trivial⟩,rfl⟩,rfl⟩,⟨[],?_⟩,by simp,cz ⟨bZ (by show 0<2;omega) (by show 1<2;omega),bg _ _ _,trivial⟩,trivial⟩⟩
 all_goals (rw [aeg];show [Ob.row _ [[_,SV.sl (0+1) (u+65536) 0 (s.size+(bA t).length)]] 2,Ob.row (u+65536) (bA s++bA t) 1]=_;rw [bQ, <- kw, <- ByteArray.size_append];rfl)
theorem CG (u:Nat) (s:ByteArray) (t:ByteArray) (hu:u%65536=5) (hs:s.size<=100000000000000) (ht:t.size<=1000000000000):Run Tryz.prog 188 [gW (.ep 0 (186+65536) 0 0) u s 0,gX u s] [.one (.ep 0 (186+65536) 0 0), .one (.c (.str t))] [gW (.ep 0 (186+65536) 0 0) (u+65536) (s++t) 0,gX (u+65536) (s++t)] (.tup [.one (.int .i64 t.size), .one (.nul .iface)]):=by
 refine dV ah Tryz.func188 rfl rfl Tryz.ntmps188 (by simp) ?_
 simp only [ut]
 unfold gW
 repeat' (first
  | refine st_nil ?_
  | (refine iy rfl rfl rfl rfl rfl (yT ah (k:=1) (by_:=1) (xs:=bA t) rfl rfl rfl rfl ⟨rfl,rfl⟩ rfl hu rfl rfl rfl (by omega) (by exact bQ s) (by rw [bQ];omega) (by rw [bQ];omega)) ?_)
  | (refine aP rfl rfl rfl rfl ?_ ?_; · (repeat' (first|exact trivial|rfl|exact adS rfl|omega|(intro e he;simp at he;subst he;rfl)|apply And.intro)))
  | (refine aT rfl rfl rfl rfl ?_ ?_; · (repeat' (first|exact trivial|rfl|exact adS rfl|omega|(intro e he;simp at he;subst he;rfl)|apply And.intro)))
  | (refine sS_ rfl rfl rfl ?_ ?_; · (repeat' (first|exact trivial|rfl|exact adS rfl|omega|(intro e he;simp at he;subst he;rfl)|apply And.intro)))
  | (refine aS rfl rfl rfl rfl ?_ ?_; · (repeat' (first|exact trivial|rfl|exact adS rfl|omega|(intro e he;simp at he;subst he;rfl)|apply And.intro)))
  | refine aK rfl rfl rfl ?_
  | refine sk0_ rfl rfl ?_
  | (refine lH [0,1] rfl rfl rfl rfl (xA (.sl 1 u 0 s.size) (gX u s) (by show 1<2;omega) (bg _ _ _)) rfl (xE (by rfl) (by rw [iK];rfl) (by decide) (bZ (by show 0<2;omega) (by show 1<2;omega)) (bg _ _ _) (fun y hy=>by rcases adZ.1 hy with rfl|hy<;>first|(show 0<2;omega)|cases hy)) rfl (FQ rfl (iK _ _ _) rfl) ?_)
  | (refine bF rfl (fun hb=>?_) (fun hb=>?_)<;>(first|exact (fx_ hb).elim|rw [hb]))
  | refine aw_seq ?_
  | refine aw_region ah _ rfl ?_
  | refine aw_drawn2 bq _ rfl mixed (by decide +kernel) ?_
  | (refine aJ rfl (fun hb=>?_) (fun hb=>?_)<;>(try exact (fx_ hb).elim))
  | refine aw_block ?_
  | refine aw_exit ?_
  | refine aw_ret ?_
  | refine aw_skip ?_)
 all_goals refine ⟨.inr rfl,⟨.inr ⟨.tup [.one (.int .i64 t.size), .one (.nul .iface)],⟨⟨trivial,trivial,trivial⟩,rfl⟩,rfl⟩,⟨[],?_⟩,by simp,cz ⟨bZ (by show 0<2;omega) (by show 1<2;omega),bg _ _ _,trivial⟩,trivial⟩⟩
 all_goals (rw [aeg];show [Ob.row _ [[_,SV.sl (0+1) (u+65536) 0 (s.size+(bA t).length)]] 2,Ob.row (u+65536) (bA s++bA t) 1]=_;rw [bQ, <- kw, <- ByteArray.size_append];rfl)
theorem Sg (u:Nat) (s:ByteArray) (t:UInt8) (hu:u%65536=5) (hs:s.size<=100000000000000)  : Run Tryz.prog 190 [gW (.ep 0 (186+65536) 0 0) u s 0,gX u s] [.one (.ep 0 (186+65536) 0 0), .one (.c (.int .u8 t.toNat))] [gW (.ep 0 (186+65536) 0 0) (u+65536) (s++⟨#[t]⟩) 0,gX (u+65536) (s++⟨#[t]⟩)] (.one (.c (.nul .iface))):=by
 refine dV ah Tryz.func190 rfl rfl Tryz.ntmps190 (by simp) ?_
 simp only [ut]
 unfold gW
 repeat' (first
  | refine st_nil ?_
  | (refine iy rfl rfl rfl rfl rfl (yT ah (k:=1) (by_:=1) (xs:=bA ⟨#[t]⟩) rfl rfl rfl rfl ⟨rfl,_,rfl,by intro e he;simp at he;subst he;rfl⟩ rfl hu rfl rfl rfl (by omega) (by exact bQ s) (by rw [bQ];show (s.size+1)*1<=_;omega) (by rw [bQ];show s.size+1<=_;omega)) ?_)
  | (refine aP rfl rfl rfl rfl ?_ ?_; · (repeat' (first|exact trivial|rfl|exact adS rfl|omega|(intro e he;simp at he;subst he;rfl)|apply And.intro)))
  | (refine aT rfl rfl rfl rfl ?_ ?_; · (repeat' (first|exact trivial|rfl|exact adS rfl|omega|(intro e he;simp at he;subst he;rfl)|apply And.intro)))
  | (refine sS_ rfl rfl rfl ?_ ?_; · (repeat' (first|exact trivial|rfl|exact adS rfl|omega|(intro e he;simp at he;subst he;rfl)|apply And.intro)))
  | (refine aS rfl rfl rfl rfl ?_ ?_; · (repeat' (first|exact trivial|rfl|exact adS rfl|omega|(intro e he;simp at he;subst he;rfl)|apply And.intro)))
  | refine aK rfl rfl rfl ?_
  | refine sk0_ rfl rfl ?_
  | (refine lH [0,1] rfl rfl rfl rfl (xA (.sl 1 u 0 s.size) (gX u s) (by show 1<2;omega) (bg _ _ _)) rfl (xE (by rfl) (by rw [iK];rfl) (by decide) (bZ (by show 0<2;omega) (by show 1<2;omega)) (bg _ _ _) (fun y hy=>by rcases adZ.1 hy with rfl|hy<;>first|(show 0<2;omega)|cases hy)) rfl (FQ rfl (iK _ _ _) rfl) ?_)
  | (refine bF rfl (fun hb=>?_) (fun hb=>?_)<;>(first|exact (fx_ hb).elim|rw [hb]))
  | refine aw_seq ?_
  | refine aw_region ah _ rfl ?_
  | refine aw_drawn2 bq _ rfl mixed (by decide +kernel) ?_
  | (refine aJ rfl (fun hb=>?_) (fun hb=>?_)<;>(try exact (fx_ hb).elim))
  | refine aw_block ?_
  | refine aw_exit ?_
  | refine aw_ret ?_
  | refine aw_skip ?_)
 all_goals refine ⟨.inr rfl,⟨.inl ⟨4,rfl,rfl⟩,⟨[],?_⟩,by simp,cz ⟨bZ (by show 0<2;omega) (by show 1<2;omega),bg _ _ _,trivial⟩,trivial⟩⟩
 all_goals (rw [aeg];show [Ob.row _ [[_,SV.sl (0+1) (u+65536) 0 (s.size+(bA ⟨#[t]⟩).length)]] 2,Ob.row (u+65536) (bA s++bA ⟨#[t]⟩) 1]=_;rw [bQ, <- kw, <- ByteArray.size_append];rfl)
theorem ZC (u:Nat) (s:ByteArray) (hu:u%65536=5) (h0:0<s.size) (hs:s.size<=100000000000000):Run Tryz.prog 191 [gW (.ep 0 (186+65536) 0 0) u s 0,gX u s] [.one (.ep 0 (186+65536) 0 0)] [gW (.ep 0 (186+65536) 0 0) u s 0, .dead] (.one (.c (.str s))):=by
 refine dV ah Tryz.func191 rfl rfl Tryz.ntmps191 (by simp) ?_
 simp only [ut]
 unfold gW
 repeat' (first
  | refine st_nil ?_
  | (refine fw rfl rfl rfl rfl rfl (zJ rfl rfl h0) ?_)
  | (refine Sm rfl rfl rfl rfl rfl (tJ rfl rfl rfl hu (bq.kind _ _ rfl) Xq h0 (by omega)) ?_)
  | refine aP rfl rfl rfl rfl ph_ ?_
  | refine aT rfl rfl rfl rfl ph_ ?_
  | refine sS_ rfl rfl rfl ph_ ?_
  | refine aS rfl rfl rfl rfl ph_ ?_
  | refine aK rfl rfl rfl ?_
  | refine sk0_ rfl rfl ?_
  | (refine bF rfl (fun hb=>?_) (fun hb=>?_)<;>(first|exact (fx_ hb).elim|rw [hb]))
  | refine aw_seq ?_
  | refine aw_region ah _ rfl ?_
  | refine aw_drawn2 bq _ rfl mixed (by decide +kernel) ?_
  | (refine aJ rfl (fun hb=>?_) (fun hb=>?_)<;>(try exact (fx_ hb).elim))
  | refine aw_block ?_
  | refine aw_exit ?_
  | refine aw_ret ?_
  | refine aw_skip ?_)
 all_goals exact ⟨.inr rfl,⟨.inl ⟨2,rfl,rfl⟩,⟨[],rfl⟩,by simp,cz ⟨bZ (by show 0<2;omega) (by show 1<2;omega),trivial,trivial⟩,trivial⟩⟩
theorem Y9:Run Tryz.prog 191 [gW (.c (.nul .ptr)) 5 ⟨#[]⟩ 0,gX 5 ⟨#[]⟩] [.one (.ep 0 (186+65536) 0 0)] [gW (.c (.nul .ptr)) 5 ⟨#[]⟩ 0,gX 5 ⟨#[]⟩] (.one (.c (.str ⟨#[]⟩))):=by
 refine dV ah Tryz.func191 rfl rfl Tryz.ntmps191 (by simp) ?_
 simp only [ut]
 unfold gW
 repeat' (first
  | refine st_nil ?_
  | (refine fw rfl rfl rfl rfl rfl (xH rfl rfl (by decide)) ?_)
  | (refine Sm rfl rfl rfl rfl rfl (qW rfl rfl) ?_)
  | refine aP rfl rfl rfl rfl ph_ ?_
  | refine aT rfl rfl rfl rfl ph_ ?_
  | refine sS_ rfl rfl rfl ph_ ?_
  | refine aS rfl rfl rfl rfl ph_ ?_
  | refine aK rfl rfl rfl ?_
  | refine sk0_ rfl rfl ?_
  | (refine bF rfl (fun hb=>?_) (fun hb=>?_)<;>(first|exact (fx_ hb).elim|rw [hb]))
  | refine aw_seq ?_
  | refine aw_region ah _ rfl ?_
  | refine aw_drawn2 bq _ rfl mixed (by decide +kernel) ?_
  | (refine aJ rfl (fun hb=>?_) (fun hb=>?_)<;>(try exact (fx_ hb).elim))
  | refine aw_block ?_
  | refine aw_exit ?_
  | refine aw_ret ?_
  | refine aw_skip ?_)
 all_goals exact ⟨.inr rfl,⟨.inl ⟨2,rfl,rfl⟩,⟨[],rfl⟩,by simp,cz ⟨bZ trivial (by show 1<2;omega),bg _ _ _,trivial⟩,trivial⟩⟩
end Go.Proofs.YtfccopdbgfdcdaaGreatDoor
namespace Go.Proofs
open Go.Shelf
def Tryz.laysM171_ren:Go.Shelf.Ren:=⟨fun|171=>189|243=>207|246=>225|283=>231|284=>232|285=>233|286=>234|129=>203|317=>237|318=>238|319=>239|320=>240|337=>241|338=>242|n=>n,fun|3=>3|9=>9|2=>2|4=>4|171=>231|0=>0|53=>206|37=>184|5=>5|173=>233|212=>237|51=>204|20=>20|213=>238|46=>174|232=>239|233=>240|n=>n,fun|17=>1|18=>2|19=>3|n=>n⟩
theorem Tryz.laysM171:Go.Proofs.LaysM.n171 Tryz.prog Tryz.laysM171_ren := {
 mixed:=by kernel_rfl
 f129:=Tryz.func203.trans (congrArg some (by kernel_rfl))
 f171:=Tryz.func189.trans (congrArg some (by kernel_rfl))
 f243:=Tryz.func207.trans (congrArg some (by kernel_rfl))
 f246:=Tryz.func225.trans (congrArg some (by kernel_rfl))
 f283:=Tryz.func231.trans (congrArg some (by kernel_rfl))
 f284:=Tryz.func232.trans (congrArg some (by kernel_rfl))
 f285:=Tryz.func233.trans (congrArg some (by kernel_rfl))
 f286:=Tryz.func234.trans (congrArg some (by kernel_rfl))
 f317:=Tryz.func237.trans (congrArg some (by kernel_rfl))
 f318:=Tryz.func238.trans (congrArg some (by kernel_rfl))
 f319:=Tryz.func239.trans (congrArg some (by kernel_rfl))
 f320:=Tryz.func240.trans (congrArg some (by kernel_rfl))
 f337:=Tryz.func241.trans (congrArg some (by kernel_rfl))
 f338:=Tryz.func242.trans (congrArg some (by kernel_rfl))
 t0:=Tryz.underlying0
 a0:=Tryz.isAgg0
 z0:=Tryz.sizeOf0
 v0:=Tryz.zeroValue0
 t2:=Tryz.underlying2
 a2:=Tryz.isAgg2
 z2:=Tryz.sizeOf2
 v2:=Tryz.zeroValue2
 t3:=Tryz.underlying3
 a3:=Tryz.isAgg3
 z3:=Tryz.sizeOf3
 v3:=Tryz.zeroValue3
 t4:=Tryz.underlying4
 a4:=Tryz.isAgg4
 z4:=Tryz.sizeOf4
 v4:=Tryz.zeroValue4
 t5:=Tryz.underlying5
 a5:=Tryz.isAgg5
 z5:=Tryz.sizeOf5
 v5:=Tryz.zeroValue5
 t9:=Tryz.underlying9
 a9:=Tryz.isAgg9
 z9:=Tryz.sizeOf9
 v9:=Tryz.zeroValue9
 t20:=Tryz.underlying20
 a20:=Tryz.isAgg20
 z20:=Tryz.sizeOf20
 v20:=Tryz.zeroValue20
 t37:=Tryz.underlying184
 a37:=Tryz.isAgg184
 z37:=Tryz.sizeOf184
 v37:=Tryz.zeroValue184
 t46:=Tryz.underlying174
 a46:=Tryz.isAgg174
 z46:=Tryz.sizeOf174
 v46:=Tryz.zeroValue174
 t51:=Tryz.underlying204
 a51:=Tryz.isAgg204
 z51:=Tryz.sizeOf204
 v51:=Tryz.zeroValue204
 t53:=Tryz.underlying206
 a53:=Tryz.isAgg206
 z53:=Tryz.sizeOf206
 v53:=Tryz.zeroValue206
 t171:=Tryz.underlying231
 a171:=Tryz.isAgg231
 z171:=Tryz.sizeOf231
 v171:=Tryz.zeroValue231
 t173:=Tryz.underlying233
 a173:=Tryz.isAgg233
 z173:=Tryz.sizeOf233
 v173:=Tryz.zeroValue233
 t212:=Tryz.underlying237
 a212:=Tryz.isAgg237
 z212:=Tryz.sizeOf237
 v212:=Tryz.zeroValue237
 t213:=Tryz.underlying238
 a213:=Tryz.isAgg238
 z213:=Tryz.sizeOf238
 t232:=Tryz.underlying239
 a232:=Tryz.isAgg239
 z232:=Tryz.sizeOf239
 v232:=Tryz.zeroValue239
 t233:=Tryz.underlying240
 a233:=Tryz.isAgg240
 z233:=Tryz.sizeOf240
 v233:=Tryz.zeroValue240
 g17:=by kernel_rfl
 g18:=by kernel_rfl
 g19:=by kernel_rfl
 i0:=by kernel_rfl
 i2:=by kernel_rfl
 i3:=by kernel_rfl
 i4:=by kernel_rfl
 i5:=by kernel_rfl
 i9:=by kernel_rfl
 i20:=by kernel_rfl
 i37:=by kernel_rfl
 i46:=by kernel_rfl
 i51:=by kernel_rfl
 i53:=by kernel_rfl
 i171:=by kernel_rfl
 i173:=by kernel_rfl
 i212:=by kernel_rfl
 i232:=by kernel_rfl
 i233:=by kernel_rfl
 m17:=by kernel_rfl
 m18:=by kernel_rfl
 m19:=by kernel_rfl }
end Go.Proofs
namespace Go.Proofs.YtfccopdbgfdcdaaGreatDoor
open Go.Shelf Go.RowKit Go.Sort Go.Lib
set_option maxHeartbeats 6400000
set_option maxRecDepth 100000
section
variable {P:Program} {ρ:Ren}
def OD (g:Nat) (w:World):Prop := ∀ q,q<20->w.cell? ⟨g,q,none⟩=some (.int .u64 ((10 ^ q:Nat):Int))
theorem OD.alloc {g:Nat} {w:World} (h:OD g w) (o:Obj):OD g (w.alloc o):=fun q hq=>by
 rw [World.cell?_alloc_old]
 ·exact h q hq
 ·exact Nat.ne_of_lt (lt_of_cell (h q hq))
abbrev Jr (b:UInt8):Value:=Value.int .u8 (b.toNat:Int)
theorem PM (L:LaysM.n284 P ρ) (u:Nat) (h1:1<=u) (h2:u<18446744073709551616) (w:World) (hT:OD (ρ.g 17) w) :
  Calls P (ρ.f 284) #[.int .u64 u] w fun e w'=>e = .returned (.int .i64 (Lib.nDigits u))/\w'=w:=by
 have mixed:=L.mixed
 have t53:=L.t53;have a53:=L.a53;have z53:=L.z53;have v53:=L.v53
 have t3:=L.t3;have a3:=L.a3;have z3:=L.z3;have v3:=L.v3
 have t212:=L.t212;have a212:=L.a212;have z212:=L.z212;have v212:=L.v212
 have t0:=L.t0;have a0:=L.a0;have z0:=L.z0;have v0:=L.v0
 have t4:=L.t4;have a4:=L.a4;have z4:=L.z4;have v4:=L.v4
 have e129 : ∀ args w,(callFunc (ρ.f 129) args).run P w = .ok (.enter (ρ.f 129) args) w:=enters_of L.f129 (by kernel_rfl) rfl
 have e317 : ∀ args w,(callFunc (ρ.f 317) args).run P w = .ok (.enter (ρ.f 317) args) w:=enters_of L.f317 (by kernel_rfl) rfl
 have e318 : ∀ args w,(callFunc (ρ.f 318) args).run P w = .ok (.enter (ρ.f 318) args) w:=enters_of L.f318 (by kernel_rfl) rfl
 obtain ⟨hnd,h19⟩:=Lib.numDigits_eq u h1 h2
 have hL:Lib.bitLen u<=64:=Lib.bitLen_le u 64 (adY _) h2
 have hcell:=hT (Lib.l10 (Lib.bitLen u)) (by omega)
 have hto:((u:Int)).toNat=u:=by omega
 generalize hq:Lib.l10 (Lib.bitLen u)=q at hnd h19 hcell
 generalize hT2:10 ^ q=T at hnd hcell
 have h20:q<20:=by omega
 have Hnd:=Lib.hid hnd
 clear hnd hT
 go_enter L.f284,Body.n284_ntmps ρ
 go_wp2_with (first
  | (go_at_fn (ρ.f 129);refine (Any.bits_Len64 { L with } _ _ (by omega) (by omega)).mono ?_;rintro e w' ⟨rfl,rfl⟩)
  | (go_at_fn (ρ.f 317);refine (Any.internal_strconv_log10Pow2 { L with } _ (by first|exact hL|(rw [hto];exact hL)) _).mono ?_;rintro e w' ⟨rfl,rfl⟩)
  | (go_at_fn (ρ.f 318);refine (Any.internal_strconv_bool2_int { L with } _ _).mono ?_;rintro e w' ⟨rfl,rfl⟩))
 all_goals go_ret
 all_goals (
  refine ⟨?_,rfl⟩
  have hnd:=Hnd.out
  congr 2
  split at hnd<;>simp_all<;>omega)
theorem Ph (L:LaysM.n246 P ρ) (n:Int) (h0 : -9223372036854775808<=n) (h1:n<=9223372036854775807) (w:World) (hT:OD (ρ.g 17) w) :
  Calls P (ρ.f 246) #[.int .i64 n, .int .i64 10] w fun e w'=>e = .returned (.string ⟨(Lib.itoa n).toArray⟩) /\ ∃ k os,w'=grow (w.drewN k) os:=by
 by_cases hs:0<=n/\n<100
 ·obtain ⟨i,rfl⟩ : ∃ i:Nat,n=i:=⟨n.toNat,by omega⟩
  refine (Any.internal_strconv_FormatInt_10_small { L with } i (by omega) w).mono ?_
  rintro e w' ⟨rfl,rfl⟩
  exact ⟨by rw [Lib.itoa_nonneg],0, #[],by simp [World.drewN_zero]⟩
 have mixed:=L.mixed
 have t2:=L.t2;have a2:=L.a2;have z2:=L.z2;have v2:=L.v2
 have t3:=L.t3;have a3:=L.a3;have z3:=L.z3;have v3:=L.v3
 have t9:=L.t9;have a9:=L.a9;have z9:=L.z9;have v9:=L.v9
 have t4:=L.t4;have a4:=L.a4;have z4:=L.z4;have v4:=L.v4
 have t171:=L.t171;have a171:=L.a171;have z171:=L.z171;have v171:=L.v171
 have t0:=L.t0;have a0:=L.a0;have z0:=L.z0;have v0:=L.v0
 have t53:=L.t53;have a53:=L.a53;have z53:=L.z53;have v53:=L.v53
 have t37:=L.t37;have a37:=L.a37;have z37:=L.z37;have v37:=L.v37
 have t5:=L.t5;have a5:=L.a5;have z5:=L.z5;have v5:=L.v5
 have t173:=L.t173;have a173:=L.a173;have z173:=L.z173;have v173:=L.v173
 have e284 : ∀ args w,(callFunc (ρ.f 284) args).run P w = .ok (.enter (ρ.f 284) args) w:=enters_of L.f284 (by kernel_rfl) rfl
 have e285 : ∀ args w,(callFunc (ρ.f 285) args).run P w = .ok (.enter (ρ.f 285) args) w:=enters_of L.f285 (by kernel_rfl) rfl
 obtain ⟨u,hu⟩ : ∃ u:Nat,u=n.natAbs:=⟨_,rfl⟩
 have hu1:1<=u:=by omega
 have hu64:u<18446744073709551616:=by omega
 have hd20:Lib.nDigits u<=20:=by have:=Lib.numDigits_eq u hu1 hu64;split at this<;>omega
 have hb3:Lib.nDigits u<=23:=by omega
 have hal:P.arrayLen (ρ.t 171)=24:=by simp [Program.arrayLen,L.t171]
 have hel:P.underlying (ρ.t 171)=some (.array (P.arrayLen (ρ.t 171)) (P.elem (ρ.t 171))):=by simp [Program.arrayLen,Program.elem,L.t171]
 have hsl1 : ∀ W,(Instr.sliceAt (ρ.t 171) (.pointer (some ⟨w.heap.size,0,none⟩)) (some (.int .i64 1)) (some (.int .i64 (1+(Lib.nDigits u:Int)))) none).run P W = .ok (.slice (some ⟨w.heap.size,1,none⟩) (Lib.nDigits u) 23) W:=fun W=>by
  rw [run_sliceAt_array_lh W (ρ.t 171) ⟨w.heap.size,0,none⟩ hel .i64 .i64 1 (1+(Lib.nDigits u:Int)) (by omega) (by omega) (by rw [hal];omega)]
  go_simp
  omega
 have hsl2 : ∀ W,(Instr.sliceAt (ρ.t 171) (.pointer (some ⟨w.heap.size,0,none⟩)) none (some (.int .i64 (1+(Lib.nDigits u:Int)))) none).run P W = .ok (.slice (some ⟨w.heap.size,0,none⟩) (1+Lib.nDigits u) 24) W:=fun W=>by
  rw [run_sliceAt_array_h W (ρ.t 171) ⟨w.heap.size,0,none⟩ hel .i64 (1+(Lib.nDigits u:Int)) (by omega) (by rw [hal];omega)]
  go_simp
  omega
 have hH0:=Lib.holds_zero w (ρ.t 171) (Lib.nDigits u) (by omega)
 have hfmt:=Any.internal_strconv_formatBase10 { L with } w.heap.size 1 23 u (Array.replicate (Lib.nDigits u) 0) (w.alloc (.cells Lib.zeros24 (ρ.t 171))) hH0 (by rw [Array.size_replicate];exact Lib.lt_pow_nDigits u) hu64 (by rw [Array.size_replicate];omega)
 rw [Array.size_replicate] at hfmt
 have HH0:=Lib.hid hH0
 have hT1:=hT.alloc (.cells Lib.zeros24 (ρ.t 171))
 have hdig:=PM (ρ:=ρ) { L with } u hu1 hu64 _ hT1
 clear hH0 hT hT1 hal hel
 by_cases hn:n<0
 ·have hw:IntKind.u64.wrap (-IntKind.u64.wrap (-(u:Int)))=(u:Int):=by rw [IntKind.wrap_u64,IntKind.wrap_u64];omega
  obtain rfl:n = -(u:Int):=by omega
  clear hs hu
  go_enter L.f246,Body.n246_ntmps ρ
  go_wp2_with (go_at_fn (ρ.f 284);refine hdig.mono ?_;rintro e w' ⟨rfl,rfl⟩)
  go_at_fn (ρ.f 285)
  refine hfmt.mono ?_
  rintro e w' ⟨rfl,k,v',dk,rfl,hF⟩
  have hc0:((putRow Jr (w.alloc (.cells Lib.zeros24 (ρ.t 171))) w.heap.size 1 dk).drewN k).cell? ⟨w.heap.size,0,none⟩=some (.int .u8 0):=by
   rw [World.cell?_drewN,cell?_putRow_other _ _ _ _ _ _ (Or.inr (Or.inl (Nat.zero_lt_one))),World.cell?_alloc_new]
   exact Lib.zeros24_at 0 (by omega)
  have hf0:((putRow Jr (w.alloc (.cells Lib.zeros24 (ρ.t 171))) w.heap.size 1 dk).drewN k).frozen? ⟨w.heap.size,0,none⟩=false:=by
   rw [World.frozen?_drewN,frozen?_putRow]
   exact World.frozen?_alloc_new _ _ _ _
  have hcv:(convert (ρ.t 37) (ρ.t 9) (.slice (some ⟨w.heap.size,0,none⟩) (1+Lib.nDigits u) 24)).run P (((putRow Jr (w.alloc (.cells Lib.zeros24 (ρ.t 171))) w.heap.size 1 dk).drewN k).setCell ⟨w.heap.size,0,none⟩ (.int .u8 45)) = .ok (.string ⟨(45::Lib.decDigits u).toArray⟩) (((putRow Jr (w.alloc (.cells Lib.zeros24 (ρ.t 171))) w.heap.size 1 dk).drewN k).setCell ⟨w.heap.size,0,none⟩ (.int .u8 45)):=by
   have h:=run_convert_bytes_back (P:=P) (((putRow Jr (w.alloc (.cells Lib.zeros24 (ρ.t 171))) w.heap.size 1 dk).drewN k).setCell ⟨w.heap.size,0,none⟩ (.int .u8 45)) (ρ.t 37) (ρ.t 9) (ρ.t 5) ⟨w.heap.size,0,none⟩ 24 (45::Lib.decDigits u) L.t37 L.t5 L.t9 (fun j hj=>by
    rw [Lib.add_plain]
    cases j with
    | zero=>exact World.cell?_setCell_same _ _ _ hc0
    | succ i =>
     have hi:i<(Lib.decDigits u).length:=by simpa using hj
     rw [World.cell?_setCell_other _ _ _ _ (by simp),List.getElem_cons_succ,Lib.row_is_numeral hF i hi,World.cell?_drewN,show 0+(i+1)=1+i by omega]
     exact cell?_putRow Jr _ w.heap.size 1 _ dk HH0.out (by rw [hF.size,Array.size_replicate]) i (by rw [hF.size];rw [Lib.decDigits_length] at hi;exact hi))
   rw [ad5,Lib.decDigits_length,Nat.add_comm] at h
   exact h
  go_wp2
  go_ret
  obtain ⟨os,eo⟩:=Lib.fin_neg w (.cells Lib.zeros24 (ρ.t 171)) dk k (.int .u8 45)
  exact ⟨by rw [Lib.itoa_neg u hu1];rfl,k,os,eo⟩
 ·obtain rfl:n=(u:Int):=by omega
  clear hu hsl2
  go_enter L.f246,Body.n246_ntmps ρ
  go_wp2_with (go_at_fn (ρ.f 284);refine hdig.mono ?_;rintro e w' ⟨rfl,rfl⟩)
  go_at_fn (ρ.f 285)
  refine hfmt.mono ?_
  rintro e w' ⟨rfl,k,v',dk,rfl,hF⟩
  have hcv:(convert (ρ.t 37) (ρ.t 9) (.slice (some ⟨w.heap.size,1,none⟩) (Lib.nDigits u) 23)).run P ((putRow Jr (w.alloc (.cells Lib.zeros24 (ρ.t 171))) w.heap.size 1 dk).drewN k) = .ok (.string ⟨(Lib.decDigits u).toArray⟩) ((putRow Jr (w.alloc (.cells Lib.zeros24 (ρ.t 171))) w.heap.size 1 dk).drewN k):=by
   have h:=run_convert_bytes_back (P:=P) ((putRow Jr (w.alloc (.cells Lib.zeros24 (ρ.t 171))) w.heap.size 1 dk).drewN k) (ρ.t 37) (ρ.t 9) (ρ.t 5) ⟨w.heap.size,1,none⟩ 23 (Lib.decDigits u) L.t37 L.t5 L.t9 (fun j hj=>by
    rw [Lib.row_is_numeral hF j hj,Lib.add_plain,World.cell?_drewN]
    exact cell?_putRow Jr _ w.heap.size 1 _ dk HH0.out (by rw [hF.size,Array.size_replicate]) j (by rw [hF.size];rw [Lib.decDigits_length] at hj;exact hj))
   rw [Lib.decDigits_length] at h
   exact h
  go_wp2
  go_ret
  obtain ⟨os,eo⟩:=Lib.fin_pos w (.cells Lib.zeros24 (ρ.t 171)) dk k
  exact ⟨by rw [Lib.itoa_nonneg];rfl,k,os,eo⟩
theorem ZI (L:LaysM.n243 P ρ) (n:Int) (h0 : -9223372036854775808<=n) (h1:n<=9223372036854775807) (w:World) (hT:OD (ρ.g 17) w) :
  Calls P (ρ.f 243) #[.int .i64 n] w fun e w'=>e = .returned (.string ⟨(Lib.itoa n).toArray⟩) /\ ∃ k os,w'=grow (w.drewN k) os:=by
 have mixed:=L.mixed
 have t3:=L.t3;have a3:=L.a3;have z3:=L.z3;have v3:=L.v3
 have t9:=L.t9;have a9:=L.a9;have z9:=L.z9;have v9:=L.v9
 have e246 : ∀ args w,(callFunc (ρ.f 246) args).run P w = .ok (.enter (ρ.f 246) args) w:=enters_of L.f246 (by kernel_rfl) rfl
 have hf:=Ph (ρ:=ρ) { L with } n h0 h1 w hT
 go_enter L.f243,Body.n243_ntmps ρ
 go_wp2_with (go_at_fn (ρ.f 246);refine hf.mono ?_;rintro e w' ⟨rfl,k,os,rfl⟩)
 go_ret
 exact ⟨rfl,k,os,rfl⟩
theorem aaI (L:LaysM.n171 P ρ) (n:Int) (h0 : -9223372036854775808<=n) (h1:n<=9223372036854775807) (w:World) (hT:OD (ρ.g 17) w) :
  Calls P (ρ.f 171) #[.int .i64 n] w fun e w'=>e = .returned (.string ⟨(Lib.itoa n).toArray⟩) /\ ∃ k os,w'=grow (w.drewN k) os:=by
 have mixed:=L.mixed
 have t3:=L.t3;have a3:=L.a3;have z3:=L.z3;have v3:=L.v3
 have t9:=L.t9;have a9:=L.a9;have z9:=L.z9;have v9:=L.v9
 have e243 : ∀ args w,(callFunc (ρ.f 243) args).run P w = .ok (.enter (ρ.f 243) args) w:=enters_of L.f243 (by kernel_rfl) rfl
 have hf:=ZI (ρ:=ρ) { L with } n h0 h1 w hT
 go_enter L.f171,Body.n171_ntmps ρ
 go_wp2_with (go_at_fn (ρ.f 243);refine hf.mono ?_;rintro e w' ⟨rfl,k,os,rfl⟩)
 go_ret
 exact ⟨rfl,k,os,rfl⟩
end
def kR (n:Int):ByteArray:=⟨(Lib.itoa n).toArray⟩
theorem Ol (R:PH) (w:World) (k:Nat) (os:Array Obj):Ext (· < w.heap.size) R R w (grow (w.drewN k) os):=by
 exact ⟨Kept.of (Lib.below_grow _ w (adY _) k os),PH.sub_refl _,fun _ _ _=>rfl⟩
theorem Vm (n:Int) (h0 : -9223372036854775808<=n) (h1:n<=9223372036854775807):Pure Tryz.prog 189 [.one (.int .i64 n)] (.val (.one (.str (kR n)))):=by
 refine ⟨⟨_,Tryz.func189,by kernel_rfl,by kernel_rfl⟩,fun R w vs hR hs hv=>?_⟩
 obtain ⟨v,rfl⟩ : ∃ v,vs = #[v]:=by
  match vs,hs with
  | ⟨[v]⟩,_=>exact ⟨v,rfl⟩
 have:=hv 0 v _ rfl rfl
 cases this
 have hT:OD (Tryz.laysM171_ren.g 17) w:=fun q hq=>hR _ _ _ (R.tab q _ (by unfold Fu;rw [if_pos hq];norm_cast))
 refine (show Calls Tryz.prog 189 #[.int .i64 n] w _ from aaI Tryz.laysM171 n h0 h1 w hT).mono ?_
 rintro e w' ⟨rfl,k,os,rfl⟩
 refine ⟨_,R,rfl,Ol R w k os,fun b o u h=>?_, .str _⟩
 have h1:=hR b o u h
 rw [<- h1];unfold World.cell?
 rw [show (grow (w.drewN k) os).heap[b]?=w.heap[b]? from (Ol R w k os).below.block b (lt_of_cell h1)]
end Go.Proofs.YtfccopdbgfdcdaaGreatDoor
