/- Parts of the proof, joined. No condition. -/
import Derived.Test.YtfccopdbgfdcdaaGreatDoorKAA
import Derived.Test.YtfccopdbgfdcdaaGreatDoorKBI
import Derived.Test.YtfccopdbgfdcdaaGreatDoorKBK
import Derived.Test.YtfccopdbgfdcdaaGreatDoorKAM
import Derived.Lib.Bytealg
import Derived.Test.YtfccopdbgfdcdaaGreatDoorKAL
set_option linter.unusedSimpArgs false
set_option linter.unusedVariables false
namespace Go.Proofs.YtfccopdbgfdcdaaGreatDoor
open Go.RowKit Go.MapKept
set_option maxRecDepth 100000
abbrev il:=AC × AC
def x9 (c:il->il->Int) (A:List il) (x:il):Nat->Nat
 | 0=>0
 | j+1=>match A[j]? with
  | some y=>if c x y<0 then x9 c A x j else j+1
  | none=>j+1
def qD (c:il->il->Int) (A:List il) (x:il):List il:=A.take (x9 c A x A.length)++x::A.drop (x9 c A x A.length)
def dS (c:il->il->Int) (l:List il):List il:=l.foldl (qD c) []
def wz (x:il):List SV:=[.c x.1, .c x.2]
def NK (A:List il) (x:il) (j:Nat) (rest:List il):List il:=A.take j++x::(A.drop j++rest)
theorem UU (c:il->il->Int) (A:List il) (x:il):(qD c A x).length=A.length+1:=by
 unfold qD;rw [adQ,ad5,aex,List.length_drop];omega
theorem Rn (c:il->il->Int) (l:List il):(dS c l).length=l.length:=by
 have : ∀ (l A:List il),(l.foldl (qD c) A).length=A.length+l.length:=by
  intro l
  induction l with
  | nil=>intro A;simp
  | cons x l ih=>intro A;rw [aew,ih,UU,ad5];omega
 have:=this l []
 simpa [dS] using this
theorem UM {c:il->il->Int} {A:List il} {x y:il} (h:y∈qD c A x):y=x\/y∈A:=by
 unfold qD at h
 rcases ad'.1 h with h|h
 ·exact .inr (aeD h)
 ·rcases adZ.1 h with h|h
  ·exact .inl h
  ·exact .inr (List.mem_of_mem_drop h)
theorem QX {c:il->il->Int} {l:List il} {y:il} (h:y∈dS c l):y∈l:=by
 have : ∀ (l A:List il),y∈l.foldl (qD c) A->y∈A\/y∈l:=by
  intro l
  induction l with
  | nil=>intro A h;exact .inl h
  | cons x l ih =>
   intro A h
   rw [aew] at h
   rcases ih _ h with h|h
   ·rcases UM h with h|h
    ·exact .inr (by rw [h];simp)
    ·exact .inl h
   ·exact .inr (ad7 _ h)
 rcases this l [] h with h|h
 ·cases h
 ·exact h
theorem PD (c:il->il->Int) (l:List il) (x:il):dS c (l++[x])=qD c (dS c l) x:=by unfold dS;rw [List.foldl_append];rfl
theorem Y6 {A rest:List il} {x:il} {j:Nat} (h:j<=A.length):(NK A x j rest)[j]?=some x:=by
 unfold NK
 rw [adP (by rw [aex];omega)]
 have:j-(A.take j).length=0:=by rw [aex];omega
 rw [this];rfl
theorem Dv {A rest:List il} {x y:il} {j:Nat} (hy:A[j]?=some y):NK A x (j+1) rest=A.take j++y::x::(A.drop (j+1)++rest)/\NK A x j rest=A.take j++x::y::(A.drop (j+1)++rest):=by
 obtain ⟨h,e⟩:=adI.1 hy
 refine ⟨?_,?_⟩
 ·unfold NK;rw [kV hy];simp
 ·unfold NK;rw [aed h,e];rfl
theorem XV {A rest:List il} {x y:il} {j:Nat} (hy:A[j]?=some y):(NK A x (j+1) rest)[j]?=some y:=by
 have h:=(adI.1 hy).1
 rw [(Dv hy).1,adP (by rw [aex];omega)]
 have:j-(A.take j).length=0:=by rw [aex];omega
 rw [this];rfl
theorem Wu {A rest:List il} {x y:il} {j:Nat} (hy:A[j]?=some y):((NK A x (j+1) rest).map wz |>.set (j+1) (wz y)).set j (wz x)=(NK A x j rest).map wz:=by
 have h:=(adI.1 hy).1
 rw [(Dv hy).1,(Dv hy).2]
 have hl:((A.take j).map wz).length=j:=by rw [adU,aex];omega
 simp only [adV,adT]
 generalize (A.take j).map wz=P0 at hl
 subst hl
 rw [List.set_append_right _ _ (by omega),List.set_append_right _ _ (by omega)]
 simp
theorem Tz (c:il->il->Int) (A:List il) (x:il) (rest:List il):qD c A x++rest=NK A x (x9 c A x A.length) rest:=by unfold qD NK;simp
theorem dn (n v k:Nat) (l:List il):(Ob.row v (l.map wz) k).below n:=by
 intro e he x hx
 obtain ⟨y,_,rfl⟩:=aeh.1 he
 simp only [wz,adZ,List.not_mem_nil,or_false] at hx
 rcases hx with rfl|rfl<;>trivial
set_option maxHeartbeats 2000000 in
theorem Q5 (F:FuncId) (c:il->il->Int) (v:Nat) (xs:List il) (n:Nat) (hn:xs.length=n) (hn2:n<=100000) (hcmp : ∀ x y,x∈xs->y∈xs->Pure Tryz.prog F [.agg [x.1,x.2], .agg [y.1,y.2]] (YQ (c x y))):Run Tryz.prog 208 [.row v (xs.map wz) 2] [.one (.sl 0 v 0 n), .one (.c (.int .i64 0)), .one (.c (.int .i64 n)), .one (.c (.fn F []))] [.row v ((dS c xs).map wz) 2] (.tup []):=by
 refine dV tab_ok Tryz.func208 rfl rfl Tryz.ntmps208 (by simp) ?_
 simp only [ut]
 repeat' (first
  | refine st_nil ?_
  | refine aP rfl rfl rfl rfl ph_ ?_
  | refine aT rfl rfl rfl rfl ph_ ?_
  | refine sS_ rfl rfl rfl ph_ ?_
  | refine aS rfl rfl rfl rfl ph_ ?_
  | refine aK rfl rfl rfl ?_
  | refine sk0_ rfl rfl ?_
  | (refine bF rfl (fun hb=>?_) (fun hb=>?_)<;>(first|exact (fx_ hb).elim|rw [hb]))
  | refine aw_seq ?_
  | refine aw_region tab_ok _ rfl ?_
  | refine aw_drawn2 tabS_ok _ rfl mixed (by decide +kernel) ?_
  | (refine aJ rfl (fun hb=>?_) (fun hb=>?_)<;>(try exact (fx_ hb).elim))
  | refine aw_block ?_
  | refine aw_exit ?_
  | refine aw_ret ?_
  | refine aw_skip ?_)
 refine qh (fun i:Nat=>[(0, .one (.sl 0 v 0 n)),(1, .one (.c (.int .i64 0))),(2, .one (.c (.int .i64 n))),(3, .one (.c (.fn F []))),(8, .one (.c (.int .i64 i)))]) (fun i=>[.row v ((dS c (xs.take i)++xs.drop i).map wz) 2]) (fun i=>1<=i/\(i<=n\/i=1)) (fun i=>n-i) 1 ⟨by omega, .inr rfl⟩ (fun _ _=>adY _)
  (fm_ ⟨rfl,rfl,rfl,rfl,rfl,trivial⟩ [] ?_ ⟨(by show 0<1;omega),trivial,trivial,trivial,trivial,trivial⟩ ⟨dn _ _ _ _,trivial⟩) ?_
 ·match xs with
  | []=>rfl
  | x::xs=>rfl
 rintro i ⟨hi1,hi⟩
 by_cases hlt:i<n
 ·obtain ⟨x,hx⟩:=gol_ (show i<xs.length by omega)
  have hAl:(dS c (xs.take i)).length=i:=by rw [Rn,aex];omega
  have hAm : ∀ y∈dS c (xs.take i),y∈xs:=fun y hy=>aeD (QX hy)
  have hxm:x∈xs:=adO hx
  have hnext:dS c (xs.take (i+1))=qD c (dS c (xs.take i)) x:=by rw [kV hx,PD]
  have hdrop:xs.drop i=x::xs.drop (i+1):=by obtain ⟨h,e⟩:=adI.1 hx;rw [aed h,e]
  have hstart:dS c (xs.take i)++xs.drop i=NK (dS c (xs.take i)) x i (xs.drop (i+1)):=by
   have h1:(dS c (xs.take i)).take i=dS c (xs.take i):=ael (by omega)
   have h2:(dS c (xs.take i)).drop i=[]:=List.drop_of_length_le (by omega)
   unfold NK;rw [h1,h2,hdrop];rfl
  have hrl:(xs.drop (i+1)).length=n-(i+1):=by rw [List.length_drop,hn]
  rw [hstart]
  generalize dS c (xs.take i)=A at hAl hAm hnext
  generalize hrest:xs.drop (i+1)=rest at hrl
  repeat' (first
   | refine st_nil ?_
   | refine aP rfl rfl rfl rfl ph_ ?_
   | refine aT rfl rfl rfl rfl ph_ ?_
   | refine sS_ rfl rfl rfl ph_ ?_
   | refine aS rfl rfl rfl rfl ph_ ?_
   | refine aK rfl rfl rfl ?_
   | refine sk0_ rfl rfl ?_
   | (refine bF rfl (fun hb=>?_) (fun hb=>?_)<;>(first|exact (fx_ hb).elim|rw [hb]))
   | refine aw_seq ?_
   | refine aw_region tab_ok _ rfl ?_
   | refine aw_drawn2 tabS_ok _ rfl mixed (by decide +kernel) ?_
   | (refine aJ rfl (fun hb=>?_) (fun hb=>?_)<;>(try exact (fx_ hb).elim))
   | refine aw_block ?_
   | refine aw_exit ?_
   | refine aw_ret ?_
   | refine aw_skip ?_)
  refine qh (fun j:Nat=>[(0, .one (.sl 0 v 0 n)),(1, .one (.c (.int .i64 0))),(2, .one (.c (.int .i64 n))),(3, .one (.c (.fn F []))),(8, .one (.c (.int .i64 i))),(9, .one (.c (.int .i64 j)))]) (fun j=>[.row v ((NK A x j rest).map wz) 2]) (fun j=>j<=i/\x9 c A x i=x9 c A x j) (fun j=>j) i ⟨by omega,rfl⟩ (fun _ _=>adY _)
   (fm_ ⟨rfl,rfl,rfl,rfl,rfl,rfl,trivial⟩ [] rfl ⟨(by show 0<1;omega),trivial,trivial,trivial,trivial,trivial,trivial⟩ ⟨dn _ _ _ _,trivial⟩) ?_
  rintro j ⟨hj,hpos⟩
  match j,hj,hpos with
  | 0,hj,hpos =>
   repeat' (first
    | refine st_nil ?_
    | refine aP rfl rfl rfl rfl ph_ ?_
    | refine aT rfl rfl rfl rfl ph_ ?_
    | refine sS_ rfl rfl rfl ph_ ?_
    | refine aS rfl rfl rfl rfl ph_ ?_
    | refine aK rfl rfl rfl ?_
    | refine sk0_ rfl rfl ?_
    | (refine bF rfl (fun hb=>?_) (fun hb=>?_)<;>(first|exact (fx_ hb).elim|rw [hb]))
    | refine aw_seq ?_
    | refine aw_region tab_ok _ rfl ?_
    | refine aw_drawn2 tabS_ok _ rfl mixed (by decide +kernel) ?_
    | (refine aJ rfl (fun hb=>?_) (fun hb=>?_)<;>(try exact (fx_ hb).elim))
    | refine aw_block ?_
    | refine aw_exit ?_
    | refine aw_ret ?_
    | refine aw_skip ?_)
   all_goals exact ⟨i+1,⟨by omega, .inl (by omega)⟩,by omega,fm_ ⟨rfl,rfl,rfl,rfl,iA (iY (by omega) (by omega)),trivial⟩ [] (by rw [hnext,hrest,Tz,hAl,hpos];rfl) ⟨(by show 0<1;omega),trivial,trivial,trivial,trivial,trivial⟩ ⟨dn _ _ _ _,trivial⟩⟩
  | j+1,hj,hpos =>
   obtain ⟨y,hy⟩:=gol_ (show j<A.length by omega)
   have hw:IntKind.i64.wrap (((j+1:Nat):Int)-1)=((j:Nat):Int):=iY (by omega) (by omega)
   have hg1:((NK A x (j+1) rest).map wz)[j+1]?=some [.c x.1, .c x.2]:=by rw [ad6,Y6 (by omega)];rfl
   have hg2:((NK A x (j+1) rest).map wz)[j]?=some [.c y.1, .c y.2]:=by rw [ad6,XV hy];rfl
   have hpj:x9 c A x (j+1)=if c x y<0 then x9 c A x j else j+1:=by simp only [x9,hy]
   have e1:0+((j+1:Nat):Int).toNat=j+1:=by simp
   have e2:0+((j:Nat):Int).toNat=j:=by simp
   repeat' (first
    | refine st_nil ?_
    | (refine Tk rfl rfl rfl rfl rfl rfl rfl rfl (e:=[.c x.1, .c x.2]) (by simpa using hg1) (xs:=[.c x.1, .c x.2]) rfl (adY _) ?_)
    | (refine Tk rfl rfl rfl rfl rfl rfl rfl rfl (e:=[.c y.1, .c y.2]) (by rw [hw];simpa using hg2) (xs:=[.c y.1, .c y.2]) rfl (adY _) ?_)
    | (refine D6 rfl rfl rfl rfl rfl rfl (e:=[.c x.1, .c x.2]) (by simpa using hg1) ⟨adY _,rfl⟩ rfl ?_)
    | (refine D6 rfl rfl rfl rfl rfl rfl (e:=[.c y.1, .c y.2]) (by rw [hw,e1,e2,ad3 (by omega)];exact hg2) ⟨adY _,rfl⟩ rfl ?_)
    | (refine aP rfl rfl rfl rfl ?_ ?_; · (repeat' (first|exact trivial|rfl|exact adS rfl|omega|(rw [hw];omega)|apply And.intro)))
    | (refine aT rfl rfl rfl rfl ?_ ?_; · (repeat' (first|exact trivial|rfl|exact adS rfl|omega|(rw [hw];omega)|apply And.intro)))
    | (refine sS_ rfl rfl rfl ?_ ?_; · (repeat' (first|exact trivial|rfl|exact adS rfl|omega|(rw [hw];omega)|apply And.intro)))
    | (refine aS rfl rfl rfl rfl ?_ ?_; · (repeat' (first|exact trivial|rfl|exact adS rfl|omega|(rw [hw];omega)|apply And.intro)))
    | refine aK rfl rfl rfl ?_
    | refine sk0_ rfl rfl ?_
    | refine cK rfl rfl rfl rfl (hcmp x y hxm (hAm y (adO hy))) rfl ?_
    | (refine bF rfl (fun hb=>?_) (fun hb=>?_)<;>(first|exact (fx_ hb).elim|rw [hb]))
    | refine aw_seq ?_
    | refine aw_region tab_ok _ rfl ?_
    | refine aw_drawn2 tabS_ok _ rfl mixed (by decide +kernel) ?_
    | (refine aJ rfl (fun hb=>?_) (fun hb=>?_)<;>(try exact (fx_ hb).elim))
    | refine aw_block ?_
    | refine aw_exit ?_
    | refine aw_ret ?_
    | refine aw_skip ?_)
   ·have hlt0:c x y<0:=aea hb
    rw [if_pos hlt0] at hpj
    exact ⟨j,⟨by omega,hpos.trans hpj⟩,by omega,fm_ ⟨rfl,rfl,rfl,rfl,rfl,iA hw,trivial⟩ [] (by rw [<- Wu hy,hw,e1,e2];rfl) ⟨(by show 0<1;omega),trivial,trivial,trivial,trivial,trivial,trivial⟩ ⟨dn _ _ _ _,trivial⟩⟩
   ·have hge : ¬ c x y<0:=of_decide_eq_false hb
    rw [if_neg hge] at hpj
    exact ⟨i+1,⟨by omega, .inl (by omega)⟩,by omega,fm_ ⟨rfl,rfl,rfl,rfl,iA (iY (by omega) (by omega)),trivial⟩ [] (by rw [hnext,hrest,Tz,hAl,hpos.trans hpj];rfl) ⟨(by show 0<1;omega),trivial,trivial,trivial,trivial,trivial⟩ ⟨dn _ _ _ _,trivial⟩⟩
 ·have hi2:n<=i:=by omega
  repeat' (first
   | refine st_nil ?_
   | refine aP rfl rfl rfl rfl ph_ ?_
   | refine aT rfl rfl rfl rfl ph_ ?_
   | refine sS_ rfl rfl rfl ph_ ?_
   | refine aS rfl rfl rfl rfl ph_ ?_
   | refine aK rfl rfl rfl ?_
   | refine sk0_ rfl rfl ?_
   | (refine bF rfl (fun hb=>?_) (fun hb=>?_)<;>(first|exact (fx_ hb).elim|rw [hb]))
   | refine aw_seq ?_
   | refine aw_region tab_ok _ rfl ?_
   | refine aw_drawn2 tabS_ok _ rfl mixed (by decide +kernel) ?_
   | (refine aJ rfl (fun hb=>?_) (fun hb=>?_)<;>(try exact (fx_ hb).elim))
   | refine aw_block ?_
   | refine aw_exit ?_
   | refine aw_ret ?_
   | refine aw_skip ?_)
  have htk:xs.take i=xs:=ael (by omega)
  have hdr:xs.drop i=[]:=List.drop_of_length_le (by omega)
  exact ⟨.inl rfl,⟨.inr ⟨.tup [],⟨trivial,rfl⟩,rfl⟩,⟨[],by rw [htk,hdr,aeg,aeg]⟩,by simp,cz ⟨dn _ _ _ _,trivial⟩,trivial⟩⟩
theorem BS (σ:List Nat) (v k:Nat) (l:List il):(Ob.row v (l.map wz) k).ren σ=Ob.row v (l.map wz) k:=by
 simp only [Ob.ren,List.map_map];rfl
theorem ace {L:List Ob} {v k:Nat} {l:List il} {x:AV} {xs:List AV} (h0:L[0]?=some (Ob.row v (l.map wz) k)) (hx : ∀ y∈x::xs,y.below 1):nE [0] [Ob.row v (l.map wz) k] (x::xs) L:=by
 refine ⟨rfl,by simp,fun i y hy=>?_,cz ⟨dn _ _ _ _,trivial⟩,hx⟩
 match i,hy with
 | 0,hy=>simp at hy;subst hy;rw [BS];exact h0
 | i+1,hy=>simp at hy
theorem j1G {L L':List Ob} {v k:Nat} {l:List il} (h:L.set 0 (Ob.row v (l.map wz) k)=L'):joinL [0] L [Ob.row v (l.map wz) k]=L':=by
 subst h
 simp [joinL,join,lL,fV,Ac,BS]
theorem OP (F:FuncId) (c:il->il->Int) (v:Nat) (xs:List il) (n:Nat) (hn:xs.length=n) (hn2:n<=19) (hcmp : ∀ x y,x∈xs->y∈xs->Pure Tryz.prog F [.agg [x.1,x.2], .agg [y.1,y.2]] (YQ (c x y))):Run Tryz.prog 192 [.row v (xs.map wz) 2] [.one (.sl 0 v 0 n), .one (.c (.int .i64 n)), .one (.c (.fn F []))] [.row v ((dS c xs).map wz) 2] (.tup []):=by
 refine dV ah Tryz.func192 rfl rfl Tryz.ntmps192 (by simp) ?_
 simp only [ut]
 repeat' (first
  | refine st_nil ?_
  | refine aP rfl rfl rfl rfl ph_ ?_
  | refine aT rfl rfl rfl rfl ph_ ?_
  | refine sS_ rfl rfl rfl ph_ ?_
  | refine aS rfl rfl rfl rfl ph_ ?_
  | refine aK rfl rfl rfl ?_
  | refine sk0_ rfl rfl ?_
  | (refine bF rfl (fun hb=>?_) (fun hb=>?_)<;>(first|exact (fx_ hb).elim|rw [hb]))
  | refine aw_seq ?_
  | refine aw_region ah _ rfl ?_
  | refine aw_drawn2 bq _ rfl mixed (by decide +kernel) ?_
  | (refine aJ rfl (fun hb=>?_) (fun hb=>?_)<;>(try exact (fx_ hb).elim))
  | refine aw_block ?_
  | refine aw_exit ?_
  | refine aw_ret ?_
  | refine aw_skip ?_)
 refine qh (fun _:Unit=>[(0, .one (.sl 0 v 0 n)),(1, .one (.c (.int .i64 n))),(2, .one (.c (.fn F []))),(6, .one (.c (.int .i64 20))),(7, .one (.c (.int .i64 0))),(8, .one (.c (.int .i64 20)))]) (fun _=>[.row v (xs.map wz) 2]) (fun _=>True) (fun _=>0) () trivial (fun _ _=>adY _)
  (fm_ ⟨rfl,rfl,rfl,rfl,rfl,rfl,trivial⟩ [] rfl ⟨(by show 0<1;omega),trivial,trivial,trivial,trivial,trivial,trivial⟩ ⟨dn _ _ _ _,trivial⟩) ?_
 intro _ _
 repeat' (first
  | refine st_nil ?_
  | refine aP rfl rfl rfl rfl ph_ ?_
  | refine aT rfl rfl rfl rfl ph_ ?_
  | refine sS_ rfl rfl rfl ph_ ?_
  | refine aS rfl rfl rfl rfl ph_ ?_
  | refine aK rfl rfl rfl ?_
  | refine sk0_ rfl rfl ?_
  | (refine lH [0] rfl rfl rfl rfl (Q5 F c v xs n hn (by omega) hcmp) rfl (ace rfl (uh ⟨(by show 0<1;omega),trivial,trivial,trivial,trivial⟩)) rfl (j1G (L':=[.row v ((dS c xs).map wz) 2]) rfl) ?_)
  | (refine bF rfl (fun hb=>?_) (fun hb=>?_)<;>(first|exact (fx_ hb).elim|rw [hb]))
  | refine aw_seq ?_
  | refine aw_region ah _ rfl ?_
  | refine aw_drawn2 bq _ rfl mixed (by decide +kernel) ?_
  | (refine aJ rfl (fun hb=>?_) (fun hb=>?_)<;>(try exact (fx_ hb).elim))
  | refine aw_block ?_
  | refine aw_exit ?_
  | refine aw_ret ?_
  | refine aw_skip ?_)
 refine qh (fun _:Unit=>[(0, .one (.sl 0 v 0 n)),(1, .one (.c (.int .i64 n))),(2, .one (.c (.fn F []))),(6, .one (.c (.int .i64 20))),(7, .one (.c (.int .i64 0)))]) (fun _=>[.row v ((dS c xs).map wz) 2]) (fun _=>True) (fun _=>0) () trivial (fun _ _=>adY _)
  (fm_ ⟨rfl,rfl,rfl,rfl,rfl,trivial⟩ [] rfl ⟨(by show 0<1;omega),trivial,trivial,trivial,trivial,trivial⟩ ⟨dn _ _ _ _,trivial⟩) ?_
 intro _ _
 repeat' (first
  | refine st_nil ?_
  | refine aP rfl rfl rfl rfl ph_ ?_
  | refine aT rfl rfl rfl rfl ph_ ?_
  | refine sS_ rfl rfl rfl ph_ ?_
  | refine aS rfl rfl rfl rfl ph_ ?_
  | refine aK rfl rfl rfl ?_
  | refine sk0_ rfl rfl ?_
  | (refine bF rfl (fun hb=>?_) (fun hb=>?_)<;>(first|exact (fx_ hb).elim|rw [hb]))
  | refine aw_seq ?_
  | refine aw_region ah _ rfl ?_
  | refine aw_drawn2 bq _ rfl mixed (by decide +kernel) ?_
  | (refine aJ rfl (fun hb=>?_) (fun hb=>?_)<;>(try exact (fx_ hb).elim))
  | refine aw_block ?_
  | refine aw_exit ?_
  | refine aw_ret ?_
  | refine aw_skip ?_)
 all_goals exact ⟨.inl rfl,⟨.inr ⟨.tup [],⟨trivial,rfl⟩,rfl⟩,⟨[],rfl⟩,by simp,cz ⟨dn _ _ _ _,trivial⟩,trivial⟩⟩
theorem QL (F:FuncId) (c:il->il->Int) (v:Nat) (xs:List il) (n:Nat) (hn:xs.length=n) (hn2:n<=19) (hcmp : ∀ x y,x∈xs->y∈xs->Pure Tryz.prog F [.agg [x.1,x.2], .agg [y.1,y.2]] (YQ (c x y))):Run Tryz.prog 171 [.row v (xs.map wz) 2] [.one (.sl 0 v 0 n), .one (.c (.fn F []))] [.row v ((dS c xs).map wz) 2] (.tup []):=by
 refine dV ah Tryz.func171 rfl rfl Tryz.ntmps171 (by simp) ?_
 simp only [ut]
 repeat' (first
  | refine st_nil ?_
  | refine aP rfl rfl rfl rfl ph_ ?_
  | refine aT rfl rfl rfl rfl ph_ ?_
  | refine sS_ rfl rfl rfl ph_ ?_
  | refine aS rfl rfl rfl rfl ph_ ?_
  | refine aK rfl rfl rfl ?_
  | refine sk0_ rfl rfl ?_
  | (refine lH [0] rfl rfl rfl rfl (OP F c v xs n hn hn2 hcmp) rfl (ace rfl (uh ⟨(by show 0<1;omega),trivial,trivial,trivial⟩)) rfl (j1G (L':=[.row v ((dS c xs).map wz) 2]) rfl) ?_)
  | (refine bF rfl (fun hb=>?_) (fun hb=>?_)<;>(first|exact (fx_ hb).elim|rw [hb]))
  | refine aw_seq ?_
  | refine aw_region ah _ rfl ?_
  | refine aw_drawn2 bq _ rfl mixed (by decide +kernel) ?_
  | (refine aJ rfl (fun hb=>?_) (fun hb=>?_)<;>(try exact (fx_ hb).elim))
  | refine aw_block ?_
  | refine aw_exit ?_
  | refine aw_ret ?_
  | refine aw_skip ?_)
 all_goals exact ⟨.inl rfl,⟨.inr ⟨.tup [],⟨trivial,rfl⟩,rfl⟩,⟨[],rfl⟩,by simp,cz ⟨dn _ _ _ _,trivial⟩,trivial⟩⟩
theorem Vz (l:List il):mE (l.map wz)=some (l.map fun x=>[x.1,x.2]):=by
 have:=Fp (l.map fun x=>[x.1,x.2])
 rw [List.map_map] at this
 exact this
def ab0:TI := { VE with dyn:=true }
theorem cO:TIok Tryz.prog ab0:=⟨ah.size,ah.agg,ah.elem,ah.field,ah.zero,ah.bytes,ah.kind,ah.struct,ah.zok,ah.eqs⟩
def bxG (_:bN):Ob := .dead
def gbG (g:bN):Ob := .row (141+65536) [[.c (dC g.f.row), .emp]] 2
theorem Qz (g:bN) (n:Nat):(gbG g).below n:=by
 intro e he x hx
 rw [aem.1 he] at hx
 rcases adZ.1 hx with rfl|hx
 ·trivial
 ·rcases adZ.1 hx with rfl|hx
  ·trivial
  ·cases hx
def zh (ps:List aW):List (List AC):=ps.map dP
def gV:Nat->List bN->List (List SV)
 | _,[]=>[]
 | k,g::r=>[.c (dC g.f.row), .own (zh g.ps) (4+3*k)]::gV (k+1) r
def R8:List bN->List Ob
 | []=>[]
 | g::r=>bxG g::gbG g :: .spare g.ps.length 2::R8 r
def Bd:List bN->List Ob
 | []=>[]
 | g::r => .spare g.ps.length 2::R8 r
def Fe:List bN->Ob
 | [] => .dead
 | g::_=>gbG g
def xV (G:List bN):List Ob := .map (rX 0 G) :: .dead::Fe G :: .row (141+65536*G.length) (gV 0 G) 2::Bd G
theorem ZF {G:List bN} {i:Nat} {g:bN} (ps:List aW) (h:G[i]?=some g):Fe (G.set i ⟨g.f,ps⟩)=Fe G:=by
 cases G with
 | nil=>rfl
 | cons x r =>
  cases i with
  | zero=>simp at h;subst h;rfl
  | succ i=>rfl
theorem Yu {G:List bN} (g:bN) (h:G≠[]):Fe (G++[g])=Fe G:=by cases G with
 | nil=>exact absurd rfl h
 | cons x r=>rfl
theorem U2 (G:List bN) (n:Nat):(Fe G).below n:=by cases G with
 | nil=>trivial
 | cons x r=>exact Qz x n
def O1:List bN->List Ob
 | []=>[.map []]
 | g::r=>xV (g::r)
theorem vk {G:List bN} (h:G≠[]):O1 G=xV G:=by cases G with
 | nil=>exact absurd rfl h
 | cons g r=>rfl
theorem rY : ∀ (G:List bN) (k:Nat),(gV k G).length=G.length
 | [],_=>rfl
 | g::r,k=>by simp [gV,rY r]
theorem Po : ∀ (G:List bN) (k i:Nat) (g:bN),G[i]?=some g->(gV k G)[i]?=some [.c (dC g.f.row), .own (zh g.ps) (4+3*(k+i))]
 | [],_,_,_,h=>by simp at h
 | x::r,k,0,g,h=>by simp at h;subst h;rfl
 | x::r,k,i+1,g,h=>by
  have:=Po r (k+1) i g (by simpa using h)
  simp only [gV,List.getElem?_cons_succ]
  rw [this,show k+1+i=k+(i+1) by omega]
theorem PN : ∀ (G:List bN) (k i:Nat) (g:bN) (ps:List aW),G[i]?=some g->(gV k G).set i [.c (dC g.f.row), .own (zh ps) (4+3*(k+i))]=gV k (G.set i ⟨g.f,ps⟩)
 | [],_,_,_,_,h=>by simp at h
 | x::r,k,0,g,ps,h=>by simp at h;subst h;simp [gV]
 | x::r,k,i+1,g,ps,h=>by
  have:=PN r (k+1) i g ps (by simpa using h)
  rw [show k+1+i=k+(i+1) by omega] at this
  simp only [gV,List.set_cons_succ,this]
theorem Lm : ∀ (G:List bN) (k:Nat) (g:bN),gV k (G++[g])=gV k G++[[.c (dC g.f.row), .own (zh g.ps) (4+3*(k+G.length))]]
 | [],k,g=>rfl
 | x::r,k,g=>by
  have:=Lm r (k+1) g
  simp only [List.cons_append,gV,this,ad5,show k+1+r.length=k+(r.length+1) by omega]
theorem GK : ∀ (G:List bN) (k n:Nat),4+3*(k+G.length)<=n+2 -> ∀ e∈gV k G, ∀ x∈e,x.below n
 | [],_,_,_=>by intro e he;cases he
 | g::r,k,n,h=>by
  intro e he x hx
  simp only [ad5] at h
  rcases adZ.1 he with rfl|he
  ·rcases adZ.1 hx with rfl|hx
   ·trivial
   ·rcases adZ.1 hx with rfl|hx
    ·show 4+3*k<n;omega
    ·cases hx
  ·exact GK r (k+1) n (by omega) e he x hx
theorem Ia : ∀ (G:List bN) (k:Nat),mE (gV k G)=some (G.map fun g=>[dC g.f.row, .lst (zh g.ps)])
 | [],_=>rfl
 | g::r,k=>by
  have:=Ia r (k+1)
  simp only [gV,mE,kN,SV.norm,this,adT]
theorem T9 : ∀ r:List bN,(R8 r).length=3*r.length
 | []=>rfl
 | g::r=>by simp [R8,T9 r];omega
theorem TZ : ∀ (r:List bN) (i:Nat) (g:bN),r[i]?=some g->(R8 r)[3*i+2]?=some (.spare g.ps.length 2)
 | [],_,_,h=>by simp at h
 | x::r,0,g,h=>by simp at h;subst h;rfl
 | x::r,i+1,g,h=>by
  have:=TZ r i g (by simpa using h)
  rw [show 3*(i+1)+2=(3*i+2)+1+1+1 by omega];simpa [R8] using this
theorem Ta : ∀ (r:List bN) (i:Nat) (g:bN) (ps:List aW),r[i]?=some g->(R8 r).set (3*i+2) (.spare ps.length 2)=R8 (r.set i ⟨g.f,ps⟩)
 | [],_,_,_,h=>by simp at h
 | x::r,0,g,ps,h=>by simp at h;subst h;simp [R8,bxG,gbG]
 | x::r,i+1,g,ps,h=>by
  have:=Ta r i g ps (by simpa using h)
  rw [show 3*(i+1)+2=(3*i+2)+1+1+1 by omega];simp only [R8,List.set_cons_succ,this]
theorem Pm : ∀ (r:List bN) (g:bN),R8 (r++[g])=R8 r++[bxG g,gbG g, .spare g.ps.length 2]
 | [],g=>rfl
 | x::r,g=>by simp [R8,Pm r g]
theorem TF {G:List bN} (h:G≠[]):(Bd G).length+2=3*G.length:=by
 cases G with
 | nil=>exact absurd rfl h
 | cons g r=>simp [Bd,T9];omega
theorem Z8 {G:List bN} {i:Nat} {g:bN} (h:G[i]?=some g):(Bd G)[3*i]?=some (.spare g.ps.length 2):=by
 cases G with
 | nil=>simp at h
 | cons x r =>
  cases i with
  | zero=>simp at h;subst h;rfl
  | succ i =>
   have:=TZ r i g (by simpa using h)
   rw [show 3*(i+1)=(3*i+2)+1 by omega];simpa [Bd] using this
theorem aah {G:List bN} {i:Nat} {g:bN} (ps:List aW) (h:G[i]?=some g):(Bd G).set (3*i) (.spare ps.length 2)=Bd (G.set i ⟨g.f,ps⟩):=by
 cases G with
 | nil=>simp at h
 | cons x r =>
  cases i with
  | zero=>simp at h;subst h;simp [Bd]
  | succ i =>
   have:=Ta r i g ps (by simpa using h)
   rw [show 3*(i+1)=(3*i+2)+1 by omega];simp only [Bd,List.set_cons_succ,this]
theorem XQ {G:List bN} (g:bN) (h:G≠[]):Bd (G++[g])=Bd G++[bxG g,gbG g, .spare g.ps.length 2]:=by
 cases G with
 | nil=>exact absurd rfl h
 | cons x r=>simp [Bd,Pm]
theorem pE {G:List bN} (h:G≠[]):(xV G).length=2+3*G.length:=by
 have h1:=TF h
 simp [xV];omega
theorem KS : ∀ {n:Nat} {L:List Ob}, (∀ x∈L,x.below n)->I_ n L
 | _,[],_=>trivial
 | n,x::L,h=>⟨h x (by simp),KS fun y hy=>h y (ad7 _ hy)⟩
theorem UI (g:bN) (n:Nat):(gbG g).below n:=by
 intro e he x hx
 rw [aem.1 he] at hx
 rcases adZ.1 hx with rfl|hx
 ·trivial
 ·rcases adZ.1 hx with rfl|hx
  ·trivial
  ·cases hx
theorem Vp (g:bN) (n:Nat):(bxG g).below n:=trivial
theorem KL : ∀ (G:List bN) (k n:Nat),(Ob.map (rX k G)).below n:=by
 intro G
 induction G with
 | nil=>intro k n p hp;cases hp
 | cons g r ih =>
  intro k n p hp
  rcases adZ.1 hp with rfl|hp
  ·trivial
  ·exact ih (k+1) n p hp
theorem KF (n:Nat) : ∀ (r:List bN), ∀ x∈R8 r,x.below n
 | [],x,h=>by cases h
 | g::r,x,h=>by
  simp only [R8,adZ] at h
  rcases h with rfl|rfl|rfl|h
  ·exact Vp g n
  ·exact UI g n
  ·trivial
  ·exact KF n r x h
theorem pI (G:List bN):I_ (O1 G).length (O1 G):=by
 cases G with
 | nil=>exact ⟨KL [] 0 _,trivial⟩
 | cons g r =>
  have hl:=pE (G:=g::r) (by simp)
  refine KS fun x hx=>?_
  show x.below (xV (g::r)).length
  rw [hl]
  have hx:x∈xV (g::r):=hx
  simp only [xV,Bd,adZ] at hx
  rcases hx with rfl|rfl|rfl|rfl|rfl|hx
  ·exact KL _ 0 _
  ·trivial
  ·exact U2 _ _
  ·exact GK (g::r) 0 _ (by simp only [ad5];omega)
  ·trivial
  ·exact KF _ r x hx
def N_:List bN->AV
 | [] => .one .emp
 | g::r => .one (.sl 3 (141+65536*(g::r).length) 0 (g::r).length)
theorem xD {G:List bN} (h:G≠[]):N_ G = .one (.sl 3 (141+65536*G.length) 0 G.length):=by
 cases G with
 | nil=>exact absurd rfl h
 | cons g r=>rfl
theorem xZ (G:List bN):(N_ G).below (O1 G).length:=by
 cases G with
 | nil=>trivial
 | cons g r =>
  show 3<(xV (g::r)).length
  rw [pE (by simp)];simp;omega
theorem Ym (id:Nat) (ts:List AC) (G:List bN):Xz id ts (N_ G)=N_ G:=by cases G<;>rfl
section
variable {P:Program} {ti:TI} {N n0:Nat} {ds:List (Option Tmp)} {K:Tm->List Ob->Prop} {rest:List Oper} {o:Oper} {T T':Tm} {A:List Ob} {Q:AX->Tm->List Ob->Prop}
theorem VF {t:TypeId} {p q:Operand} {cs xs:List SV} (hd:o.dst=none) (hg:jX ds T o.guard=some true) (ho:o.op = .store t p q) (hp:look T p=some (.one (.ptr A.length 0))) (hq:(look T q).bind AV.cells=some xs) (hlen:xs.length=cs.length) (hsz:ti.size t=some xs.length) (h:aN P ti N ds K rest T (A++[.box xs])):aN P ti N ds K (o::rest) T (A++[.box cs]):=by
 refine sS_ hd hg (v := .undef) (L':=A++[.box xs]) (φ:=0+xs.length<=cs.length/\ti.size t=some xs.length) ?_ ⟨by omega,hsz⟩ h
 rw [ho]
 have e1:(A++[Ob.box cs])[A.length]?=some (.box cs):=by simp
 have e2:splice cs 0 xs=xs:=by unfold splice;simp [hlen]
 have e3:(A++[Ob.box cs]).set A.length (.box xs)=A++[.box xs]:=by rw [List.set_append_right _ _ (adY _),Nat.sub_self];rfl
 simp only [FE,hp,hq,e1,e2,e3]
theorem aag {c:Code} {cs:List SV} {ts:List AC} (hn:kN cs=some ts) (hT:(T.map fun p=>(p.1,Xz A.length ts p.2))=T') (h:Aw P N n0 c Q T' (A++[.dead])):Aw P N n0 c Q T (A++[.box cs]):=by
 refine gF A.length (by simp) hn ?_
 rw [hT,List.set_append_right _ _ (adY _),Nat.sub_self]
 exact h
end
structure EN {α:Type} (c:α->α->Int):Prop where
 refl : ∀ a,c a a=0
 zero : ∀ a b,c a b=0->a=b
 anti : ∀ a b,c a b<0↔0<c b a
 trans : ∀ a b d,c a b<0->c b d<0->c a d<0
theorem tCi_:EN jL:=by
 refine ⟨fun a=>by simp [jL],fun a b h=>?_,fun a b=>?_,fun a b d h1 h2=>?_⟩
 ·unfold jL at h;split at h
  ·omega
  ·split at h<;>omega
 ·unfold jL;split<;>split<;>(try split)<;>omega
 ·unfold jL at *
  split at h1
  ·split at h2
   ·rw [if_pos (by omega)];omega
   ·split at h2<;>omega
  ·split at h1<;>omega
def qg {α:Type} (c:α->α->Int):List α->List α->Int
 | [],[]=>0
 | [],_::_ => -1
 | _::_,[]=>1
 | a::xs,b::ys=>if c a b≠0 then c a b else qg c xs ys
theorem P_ {α:Type} {c:α->α->Int} (h:EN c):EN (qg c):=by
 refine ⟨?_,?_,?_,?_⟩
 ·intro a
  induction a with
  | nil=>rfl
  | cons x a ih=>simp [qg,h.refl x,ih]
 ·intro a
  induction a with
  | nil=>intro b hb;cases b with
   | nil=>rfl
   | cons _ _=>simp [qg] at hb
  | cons x a ih =>
   intro b hb
   cases b with
   | nil=>simp [qg] at hb
   | cons y b =>
    unfold qg at hb
    split at hb
    ·rename_i h0;exact absurd hb h0
    ·rename_i h0
     have:=h.zero x y (by simpa using h0)
     subst this
     rw [ih b hb]
 ·intro a
  induction a with
  | nil=>intro b;cases b with
   | nil=>simp [qg]
   | cons _ _=>simp [qg]
  | cons x a ih =>
   intro b
   cases b with
   | nil=>simp [qg]
   | cons y b =>
    unfold qg
    by_cases h0:c x y=0
    ·have:=h.zero x y h0
     subst this
     simp only [h.refl,ne_eq,not_true_eq_false,if_false]
     exact ih b
    ·have h1:c y x≠0:=fun e=>h0 (by rw [h.zero y x e];exact h.refl x)
     rw [if_pos h0,if_pos h1]
     exact h.anti x y
 ·intro a
  induction a with
  | nil =>
   intro b d h1 h2
   cases b with
   | nil=>simp [qg] at h1
   | cons y b=>cases d with
    | nil=>simp [qg] at h2
    | cons _ _=>simp [qg]
  | cons x a ih =>
   intro b d h1 h2
   cases b with
   | nil=>simp [qg] at h1
   | cons y b =>
    cases d with
    | nil=>simp [qg] at h2
    | cons z d =>
     unfold qg at h1 h2 ⊢
     by_cases e1:c x y=0
     ·have:=h.zero x y e1
      subst this
      rw [if_neg (by simpa using e1)] at h1
      by_cases e2:c x z=0
      ·rw [if_neg (by simpa using e2)] at h2 ⊢
       exact ih b d h1 h2
      ·rw [if_pos e2] at h2 ⊢
       exact h2
     ·rw [if_pos e1] at h1
      by_cases e2:c y z=0
      ·have:=h.zero y z e2
       subst this
       rw [if_pos e1];exact h1
      ·rw [if_pos e2] at h2
       have:=h.trans x y z h1 h2
       rw [if_pos (by omega)];exact this
theorem sw : ∀ a b:List Val,cu a b=qg xI a b
 | [],[]=>rfl
 | [],_::_=>rfl
 | _::_,[]=>rfl
 | a::xs,b::ys=>by rw [cu,qg,sw xs ys]
def EQ (x y:UInt8):Int:=if x<y then -1 else if y<x then 1 else 0
theorem Ue:EN EQ:=by
 have key : ∀ x y:UInt8,EQ x y=jL ((x.toNat:Nat):Int) ((y.toNat:Nat):Int):=by
  intro x y
  unfold EQ jL
  simp only [UInt8.lt_iff_toNat_lt,Int.ofNat_lt]
 refine ⟨fun a=>by rw [key];exact tCi_.refl _,fun a b h=>?_,fun a b=>by rw [key,key];exact tCi_.anti _ _,fun a b d h1 h2=>by rw [key] at *;exact tCi_.trans _ _ _ h1 h2⟩
 rw [key] at h
 have:=tCi_.zero _ _ h
 exact UInt8.toNat_inj.1 (by omega)
theorem EE : ∀ a b:List UInt8,Lib.compareBytes a b=qg EQ a b
 | [],[]=>rfl
 | [],_::_=>rfl
 | _::_,[]=>rfl
 | x::a,y::b=>by
  have e:qg EQ (x::a) (y::b)=if EQ x y≠0 then EQ x y else qg EQ a b:=rfl
  rw [e, <- EE a b]
  have e2:Lib.compareBytes (x::a) (y::b)=if x<y then -1 else if y<x then 1 else Lib.compareBytes a b:=by rw [Lib.compareBytes]
  rw [e2]
  by_cases h1:x<y
  ·simp [h1,EQ]
  ·by_cases h2:y<x
   ·simp [h1,h2,EQ]
   ·simp [h1,h2,EQ]
theorem yF:EN wH:=by
 have key : ∀ a b:ByteArray,wH a b=qg EQ a.data.toList b.data.toList:=by
  intro a b
  unfold wH
  rw [Lib.cmp_eq,EE]
 have t:=P_ Ue
 refine ⟨fun a=>by rw [key];exact t.refl _,fun a b h=>?_,fun a b=>by rw [key,key];exact t.anti _ _,fun a b d h1 h2=>by rw [key] at *;exact t.trans _ _ _ h1 h2⟩
 rw [key] at h
 have:=t.zero _ _ h
 obtain ⟨⟨a⟩⟩:=a
 obtain ⟨⟨b⟩⟩:=b
 simp at this
 rw [this]
theorem UL:EN xI:=by
 refine ⟨?_,?_,?_,?_⟩
 ·intro a;simp [xI,tCi_.refl,yF.refl]
 ·intro a b h
  obtain ⟨k,n,t⟩:=a
  obtain ⟨k',n',t'⟩:=b
  unfold xI at h
  dsimp only at h
  split at h
  ·rename_i e;exact absurd h e
  ·rename_i e1
   split at h
   ·rename_i e;exact absurd h e
   ·rename_i e2
    have k1:=tCi_.zero _ _ (show jL k k'=0 by simpa using e1)
    have k2:=tCi_.zero _ _ (show jL n n'=0 by simpa using e2)
    have k3:=yF.zero _ _ h
    subst k1 k2 k3;rfl
 ·intro a b
  unfold xI
  by_cases e1:jL a.kind b.kind=0
  ·have k:=tCi_.zero _ _ e1
   rw [k]
   simp only [tCi_.refl,ne_eq,not_true_eq_false,if_false]
   by_cases e2:jL a.int b.int=0
   ·have k2:=tCi_.zero _ _ e2
    rw [k2]
    simp only [tCi_.refl,ne_eq,not_true_eq_false,if_false]
    exact yF.anti _ _
   ·have e2':jL b.int a.int≠0:=fun e=>e2 (by rw [tCi_.zero _ _ e];exact tCi_.refl _)
    rw [if_pos e2,if_pos e2']
    exact tCi_.anti _ _
  ·have e1':jL b.kind a.kind≠0:=fun e=>e1 (by rw [tCi_.zero _ _ e];exact tCi_.refl _)
   rw [if_pos e1,if_pos e1']
   exact tCi_.anti _ _
 ·intro a b d h1 h2
  unfold xI at *
  by_cases e1:jL a.kind b.kind=0
  ·have k:=tCi_.zero _ _ e1
   rw [k] at h1 ⊢
   simp only [tCi_.refl,ne_eq,not_true_eq_false,if_false] at h1
   by_cases f1:jL b.kind d.kind=0
   ·rw [if_neg (by simpa using f1)] at h2 ⊢
    by_cases e2:jL a.int b.int=0
    ·have k2:=tCi_.zero _ _ e2
     rw [k2] at h1 ⊢
     simp only [tCi_.refl,ne_eq,not_true_eq_false,if_false] at h1
     by_cases f2:jL b.int d.int=0
     ·rw [if_neg (by simpa using f2)] at h2 ⊢
      exact yF.trans _ _ _ h1 h2
     ·rw [if_pos f2] at h2 ⊢;exact h2
    ·rw [if_pos e2] at h1
     by_cases f2:jL b.int d.int=0
     ·have k2:=tCi_.zero _ _ f2
      rw [<- k2,if_pos e2];exact h1
     ·rw [if_pos f2] at h2
      have:=tCi_.trans _ _ _ h1 h2
      rw [if_pos (by omega)];exact this
   ·rw [if_pos f1] at h2 ⊢;exact h2
  ·rw [if_pos e1] at h1
   by_cases f1:jL b.kind d.kind=0
   ·have k:=tCi_.zero _ _ f1
    rw [<- k,if_pos e1];exact h1
   ·rw [if_pos f1] at h2
    have:=tCi_.trans _ _ _ h1 h2
    rw [if_pos (by omega)];exact this
theorem tCr_:EN cu:=by
 have t:=P_ UL
 exact ⟨fun a=>by rw [sw];exact t.refl _,fun a b h=>t.zero _ _ (by rw [<- sw];exact h),fun a b=>by rw [sw,sw];exact t.anti _ _,fun a b d h1 h2=>by rw [sw] at *;exact t.trans _ _ _ h1 h2⟩
section
variable {α:Type} {c:α->α->Int}
def Asc (c:α->α->Int) (l:List α):Prop:=l.Pairwise fun a b=>c a b<=0
theorem EN.le_trans (h:EN c) {a b d:α} (h1:c a b<=0) (h2:c b d<=0):c a d<=0:=by
 by_cases e1:c a b=0
 ·rw [h.zero a b e1];exact h2
 ·by_cases e2:c b d=0
  ·rw [<- h.zero b d e2];exact h1
  ·have:=h.trans a b d (by omega) (by omega);omega
theorem EN.total (h:EN c) (a b:α):c a b<=0\/c b a<=0:=by
 by_cases e:c a b<=0
 ·exact .inl e
 ·have:=(h.anti b a).2 (by omega);exact .inr (by omega)
theorem Aa (h:EN c) : ∀ {l m:List α}, Asc c l->Asc c m->l.Perm m->l=m
 | [],m,_,_,hp=>by rw [List.Perm.nil_eq hp]
 | x::l,[],_,_,hp=>by have:=hp.length_eq;simp at this
 | x::l,y::m,hl,hm,hp=>by
  have hx:x∈y::m:=hp.mem_iff.1 (aet ..)
  have hy:y∈x::l:=hp.mem_iff.2 (aet ..)
  rw [Asc,aeC] at hl hm
  have e:x=y:=by
   rcases adZ.1 hx with e|hx
   ·exact e
   ·rcases adZ.1 hy with e|hy
    ·exact e.symm
    ·have h1:=hm.1 x hx
     have h2:=hl.1 y hy
     by_cases e0:c x y=0
     ·exact h.zero _ _ e0
     ·have:=(h.anti x y).1 (by omega);omega
  subst e
  rw [Aa h hl.2 hm.2 (List.Perm.cons_inv hp)]
end
theorem PZ (x y:Int):Kq x y=some (jL x y):=by
 unfold Kq GI jL
 by_cases h1:x<y
 ·simp [h1]
 ·by_cases h2:y<x
  ·simp [h1,h2]
  ·simp [h1,h2]
def orS (_:Unit) (x:Int):Option (Sum Unit Int):=if x≠0 then some (.inr x) else some (.inl ())
theorem ac8 (a b c:Int):gOr [a,b,c]=some (if a≠0 then a else if b≠0 then b else c):=by
 unfold gOr
 rw [bW (l:=[a,b,c]) (mk:=fun (_:Unit) i=>i) (f:=orS) ?_ ?_ (by unfold fuel;simp) ()]
 ·unfold orS
  by_cases h1:a=0
  ·by_cases h2:b=0
   ·by_cases h3:c=0
    ·simp [dh,Gm,uq,h1,h2,h3]
    ·simp [dh,Gm,uq,h1,h2,h3]
   ·simp [dh,Gm,uq,h1,h2]
  ·simp [dh,Gm,uq,h1]
 ·intro s i x hx
  have hi:i<3:=(adI.1 hx).1
  unfold LW orS
  dsimp only
  rw [aI hx,adK,gn_ hx]
  simp only [adH]
  rw [wrapN (by omega)]
  by_cases h:x=0
  ·simp [h,tF]
  ·simp [h,tF]
 ·intro s
  unfold LW
  dsimp only
  rw [lF_,adJ]
theorem Cv (v w:Val):ya v w=some (xI v w):=by
 unfold ya
 rw [PZ,PZ]
 simp only [adH]
 rw [ac8]
 rfl
theorem OO : ∀ (b:List Val),cu [] b=if b=[] then 0 else -1
 | []=>rfl
 | _::_=>rfl
theorem K7 {a b:List Val} (ha:a.length<=4000000000000) (hb:b.length<=4000000000000) : ∀ (n i:Nat),i<=a.length->i<=b.length->a.length-i<n->(az (lM a b fun x0 x1=>ya x0 x1) n (i:Int)).bind (f_ a b)=some (cu (a.drop i) (b.drop i))
 | 0,_,_,_,h=>by omega
 | n+1,i,h1,h2,hn=>by
  rw [az]
  by_cases hlt:i<a.length
  ·obtain ⟨x,hx⟩:=gol_ hlt
   have ex:=(adI.1 hx).2
   have eb:lM a b (fun x0 x1=>ya x0 x1) (i:Int)=bif (decide (((b.length:Nat):Int)<=(i:Int))) then some (.ret (1:Int)) else (aA b (i:Int)).bind fun x_5=>(ya x x_5).bind fun r_6=>bif (decide (r_6≠(0:Int))) then some (.ret r_6) else some (.next (IntKind.i64.wrap ((i:Int)+(1:Int)))):=by
    unfold lM
    dsimp only
    rw [aI hx,adK,gn_ hx]
    rfl
   rw [eb,aed hlt,ex]
   by_cases hlb:i<b.length
   ·obtain ⟨y,hy⟩:=gol_ hlb
    have ey:=(adI.1 hy).2
    rw [aed hlb,ey,show decide (((b.length:Nat):Int)<=(i:Int))=false from adL (by omega),adJ,gn_ hy,cu]
    simp only [adH,Cv]
    by_cases h:xI x y=0
    ·simp only [h,ne_eq,not_true_eq_false,decide_false,adJ,if_false]
     rw [wrapN (by omega)]
     have k:=K7 ha hb n (i+1) (by omega) (by omega) (by omega)
     simp only [Cv] at k
     exact k
    ·simp [h,f_]
   ·have:i=b.length:=by omega
    subst this
    rw [aeB,show decide (((b.length:Nat):Int)<=((b.length:Nat):Int))=true from adM (by omega),adK]
    rfl
  ·have:i=a.length:=by omega
   subst this
   have eb:lM a b (fun x0 x1=>ya x0 x1) ((a.length:Nat):Int)=some (.exit ((a.length:Nat):Int)):=by
    unfold lM
    dsimp only
    rw [lF_,adJ]
   rw [eb,aeB,OO]
   show f_ a b (.inl ((a.length:Nat):Int))=_
   unfold f_
   by_cases h:a.length<b.length
   ·rw [show decide (((a.length:Nat):Int)<((b.length:Nat):Int))=true from adM (by omega),adK,if_neg (by rw [List.drop_eq_nil_iff];omega)]
   ·rw [show decide (((a.length:Nat):Int)<((b.length:Nat):Int))=false from adL (by omega),adJ,if_pos (by rw [List.drop_eq_nil_iff];omega)]
theorem Xm (a b:List Val) (ha:a.length<=4000000000000) (hb:b.length<=4000000000000):OX a b=some (cu a b):=by
 unfold OX LY
 have:=K7 ha hb fuel 0 (ad4 _) (ad4 _) (by unfold fuel;omega)
 rw [show (((0:Nat):Int))=0 from rfl] at this
 rw [this];rfl
theorem bytesLess_eq : ∀ a b:List UInt8,Op.bytesLess a b=decide (Lib.compareBytes a b<0)/\(a==b)=decide (Lib.compareBytes a b=0)
 | [],[]=>⟨rfl,rfl⟩
 | [],_::_=>⟨rfl,rfl⟩
 | _::_,[]=>⟨rfl,rfl⟩
 | x::a,y::b=>by
  have e2:Lib.compareBytes (x::a) (y::b)=if x<y then -1 else if y<x then 1 else Lib.compareBytes a b:=by rw [Lib.compareBytes]
  have e3:Op.bytesLess (x::a) (y::b)=(decide (x<y)||(x==y&&Op.bytesLess a b)):=by rw [Op.bytesLess]
  obtain ⟨i1,i2⟩:=bytesLess_eq a b
  rw [e2,e3,List.cons_beq_cons,i1,i2]
  by_cases h1:x<y
  ·have hne:x≠y:=fun e=>by rw [e] at h1;exact absurd h1 (UInt8.lt_irrefl y)
   simp [h1,hne]
  ·by_cases h2:y<x
   ·have hne:x≠y:=fun e=>by rw [e] at h2;exact absurd h2 (UInt8.lt_irrefl y)
    simp [h1,h2,hne]
   ·have heq:x=y:=UInt8.le_antisymm (UInt8.not_lt.1 h2) (UInt8.not_lt.1 h1)
    subst heq
    simp [h1]
theorem Vu (a b:ByteArray):Op.bytesLess a.toList b.toList=decide (wH a b<0):=by
 unfold wH
 rw [Lib.cmp_eq,ByteArray.toList_eq,ByteArray.toList_eq];exact (bytesLess_eq _ _).1
theorem YP (a b:ByteArray):(a.toList==b.toList)=decide (wH a b=0):=by
 unfold wH
 rw [Lib.cmp_eq,ByteArray.toList_eq,ByteArray.toList_eq];exact (bytesLess_eq _ _).2
theorem oQ : ∀ a b:List UInt8,Lib.compareBytes a b = -1\/Lib.compareBytes a b=0\/Lib.compareBytes a b=1
 | [],[] => .inr (.inl rfl)
 | [],_::_ => .inl rfl
 | _::_,[] => .inr (.inr rfl)
 | x::a,y::b=>by
  have e2:Lib.compareBytes (x::a) (y::b)=if x<y then -1 else if y<x then 1 else Lib.compareBytes a b:=by rw [Lib.compareBytes]
  rw [e2]
  split
  ·exact .inl rfl
  ·split
   ·exact .inr (.inr rfl)
   ·exact oQ a b
theorem Gz (v w:Val):zn v w=some (xI v w):=by
 unfold zn xI Gx
 rw [Vu,YP]
 have hr:wH v.text w.text = -1\/wH v.text w.text=0\/wH v.text w.text=1:=by unfold wH;rw [Lib.cmp_eq];exact oQ _ _
 by_cases h1:v.kind=w.kind
 ·have e1:jL v.kind w.kind=0:=by rw [h1];exact tCi_.refl _
  by_cases h2:v.int=w.int
  ·have e2:jL v.int w.int=0:=by rw [h2];exact tCi_.refl _
   rw [e1,e2]
   simp only [h1,h2,ne_eq,not_true_eq_false,decide_false,adJ,if_false]
   rcases hr with h|h|h<;>rw [h]<;>rfl
  ·have e2:jL v.int w.int≠0:=fun e=>h2 (tCi_.zero _ _ e)
   rw [e1]
   simp only [h1,h2,e2,ne_eq,not_true_eq_false,not_false_eq_true,decide_false,decide_true,adJ,adK,if_false,if_true]
   unfold jL
   by_cases h3:v.int<w.int
   ·simp [h3]
   ·have:w.int<v.int:=by omega
    simp [h3,this]
 ·have e1:jL v.kind w.kind≠0:=fun e=>h1 (tCi_.zero _ _ e)
  simp only [h1,e1,ne_eq,not_true_eq_false,not_false_eq_true,decide_false,decide_true,adJ,adK,if_false,if_true]
  unfold jL
  by_cases h3:v.kind<w.kind
  ·simp [h3]
  ·have:w.kind<v.kind:=by omega
   simp [h3,this]
theorem NR {a b:List Val} (ha:a.length<=4000000000000) (hb:b.length<=4000000000000) : ∀ (n i:Nat),i<=a.length->i<=b.length->a.length-i<n->(az (iq a b) n (i:Int)).bind (eH a b)=some (cu (a.drop i) (b.drop i))
 | 0,_,_,_,h=>by omega
 | n+1,i,h1,h2,hn=>by
  rw [az]
  by_cases hlt:i<a.length
  ·obtain ⟨x,hx⟩:=gol_ hlt
   have ex:=(adI.1 hx).2
   rw [aed hlt,ex]
   by_cases hlb:i<b.length
   ·obtain ⟨y,hy⟩:=gol_ hlb
    have ey:=(adI.1 hy).2
    have eb:iq a b (i:Int)=bif (decide (xI x y≠(0:Int))) then some (.ret (xI x y)) else some (.next (IntKind.i64.wrap ((i:Int)+(1:Int)))):=by
     unfold iq
     dsimp only
     rw [aI hx,adK,aI hy,adK,gn_ hx,gn_ hy]
     simp only [adH,Gz]
    rw [eb,aed hlb,ey,cu]
    by_cases h:xI x y=0
    ·simp only [h,ne_eq,not_true_eq_false,decide_false,adJ,if_false]
     rw [wrapN (by omega)]
     exact NR ha hb n (i+1) (by omega) (by omega) (by omega)
    ·simp [h,eH]
   ·have:i=b.length:=by omega
    subst this
    have eb:iq a b ((b.length:Nat):Int)=some (.exit ((b.length:Nat):Int)):=by
     unfold iq
     dsimp only
     rw [aI hx,adK,lF_,adJ]
    rw [eb,aeB]
    show eH a b (.inl ((b.length:Nat):Int))=_
    unfold eH
    rw [show decide (((a.length:Nat):Int)<((b.length:Nat):Int))=false from adL (by omega),adJ,show decide (((b.length:Nat):Int)<((a.length:Nat):Int))=true from adM (by omega),adK]
    rfl
  ·have:i=a.length:=by omega
   subst this
   have eb:iq a b ((a.length:Nat):Int)=some (.exit ((a.length:Nat):Int)):=by
    unfold iq
    dsimp only
    rw [lF_,adJ]
   rw [eb,aeB,OO]
   show eH a b (.inl ((a.length:Nat):Int))=_
   unfold eH
   by_cases h:a.length<b.length
   ·rw [show decide (((a.length:Nat):Int)<((b.length:Nat):Int))=true from adM (by omega),adK,if_neg (by rw [List.drop_eq_nil_iff];omega)]
   ·rw [show decide (((a.length:Nat):Int)<((b.length:Nat):Int))=false from adL (by omega),adJ,show decide (((b.length:Nat):Int)<((a.length:Nat):Int))=false from adL (by omega),adJ,if_pos (by rw [List.drop_eq_nil_iff];omega)]
theorem mr (a b:List Val) (ha:a.length<=4000000000000) (hb:b.length<=4000000000000):sU a b=some (cu a b):=by
 unfold sU
 have:=NR ha hb fuel 0 (ad4 _) (ad4 _) (by unfold fuel;omega)
 rw [show (((0:Nat):Int))=0 from rfl] at this
 rw [this];rfl
set_option maxHeartbeats 8000000
def MG (a_a:ay) (a_b:ay):Option (Int):=(OX a_a.row a_b.row).bind fun r_1=>some r_1
theorem UO {a_a:ay} {a_b:ay} {r:Int} (H:MG a_a a_b=some r):Pure Tryz.prog 172 [.agg (bG a_a), .agg (bG a_b)] (.val (.one (.int .i64 r))):=by
 unfold MG at H
 refine po_ Tryz.func172 Tryz.ntmps172 ?_
 obtain ⟨r_1,c1,H⟩:=bd_ H
 replace c1:=Xe c1
 try simp only [adV,adT,adX,adN,aj] at c1
 obtain rfl:=aee H
 exact af
theorem UN (a b:ay) (ha:a.row.length<=4000000000000) (hb:b.row.length<=4000000000000):MG a b=some (cu a.row b.row):=by
 unfold MG
 rw [Xm _ _ ha hb];rfl
def IZ {α:Type} (c:α->α->Int) (A:List α) (x:α):Nat->Nat
 | 0=>0
 | j+1=>match A[j]? with
  | some y=>if c x y<0 then IZ c A x j else j+1
  | none=>j+1
def Gc {α:Type} (c:α->α->Int) (A:List α) (x:α):List α:=A.take (IZ c A x A.length)++x::A.drop (IZ c A x A.length)
def ww {α:Type} (c:α->α->Int) (l:List α):List α:=l.foldl (Gc c) []
theorem KD {α:Type} (c:α->α->Int) (B:List α) (x:α) : ∀ j,j<=B.length->IZ c B x j<=j/\(∀ i y,IZ c B x j<=i->i<j->B[i]?=some y->c x y<0)/\(∀ q,IZ c B x j=q+1 -> ∃ y,B[q]?=some y /\ ¬ c x y<0)
 | 0,_=>⟨adY _,fun i y _ h=>by omega,fun q h=>by simp [IZ] at h⟩
 | j+1,hj=>by
  obtain ⟨y,hy⟩:=gol_ (show j<B.length by omega)
  obtain ⟨h1,h2,h3⟩:=KD c B x j (by omega)
  unfold IZ
  simp only [hy]
  split
  ·rename_i hlt
   refine ⟨by omega,fun i z hi hij hz=>?_,h3⟩
   by_cases e:i=j
   ·subst e;rw [hy] at hz;injection hz with hz;subst hz;exact hlt
   ·exact h2 i z hi (by omega) hz
  ·rename_i hge
   exact ⟨adY _,fun i z hi hij _=>by omega,fun q hq=>by injection hq with hq;subst hq;exact ⟨y,hy,hge⟩⟩
theorem Uq {α:Type} (c:α->α->Int) (B:List α) (x:α):(Gc c B x).Perm (x::B):=by
 unfold Gc
 refine List.perm_middle.trans ?_
 rw [aer]
theorem wC {α:Type} (c:α->α->Int) : ∀ (l B:List α),(l.foldl (Gc c) B).Perm (l++B)
 | [],B=>List.Perm.refl _
 | x::l,B=>by
  rw [aew]
  refine (wC c l (Gc c B x)).trans ?_
  refine ((Uq c B x).append_left l).trans ?_
  exact List.perm_middle
theorem Am {α:Type} (c:α->α->Int) (l:List α):(ww c l).Perm l:=by
 have:=wC c l []
 simpa [ww] using this
theorem Yj {α:Type} {c:α->α->Int} (htr : ∀ a b d,c a b<=0->c b d<=0->c a d<=0) (htot : ∀ a b, ¬ c a b<0->c b a<=0) {B:List α} (x:α) (h:B.Pairwise fun a b=>c a b<=0):(Gc c B x).Pairwise fun a b=>c a b<=0:=by
 obtain ⟨h1,h2,h3⟩:=KD c B x B.length (adY _)
 unfold Gc
 generalize IZ c B x B.length=p at h1 h2 h3
 have hd : ∀ y∈B.drop p,c x y<=0:=by
  intro y hy
  obtain ⟨i,hi⟩:=List.getElem?_of_mem hy
  rw [aes] at hi
  have:=(adI.1 hi).1
  have:=h2 (p+i) y (by omega) this hi
  omega
 have ht : ∀ y∈B.take p,c y x<=0:=by
  intro y hy
  cases p with
  | zero=>simp at hy
  | succ q =>
   obtain ⟨z,hz,hge⟩:=h3 q rfl
   have hzx:=htot x z hge
   obtain ⟨i,hi⟩:=List.getElem?_of_mem hy
   have hil:i<q+1:=by have:=(adI.1 hi).1;rw [aex] at this;omega
   rw [List.getElem?_take_of_lt hil] at hi
   by_cases e:i=q
   ·subst e;rw [hi] at hz;injection hz with hz;subst hz;exact hzx
   ·have hlt:i<q:=by omega
    have hi':=adI.1 hi
    have hz':=adI.1 hz
    have:=List.pairwise_iff_getElem.1 h i q hi'.1 hz'.1 hlt
    rw [hi'.2,hz'.2] at this
    exact htr _ _ _ this hzx
 refine List.pairwise_append.2 ⟨h.sublist (List.take_sublist _ _),aeC.2 ⟨hd,h.sublist (List.drop_sublist _ _)⟩,fun a ha b hb=>?_⟩
 rcases adZ.1 hb with rfl|hb
 ·exact ht a ha
 ·exact htr _ _ _ (ht a ha) (hd b hb)
theorem U3 {α:Type} {c:α->α->Int} (htr : ∀ a b d,c a b<=0->c b d<=0->c a d<=0) (htot : ∀ a b, ¬ c a b<0->c b a<=0) (l:List α):(ww c l).Pairwise fun a b=>c a b<=0:=by
 have : ∀ (l B:List α),(B.Pairwise fun a b=>c a b<=0)->(l.foldl (Gc c) B).Pairwise fun a b=>c a b<=0:=by
  intro l
  induction l with
  | nil=>intro B h;exact h
  | cons x l ih=>intro B h;exact ih _ (Yj htr htot x h)
 exact this l [] List.Pairwise.nil
abbrev mi (a b:ay):Int:=cu a.row b.row
abbrev kr (s:ay):il:=(dC s.row, .lst (s.periods.map dP))
abbrev Kw (x y:il):Int:=ab6 x.1 y.1
theorem Kk (a b:ay):Kw (kr a) (kr b)=mi a b:=by
 show cu ((a.row.map cV).map vOf) ((b.row.map cV).map vOf)=_
 rw [Xv,Xv]
theorem LG (B:List ay) (x:ay) : ∀ j,x9 Kw (B.map kr) (kr x) j=IZ mi B x j
 | 0=>rfl
 | j+1=>by
  rw [x9,IZ,ad6]
  cases B[j]? with
  | none=>rfl
  | some y =>
   simp only [Option.map_some]
   rw [Kk,LG B x j]
theorem VT (B:List ay) (x:ay):qD Kw (B.map kr) (kr x)=(Gc mi B x).map kr:=by
 unfold qD Gc
 rw [adU,LG,adV,adT,List.map_take,List.map_drop]
theorem QJ (l:List ay):dS Kw (l.map kr)=(ww mi l).map kr:=by
 have : ∀ (l B:List ay),(l.map kr).foldl (qD Kw) (B.map kr)=(l.foldl (Gc mi) B).map kr:=by
  intro l
  induction l with
  | nil=>intro B;rfl
  | cons x l ih=>intro B;rw [adT,aew,aew,VT,ih]
 exact this l []
theorem ac3 {L:List Ob} {v k:Nat} {l:List il} {x:AV} {xs:List AV} (h0:L[3]?=some (Ob.row v (l.map wz) k)) (hx : ∀ y∈x::xs,y.below 1):nE [3] [Ob.row v (l.map wz) k] (x::xs) L:=by
 refine ⟨rfl,by simp,fun i y hy=>?_,cz ⟨dn _ _ _ _,trivial⟩,hx⟩
 match i,hy with
 | 0,hy=>simp at hy;subst hy;rw [BS];exact h0
 | i+1,hy=>simp at hy
theorem jG3 {L L':List Ob} {v k:Nat} {l:List il} (h:L.set 3 (Ob.row v (l.map wz) k)=L'):joinL [3] L [Ob.row v (l.map wz) k]=L':=by
 subst h
 simp [joinL,join,lL,fV,Ac,BS]
def oW (l:List aG):List ay:=ww mi ((fo l).map fun g=>⟨g.f.row,g.ps⟩)
theorem Rp:Pure Tryz.prog 171 [.one (.lst []), .one (.fn 172 [])] (.tup []):=(Aj TY 40).1 _ _ _ (by kernel_rfl)
end Go.Proofs.YtfccopdbgfdcdaaGreatDoor
