/- Parts of the proof, joined. No condition. -/
import Derived.Test.YtfpbmfalamappaaGreatDoorKAA
import Derived.Test.YtfpbmfalamappaaGreatDoorKWA
import Derived.Test.YtfpbmfalamappaaGreatDoorKBD
import Derived.Test.YtfpbmfalamappaaGreatDoorKBC
set_option linter.unusedSimpArgs false
set_option linter.unusedVariables false
namespace Go.Proofs.YtfpbmfalamappaaGreatDoor
open Go.RowKit Go.MapKept
set_option maxRecDepth 100000
abbrev LX:=Int × Int
def cA (a:LX):List AC:=[.int .i64 a.1, .int .i64 a.2]
def jb (l:List LX):AC := .lst (l.map cA)
def Qf (kinds:List Int) (k:Int):Bool := !(bif decide (k<0) then true else decide ((kinds.length:Int)<=k))
def iw (kinds:List Int):List Int->List Int->List Int × Int
 | [],acc=>(acc,0)
 | k::ks,acc=>bif Qf kinds k then iw kinds ks (acc++[kinds.getD k.toNat 0]) else ([],6)
def Ff (kinds:List Int) (a:LX):Int :=
 bif (bif decide (a.1<1) then true else decide (4<a.1)) then 7 else bif (bif decide (a.2 = -1) then decide (a.1=1) else false) then 0
 else bif !(Qf kinds a.2) then 6 else bif (bif decide (a.1=2) then decide (kinds.getD a.2.toNat 0≠1) else false) then 7 else 0
def Hf (kinds:List Int) (a:LX):Int:=bif (bif decide (a.1=3) then true else decide (a.1=4)) then kinds.getD a.2.toNat 0 else 1
def lG (kinds:List Int):List LX->List Int->List Int × Int
 | [],acc=>(acc,0)
 | a::l,acc=>bif decide (Ff kinds a=0) then lG kinds l (acc++[Hf kinds a]) else ([],Ff kinds a)
def uH (kinds keys:List Int) (aggs:List LX):List Int × Int:=bif decide ((iw kinds keys []).2=0) then lG kinds aggs (iw kinds keys []).1 else ([],(iw kinds keys []).2)
def YM (r:List Int × Int):CV := .tup [.one (bB r.1), .one (.int .i64 r.2)]
theorem JS (kinds keys acc:List Int) {i:Nat} {k:Int} (h:keys[i]?=some k):iw kinds (keys.drop i) acc=bif Qf kinds k then iw kinds (keys.drop (i+1)) (acc++[kinds.getD k.toNat 0]) else ([],6):=by
 obtain ⟨h1,e1⟩:=aa9.1 h
 rw [abG h1,e1,iw]
theorem KY (kinds:List Int) (l:List LX) (acc:List Int) {i:Nat} {a:LX} (h:l[i]?=some a):lG kinds (l.drop i) acc=bif decide (Ff kinds a=0) then lG kinds (l.drop (i+1)) (acc++[Hf kinds a]) else ([],Ff kinds a):=by
 obtain ⟨h1,e1⟩:=aa9.1 h
 rw [abG h1,e1,lG]
theorem Qi {l:List Int} {i:Nat} {x:Int} (h:l[i]?=some x):l.getD i 0=x:=by rw [abZ,h];rfl
theorem vX {l:List Int} {i:Int} {x:Int} (h:l[i.toNat]?=some x):(l.map fun x=>[AC.int .i64 x])[i.toNat]?=some [.int .i64 x]:=by rw [abx,h];rfl
theorem Qx {kinds:List Int} {k:Int} (h:Qf kinds k=true):0<=k /\ ∃ x,kinds[k.toNat]?=some x:=by
 unfold Qf at h
 by_cases h1:k<0
 ·simp [h1] at h
 ·have:k<kinds.length:=by simp [h1] at h;exact h
  exact ⟨by omega,gol_ (by omega)⟩
set_option maxHeartbeats 4000000 in
theorem tT (kinds keys:List Int) (aggs:List LX) (h1:kinds.length<=100000) (h2:keys.length<=100000) (h3:aggs.length<=100000):Pure Tryz.prog 57 [.one (bB keys), .one (jb aggs), .one (bB kinds)] (YM (uH kinds keys aggs)):=by
 refine pa_ aN Tryz.func57 rfl rfl Tryz.ntmps57 (by simp) ?_
 simp only [argT,PV.av,abk,abo]
 obtain ⟨n,hn⟩ : ∃ n,keys.length=n:=⟨_,rfl⟩
 obtain ⟨m,hm⟩ : ∃ m,aggs.length=m:=⟨_,rfl⟩
 have hml:(((keys.map fun x=>[AC.int .i64 x]).length:Nat):Int)=n:=by simp [hn]
 have hmm:(((aggs.map cA).length:Nat):Int)=m:=by simp [hm]
 have hkl:(((kinds.map fun x=>[AC.int .i64 x]).length:Nat):Int)=kinds.length:=by simp
 have fin : ∀ {T:Tm} {L:List Ob} {w:List Int × Int}, w=uH kinds keys aggs->Res Dx Tryz.f57.results.toList T L (YM w)->Res Dx Tryz.f57.results.toList T L (YM (uH kinds keys aggs)):=fun e h=>by rw [<- e];exact h
 repeat' (first
  | refine st_nil ?_
  | refine ay rfl rfl rfl rfl ph_ ?_
  | refine az rfl rfl rfl rfl ph_ ?_
  | refine sS_ rfl rfl rfl ph_ ?_
  | refine aC rfl rfl rfl rfl ph_ ?_
  | refine aj rfl rfl rfl ?_
  | refine sk0_ rfl rfl ?_
  | (refine aM rfl (fun hb=>?_) (fun hb=>?_)<;>(first|exact (fx_ hb).elim|rw [hb]))
  | refine aw_seq ?_
  | refine aw_region aN _ rfl ?_
  | refine aw_drawn2 aF _ rfl mixed (by decide +kernel) ?_
  | (refine ah rfl (fun hb=>?_) (fun hb=>?_)<;>(try exact (fx_ hb).elim))
  | refine aw_block ?_
  | refine aw_exit ?_
  | refine aw_ret ?_
  | refine aw_skip ?_)
 refine dh 8 1 rfl ?_
 refine df (fun s:Nat × List Int=>match s with|(i,out)=>[(0, .one (.c (bB keys))),(1, .one (.c (jb aggs))),(2, .one (.c (bB kinds))),(8, .one (.own (out.map fun x=>[AC.int .i64 x]) 0)),(13, .one (.c (bB keys))),(14, .one (.c (.int .i64 n))),(15, .one (.c (.int .i64 i)))]) (fun s=>[.spare s.1 1]) (fun s=>s.1<=n/\s.2.length=s.1/\iw kinds keys []=iw kinds (keys.drop s.1) s.2) (fun s=>n-s.1) (0,[]) ⟨by omega,rfl,rfl⟩ (fun _ _=>abv _)
  (fm_ ⟨rfl,rfl,rfl,rfl,rfl,aT hml,rfl,trivial⟩ [] rfl ⟨trivial,trivial,trivial,by show 0<1;omega,trivial,trivial,trivial,trivial⟩ ⟨trivial,trivial⟩) ?_
 rintro ⟨i,out⟩ ⟨hi,hol,hr⟩
 dsimp only at hi hol hr ⊢
 have hom:(out.map fun x=>[AC.int .i64 x]).length=i:=by simp [hol]
 by_cases hlt:i<n
 ·obtain ⟨k,hx⟩:=gol_ (show i<keys.length by omega)
  have hstep:=JS kinds keys out hx
  have hN:decide ((i:Int)<n)=true:=by simp;exact hlt
  have hL:decide ((((kinds.map fun x=>[AC.int .i64 x]).length:Nat):Int)<=k)=decide ((kinds.length:Int)<=k):=by rw [hkl]
  cases hin:Qf kinds k with
  | true =>
   obtain ⟨hk0,y,hy⟩:=Qx hin
   have hg:=Qi hy
   rw [hin,aa',hg] at hstep
   have hD1:decide (k<0)=false:=by simp;omega
   have hD2:decide ((((kinds.map fun x=>[AC.int .i64 x]).length:Nat):Int)<=k)=false:=by rw [hL];unfold Qf at hin;rw [hD1] at hin;simpa using hin
   repeat' (first
    | refine st_nil ?_
    | rw [hN]
    | rw [hD1]
    | rw [hD2]
    | (refine ay rfl rfl rfl rfl ?_ ?_; · (repeat' (first|exact trivial|rfl|exact abj rfl|omega|(intro e he;simp at he;subst he;rfl)|exact hom|(show (_+1)*8<=_;omega)|(show _+1<=_;omega)|apply And.intro)))
    | (refine aW rfl rfl rfl rfl rfl rfl rfl rfl (bg hx) ?_ ?_; · exact ⟨by omega,rfl⟩)
    | (refine aW rfl rfl rfl rfl rfl rfl rfl rfl (vX hy) ?_ ?_; · exact ⟨by omega,rfl⟩)
    | (refine az rfl rfl rfl rfl ?_ ?_; · (repeat' (first|exact trivial|rfl|exact abj rfl|omega|(intro e he;simp at he;subst he;rfl)|exact hom|(show (_+1)*8<=_;omega)|(show _+1<=_;omega)|apply And.intro)))
    | (refine sS_ rfl rfl rfl ?_ ?_; · (repeat' (first|exact trivial|rfl|exact abj rfl|omega|(intro e he;simp at he;subst he;rfl)|exact hom|(show (_+1)*8<=_;omega)|(show _+1<=_;omega)|apply And.intro)))
    | (refine aC rfl rfl rfl rfl ?_ ?_; · (repeat' (first|exact trivial|rfl|exact abj rfl|omega|(intro e he;simp at he;subst he;rfl)|exact hom|(show (_+1)*8<=_;omega)|(show _+1<=_;omega)|apply And.intro)))
    | refine aj rfl rfl rfl ?_
    | refine sk0_ rfl rfl ?_
    | (refine aM rfl (fun hb=>?_) (fun hb=>?_)<;>(first|exact (fx_ hb).elim|rw [hb]))
    | refine aw_seq ?_
    | refine aw_region aN _ rfl ?_
    | refine aw_drawn2 aF _ rfl mixed (by decide +kernel) ?_
    | (refine ah rfl (fun hb=>?_) (fun hb=>?_)<;>(try exact (fx_ hb).elim))
    | refine aw_block ?_
    | refine aw_exit ?_
    | refine aw_ret ?_
    | refine aw_skip ?_)
   exact ⟨(i+1,out++[y]),⟨by omega,by simp [hol],hr.trans hstep⟩,by show n-(i+1)<n-i;omega,fm_ ⟨rfl,rfl,rfl,cB (by rw [abm];rfl),rfl,rfl,aT (bu (by omega) (by omega)),trivial⟩ [] rfl ⟨trivial,trivial,trivial,by show 0<1;omega,trivial,trivial,trivial,trivial⟩ ⟨trivial,trivial⟩⟩
  | false =>
   rw [hin,aa_] at hstep
   have hF:([],6)=uH kinds keys aggs:=by unfold uH;rw [hr,hstep];rfl
   have hD:(bif decide (k<0) then true else decide ((kinds.length:Int)<=k))=true:=by revert hin;unfold Qf;cases (bif decide (k<0) then true else decide ((kinds.length:Int)<=k))<;>simp
   by_cases hk0:k<0
   ·have hD1:decide (k<0)=true:=by simp [hk0]
    repeat' (first
     | refine st_nil ?_
     | rw [hN]
     | rw [hD1]
     | (refine ay rfl rfl rfl rfl ?_ ?_; · (repeat' (first|exact trivial|rfl|exact abj rfl|omega|(intro e he;simp at he;subst he;rfl)|exact hom|(show (_+1)*8<=_;omega)|(show _+1<=_;omega)|apply And.intro)))
     | (refine aW rfl rfl rfl rfl rfl rfl rfl rfl (bg hx) ?_ ?_; · exact ⟨by omega,rfl⟩)
     | (refine az rfl rfl rfl rfl ?_ ?_; · (repeat' (first|exact trivial|rfl|exact abj rfl|omega|(intro e he;simp at he;subst he;rfl)|exact hom|(show (_+1)*8<=_;omega)|(show _+1<=_;omega)|apply And.intro)))
     | (refine sS_ rfl rfl rfl ?_ ?_; · (repeat' (first|exact trivial|rfl|exact abj rfl|omega|(intro e he;simp at he;subst he;rfl)|exact hom|(show (_+1)*8<=_;omega)|(show _+1<=_;omega)|apply And.intro)))
     | (refine aC rfl rfl rfl rfl ?_ ?_; · (repeat' (first|exact trivial|rfl|exact abj rfl|omega|(intro e he;simp at he;subst he;rfl)|exact hom|(show (_+1)*8<=_;omega)|(show _+1<=_;omega)|apply And.intro)))
     | refine aj rfl rfl rfl ?_
     | refine sk0_ rfl rfl ?_
     | (refine aM rfl (fun hb=>?_) (fun hb=>?_)<;>(first|exact (fx_ hb).elim|rw [hb]))
     | refine aw_seq ?_
     | refine aw_region aN _ rfl ?_
     | refine aw_drawn2 aF _ rfl mixed (by decide +kernel) ?_
     | (refine ah rfl (fun hb=>?_) (fun hb=>?_)<;>(try exact (fx_ hb).elim))
     | refine aw_block ?_
     | refine aw_exit ?_
     | refine aw_ret ?_
     | refine aw_skip ?_)
    exact aO (fin (w:=([],6)) hF (aR rfl ⟨trivial,trivial,trivial⟩ rfl))
   ·have hD1:decide (k<0)=false:=by simp [hk0]
    have hD2:decide ((((kinds.map fun x=>[AC.int .i64 x]).length:Nat):Int)<=k)=true:=by rw [hL];rw [hD1] at hD;exact hD
    repeat' (first
     | refine st_nil ?_
     | rw [hN]
     | rw [hD1]
     | rw [hD2]
     | (refine ay rfl rfl rfl rfl ?_ ?_; · (repeat' (first|exact trivial|rfl|exact abj rfl|omega|(intro e he;simp at he;subst he;rfl)|exact hom|(show (_+1)*8<=_;omega)|(show _+1<=_;omega)|apply And.intro)))
     | (refine aW rfl rfl rfl rfl rfl rfl rfl rfl (bg hx) ?_ ?_; · exact ⟨by omega,rfl⟩)
     | (refine az rfl rfl rfl rfl ?_ ?_; · (repeat' (first|exact trivial|rfl|exact abj rfl|omega|(intro e he;simp at he;subst he;rfl)|exact hom|(show (_+1)*8<=_;omega)|(show _+1<=_;omega)|apply And.intro)))
     | (refine sS_ rfl rfl rfl ?_ ?_; · (repeat' (first|exact trivial|rfl|exact abj rfl|omega|(intro e he;simp at he;subst he;rfl)|exact hom|(show (_+1)*8<=_;omega)|(show _+1<=_;omega)|apply And.intro)))
     | (refine aC rfl rfl rfl rfl ?_ ?_; · (repeat' (first|exact trivial|rfl|exact abj rfl|omega|(intro e he;simp at he;subst he;rfl)|exact hom|(show (_+1)*8<=_;omega)|(show _+1<=_;omega)|apply And.intro)))
     | refine aj rfl rfl rfl ?_
     | refine sk0_ rfl rfl ?_
     | (refine aM rfl (fun hb=>?_) (fun hb=>?_)<;>(first|exact (fx_ hb).elim|rw [hb]))
     | refine aw_seq ?_
     | refine aw_region aN _ rfl ?_
     | refine aw_drawn2 aF _ rfl mixed (by decide +kernel) ?_
     | (refine ah rfl (fun hb=>?_) (fun hb=>?_)<;>(try exact (fx_ hb).elim))
     | refine aw_block ?_
     | refine aw_exit ?_
     | refine aw_ret ?_
     | refine aw_skip ?_)
    exact aO (fin (w:=([],6)) hF (aR rfl ⟨trivial,trivial,trivial⟩ rfl))
 ·have hN:decide ((i:Int)<n)=false:=by simp;omega
  have hdr:keys.drop i=[]:=List.drop_of_length_le (by omega)
  rw [hdr] at hr
  have hF0:uH kinds keys aggs=lG kinds aggs out:=by unfold uH;rw [hr];rfl
  repeat' (first
   | refine st_nil ?_
   | rw [hN]
   | refine ay rfl rfl rfl rfl ph_ ?_
   | refine az rfl rfl rfl rfl ph_ ?_
   | refine sS_ rfl rfl rfl ph_ ?_
   | refine aC rfl rfl rfl rfl ph_ ?_
   | refine aj rfl rfl rfl ?_
   | refine sk0_ rfl rfl ?_
   | (refine aM rfl (fun hb=>?_) (fun hb=>?_)<;>(first|exact (fx_ hb).elim|rw [hb]))
   | refine aw_seq ?_
   | refine aw_region aN _ rfl ?_
   | refine aw_drawn2 aF _ rfl mixed (by decide +kernel) ?_
   | (refine ah rfl (fun hb=>?_) (fun hb=>?_)<;>(try exact (fx_ hb).elim))
   | refine aw_block ?_
   | refine aw_exit ?_
   | refine aw_ret ?_
   | refine aw_skip ?_)
  refine df (fun s:Nat × List Int=>match s with|(i,out)=>[(2, .one (.c (bB kinds))),(8, .one (.own (out.map fun x=>[AC.int .i64 x]) 0)),(35, .one (.c (jb aggs))),(36, .one (.c (.int .i64 m))),(37, .one (.c (.int .i64 i)))]) (fun s=>[.spare s.2.length 1]) (fun s=>s.1<=m/\s.2.length<=n+s.1/\uH kinds keys aggs=lG kinds (aggs.drop s.1) s.2) (fun s=>m-s.1) (0,out) ⟨by omega,by show out.length<=n+0;omega,hF0⟩ (fun _ _=>abv _)
   (fm_ ⟨rfl,rfl,rfl,aT hmm,rfl,trivial⟩ [] (by rw [<- hol];rfl) ⟨trivial,by show 0<1;omega,trivial,trivial,trivial,trivial⟩ ⟨trivial,trivial⟩) ?_
  clear hom hol hr hF0 hN hi hdr
  rintro ⟨j,o2⟩ ⟨hj,hol,hr⟩
  dsimp only at hj hol hr ⊢
  have hom:(o2.map fun x=>[AC.int .i64 x]).length=o2.length:=by simp
  by_cases hlt2:j<m
  ·obtain ⟨a,hx⟩:=gol_ (show j<aggs.length by omega)
   have hstep:=KY kinds aggs o2 hx
   have hN:decide ((j:Int)<m)=true:=by simp;exact hlt2
   obtain ⟨op,arg⟩:=a
   have hidx:(aggs.map cA)[((j:Nat):Int).toNat]?=some [.int .i64 op, .int .i64 arg]:=bg hx
   have hinD:Qf kinds arg = !(bif decide (arg<0) then true else decide ((kinds.length:Int)<=arg)):=rfl
   have hag:Ff kinds (op,arg)=bif (bif decide (op<1) then true else decide (4<op)) then 7 else bif (bif decide (arg = -1) then decide (op=1) else false) then 0 else bif !(Qf kinds arg) then 6 else bif (bif decide (op=2) then decide (kinds.getD arg.toNat 0≠1) else false) then 7 else 0:=rfl
   have hak:Hf kinds (op,arg)=bif (bif decide (op=3) then true else decide (op=4)) then kinds.getD arg.toNat 0 else 1:=rfl
   generalize Ff kinds (op,arg)=er at hstep hag
   generalize Hf kinds (op,arg)=kk at hstep hak
   by_cases h1:op<1
   ·have hO1:decide (op<1)=true:=by simp [h1]
    rw [hO1] at hag
    have he:er=7:=hag
    subst he
    repeat' (first
     | refine st_nil ?_
     | rw [hN]
     | rw [hO1]
     | (refine ay rfl rfl rfl rfl ?_ ?_; · (repeat' (first|exact trivial|rfl|exact abj rfl|omega|(intro e he;simp at he;subst he;rfl)|exact hom|(show (_+1)*8<=_;omega)|(show _+1<=_;omega)|apply And.intro)))
     | (refine aW rfl rfl rfl rfl rfl rfl rfl rfl hidx ?_ ?_; · exact ⟨by omega,rfl⟩)
     | (refine az rfl rfl rfl rfl ?_ ?_; · (repeat' (first|exact trivial|rfl|exact abj rfl|omega|(intro e he;simp at he;subst he;rfl)|exact hom|(show (_+1)*8<=_;omega)|(show _+1<=_;omega)|apply And.intro)))
     | (refine sS_ rfl rfl rfl ?_ ?_; · (repeat' (first|exact trivial|rfl|exact abj rfl|omega|(intro e he;simp at he;subst he;rfl)|exact hom|(show (_+1)*8<=_;omega)|(show _+1<=_;omega)|apply And.intro)))
     | (refine aC rfl rfl rfl rfl ?_ ?_; · (repeat' (first|exact trivial|rfl|exact abj rfl|omega|(intro e he;simp at he;subst he;rfl)|exact hom|(show (_+1)*8<=_;omega)|(show _+1<=_;omega)|apply And.intro)))
     | refine aj rfl rfl rfl ?_
     | refine sk0_ rfl rfl ?_
     | (refine aM rfl (fun hb=>?_) (fun hb=>?_)<;>(first|exact (fx_ hb).elim|rw [hb]))
     | refine aw_seq ?_
     | refine aw_region aN _ rfl ?_
     | refine aw_drawn2 aF _ rfl mixed (by decide +kernel) ?_
     | (refine ah rfl (fun hb=>?_) (fun hb=>?_)<;>(try exact (fx_ hb).elim))
     | refine aw_block ?_
     | refine aw_exit ?_
     | refine aw_ret ?_
     | refine aw_skip ?_)
    exact aO (fin (w:=([],7)) (hr.trans hstep).symm (aR rfl ⟨trivial,trivial,trivial⟩ rfl))
   by_cases h4:4<op
   ·have hO1:decide (op<1)=false:=by simp [h1]
    have hO2:decide (4<op)=true:=by simp [h4]
    rw [hO1,hO2] at hag
    have he:er=7:=hag
    subst he
    repeat' (first
     | refine st_nil ?_
     | rw [hN]
     | rw [hO1]
     | rw [hO2]
     | (refine ay rfl rfl rfl rfl ?_ ?_; · (repeat' (first|exact trivial|rfl|exact abj rfl|omega|(intro e he;simp at he;subst he;rfl)|exact hom|(show (_+1)*8<=_;omega)|(show _+1<=_;omega)|apply And.intro)))
     | (refine aW rfl rfl rfl rfl rfl rfl rfl rfl hidx ?_ ?_; · exact ⟨by omega,rfl⟩)
     | (refine az rfl rfl rfl rfl ?_ ?_; · (repeat' (first|exact trivial|rfl|exact abj rfl|omega|(intro e he;simp at he;subst he;rfl)|exact hom|(show (_+1)*8<=_;omega)|(show _+1<=_;omega)|apply And.intro)))
     | (refine sS_ rfl rfl rfl ?_ ?_; · (repeat' (first|exact trivial|rfl|exact abj rfl|omega|(intro e he;simp at he;subst he;rfl)|exact hom|(show (_+1)*8<=_;omega)|(show _+1<=_;omega)|apply And.intro)))
     | (refine aC rfl rfl rfl rfl ?_ ?_; · (repeat' (first|exact trivial|rfl|exact abj rfl|omega|(intro e he;simp at he;subst he;rfl)|exact hom|(show (_+1)*8<=_;omega)|(show _+1<=_;omega)|apply And.intro)))
     | refine aj rfl rfl rfl ?_
     | refine sk0_ rfl rfl ?_
     | (refine aM rfl (fun hb=>?_) (fun hb=>?_)<;>(first|exact (fx_ hb).elim|rw [hb]))
     | refine aw_seq ?_
     | refine aw_region aN _ rfl ?_
     | refine aw_drawn2 aF _ rfl mixed (by decide +kernel) ?_
     | (refine ah rfl (fun hb=>?_) (fun hb=>?_)<;>(try exact (fx_ hb).elim))
     | refine aw_block ?_
     | refine aw_exit ?_
     | refine aw_ret ?_
     | refine aw_skip ?_)
    exact aO (fin (w:=([],7)) (hr.trans hstep).symm (aR rfl ⟨trivial,trivial,trivial⟩ rfl))
   have hop:op=1\/op=2\/op=3\/op=4:=by omega
   cases hin:Qf kinds arg with
   | false =>
    rw [hin] at hag
    by_cases hm1:arg = -1
    ·subst hm1
     rcases hop with rfl|rfl|rfl|rfl
     ·have he:er=0:=hag
      have hk:kk=1:=hak
      subst he hk
      repeat' (first
       | refine st_nil ?_
       | rw [hN]
       | (refine ay rfl rfl rfl rfl ?_ ?_; · (repeat' (first|exact trivial|rfl|exact abj rfl|omega|(intro e he;simp at he;subst he;rfl)|exact hom|(show (_+1)*8<=_;omega)|(show _+1<=_;omega)|apply And.intro)))
       | (refine aW rfl rfl rfl rfl rfl rfl rfl rfl hidx ?_ ?_; · exact ⟨by omega,rfl⟩)
       | (refine az rfl rfl rfl rfl ?_ ?_; · (repeat' (first|exact trivial|rfl|exact abj rfl|omega|(intro e he;simp at he;subst he;rfl)|exact hom|(show (_+1)*8<=_;omega)|(show _+1<=_;omega)|apply And.intro)))
       | (refine sS_ rfl rfl rfl ?_ ?_; · (repeat' (first|exact trivial|rfl|exact abj rfl|omega|(intro e he;simp at he;subst he;rfl)|exact hom|(show (_+1)*8<=_;omega)|(show _+1<=_;omega)|apply And.intro)))
       | (refine aC rfl rfl rfl rfl ?_ ?_; · (repeat' (first|exact trivial|rfl|exact abj rfl|omega|(intro e he;simp at he;subst he;rfl)|exact hom|(show (_+1)*8<=_;omega)|(show _+1<=_;omega)|apply And.intro)))
       | refine aj rfl rfl rfl ?_
       | refine sk0_ rfl rfl ?_
       | (refine aM rfl (fun hb=>?_) (fun hb=>?_)<;>(first|exact (fx_ hb).elim|rw [hb]))
       | refine aw_seq ?_
       | refine aw_region aN _ rfl ?_
       | refine aw_drawn2 aF _ rfl mixed (by decide +kernel) ?_
       | (refine ah rfl (fun hb=>?_) (fun hb=>?_)<;>(try exact (fx_ hb).elim))
       | refine aw_block ?_
       | refine aw_exit ?_
       | refine aw_ret ?_
       | refine aw_skip ?_)
      exact ⟨(j+1,o2++[1]),⟨by show j+1<=m;omega,by simp;omega,hr.trans hstep⟩,by show m-(j+1)<m-j;omega,fm_ ⟨rfl,cB (by rw [abm];rfl),rfl,rfl,aT (bu (by omega) (by omega)),trivial⟩ [.box [.c (.int .i64 1), .c (.int .i64 (-1))]] (by rw [abg];rfl) ⟨trivial,by show 0<1;omega,trivial,trivial,trivial,trivial⟩ ⟨trivial,trivial⟩⟩
     ·have he:er=6:=hag
      subst he
      repeat' (first
       | refine st_nil ?_
       | rw [hN]
       | (refine ay rfl rfl rfl rfl ?_ ?_; · (repeat' (first|exact trivial|rfl|exact abj rfl|omega|(intro e he;simp at he;subst he;rfl)|exact hom|(show (_+1)*8<=_;omega)|(show _+1<=_;omega)|apply And.intro)))
       | (refine aW rfl rfl rfl rfl rfl rfl rfl rfl hidx ?_ ?_; · exact ⟨by omega,rfl⟩)
       | (refine az rfl rfl rfl rfl ?_ ?_; · (repeat' (first|exact trivial|rfl|exact abj rfl|omega|(intro e he;simp at he;subst he;rfl)|exact hom|(show (_+1)*8<=_;omega)|(show _+1<=_;omega)|apply And.intro)))
       | (refine sS_ rfl rfl rfl ?_ ?_; · (repeat' (first|exact trivial|rfl|exact abj rfl|omega|(intro e he;simp at he;subst he;rfl)|exact hom|(show (_+1)*8<=_;omega)|(show _+1<=_;omega)|apply And.intro)))
       | (refine aC rfl rfl rfl rfl ?_ ?_; · (repeat' (first|exact trivial|rfl|exact abj rfl|omega|(intro e he;simp at he;subst he;rfl)|exact hom|(show (_+1)*8<=_;omega)|(show _+1<=_;omega)|apply And.intro)))
       | refine aj rfl rfl rfl ?_
       | refine sk0_ rfl rfl ?_
       | (refine aM rfl (fun hb=>?_) (fun hb=>?_)<;>(first|exact (fx_ hb).elim|rw [hb]))
       | refine aw_seq ?_
       | refine aw_region aN _ rfl ?_
       | refine aw_drawn2 aF _ rfl mixed (by decide +kernel) ?_
       | (refine ah rfl (fun hb=>?_) (fun hb=>?_)<;>(try exact (fx_ hb).elim))
       | refine aw_block ?_
       | refine aw_exit ?_
       | refine aw_ret ?_
       | refine aw_skip ?_)
      exact aO (fin (w:=([],6)) (hr.trans hstep).symm (aR rfl ⟨trivial,trivial,trivial⟩ rfl))
     ·have he:er=6:=hag
      subst he
      repeat' (first
       | refine st_nil ?_
       | rw [hN]
       | (refine ay rfl rfl rfl rfl ?_ ?_; · (repeat' (first|exact trivial|rfl|exact abj rfl|omega|(intro e he;simp at he;subst he;rfl)|exact hom|(show (_+1)*8<=_;omega)|(show _+1<=_;omega)|apply And.intro)))
       | (refine aW rfl rfl rfl rfl rfl rfl rfl rfl hidx ?_ ?_; · exact ⟨by omega,rfl⟩)
       | (refine az rfl rfl rfl rfl ?_ ?_; · (repeat' (first|exact trivial|rfl|exact abj rfl|omega|(intro e he;simp at he;subst he;rfl)|exact hom|(show (_+1)*8<=_;omega)|(show _+1<=_;omega)|apply And.intro)))
       | (refine sS_ rfl rfl rfl ?_ ?_; · (repeat' (first|exact trivial|rfl|exact abj rfl|omega|(intro e he;simp at he;subst he;rfl)|exact hom|(show (_+1)*8<=_;omega)|(show _+1<=_;omega)|apply And.intro)))
       | (refine aC rfl rfl rfl rfl ?_ ?_; · (repeat' (first|exact trivial|rfl|exact abj rfl|omega|(intro e he;simp at he;subst he;rfl)|exact hom|(show (_+1)*8<=_;omega)|(show _+1<=_;omega)|apply And.intro)))
       | refine aj rfl rfl rfl ?_
       | refine sk0_ rfl rfl ?_
       | (refine aM rfl (fun hb=>?_) (fun hb=>?_)<;>(first|exact (fx_ hb).elim|rw [hb]))
       | refine aw_seq ?_
       | refine aw_region aN _ rfl ?_
       | refine aw_drawn2 aF _ rfl mixed (by decide +kernel) ?_
       | (refine ah rfl (fun hb=>?_) (fun hb=>?_)<;>(try exact (fx_ hb).elim))
       | refine aw_block ?_
       | refine aw_exit ?_
       | refine aw_ret ?_
       | refine aw_skip ?_)
      exact aO (fin (w:=([],6)) (hr.trans hstep).symm (aR rfl ⟨trivial,trivial,trivial⟩ rfl))
     ·have he:er=6:=hag
      subst he
      repeat' (first
       | refine st_nil ?_
       | rw [hN]
       | (refine ay rfl rfl rfl rfl ?_ ?_; · (repeat' (first|exact trivial|rfl|exact abj rfl|omega|(intro e he;simp at he;subst he;rfl)|exact hom|(show (_+1)*8<=_;omega)|(show _+1<=_;omega)|apply And.intro)))
       | (refine aW rfl rfl rfl rfl rfl rfl rfl rfl hidx ?_ ?_; · exact ⟨by omega,rfl⟩)
       | (refine az rfl rfl rfl rfl ?_ ?_; · (repeat' (first|exact trivial|rfl|exact abj rfl|omega|(intro e he;simp at he;subst he;rfl)|exact hom|(show (_+1)*8<=_;omega)|(show _+1<=_;omega)|apply And.intro)))
       | (refine sS_ rfl rfl rfl ?_ ?_; · (repeat' (first|exact trivial|rfl|exact abj rfl|omega|(intro e he;simp at he;subst he;rfl)|exact hom|(show (_+1)*8<=_;omega)|(show _+1<=_;omega)|apply And.intro)))
       | (refine aC rfl rfl rfl rfl ?_ ?_; · (repeat' (first|exact trivial|rfl|exact abj rfl|omega|(intro e he;simp at he;subst he;rfl)|exact hom|(show (_+1)*8<=_;omega)|(show _+1<=_;omega)|apply And.intro)))
       | refine aj rfl rfl rfl ?_
       | refine sk0_ rfl rfl ?_
       | (refine aM rfl (fun hb=>?_) (fun hb=>?_)<;>(first|exact (fx_ hb).elim|rw [hb]))
       | refine aw_seq ?_
       | refine aw_region aN _ rfl ?_
       | refine aw_drawn2 aF _ rfl mixed (by decide +kernel) ?_
       | (refine ah rfl (fun hb=>?_) (fun hb=>?_)<;>(try exact (fx_ hb).elim))
       | refine aw_block ?_
       | refine aw_exit ?_
       | refine aw_ret ?_
       | refine aw_skip ?_)
      exact aO (fin (w:=([],6)) (hr.trans hstep).symm (aR rfl ⟨trivial,trivial,trivial⟩ rfl))
    ·have hM:decide (arg = -1)=false:=by simp [hm1]
     have hD:(bif decide (arg<0) then true else decide ((((kinds.map fun x=>[AC.int .i64 x]).length:Nat):Int)<=arg))=true:=by rw [hkl];revert hin;unfold Qf;cases (bif decide (arg<0) then true else decide ((kinds.length:Int)<=arg))<;>simp
     rw [hM] at hag
     have hag6:er=6:=by rcases hop with rfl|rfl|rfl|rfl<;>exact hag
     subst hag6
     by_cases hn0:arg<0
     ·have hD1:decide (arg<0)=true:=by simp [hn0]
      rcases hop with rfl|rfl|rfl|rfl
      ·repeat' (first
        | refine st_nil ?_
        | rw [hN]
        | rw [hM]
        | rw [hD1]
        | (refine ay rfl rfl rfl rfl ?_ ?_; · (repeat' (first|exact trivial|rfl|exact abj rfl|omega|(intro e he;simp at he;subst he;rfl)|exact hom|(show (_+1)*8<=_;omega)|(show _+1<=_;omega)|apply And.intro)))
        | (refine aW rfl rfl rfl rfl rfl rfl rfl rfl hidx ?_ ?_; · exact ⟨by omega,rfl⟩)
        | (refine az rfl rfl rfl rfl ?_ ?_; · (repeat' (first|exact trivial|rfl|exact abj rfl|omega|(intro e he;simp at he;subst he;rfl)|exact hom|(show (_+1)*8<=_;omega)|(show _+1<=_;omega)|apply And.intro)))
        | (refine sS_ rfl rfl rfl ?_ ?_; · (repeat' (first|exact trivial|rfl|exact abj rfl|omega|(intro e he;simp at he;subst he;rfl)|exact hom|(show (_+1)*8<=_;omega)|(show _+1<=_;omega)|apply And.intro)))
        | (refine aC rfl rfl rfl rfl ?_ ?_; · (repeat' (first|exact trivial|rfl|exact abj rfl|omega|(intro e he;simp at he;subst he;rfl)|exact hom|(show (_+1)*8<=_;omega)|(show _+1<=_;omega)|apply And.intro)))
        | refine aj rfl rfl rfl ?_
        | refine sk0_ rfl rfl ?_
        | (refine aM rfl (fun hb=>?_) (fun hb=>?_)<;>(first|exact (fx_ hb).elim|rw [hb]))
        | refine aw_seq ?_
        | refine aw_region aN _ rfl ?_
        | refine aw_drawn2 aF _ rfl mixed (by decide +kernel) ?_
        | (refine ah rfl (fun hb=>?_) (fun hb=>?_)<;>(try exact (fx_ hb).elim))
        | refine aw_block ?_
        | refine aw_exit ?_
        | refine aw_ret ?_
        | refine aw_skip ?_)
       exact aO (fin (w:=([],6)) (hr.trans hstep).symm (aR rfl ⟨trivial,trivial,trivial⟩ rfl))
      ·repeat' (first
        | refine st_nil ?_
        | rw [hN]
        | rw [hM]
        | rw [hD1]
        | (refine ay rfl rfl rfl rfl ?_ ?_; · (repeat' (first|exact trivial|rfl|exact abj rfl|omega|(intro e he;simp at he;subst he;rfl)|exact hom|(show (_+1)*8<=_;omega)|(show _+1<=_;omega)|apply And.intro)))
        | (refine aW rfl rfl rfl rfl rfl rfl rfl rfl hidx ?_ ?_; · exact ⟨by omega,rfl⟩)
        | (refine az rfl rfl rfl rfl ?_ ?_; · (repeat' (first|exact trivial|rfl|exact abj rfl|omega|(intro e he;simp at he;subst he;rfl)|exact hom|(show (_+1)*8<=_;omega)|(show _+1<=_;omega)|apply And.intro)))
        | (refine sS_ rfl rfl rfl ?_ ?_; · (repeat' (first|exact trivial|rfl|exact abj rfl|omega|(intro e he;simp at he;subst he;rfl)|exact hom|(show (_+1)*8<=_;omega)|(show _+1<=_;omega)|apply And.intro)))
        | (refine aC rfl rfl rfl rfl ?_ ?_; · (repeat' (first|exact trivial|rfl|exact abj rfl|omega|(intro e he;simp at he;subst he;rfl)|exact hom|(show (_+1)*8<=_;omega)|(show _+1<=_;omega)|apply And.intro)))
        | refine aj rfl rfl rfl ?_
        | refine sk0_ rfl rfl ?_
        | (refine aM rfl (fun hb=>?_) (fun hb=>?_)<;>(first|exact (fx_ hb).elim|rw [hb]))
        | refine aw_seq ?_
        | refine aw_region aN _ rfl ?_
        | refine aw_drawn2 aF _ rfl mixed (by decide +kernel) ?_
        | (refine ah rfl (fun hb=>?_) (fun hb=>?_)<;>(try exact (fx_ hb).elim))
        | refine aw_block ?_
        | refine aw_exit ?_
        | refine aw_ret ?_
        | refine aw_skip ?_)
       exact aO (fin (w:=([],6)) (hr.trans hstep).symm (aR rfl ⟨trivial,trivial,trivial⟩ rfl))
      ·repeat' (first
        | refine st_nil ?_
        | rw [hN]
        | rw [hM]
        | rw [hD1]
        | (refine ay rfl rfl rfl rfl ?_ ?_; · (repeat' (first|exact trivial|rfl|exact abj rfl|omega|(intro e he;simp at he;subst he;rfl)|exact hom|(show (_+1)*8<=_;omega)|(show _+1<=_;omega)|apply And.intro)))
        | (refine aW rfl rfl rfl rfl rfl rfl rfl rfl hidx ?_ ?_; · exact ⟨by omega,rfl⟩)
        | (refine az rfl rfl rfl rfl ?_ ?_; · (repeat' (first|exact trivial|rfl|exact abj rfl|omega|(intro e he;simp at he;subst he;rfl)|exact hom|(show (_+1)*8<=_;omega)|(show _+1<=_;omega)|apply And.intro)))
        | (refine sS_ rfl rfl rfl ?_ ?_; · (repeat' (first|exact trivial|rfl|exact abj rfl|omega|(intro e he;simp at he;subst he;rfl)|exact hom|(show (_+1)*8<=_;omega)|(show _+1<=_;omega)|apply And.intro)))
        | (refine aC rfl rfl rfl rfl ?_ ?_; · (repeat' (first|exact trivial|rfl|exact abj rfl|omega|(intro e he;simp at he;subst he;rfl)|exact hom|(show (_+1)*8<=_;omega)|(show _+1<=_;omega)|apply And.intro)))
        | refine aj rfl rfl rfl ?_
        | refine sk0_ rfl rfl ?_
        | (refine aM rfl (fun hb=>?_) (fun hb=>?_)<;>(first|exact (fx_ hb).elim|rw [hb]))
        | refine aw_seq ?_
        | refine aw_region aN _ rfl ?_
        | refine aw_drawn2 aF _ rfl mixed (by decide +kernel) ?_
        | (refine ah rfl (fun hb=>?_) (fun hb=>?_)<;>(try exact (fx_ hb).elim))
        | refine aw_block ?_
        | refine aw_exit ?_
        | refine aw_ret ?_
        | refine aw_skip ?_)
       exact aO (fin (w:=([],6)) (hr.trans hstep).symm (aR rfl ⟨trivial,trivial,trivial⟩ rfl))
      ·repeat' (first
        | refine st_nil ?_
        | rw [hN]
        | rw [hM]
        | rw [hD1]
        | (refine ay rfl rfl rfl rfl ?_ ?_; · (repeat' (first|exact trivial|rfl|exact abj rfl|omega|(intro e he;simp at he;subst he;rfl)|exact hom|(show (_+1)*8<=_;omega)|(show _+1<=_;omega)|apply And.intro)))
        | (refine aW rfl rfl rfl rfl rfl rfl rfl rfl hidx ?_ ?_; · exact ⟨by omega,rfl⟩)
        | (refine az rfl rfl rfl rfl ?_ ?_; · (repeat' (first|exact trivial|rfl|exact abj rfl|omega|(intro e he;simp at he;subst he;rfl)|exact hom|(show (_+1)*8<=_;omega)|(show _+1<=_;omega)|apply And.intro)))
        | (refine sS_ rfl rfl rfl ?_ ?_; · (repeat' (first|exact trivial|rfl|exact abj rfl|omega|(intro e he;simp at he;subst he;rfl)|exact hom|(show (_+1)*8<=_;omega)|(show _+1<=_;omega)|apply And.intro)))
        | (refine aC rfl rfl rfl rfl ?_ ?_; · (repeat' (first|exact trivial|rfl|exact abj rfl|omega|(intro e he;simp at he;subst he;rfl)|exact hom|(show (_+1)*8<=_;omega)|(show _+1<=_;omega)|apply And.intro)))
        | refine aj rfl rfl rfl ?_
        | refine sk0_ rfl rfl ?_
        | (refine aM rfl (fun hb=>?_) (fun hb=>?_)<;>(first|exact (fx_ hb).elim|rw [hb]))
        | refine aw_seq ?_
        | refine aw_region aN _ rfl ?_
        | refine aw_drawn2 aF _ rfl mixed (by decide +kernel) ?_
        | (refine ah rfl (fun hb=>?_) (fun hb=>?_)<;>(try exact (fx_ hb).elim))
        | refine aw_block ?_
        | refine aw_exit ?_
        | refine aw_ret ?_
        | refine aw_skip ?_)
       exact aO (fin (w:=([],6)) (hr.trans hstep).symm (aR rfl ⟨trivial,trivial,trivial⟩ rfl))
     ·have hD1:decide (arg<0)=false:=by simp [hn0]
      have hD2:decide ((((kinds.map fun x=>[AC.int .i64 x]).length:Nat):Int)<=arg)=true:=by rw [hD1] at hD;exact hD
      rcases hop with rfl|rfl|rfl|rfl
      ·repeat' (first
        | refine st_nil ?_
        | rw [hN]
        | rw [hM]
        | rw [hD1]
        | rw [hD2]
        | (refine ay rfl rfl rfl rfl ?_ ?_; · (repeat' (first|exact trivial|rfl|exact abj rfl|omega|(intro e he;simp at he;subst he;rfl)|exact hom|(show (_+1)*8<=_;omega)|(show _+1<=_;omega)|apply And.intro)))
        | (refine aW rfl rfl rfl rfl rfl rfl rfl rfl hidx ?_ ?_; · exact ⟨by omega,rfl⟩)
        | (refine az rfl rfl rfl rfl ?_ ?_; · (repeat' (first|exact trivial|rfl|exact abj rfl|omega|(intro e he;simp at he;subst he;rfl)|exact hom|(show (_+1)*8<=_;omega)|(show _+1<=_;omega)|apply And.intro)))
        | (refine sS_ rfl rfl rfl ?_ ?_; · (repeat' (first|exact trivial|rfl|exact abj rfl|omega|(intro e he;simp at he;subst he;rfl)|exact hom|(show (_+1)*8<=_;omega)|(show _+1<=_;omega)|apply And.intro)))
        | (refine aC rfl rfl rfl rfl ?_ ?_; · (repeat' (first|exact trivial|rfl|exact abj rfl|omega|(intro e he;simp at he;subst he;rfl)|exact hom|(show (_+1)*8<=_;omega)|(show _+1<=_;omega)|apply And.intro)))
        | refine aj rfl rfl rfl ?_
        | refine sk0_ rfl rfl ?_
        | (refine aM rfl (fun hb=>?_) (fun hb=>?_)<;>(first|exact (fx_ hb).elim|rw [hb]))
        | refine aw_seq ?_
        | refine aw_region aN _ rfl ?_
        | refine aw_drawn2 aF _ rfl mixed (by decide +kernel) ?_
        | (refine ah rfl (fun hb=>?_) (fun hb=>?_)<;>(try exact (fx_ hb).elim))
        | refine aw_block ?_
        | refine aw_exit ?_
        | refine aw_ret ?_
        | refine aw_skip ?_)
       exact aO (fin (w:=([],6)) (hr.trans hstep).symm (aR rfl ⟨trivial,trivial,trivial⟩ rfl))
      ·repeat' (first
        | refine st_nil ?_
        | rw [hN]
        | rw [hM]
        | rw [hD1]
        | rw [hD2]
        | (refine ay rfl rfl rfl rfl ?_ ?_; · (repeat' (first|exact trivial|rfl|exact abj rfl|omega|(intro e he;simp at he;subst he;rfl)|exact hom|(show (_+1)*8<=_;omega)|(show _+1<=_;omega)|apply And.intro)))
        | (refine aW rfl rfl rfl rfl rfl rfl rfl rfl hidx ?_ ?_; · exact ⟨by omega,rfl⟩)
        | (refine az rfl rfl rfl rfl ?_ ?_; · (repeat' (first|exact trivial|rfl|exact abj rfl|omega|(intro e he;simp at he;subst he;rfl)|exact hom|(show (_+1)*8<=_;omega)|(show _+1<=_;omega)|apply And.intro)))
        | (refine sS_ rfl rfl rfl ?_ ?_; · (repeat' (first|exact trivial|rfl|exact abj rfl|omega|(intro e he;simp at he;subst he;rfl)|exact hom|(show (_+1)*8<=_;omega)|(show _+1<=_;omega)|apply And.intro)))
        | (refine aC rfl rfl rfl rfl ?_ ?_; · (repeat' (first|exact trivial|rfl|exact abj rfl|omega|(intro e he;simp at he;subst he;rfl)|exact hom|(show (_+1)*8<=_;omega)|(show _+1<=_;omega)|apply And.intro)))
        | refine aj rfl rfl rfl ?_
        | refine sk0_ rfl rfl ?_
        | (refine aM rfl (fun hb=>?_) (fun hb=>?_)<;>(first|exact (fx_ hb).elim|rw [hb]))
        | refine aw_seq ?_
        | refine aw_region aN _ rfl ?_
        | refine aw_drawn2 aF _ rfl mixed (by decide +kernel) ?_
        | (refine ah rfl (fun hb=>?_) (fun hb=>?_)<;>(try exact (fx_ hb).elim))
        | refine aw_block ?_
        | refine aw_exit ?_
        | refine aw_ret ?_
        | refine aw_skip ?_)
       exact aO (fin (w:=([],6)) (hr.trans hstep).symm (aR rfl ⟨trivial,trivial,trivial⟩ rfl))
      ·repeat' (first
        | refine st_nil ?_
        | rw [hN]
        | rw [hM]
        | rw [hD1]
        | rw [hD2]
        | (refine ay rfl rfl rfl rfl ?_ ?_; · (repeat' (first|exact trivial|rfl|exact abj rfl|omega|(intro e he;simp at he;subst he;rfl)|exact hom|(show (_+1)*8<=_;omega)|(show _+1<=_;omega)|apply And.intro)))
        | (refine aW rfl rfl rfl rfl rfl rfl rfl rfl hidx ?_ ?_; · exact ⟨by omega,rfl⟩)
        | (refine az rfl rfl rfl rfl ?_ ?_; · (repeat' (first|exact trivial|rfl|exact abj rfl|omega|(intro e he;simp at he;subst he;rfl)|exact hom|(show (_+1)*8<=_;omega)|(show _+1<=_;omega)|apply And.intro)))
        | (refine sS_ rfl rfl rfl ?_ ?_; · (repeat' (first|exact trivial|rfl|exact abj rfl|omega|(intro e he;simp at he;subst he;rfl)|exact hom|(show (_+1)*8<=_;omega)|(show _+1<=_;omega)|apply And.intro)))
        | (refine aC rfl rfl rfl rfl ?_ ?_; · (repeat' (first|exact trivial|rfl|exact abj rfl|omega|(intro e he;simp at he;subst he;rfl)|exact hom|(show (_+1)*8<=_;omega)|(show _+1<=_;omega)|apply And.intro)))
        | refine aj rfl rfl rfl ?_
        | refine sk0_ rfl rfl ?_
        | (refine aM rfl (fun hb=>?_) (fun hb=>?_)<;>(first|exact (fx_ hb).elim|rw [hb]))
        | refine aw_seq ?_
        | refine aw_region aN _ rfl ?_
        | refine aw_drawn2 aF _ rfl mixed (by decide +kernel) ?_
        | (refine ah rfl (fun hb=>?_) (fun hb=>?_)<;>(try exact (fx_ hb).elim))
        | refine aw_block ?_
        | refine aw_exit ?_
        | refine aw_ret ?_
        | refine aw_skip ?_)
       exact aO (fin (w:=([],6)) (hr.trans hstep).symm (aR rfl ⟨trivial,trivial,trivial⟩ rfl))
      ·repeat' (first
        | refine st_nil ?_
        | rw [hN]
        | rw [hM]
        | rw [hD1]
        | rw [hD2]
        | (refine ay rfl rfl rfl rfl ?_ ?_; · (repeat' (first|exact trivial|rfl|exact abj rfl|omega|(intro e he;simp at he;subst he;rfl)|exact hom|(show (_+1)*8<=_;omega)|(show _+1<=_;omega)|apply And.intro)))
        | (refine aW rfl rfl rfl rfl rfl rfl rfl rfl hidx ?_ ?_; · exact ⟨by omega,rfl⟩)
        | (refine az rfl rfl rfl rfl ?_ ?_; · (repeat' (first|exact trivial|rfl|exact abj rfl|omega|(intro e he;simp at he;subst he;rfl)|exact hom|(show (_+1)*8<=_;omega)|(show _+1<=_;omega)|apply And.intro)))
        | (refine sS_ rfl rfl rfl ?_ ?_; · (repeat' (first|exact trivial|rfl|exact abj rfl|omega|(intro e he;simp at he;subst he;rfl)|exact hom|(show (_+1)*8<=_;omega)|(show _+1<=_;omega)|apply And.intro)))
        | (refine aC rfl rfl rfl rfl ?_ ?_; · (repeat' (first|exact trivial|rfl|exact abj rfl|omega|(intro e he;simp at he;subst he;rfl)|exact hom|(show (_+1)*8<=_;omega)|(show _+1<=_;omega)|apply And.intro)))
        | refine aj rfl rfl rfl ?_
        | refine sk0_ rfl rfl ?_
        | (refine aM rfl (fun hb=>?_) (fun hb=>?_)<;>(first|exact (fx_ hb).elim|rw [hb]))
        | refine aw_seq ?_
        | refine aw_region aN _ rfl ?_
        | refine aw_drawn2 aF _ rfl mixed (by decide +kernel) ?_
        | (refine ah rfl (fun hb=>?_) (fun hb=>?_)<;>(try exact (fx_ hb).elim))
        | refine aw_block ?_
        | refine aw_exit ?_
        | refine aw_ret ?_
        | refine aw_skip ?_)
       exact aO (fin (w:=([],6)) (hr.trans hstep).symm (aR rfl ⟨trivial,trivial,trivial⟩ rfl))
   | true =>
    obtain ⟨hk0,y,hy⟩:=Qx hin
    have hg:=Qi hy
    have hM:decide (arg = -1)=false:=by simp;omega
    have hD1:decide (arg<0)=false:=by simp;omega
    have hD2:decide ((((kinds.map fun x=>[AC.int .i64 x]).length:Nat):Int)<=arg)=false:=by rw [hkl];unfold Qf at hin;rw [hD1] at hin;simpa using hin
    rw [hin,hg,hM] at hag
    rw [hg] at hak
    rcases hop with rfl|rfl|rfl|rfl
    ·have he:er=0:=hag
     have hk:kk=1:=hak
     subst he hk
     repeat' (first
      | refine st_nil ?_
      | rw [hN]
      | rw [hM]
      | rw [hD1]
      | rw [hD2]
      | (refine ay rfl rfl rfl rfl ?_ ?_; · (repeat' (first|exact trivial|rfl|exact abj rfl|omega|(intro e he;simp at he;subst he;rfl)|exact hom|(show (_+1)*8<=_;omega)|(show _+1<=_;omega)|apply And.intro)))
      | (refine aW rfl rfl rfl rfl rfl rfl rfl rfl hidx ?_ ?_; · exact ⟨by omega,rfl⟩)
      | (refine az rfl rfl rfl rfl ?_ ?_; · (repeat' (first|exact trivial|rfl|exact abj rfl|omega|(intro e he;simp at he;subst he;rfl)|exact hom|(show (_+1)*8<=_;omega)|(show _+1<=_;omega)|apply And.intro)))
      | (refine sS_ rfl rfl rfl ?_ ?_; · (repeat' (first|exact trivial|rfl|exact abj rfl|omega|(intro e he;simp at he;subst he;rfl)|exact hom|(show (_+1)*8<=_;omega)|(show _+1<=_;omega)|apply And.intro)))
      | (refine aC rfl rfl rfl rfl ?_ ?_; · (repeat' (first|exact trivial|rfl|exact abj rfl|omega|(intro e he;simp at he;subst he;rfl)|exact hom|(show (_+1)*8<=_;omega)|(show _+1<=_;omega)|apply And.intro)))
      | refine aj rfl rfl rfl ?_
      | refine sk0_ rfl rfl ?_
      | (refine aM rfl (fun hb=>?_) (fun hb=>?_)<;>(first|exact (fx_ hb).elim|rw [hb]))
      | refine aw_seq ?_
      | refine aw_region aN _ rfl ?_
      | refine aw_drawn2 aF _ rfl mixed (by decide +kernel) ?_
      | (refine ah rfl (fun hb=>?_) (fun hb=>?_)<;>(try exact (fx_ hb).elim))
      | refine aw_block ?_
      | refine aw_exit ?_
      | refine aw_ret ?_
      | refine aw_skip ?_)
     exact ⟨(j+1,o2++[1]),⟨by show j+1<=m;omega,by simp;omega,hr.trans hstep⟩,by show m-(j+1)<m-j;omega,fm_ ⟨rfl,cB (by rw [abm];rfl),rfl,rfl,aT (bu (by omega) (by omega)),trivial⟩ [.box [.c (.int .i64 1), .c (.int .i64 arg)]] (by rw [abg];rfl) ⟨trivial,by show 0<1;omega,trivial,trivial,trivial,trivial⟩ ⟨trivial,trivial⟩⟩
    ·by_cases hy1:y=1
     ·have hY:decide (y≠1)=false:=by simp [hy1]
      rw [hY] at hag
      have he:er=0:=hag
      have hk:kk=1:=hak
      subst he hk
      repeat' (first
       | refine st_nil ?_
       | rw [hN]
       | rw [hM]
       | rw [hD1]
       | rw [hD2]
       | rw [hY]
       | (refine ay rfl rfl rfl rfl ?_ ?_; · (repeat' (first|exact trivial|rfl|exact abj rfl|omega|(intro e he;simp at he;subst he;rfl)|exact hom|(show (_+1)*8<=_;omega)|(show _+1<=_;omega)|apply And.intro)))
       | (refine aW rfl rfl rfl rfl rfl rfl rfl rfl hidx ?_ ?_; · exact ⟨by omega,rfl⟩)
       | (refine aW rfl rfl rfl rfl rfl rfl rfl rfl (vX hy) ?_ ?_; · exact ⟨by omega,rfl⟩)
       | (refine az rfl rfl rfl rfl ?_ ?_; · (repeat' (first|exact trivial|rfl|exact abj rfl|omega|(intro e he;simp at he;subst he;rfl)|exact hom|(show (_+1)*8<=_;omega)|(show _+1<=_;omega)|apply And.intro)))
       | (refine sS_ rfl rfl rfl ?_ ?_; · (repeat' (first|exact trivial|rfl|exact abj rfl|omega|(intro e he;simp at he;subst he;rfl)|exact hom|(show (_+1)*8<=_;omega)|(show _+1<=_;omega)|apply And.intro)))
       | (refine aC rfl rfl rfl rfl ?_ ?_; · (repeat' (first|exact trivial|rfl|exact abj rfl|omega|(intro e he;simp at he;subst he;rfl)|exact hom|(show (_+1)*8<=_;omega)|(show _+1<=_;omega)|apply And.intro)))
       | refine aj rfl rfl rfl ?_
       | refine sk0_ rfl rfl ?_
       | (refine aM rfl (fun hb=>?_) (fun hb=>?_)<;>(first|exact (fx_ hb).elim|rw [hb]))
       | refine aw_seq ?_
       | refine aw_region aN _ rfl ?_
       | refine aw_drawn2 aF _ rfl mixed (by decide +kernel) ?_
       | (refine ah rfl (fun hb=>?_) (fun hb=>?_)<;>(try exact (fx_ hb).elim))
       | refine aw_block ?_
       | refine aw_exit ?_
       | refine aw_ret ?_
       | refine aw_skip ?_)
      exact ⟨(j+1,o2++[1]),⟨by show j+1<=m;omega,by simp;omega,hr.trans hstep⟩,by show m-(j+1)<m-j;omega,fm_ ⟨rfl,cB (by rw [abm];rfl),rfl,rfl,aT (bu (by omega) (by omega)),trivial⟩ [.box [.c (.int .i64 2), .c (.int .i64 arg)]] (by rw [abg];rfl) ⟨trivial,by show 0<1;omega,trivial,trivial,trivial,trivial⟩ ⟨trivial,trivial⟩⟩
     ·have hY:decide (y≠1)=true:=by simp [hy1]
      rw [hY] at hag
      have he:er=7:=hag
      subst he
      repeat' (first
       | refine st_nil ?_
       | rw [hN]
       | rw [hM]
       | rw [hD1]
       | rw [hD2]
       | rw [hY]
       | (refine ay rfl rfl rfl rfl ?_ ?_; · (repeat' (first|exact trivial|rfl|exact abj rfl|omega|(intro e he;simp at he;subst he;rfl)|exact hom|(show (_+1)*8<=_;omega)|(show _+1<=_;omega)|apply And.intro)))
       | (refine aW rfl rfl rfl rfl rfl rfl rfl rfl hidx ?_ ?_; · exact ⟨by omega,rfl⟩)
       | (refine aW rfl rfl rfl rfl rfl rfl rfl rfl (vX hy) ?_ ?_; · exact ⟨by omega,rfl⟩)
       | (refine az rfl rfl rfl rfl ?_ ?_; · (repeat' (first|exact trivial|rfl|exact abj rfl|omega|(intro e he;simp at he;subst he;rfl)|exact hom|(show (_+1)*8<=_;omega)|(show _+1<=_;omega)|apply And.intro)))
       | (refine sS_ rfl rfl rfl ?_ ?_; · (repeat' (first|exact trivial|rfl|exact abj rfl|omega|(intro e he;simp at he;subst he;rfl)|exact hom|(show (_+1)*8<=_;omega)|(show _+1<=_;omega)|apply And.intro)))
       | (refine aC rfl rfl rfl rfl ?_ ?_; · (repeat' (first|exact trivial|rfl|exact abj rfl|omega|(intro e he;simp at he;subst he;rfl)|exact hom|(show (_+1)*8<=_;omega)|(show _+1<=_;omega)|apply And.intro)))
       | refine aj rfl rfl rfl ?_
       | refine sk0_ rfl rfl ?_
       | (refine aM rfl (fun hb=>?_) (fun hb=>?_)<;>(first|exact (fx_ hb).elim|rw [hb]))
       | refine aw_seq ?_
       | refine aw_region aN _ rfl ?_
       | refine aw_drawn2 aF _ rfl mixed (by decide +kernel) ?_
       | (refine ah rfl (fun hb=>?_) (fun hb=>?_)<;>(try exact (fx_ hb).elim))
       | refine aw_block ?_
       | refine aw_exit ?_
       | refine aw_ret ?_
       | refine aw_skip ?_)
      exact aO (fin (w:=([],7)) (hr.trans hstep).symm (aR rfl ⟨trivial,trivial,trivial⟩ rfl))
    ·have he:er=0:=hag
     have hk:kk=y:=hak
     subst he hk
     repeat' (first
      | refine st_nil ?_
      | rw [hN]
      | rw [hM]
      | rw [hD1]
      | rw [hD2]
      | (refine ay rfl rfl rfl rfl ?_ ?_; · (repeat' (first|exact trivial|rfl|exact abj rfl|omega|(intro e he;simp at he;subst he;rfl)|exact hom|(show (_+1)*8<=_;omega)|(show _+1<=_;omega)|apply And.intro)))
      | (refine aW rfl rfl rfl rfl rfl rfl rfl rfl hidx ?_ ?_; · exact ⟨by omega,rfl⟩)
      | (refine aW rfl rfl rfl rfl rfl rfl rfl rfl (vX hy) ?_ ?_; · exact ⟨by omega,rfl⟩)
      | (refine az rfl rfl rfl rfl ?_ ?_; · (repeat' (first|exact trivial|rfl|exact abj rfl|omega|(intro e he;simp at he;subst he;rfl)|exact hom|(show (_+1)*8<=_;omega)|(show _+1<=_;omega)|apply And.intro)))
      | (refine sS_ rfl rfl rfl ?_ ?_; · (repeat' (first|exact trivial|rfl|exact abj rfl|omega|(intro e he;simp at he;subst he;rfl)|exact hom|(show (_+1)*8<=_;omega)|(show _+1<=_;omega)|apply And.intro)))
      | (refine aC rfl rfl rfl rfl ?_ ?_; · (repeat' (first|exact trivial|rfl|exact abj rfl|omega|(intro e he;simp at he;subst he;rfl)|exact hom|(show (_+1)*8<=_;omega)|(show _+1<=_;omega)|apply And.intro)))
      | refine aj rfl rfl rfl ?_
      | refine sk0_ rfl rfl ?_
      | (refine aM rfl (fun hb=>?_) (fun hb=>?_)<;>(first|exact (fx_ hb).elim|rw [hb]))
      | refine aw_seq ?_
      | refine aw_region aN _ rfl ?_
      | refine aw_drawn2 aF _ rfl mixed (by decide +kernel) ?_
      | (refine ah rfl (fun hb=>?_) (fun hb=>?_)<;>(try exact (fx_ hb).elim))
      | refine aw_block ?_
      | refine aw_exit ?_
      | refine aw_ret ?_
      | refine aw_skip ?_)
     exact ⟨(j+1,o2++[kk]),⟨by show j+1<=m;omega,by simp;omega,hr.trans hstep⟩,by show m-(j+1)<m-j;omega,fm_ ⟨rfl,cB (by rw [abm];rfl),rfl,rfl,aT (bu (by omega) (by omega)),trivial⟩ [.box [.c (.int .i64 3), .c (.int .i64 arg)]] (by rw [abg];rfl) ⟨trivial,by show 0<1;omega,trivial,trivial,trivial,trivial⟩ ⟨trivial,trivial⟩⟩
    ·have he:er=0:=hag
     have hk:kk=y:=hak
     subst he hk
     repeat' (first
      | refine st_nil ?_
      | rw [hN]
      | rw [hM]
      | rw [hD1]
      | rw [hD2]
      | (refine ay rfl rfl rfl rfl ?_ ?_; · (repeat' (first|exact trivial|rfl|exact abj rfl|omega|(intro e he;simp at he;subst he;rfl)|exact hom|(show (_+1)*8<=_;omega)|(show _+1<=_;omega)|apply And.intro)))
      | (refine aW rfl rfl rfl rfl rfl rfl rfl rfl hidx ?_ ?_; · exact ⟨by omega,rfl⟩)
      | (refine aW rfl rfl rfl rfl rfl rfl rfl rfl (vX hy) ?_ ?_; · exact ⟨by omega,rfl⟩)
      | (refine az rfl rfl rfl rfl ?_ ?_; · (repeat' (first|exact trivial|rfl|exact abj rfl|omega|(intro e he;simp at he;subst he;rfl)|exact hom|(show (_+1)*8<=_;omega)|(show _+1<=_;omega)|apply And.intro)))
      | (refine sS_ rfl rfl rfl ?_ ?_; · (repeat' (first|exact trivial|rfl|exact abj rfl|omega|(intro e he;simp at he;subst he;rfl)|exact hom|(show (_+1)*8<=_;omega)|(show _+1<=_;omega)|apply And.intro)))
      | (refine aC rfl rfl rfl rfl ?_ ?_; · (repeat' (first|exact trivial|rfl|exact abj rfl|omega|(intro e he;simp at he;subst he;rfl)|exact hom|(show (_+1)*8<=_;omega)|(show _+1<=_;omega)|apply And.intro)))
      | refine aj rfl rfl rfl ?_
      | refine sk0_ rfl rfl ?_
      | (refine aM rfl (fun hb=>?_) (fun hb=>?_)<;>(first|exact (fx_ hb).elim|rw [hb]))
      | refine aw_seq ?_
      | refine aw_region aN _ rfl ?_
      | refine aw_drawn2 aF _ rfl mixed (by decide +kernel) ?_
      | (refine ah rfl (fun hb=>?_) (fun hb=>?_)<;>(try exact (fx_ hb).elim))
      | refine aw_block ?_
      | refine aw_exit ?_
      | refine aw_ret ?_
      | refine aw_skip ?_)
     exact ⟨(j+1,o2++[kk]),⟨by show j+1<=m;omega,by simp;omega,hr.trans hstep⟩,by show m-(j+1)<m-j;omega,fm_ ⟨rfl,cB (by rw [abm];rfl),rfl,rfl,aT (bu (by omega) (by omega)),trivial⟩ [.box [.c (.int .i64 4), .c (.int .i64 arg)]] (by rw [abg];rfl) ⟨trivial,by show 0<1;omega,trivial,trivial,trivial,trivial⟩ ⟨trivial,trivial⟩⟩
  ·have hN:decide ((j:Int)<m)=false:=by simp;omega
   have hdr:aggs.drop j=[]:=List.drop_of_length_le (by omega)
   rw [hdr] at hr
   repeat' (first
    | refine st_nil ?_
    | rw [hN]
    | refine ay rfl rfl rfl rfl ph_ ?_
    | refine az rfl rfl rfl rfl ph_ ?_
    | refine sS_ rfl rfl rfl ph_ ?_
    | refine aC rfl rfl rfl rfl ph_ ?_
    | refine aj rfl rfl rfl ?_
    | refine sk0_ rfl rfl ?_
    | (refine aM rfl (fun hb=>?_) (fun hb=>?_)<;>(first|exact (fx_ hb).elim|rw [hb]))
    | refine aw_seq ?_
    | refine aw_region aN _ rfl ?_
    | refine aw_drawn2 aF _ rfl mixed (by decide +kernel) ?_
    | (refine ah rfl (fun hb=>?_) (fun hb=>?_)<;>(try exact (fx_ hb).elim))
    | refine aw_block ?_
    | refine aw_exit ?_
    | refine aw_ret ?_
    | refine aw_skip ?_)
   exact aO (fin (w:=(o2,0)) hr.symm (aR rfl (by trivial) rfl))
def Zo:TI := { Dx with dyn:=true,owns:=fun f=>f==55||Dx.owns f }
theorem bq:TIok Tryz.prog Zo:=⟨aN.size,aN.agg,aN.elem,aN.field,aN.zero,aN.bytes,aN.kind,aN.struct,aN.zok,aN.eqs⟩
theorem Va (r:List Val) (l:List Int) (hr:r.length<=1000000) (hl:l.length<=1000000):Run Tryz.prog 55 [] [.one (.c (bO r)), .one (.c (bB l))] [.spare l.length 3] (.one (.own ((bY r l).map cV) 0)):=by
 refine bQ aN Tryz.func55 rfl rfl Tryz.ntmps55 (by simp) ?_
 simp only [j4]
 obtain ⟨n,hn⟩ : ∃ n,l.length=n:=⟨_,rfl⟩
 have hml:(((l.map fun x=>[AC.int .i64 x]).length:Nat):Int)=n:=by simp [hn]
 repeat' (first
  | refine st_nil ?_
  | (refine cZ rfl rfl rfl rfl rfl (lQ aN (k:=3) (by_:=32) rfl rfl rfl rfl rfl rfl (by decide) (by omega) (by rw [hml];omega) (by rw [hml];omega)) ?_)
  | refine ay rfl rfl rfl rfl ph_ ?_
  | refine az rfl rfl rfl rfl ph_ ?_
  | refine sS_ rfl rfl rfl ph_ ?_
  | refine aC rfl rfl rfl rfl ph_ ?_
  | refine aj rfl rfl rfl ?_
  | refine sk0_ rfl rfl ?_
  | (refine aM rfl (fun hb=>?_) (fun hb=>?_)<;>(first|exact (fx_ hb).elim|rw [hb]))
  | refine aw_seq ?_
  | refine aw_region aN _ rfl ?_
  | refine aw_drawn2 aF _ rfl mixed (by decide +kernel) ?_
  | (refine ah rfl (fun hb=>?_) (fun hb=>?_)<;>(try exact (fx_ hb).elim))
  | refine aw_block ?_
  | refine aw_exit ?_
  | refine aw_ret ?_
  | refine aw_skip ?_)
 refine df (fun i:Nat=>[(0, .one (.c (bO r))),(5, .one (.own ((bY r (l.take i)).map cV) 0)),(11, .one (.c (bB l))),(12, .one (.c (.int .i64 n))),(13, .one (.c (.int .i64 i)))]) (fun i=>[.spare i 3]) (fun i=>i<=n) (fun i=>n-i) 0 (by omega) (fun _ _=>abv _)
  (fm_ ⟨rfl,rfl,rfl,aT hml,rfl,trivial⟩ [] rfl ⟨trivial,by show 0<1;omega,trivial,trivial,trivial,trivial⟩ ⟨trivial,trivial⟩) ?_
 intro i hi
 by_cases hlt:i<n
 ·obtain ⟨x,hx⟩:=gol_ (show i<l.length by omega)
  have hlen:((bY r (l.take i)).map cV).length=i:=by simp [bY];omega
  have hnx:(bY r (l.take (i+1))).map cV=(bY r (l.take i)).map cV++[cV (Qq r x)]:=by rw [bS hx];simp [bY]
  repeat' (first
   | refine st_nil ?_
   | (refine ay rfl rfl rfl rfl ?_ ?_; · (repeat' (first|exact trivial|rfl|exact abj rfl|omega|(intro e he;simp at he;subst he;rfl)|exact hlen|(show (_+1)*32<=_;omega)|(show _+1<=_;omega)|apply And.intro)))
   | (refine aW rfl rfl rfl rfl rfl rfl rfl rfl (bg hx) ?_ ?_; · exact ⟨by omega,rfl⟩)
   | (refine az rfl rfl rfl rfl ?_ ?_; · (repeat' (first|exact trivial|rfl|exact abj rfl|omega|(intro e he;simp at he;subst he;rfl)|exact hlen|(show (_+1)*32<=_;omega)|(show _+1<=_;omega)|apply And.intro)))
   | (refine sS_ rfl rfl rfl ?_ ?_; · (repeat' (first|exact trivial|rfl|exact abj rfl|omega|(intro e he;simp at he;subst he;rfl)|exact hlen|(show (_+1)*32<=_;omega)|(show _+1<=_;omega)|apply And.intro)))
   | (refine aC rfl rfl rfl rfl ?_ ?_; · (repeat' (first|exact trivial|rfl|exact abj rfl|omega|(intro e he;simp at he;subst he;rfl)|exact hlen|(show (_+1)*32<=_;omega)|(show _+1<=_;omega)|apply And.intro)))
   | refine aj rfl rfl rfl ?_
   | refine sk0_ rfl rfl ?_
   | refine aG rfl rfl rfl rfl (QB r x hr) rfl ?_
   | (refine aM rfl (fun hb=>?_) (fun hb=>?_)<;>(first|exact (fx_ hb).elim|rw [hb]))
   | refine aw_seq ?_
   | refine aw_region aN _ rfl ?_
   | refine aw_drawn2 aF _ rfl mixed (by decide +kernel) ?_
   | (refine ah rfl (fun hb=>?_) (fun hb=>?_)<;>(try exact (fx_ hb).elim))
   | refine aw_block ?_
   | refine aw_exit ?_
   | refine aw_ret ?_
   | refine aw_skip ?_)
  exact ⟨i+1,by omega,by omega,fm_ ⟨rfl,cB (by rw [hnx];rfl),rfl,rfl,aT (bu (by omega) (by omega)),trivial⟩ [] rfl ⟨trivial,by show 0<1;omega,trivial,trivial,trivial,trivial⟩ ⟨trivial,trivial⟩⟩
 ·have htk:l.take i=l:=abP (by omega)
  have hil:i=l.length:=by omega
  rw [htk,hil]
  repeat' (first
   | refine st_nil ?_
   | refine ay rfl rfl rfl rfl ph_ ?_
   | refine az rfl rfl rfl rfl ph_ ?_
   | refine sS_ rfl rfl rfl ph_ ?_
   | refine aC rfl rfl rfl rfl ph_ ?_
   | refine aj rfl rfl rfl ?_
   | refine sk0_ rfl rfl ?_
   | (refine aM rfl (fun hb=>?_) (fun hb=>?_)<;>(first|exact (fx_ hb).elim|rw [hb]))
   | refine aw_seq ?_
   | refine aw_region aN _ rfl ?_
   | refine aw_drawn2 aF _ rfl mixed (by decide +kernel) ?_
   | (refine ah rfl (fun hb=>?_) (fun hb=>?_)<;>(try exact (fx_ hb).elim))
   | refine aw_block ?_
   | refine aw_exit ?_
   | refine aw_ret ?_
   | refine aw_skip ?_)
  exact ⟨.inr rfl,⟨.inl ⟨4,rfl,rfl⟩,⟨[],rfl⟩,abv _,cz ⟨trivial,trivial⟩,by show 0<1;omega⟩⟩
theorem rZ {P:Program} {ti:TI} {ρ:Operand->Option AV} {L:List Ob} {inf:TypeInfo} (hti:TIok P ti) {t:TypeId} {E:Nat} (ht:ti.elem t=some E) (hE:E<65536) (hsz:ti.size E=some 1) (hzo:ti.zok E=true) (hz:P.info? E=some inf) (hz2:inf.zero=some (.slice none 0 0)) :
  rX P ρ L (.buildSlice t 1 #[(0, .const (.slice none 0 0))]) (.one (.sl L.length (E+65536) 0 1)) (L++[.row (E+65536) [[.emp]] 1]):=by
 intro B R γ w ev o ho hi hρ hfv
 obtain ⟨dst,op,type,pos,after,guard⟩:=o
 simp only at ho;subst ho
 have hs1:inf.size=1:=by have:=hti.size _ _ hsz;unfold gD at this;rw [hz] at this;simpa using this
 have hrun:(execOp ev { dst,op := .buildSlice t 1 #[(0, .const (.slice none 0 0))],type,pos,after,guard }).run P w = .ok (.value (.slice (some ⟨w.heap.size,0,none⟩) 1 1)) (w.alloc (.cells #[.slice none 0 0] E)):=by
  simp [execOp,Instr.buildSlice,run_underlying (oM hti ht),sizeOf,typeInfo,program,Sem.run,hz,hs1,zeroValue,hz2,newRow,Instr.fill,hfv.2,Value.cells]
  have e1:Array.range 1 = #[0]:=rfl
  rw [e1];simp
 have hm:Mv R R γ (γ++[.arr w.heap.size 1]) L (L++[.row (E+65536) [[.emp]] 1]):=Mv.push _ _ hi.len
 refine ⟨_,R,_, .inl ⟨_,hrun,⟨rfl,rfl⟩,by simp,fun ver2 es2 k2 e2=>?_⟩,?_,⟨Kept.alloc hi.bsz _,PH.sub_refl _,fun _ _ _=>rfl⟩,hm⟩
 ·rw [abf (by omega)] at e2
  simp at e2
  obtain ⟨q1,q2,q3⟩:=e2
  subst q1 q2 q3
  exact ⟨abp _,fun _=>⟨by simp, .arr w.heap.size 1,by rw [<- hi.len];simp, .inl rfl⟩⟩
 ·refine hi.push _ _ _ rfl ⟨⟨_,E,⟨fo w _,by show (E:Nat)=(E+65536)%65536;omega,by omega⟩,rfl,fun i e j u x he hu hx=>?_⟩,by simp,by omega,by simp,fun o=>hi.none_at o⟩
  have hi0:i=0:=by have:=(aa9.1 he).1;simpa using this
  subst hi0
  simp at he;subst he
  have hj0:j=0:=by have:=(aa9.1 hx).1;simpa using this
  subst hj0
  simp at hx hu;subst hx hu
  exact ⟨none,rfl⟩
abbrev kR:=List (List (List Val))
def ji (M:List (ByteArray × Int)) (s:ByteArray):Bool:=(iR s (dQ M)).isSome
theorem qy {P:Program} {ti:TI} {ρ:Operand->Option AV} {L:List Ob} {t:TypeId} {kt et:TypeId} {x k:Operand} {s:ByteArray} {id:Nat} {M:List (ByteArray × Int)} (hti:TIok P ti) (hx:ρ x=some (.one (.mp id))) (hk:ρ k=some (.one (.c (.str s)))) (hL:L[id]?=some (.map (dQ M)))
  (ht:ti.kind t=some (.map kt et)) (hkt:ti.kind kt=some .string) (hz:ti.zero et=some (.one (.c (.int .i64 0)))):rX P ρ L (.lookup t x k true) (.tup [.one (.int .i64 (dm M s)), .one (.bool (ji M s))]) L :=
 x9 (P:=P) hx hk hL (Bi M) (hti.kind _ _ ht) (hti.kind _ _ hkt) (hti.zero _ _ hz) (by rw [UM];rfl)
structure Gs where
 M:List (ByteArray × Int)
 G:kR
def jY (ky:List Val->ByteArray) (s:Gs) (r:List Val):Gs:=bif ji s.M (ky r) then ⟨s.M,s.G.set (dm s.M (ky r)).toNat (s.G.getD (dm s.M (ky r)).toNat []++[r])⟩ else ⟨d9 s.M (ky r) s.G.length,s.G++[[r]]⟩
def kM (ky:List Val->ByteArray) (rows:List (List Val)):Gs:=rows.foldl (jY ky) ⟨[],[]⟩
theorem Gn (ky:List Val->ByteArray) (rows:List (List Val)) (r:List Val):kM ky (rows++[r])=jY ky (kM ky rows) r:=by unfold kM;rw [List.foldl_append];rfl
theorem Uv (M:List (ByteArray × Int)) (s t:ByteArray) (n:Int) (h:ji (d9 M s n) t=true):t=s\/ji M t=true:=by
 induction M with
 | nil =>
  unfold ji d9 dQ iR at h
  by_cases e:t=s
  ·exact .inl e
  ·simp [iR,e] at h
 | cons p r ih =>
  unfold d9 at h
  by_cases e1:s=p.1
  ·rw [if_pos e1] at h
   by_cases e:t=s
   ·exact .inl e
   ·right
    unfold ji dQ at h ⊢
    simp only [abk,iR] at h ⊢
    have e2 : ¬ t=p.1:=fun q=>e (q.trans e1.symm)
    simpa [e,e2] using h
  ·rw [if_neg e1] at h
   by_cases e2:t=p.1
   ·right;unfold ji dQ;simp [iR,e2]
   ·have h':ji (d9 r s n) t=true:=by
     unfold ji dQ at h ⊢
     simp only [abk,iR] at h
     simpa [e2] using h
    rcases ih h' with q|q
    ·exact .inl q
    ·right
     unfold ji dQ at q ⊢
     simp only [abk,iR]
     simpa [e2] using q
structure ZP (s:Gs):Prop where
 idx : ∀ k,ji s.M k=true->0<=dm s.M k/\dm s.M k<s.G.length
 ne : ∀ g∈s.G,g≠[]
theorem Um {ky:List Val->ByteArray} {s:Gs} (h:ZP s) (r:List Val):ZP (jY ky s r):=by
 unfold jY
 cases hb:ji s.M (ky r) with
 | true =>
  rw [aa']
  refine ⟨fun k hk=>?_,fun g hg=>?_⟩
  ·have:=h.idx k hk;simpa using this
  ·rcases List.mem_or_eq_of_mem_set hg with hg|rfl
   ·exact h.ne g hg
   ·simp
 | false =>
  rw [aa_]
  refine ⟨fun k hk=>?_,fun g hg=>?_⟩
  ·simp only [abg,List.length_singleton]
   rw [nX]
   rcases Uv _ _ _ _ hk with e|e
   ·rw [if_pos e];omega
   ·have:=h.idx k e
    split<;>omega
  ·rcases abC.1 hg with hg|hg
   ·exact h.ne g hg
   ·simp at hg;subst hg;simp
theorem U8 (ky:List Val->ByteArray) (rows:List (List Val)):ZP (kM ky rows):=by
 have : ∀ (rows:List (List Val)) (s:Gs),ZP s->ZP (rows.foldl (jY ky) s):=by
  intro rows
  induction rows with
  | nil=>intro s h;exact h
  | cons r rows ih=>intro s h;exact ih _ (Um h r)
 exact this rows ⟨[],[]⟩ ⟨fun k hk=>by simp [ji,dQ,iR] at hk,fun g hg=>by cases hg⟩
theorem R4 (ky:List Val->ByteArray) (s:Gs) (r:List Val):s.G.length<=(jY ky s r).G.length/\(jY ky s r).G.length<=s.G.length+1:=by
 unfold jY
 cases ji s.M (ky r)<;>simp
theorem Q9 (ky:List Val->ByteArray) (rows:List (List Val)):(kM ky rows).G.length<=rows.length:=by
 have : ∀ (rows:List (List Val)) (s:Gs),(rows.foldl (jY ky) s).G.length<=s.G.length+rows.length:=by
  intro rows
  induction rows with
  | nil=>intro s;simp
  | cons r rows ih=>intro s;have:=ih (jY ky s r);have:=(R4 ky s r).2;rw [abX];simp only [abw];omega
 have:=this rows ⟨[],[]⟩
 simpa [kM] using this
def gJ:Ob := .row (23+65536) [[.emp]] 1
def gX (g:List (List Val)):List (List AC):=g.map fun r=>[bO r]
def yx:Nat->kR->List (List SV)
 | _,[]=>[]
 | i,g::r=>[.own (gX g) (5+2*i)]::yx (i+1) r
def QC:kR->List Ob
 | []=>[]
 | g::r=>gJ :: .spare g.length 1::QC r
def Jl:kR->List Ob
 | []=>[]
 | g::r => .spare g.length 1::QC r
theorem wZ : ∀ (G:kR) (k:Nat),(yx k G).length=G.length
 | [],_=>rfl
 | g::r,k=>by simp [yx,wZ r]
theorem Qw : ∀ (G:kR) (k i:Nat) (g:List (List Val)),G[i]?=some g->(yx k G)[i]?=some [.own (gX g) (5+2*(k+i))]
 | [],_,_,_,h=>by simp at h
 | x::r,k,0,g,h=>by simp at h;subst h;rfl
 | x::r,k,i+1,g,h=>by
  have:=Qw r (k+1) i g (by simpa using h)
  simp only [yx,List.getElem?_cons_succ]
  rw [this]
  have e:k+1+i=k+(i+1):=by omega
  rw [e]
theorem PR : ∀ (G:kR) (k i:Nat) (g':List (List Val)),i<G.length->(yx k G).set i [.own (gX g') (5+2*(k+i))]=yx k (G.set i g')
 | [],_,_,_,h=>by simp at h
 | x::r,k,0,g',h=>by simp [yx]
 | x::r,k,i+1,g',h=>by
  have:=PR r (k+1) i g' (by simpa using h)
  have e:k+1+i=k+(i+1):=by omega
  rw [e] at this
  simp only [yx,List.set_cons_succ,this]
theorem LQ : ∀ (G:kR) (k:Nat) (g:List (List Val)),yx k (G++[g])=yx k G++[[.own (gX g) (5+2*(k+G.length))]]
 | [],k,g=>rfl
 | x::r,k,g=>by
  have:=LQ r (k+1) g
  have e:k+1+r.length=k+(r.length+1):=by omega
  rw [e] at this
  simp [yx,this]
theorem Iy : ∀ (G:kR) (k n:Nat),4+2*(k+G.length)<=n -> ∀ e∈yx k G, ∀ x∈e,x.below n
 | [],_,_,_=>by intro e he;cases he
 | g::r,k,n,h=>by
  intro e he x hx
  simp only [abw] at h
  rcases abq.1 he with rfl|he
  ·rcases abq.1 hx with rfl|hx
   ·show 5+2*k<n;omega
   ·cases hx
  ·exact Iy r (k+1) n (by omega) e he x hx
theorem PS : ∀ (r:kR),(QC r).length=2*r.length
 | []=>rfl
 | g::r=>by simp [QC,PS r];omega
theorem PI : ∀ (r:kR) (i:Nat) (g:List (List Val)),r[i]?=some g->(QC r)[2*i+1]?=some (.spare g.length 1)
 | [],_,_,h=>by simp at h
 | x::r,0,g,h=>by simp at h;subst h;rfl
 | x::r,i+1,g,h=>by
  have:=PI r i g (by simpa using h)
  have e:2*(i+1)+1=(2*i+1)+1+1:=by omega
  rw [e];simpa [QC] using this
theorem PX : ∀ (r:kR) (i:Nat) (g':List (List Val)),i<r.length->(QC r).set (2*i+1) (.spare g'.length 1)=QC (r.set i g')
 | [],_,_,h=>by simp at h
 | x::r,0,g',h=>by simp [QC]
 | x::r,i+1,g',h=>by
  have:=PX r i g' (by simpa using h)
  have e:2*(i+1)+1=(2*i+1)+1+1:=by omega
  rw [e];simp only [QC,List.set_cons_succ,this]
theorem Ml : ∀ (r:kR) (g:List (List Val)),QC (r++[g])=QC r++[gJ, .spare g.length 1]
 | [],g=>rfl
 | x::r,g=>by simp [QC,Ml r g]
theorem PG {G:kR} (h:G≠[]):(Jl G).length+1=2*G.length:=by
 cases G with
 | nil=>exact absurd rfl h
 | cons g r=>simp [Jl,PS];omega
theorem We {G:kR} {i:Nat} {g:List (List Val)} (h:G[i]?=some g):(Jl G)[2*i]?=some (.spare g.length 1):=by
 cases G with
 | nil=>simp at h
 | cons x r =>
  cases i with
  | zero=>simp at h;subst h;rfl
  | succ i =>
   have:=PI r i g (by simpa using h)
   have e:2*(i+1)=(2*i+1)+1:=by omega
   rw [e];simpa [Jl] using this
theorem VT {G:kR} {i:Nat} (g':List (List Val)) (h:i<G.length):(Jl G).set (2*i) (.spare g'.length 1)=Jl (G.set i g'):=by
 cases G with
 | nil=>simp at h
 | cons x r =>
  cases i with
  | zero=>simp [Jl]
  | succ i =>
   have:=PX r i g' (by simpa using h)
   have e:2*(i+1)=(2*i+1)+1:=by omega
   rw [e];simp only [Jl,List.set_cons_succ,this]
theorem Ty {G:kR} (g:List (List Val)) (h:G≠[]):Jl (G++[g])=Jl G++[gJ, .spare g.length 1]:=by
 cases G with
 | nil=>exact absurd rfl h
 | cons x r=>simp [Jl,Ml]
theorem dn (n:Nat):gJ.below n:=by
 intro e he x hx
 rcases abq.1 he with rfl|he
 ·rcases abq.1 hx with rfl|hx
  ·trivial
  ·cases hx
 ·cases he
theorem JN (n:Nat) : ∀ (r:kR), ∀ x∈QC r,x.below n
 | [],x,hx=>by cases hx
 | g::r,x,hx=>by
  rcases abq.1 hx with rfl|hx
  ·exact dn n
  ·rcases abq.1 hx with rfl|hx
   ·trivial
   ·exact JN n r x hx
theorem Rv (n:Nat) (G:kR) : ∀ x∈Jl G,x.below n:=by
 cases G with
 | nil=>intro x hx;cases hx
 | cons g r =>
  intro x hx
  rcases abq.1 hx with rfl|hx
  ·trivial
  ·exact JN n r x hx
theorem IK : ∀ {n:Nat} {L:List Ob}, (∀ x∈L,x.below n)->GZ n L
 | _,[],_=>trivial
 | _,x::L,h=>⟨h x (by simp),IK fun y hy=>h y (aby _ hy)⟩
def hd3 (kk:List Int) (rows:List (List Val)) (M:List (ByteArray × Int)):List Ob:=[.box [.c (bB kk), .c (bM rows)], .box [.emp, .emp], .map (dQ M)]
def Cz (kk:List Int) (rows:List (List Val)) (M:List (ByteArray × Int)) (G:kR):List Ob:=hd3 kk rows M++[gJ, .row (23+65536*G.length) (yx 0 G) 1]++Jl G
theorem Ee {kk:List Int} {rows:List (List Val)} {M:List (ByteArray × Int)} {G:kR} (h:G≠[]):(Cz kk rows M G).length=4+2*G.length:=by
 have:=PG h
 simp [Cz,hd3];omega
theorem bL (n:Nat):(Ob.box [.emp, .emp]).below n:=by
 intro x hx
 rcases abq.1 hx with rfl|hx
 ·trivial
 rcases abq.1 hx with rfl|hx
 ·trivial
 cases hx
theorem Sr {kk:List Int} {rows:List (List Val)} {M:List (ByteArray × Int)} {G:kR} {n:Nat} (hn:4+2*G.length<=n) : ∀ x∈Cz kk rows M G,x.below n:=by
 intro x hx
 unfold Cz hd3 at hx
 simp only [List.cons_append,abd,abq,abC,List.not_mem_nil,or_false,or_assoc] at hx
 rcases hx with rfl|rfl|rfl|rfl|rfl|hx
 ·exact a_
 ·exact bL n
 ·exact bN n M
 ·exact dn n
 ·exact Iy G 0 n (by omega)
 ·exact Rv n G x hx
theorem Qh {P:Program} {ti:TI} {N:Nat} {ds:List (Option Tmp)} {K:Tm->List Ob->Prop} {o:Oper} {rest:List Oper} {T:Tm} {L L':List Ob} {x y:Operand} {t tx E:TypeId} {es xs:List (List AC)} {i n k by_ d:Nat} {vx:AV} (hd:o.dst=some d) (hN:Nat.blt d N=true) (hg:jk ds T o.guard=some true)
  (ho:o.op = .call { callee := .builtin .append,args := #[x,y],argTypes := #[t,tx] }) (hx:look T x=some (.one (.own es i))) (hy:look T y=some vx) (hl:eF vx=some xs) (ht:ti.elem t=some E) (hsz:ti.size E=some k) (hb:ti.bytes E=some by_) (hL:L[i]?=some (.spare n k))
  (hφ:(ti.elem tx).isSome/\es.length=n/\(ti.zok E=true/\0<k)/\(∀ e∈xs,e.length=k)/\(n+xs.length)*by_<=140737488355328/\n+xs.length<=140737488355328) (hL':L.set i (.spare (n+xs.length) k)=L')
  (h:aU P ti N ds K rest ((d, .one (.own (es++xs) i))::T) L'):aU P ti N ds K (o::rest) T L :=
 az hd hN hg (v := .one (.own (es++xs) i)) (L':=L.set i (.spare (n+xs.length) k)) (φ:=(ti.elem tx).isSome/\k=k/\es.length=n/\(ti.zok E=true/\0<k)/\(∀ e∈xs,e.length=k)/\(n+xs.length)*by_<=140737488355328/\n+xs.length<=140737488355328)
  (by rw [ho];simp [Ec,hx,hy,zt,hl,ht,hsz,hb,hL]) ⟨hφ.1,rfl,hφ.2⟩ (by rw [hL'];exact h)
theorem EB (k:List Int) (l:List (List Val)) (hk:k.length<=1000000) (hl:l.length<=300) (hr : ∀ r∈l,r≠[]/\r.length<=1000000):Pure Tryz.prog 58 [.one (bB k), .one (bM l)] (.val (.agg [bB k,bM (aI l)])):=by
 have h:mI k l=some ⟨k,aI l⟩:=by
  unfold mI tq
  rw [abb (show k.length<=17592186044416 by omega),aa',Bp hl hr];rfl
 exact mq h
end Go.Proofs.YtfpbmfalamappaaGreatDoor
