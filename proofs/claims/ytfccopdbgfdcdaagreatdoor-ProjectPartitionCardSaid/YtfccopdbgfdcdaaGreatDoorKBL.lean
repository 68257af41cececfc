/- Parts of the proof, joined. No condition. -/
import Derived.Test.YtfccopdbgfdcdaaGreatDoorKBI
import Derived.Test.YtfccopdbgfdcdaaGreatDoorKBK
import Derived.Test.YtfccopdbgfdcdaaGreatDoorKAM
import Derived.Lib.Bytealg
import Derived.Test.YtfccopdbgfdcdaaGreatDoorKAL
set_option linter.unusedSimpArgs false
set_option linter.unusedVariables false
namespace Go.Proofs.YtfccopdbgfdcdaaGreatDoor
open Go.RowKit Go.MapKept
set_option maxRecDepth 100000
abbrev AC2:=AC × AC
def posFG (c:AC2→AC2→Int) (A:List AC2) (x:AC2):Nat→Nat
 | 0=>0
 | j+1=>match A[j]? with
  | some y=>if c x y<0 then posFG c A x j else j+1
  | none=>j+1
def insRG (c:AC2→AC2→Int) (A:List AC2) (x:AC2):List AC2:=A.take (posFG c A x A.length)++x::A.drop (posFG c A x A.length)
def isortG (c:AC2→AC2→Int) (l:List AC2):List AC2:=l.foldl (insRG c) []
def gCG (x:AC2):List SV:=[.c x.1, .c x.2]
def GWx (A:List AC2) (x:AC2) (j:Nat) (rest:List AC2):List AC2:=A.take j++x::(A.drop j++rest)
theorem insR_lenG (c:AC2→AC2→Int) (A:List AC2) (x:AC2):(insRG c A x).length=A.length+1:=by
 unfold insRG;rw [List.length_append,List.length_cons,List.length_take,List.length_drop];omega
theorem isort_lenG (c:AC2→AC2→Int) (l:List AC2):(isortG c l).length=l.length:=by
 have : ∀ (l A:List AC2),(l.foldl (insRG c) A).length=A.length+l.length:=by
  intro l
  induction l with
  | nil=>intro A;simp
  | cons x l ih=>intro A;rw [List.foldl_cons,ih,insR_lenG,List.length_cons];omega
 have:=this l []
 simpa [isortG] using this
theorem insR_memG {c:AC2→AC2→Int} {A:List AC2} {x y:AC2} (h:y∈insRG c A x):y=x∨y∈A:=by
 unfold insRG at h
 rcases List.mem_append.1 h with h|h
 ·exact .inr (List.mem_of_mem_take h)
 ·rcases List.mem_cons.1 h with h|h
  ·exact .inl h
  ·exact .inr (List.mem_of_mem_drop h)
theorem isort_memG {c:AC2→AC2→Int} {l:List AC2} {y:AC2} (h:y∈isortG c l):y∈l:=by
 have : ∀ (l A:List AC2),y∈l.foldl (insRG c) A→y∈A∨y∈l:=by
  intro l
  induction l with
  | nil=>intro A h;exact .inl h
  | cons x l ih =>
   intro A h
   rw [List.foldl_cons] at h
   rcases ih _ h with h|h
   ·rcases insR_memG h with h|h
    ·exact .inr (by rw [h];simp)
    ·exact .inl h
   ·exact .inr (List.mem_cons_of_mem _ h)
 rcases this l [] h with h|h
 ·cases h
 ·exact h
theorem isort_snocG (c:AC2→AC2→Int) (l:List AC2) (x:AC2):isortG c (l++[x])=insRG c (isortG c l) x:=by unfold isortG;rw [List.foldl_append];rfl
theorem GWx_get {A rest:List AC2} {x:AC2} {j:Nat} (h:j≤A.length):(GWx A x j rest)[j]?=some x:=by
 unfold GWx
 rw [List.getElem?_append_right (by rw [List.length_take];omega)]
 have:j-(A.take j).length=0:=by rw [List.length_take];omega
 rw [this];rfl
theorem GWx_split {A rest:List AC2} {x y:AC2} {j:Nat} (hy:A[j]?=some y):GWx A x (j+1) rest=A.take j++y::x::(A.drop (j+1)++rest)∧GWx A x j rest=A.take j++x::y::(A.drop (j+1)++rest):=by
 obtain ⟨h,e⟩:=List.getElem?_eq_some_iff.1 hy
 refine ⟨?_,?_⟩
 ·unfold GWx;rw [take_succ hy];simp
 ·unfold GWx;rw [List.drop_eq_getElem_cons h,e];rfl
theorem GWx_get1 {A rest:List AC2} {x y:AC2} {j:Nat} (hy:A[j]?=some y):(GWx A x (j+1) rest)[j]?=some y:=by
 have h:=(List.getElem?_eq_some_iff.1 hy).1
 rw [(GWx_split hy).1,List.getElem?_append_right (by rw [List.length_take];omega)]
 have:j-(A.take j).length=0:=by rw [List.length_take];omega
 rw [this];rfl
theorem GWx_swap {A rest:List AC2} {x y:AC2} {j:Nat} (hy:A[j]?=some y):((GWx A x (j+1) rest).map gCG |>.set (j+1) (gCG y)).set j (gCG x)=(GWx A x j rest).map gCG:=by
 have h:=(List.getElem?_eq_some_iff.1 hy).1
 rw [(GWx_split hy).1,(GWx_split hy).2]
 have hl:((A.take j).map gCG).length=j:=by rw [List.length_map,List.length_take];omega
 simp only [List.map_append,List.map_cons]
 generalize (A.take j).map gCG=P0 at hl
 subst hl
 rw [List.set_append_right _ _ (by omega),List.set_append_right _ _ (by omega)]
 simp
theorem insR_WG (c:AC2→AC2→Int) (A:List AC2) (x:AC2) (rest:List AC2):insRG c A x++rest=GWx A x (posFG c A x A.length) rest:=by unfold insRG GWx;simp
theorem rowC_belowG (n v k:Nat) (l:List AC2):(Ob.row v (l.map gCG) k).below n:=by
 intro e he x hx
 obtain ⟨y,_,rfl⟩:=List.mem_map.1 he
 simp only [gCG,List.mem_cons,List.not_mem_nil,or_false] at hx
 rcases hx with rfl|rfl<;>trivial
set_option maxHeartbeats 2000000 in
theorem isort_runG (F:FuncId) (c:AC2→AC2→Int) (v:Nat) (xs:List AC2) (n:Nat) (hn:xs.length=n) (hn2:n≤100000) (hcmp : ∀ x y,x∈xs→y∈xs→Pure Tryz.prog F [.agg [x.1,x.2], .agg [y.1,y.2]] (vInt (c x y))):Run Tryz.prog 208 [.row v (xs.map gCG) 2] [.one (.sl 0 v 0 n), .one (.c (.int .i64 0)), .one (.c (.int .i64 n)), .one (.c (.fn F []))] [.row v ((isortG c xs).map gCG) 2] (.tup []):=by
 refine run_of_aw tab_ok Tryz.func208 rfl rfl Tryz.ntmps208 (by simp) ?_
 simp only [argA]
 repeat' (first
  | refine st_nil ?_
  | refine st_pop rfl rfl rfl rfl ph_ ?_
  | refine st_lop rfl rfl rfl rfl ph_ ?_
  | refine sS_ rfl rfl rfl ph_ ?_
  | refine st_lit rfl rfl rfl rfl ph_ ?_
  | refine st_skip rfl rfl rfl ?_
  | refine sk0_ rfl rfl ?_
  | (refine st_if rfl (fun hb=>?_) (fun hb=>?_)<;>(first|exact (fx_ hb).elim|rw [hb]))
  | refine aw_seq ?_
  | refine aw_region tab_ok _ rfl ?_
  | refine aw_drawn2 tabS_ok _ rfl mx_ (by decide +kernel) ?_
  | (refine aw_cond rfl (fun hb=>?_) (fun hb=>?_)<;>(try exact (fx_ hb).elim))
  | refine aw_block ?_
  | refine aw_exit ?_
  | refine aw_ret ?_
  | refine aw_skip ?_)
 refine aw_loop (fun i:Nat=>[(0, .one (.sl 0 v 0 n)),(1, .one (.c (.int .i64 0))),(2, .one (.c (.int .i64 n))),(3, .one (.c (.fn F []))),(8, .one (.c (.int .i64 i)))]) (fun i=>[.row v ((isortG c (xs.take i)++xs.drop i).map gCG) 2]) (fun i=>1≤i∧(i≤n∨i=1)) (fun i=>n-i) 1 ⟨by omega, .inr rfl⟩ (fun _ _=>Nat.le_refl _)
  (fm_ ⟨rfl,rfl,rfl,rfl,rfl,trivial⟩ [] ?_ ⟨(by show 0<1;omega),trivial,trivial,trivial,trivial,trivial⟩ ⟨rowC_belowG _ _ _ _,trivial⟩) ?_
 ·match xs with
  | []=>rfl
  | x::xs=>rfl
 rintro i ⟨hi1,hi⟩
 by_cases hlt:i<n
 ·obtain ⟨x,hx⟩:=gol_ (show i<xs.length by omega)
  have hAl:(isortG c (xs.take i)).length=i:=by rw [isort_lenG,List.length_take];omega
  have hAm : ∀ y∈isortG c (xs.take i),y∈xs:=fun y hy=>List.mem_of_mem_take (isort_memG hy)
  have hxm:x∈xs:=List.mem_of_getElem? hx
  have hnext:isortG c (xs.take (i+1))=insRG c (isortG c (xs.take i)) x:=by rw [take_succ hx,isort_snocG]
  have hdrop:xs.drop i=x::xs.drop (i+1):=by obtain ⟨h,e⟩:=List.getElem?_eq_some_iff.1 hx;rw [List.drop_eq_getElem_cons h,e]
  have hstart:isortG c (xs.take i)++xs.drop i=GWx (isortG c (xs.take i)) x i (xs.drop (i+1)):=by
   have h1:(isortG c (xs.take i)).take i=isortG c (xs.take i):=List.take_of_length_le (by omega)
   have h2:(isortG c (xs.take i)).drop i=[]:=List.drop_of_length_le (by omega)
   unfold GWx;rw [h1,h2,hdrop];rfl
  have hrl:(xs.drop (i+1)).length=n-(i+1):=by rw [List.length_drop,hn]
  rw [hstart]
  generalize isortG c (xs.take i)=A at hAl hAm hnext
  generalize hrest:xs.drop (i+1)=rest at hrl
  repeat' (first
   | refine st_nil ?_
   | refine st_pop rfl rfl rfl rfl ph_ ?_
   | refine st_lop rfl rfl rfl rfl ph_ ?_
   | refine sS_ rfl rfl rfl ph_ ?_
   | refine st_lit rfl rfl rfl rfl ph_ ?_
   | refine st_skip rfl rfl rfl ?_
   | refine sk0_ rfl rfl ?_
   | (refine st_if rfl (fun hb=>?_) (fun hb=>?_)<;>(first|exact (fx_ hb).elim|rw [hb]))
   | refine aw_seq ?_
   | refine aw_region tab_ok _ rfl ?_
   | refine aw_drawn2 tabS_ok _ rfl mx_ (by decide +kernel) ?_
   | (refine aw_cond rfl (fun hb=>?_) (fun hb=>?_)<;>(try exact (fx_ hb).elim))
   | refine aw_block ?_
   | refine aw_exit ?_
   | refine aw_ret ?_
   | refine aw_skip ?_)
  refine aw_loop (fun j:Nat=>[(0, .one (.sl 0 v 0 n)),(1, .one (.c (.int .i64 0))),(2, .one (.c (.int .i64 n))),(3, .one (.c (.fn F []))),(8, .one (.c (.int .i64 i))),(9, .one (.c (.int .i64 j)))]) (fun j=>[.row v ((GWx A x j rest).map gCG) 2]) (fun j=>j≤i∧posFG c A x i=posFG c A x j) (fun j=>j) i ⟨by omega,rfl⟩ (fun _ _=>Nat.le_refl _)
   (fm_ ⟨rfl,rfl,rfl,rfl,rfl,rfl,trivial⟩ [] rfl ⟨(by show 0<1;omega),trivial,trivial,trivial,trivial,trivial,trivial⟩ ⟨rowC_belowG _ _ _ _,trivial⟩) ?_
  rintro j ⟨hj,hpos⟩
  match j,hj,hpos with
  | 0,hj,hpos =>
   repeat' (first
    | refine st_nil ?_
    | refine st_pop rfl rfl rfl rfl ph_ ?_
    | refine st_lop rfl rfl rfl rfl ph_ ?_
    | refine sS_ rfl rfl rfl ph_ ?_
    | refine st_lit rfl rfl rfl rfl ph_ ?_
    | refine st_skip rfl rfl rfl ?_
    | refine sk0_ rfl rfl ?_
    | (refine st_if rfl (fun hb=>?_) (fun hb=>?_)<;>(first|exact (fx_ hb).elim|rw [hb]))
    | refine aw_seq ?_
    | refine aw_region tab_ok _ rfl ?_
    | refine aw_drawn2 tabS_ok _ rfl mx_ (by decide +kernel) ?_
    | (refine aw_cond rfl (fun hb=>?_) (fun hb=>?_)<;>(try exact (fx_ hb).elim))
    | refine aw_block ?_
    | refine aw_exit ?_
    | refine aw_ret ?_
    | refine aw_skip ?_)
   all_goals exact ⟨i+1,⟨by omega, .inl (by omega)⟩,by omega,fm_ ⟨rfl,rfl,rfl,rfl,slot_int (wrap_eq (by omega) (by omega)),trivial⟩ [] (by rw [hnext,hrest,insR_WG,hAl,hpos];rfl) ⟨(by show 0<1;omega),trivial,trivial,trivial,trivial,trivial⟩ ⟨rowC_belowG _ _ _ _,trivial⟩⟩
  | j+1,hj,hpos =>
   obtain ⟨y,hy⟩:=gol_ (show j<A.length by omega)
   have hw:IntKind.i64.wrap (((j+1:Nat):Int)-1)=((j:Nat):Int):=wrap_eq (by omega) (by omega)
   have hg1:((GWx A x (j+1) rest).map gCG)[j+1]?=some [.c x.1, .c x.2]:=by rw [List.getElem?_map,GWx_get (by omega)];rfl
   have hg2:((GWx A x (j+1) rest).map gCG)[j]?=some [.c y.1, .c y.2]:=by rw [List.getElem?_map,GWx_get1 hy];rfl
   have hpj:posFG c A x (j+1)=if c x y<0 then posFG c A x j else j+1:=by simp only [posFG,hy]
   have e1:0+((j+1:Nat):Int).toNat=j+1:=by simp
   have e2:0+((j:Nat):Int).toNat=j:=by simp
   repeat' (first
    | refine st_nil ?_
    | (refine st_ldrs rfl rfl rfl rfl rfl rfl rfl rfl (e:=[.c x.1, .c x.2]) (by simpa using hg1) (xs:=[.c x.1, .c x.2]) rfl (Nat.le_refl _) ?_)
    | (refine st_ldrs rfl rfl rfl rfl rfl rfl rfl rfl (e:=[.c y.1, .c y.2]) (by rw [hw];simpa using hg2) (xs:=[.c y.1, .c y.2]) rfl (Nat.le_refl _) ?_)
    | (refine st_str rfl rfl rfl rfl rfl rfl (e:=[.c x.1, .c x.2]) (by simpa using hg1) ⟨Nat.le_refl _,rfl⟩ rfl ?_)
    | (refine st_str rfl rfl rfl rfl rfl rfl (e:=[.c y.1, .c y.2]) (by rw [hw,e1,e2,List.getElem?_set_ne (by omega)];exact hg2) ⟨Nat.le_refl _,rfl⟩ rfl ?_)
    | (refine st_pop rfl rfl rfl rfl ?_ ?_; · (repeat' (first|exact trivial|rfl|exact Nat.le_of_ble_eq_true rfl|omega|(rw [hw];omega)|apply And.intro)))
    | (refine st_lop rfl rfl rfl rfl ?_ ?_; · (repeat' (first|exact trivial|rfl|exact Nat.le_of_ble_eq_true rfl|omega|(rw [hw];omega)|apply And.intro)))
    | (refine sS_ rfl rfl rfl ?_ ?_; · (repeat' (first|exact trivial|rfl|exact Nat.le_of_ble_eq_true rfl|omega|(rw [hw];omega)|apply And.intro)))
    | (refine st_lit rfl rfl rfl rfl ?_ ?_; · (repeat' (first|exact trivial|rfl|exact Nat.le_of_ble_eq_true rfl|omega|(rw [hw];omega)|apply And.intro)))
    | refine st_skip rfl rfl rfl ?_
    | refine sk0_ rfl rfl ?_
    | refine st_call rfl rfl rfl rfl (hcmp x y hxm (hAm y (List.mem_of_getElem? hy))) rfl ?_
    | (refine st_if rfl (fun hb=>?_) (fun hb=>?_)<;>(first|exact (fx_ hb).elim|rw [hb]))
    | refine aw_seq ?_
    | refine aw_region tab_ok _ rfl ?_
    | refine aw_drawn2 tabS_ok _ rfl mx_ (by decide +kernel) ?_
    | (refine aw_cond rfl (fun hb=>?_) (fun hb=>?_)<;>(try exact (fx_ hb).elim))
    | refine aw_block ?_
    | refine aw_exit ?_
    | refine aw_ret ?_
    | refine aw_skip ?_)
   ·have hlt0:c x y<0:=of_decide_eq_true hb
    rw [if_pos hlt0] at hpj
    exact ⟨j,⟨by omega,hpos.trans hpj⟩,by omega,fm_ ⟨rfl,rfl,rfl,rfl,rfl,slot_int hw,trivial⟩ [] (by rw [← GWx_swap hy,hw,e1,e2];rfl) ⟨(by show 0<1;omega),trivial,trivial,trivial,trivial,trivial,trivial⟩ ⟨rowC_belowG _ _ _ _,trivial⟩⟩
   ·have hge : ¬ c x y<0:=of_decide_eq_false hb
    rw [if_neg hge] at hpj
    exact ⟨i+1,⟨by omega, .inl (by omega)⟩,by omega,fm_ ⟨rfl,rfl,rfl,rfl,slot_int (wrap_eq (by omega) (by omega)),trivial⟩ [] (by rw [hnext,hrest,insR_WG,hAl,hpos.trans hpj];rfl) ⟨(by show 0<1;omega),trivial,trivial,trivial,trivial,trivial⟩ ⟨rowC_belowG _ _ _ _,trivial⟩⟩
 ·have hi2:n≤i:=by omega
  repeat' (first
   | refine st_nil ?_
   | refine st_pop rfl rfl rfl rfl ph_ ?_
   | refine st_lop rfl rfl rfl rfl ph_ ?_
   | refine sS_ rfl rfl rfl ph_ ?_
   | refine st_lit rfl rfl rfl rfl ph_ ?_
   | refine st_skip rfl rfl rfl ?_
   | refine sk0_ rfl rfl ?_
   | (refine st_if rfl (fun hb=>?_) (fun hb=>?_)<;>(first|exact (fx_ hb).elim|rw [hb]))
   | refine aw_seq ?_
   | refine aw_region tab_ok _ rfl ?_
   | refine aw_drawn2 tabS_ok _ rfl mx_ (by decide +kernel) ?_
   | (refine aw_cond rfl (fun hb=>?_) (fun hb=>?_)<;>(try exact (fx_ hb).elim))
   | refine aw_block ?_
   | refine aw_exit ?_
   | refine aw_ret ?_
   | refine aw_skip ?_)
  have htk:xs.take i=xs:=List.take_of_length_le (by omega)
  have hdr:xs.drop i=[]:=List.drop_of_length_le (by omega)
  exact ⟨.inl rfl,⟨.inr ⟨.tup [],⟨trivial,rfl⟩,rfl⟩,⟨[],by rw [htk,hdr,List.append_nil,List.append_nil]⟩,by simp,mem_below ⟨rowC_belowG _ _ _ _,trivial⟩,trivial⟩⟩
theorem row_renG (σ:List Nat) (v k:Nat) (l:List AC2):(Ob.row v (l.map gCG) k).ren σ=Ob.row v (l.map gCG) k:=by
 simp only [Ob.ren,List.map_map];rfl
theorem rf1G {L:List Ob} {v k:Nat} {l:List AC2} {x:AV} {xs:List AV} (h0:L[0]?=some (Ob.row v (l.map gCG) k)) (hx : ∀ y∈x::xs,y.below 1):RunFits [0] [Ob.row v (l.map gCG) k] (x::xs) L:=by
 refine ⟨rfl,by simp,fun i y hy=>?_,mem_below ⟨rowC_belowG _ _ _ _,trivial⟩,hx⟩
 match i,hy with
 | 0,hy=>simp at hy;subst hy;rw [row_renG];exact h0
 | i+1,hy=>simp at hy
theorem j1G {L L':List Ob} {v k:Nat} {l:List AC2} (h:L.set 0 (Ob.row v (l.map gCG) k)=L'):joinL [0] L [Ob.row v (l.map gCG) k]=L':=by
 subst h
 simp [joinL,join,setAll,outIds,newIds,row_renG]
theorem stable_runG (F:FuncId) (c:AC2→AC2→Int) (v:Nat) (xs:List AC2) (n:Nat) (hn:xs.length=n) (hn2:n≤19) (hcmp : ∀ x y,x∈xs→y∈xs→Pure Tryz.prog F [.agg [x.1,x.2], .agg [y.1,y.2]] (vInt (c x y))):Run Tryz.prog 192 [.row v (xs.map gCG) 2] [.one (.sl 0 v 0 n), .one (.c (.int .i64 n)), .one (.c (.fn F []))] [.row v ((isortG c xs).map gCG) 2] (.tup []):=by
 refine run_of_aw tabX_ok Tryz.func192 rfl rfl Tryz.ntmps192 (by simp) ?_
 simp only [argA]
 repeat' (first
  | refine st_nil ?_
  | refine st_pop rfl rfl rfl rfl ph_ ?_
  | refine st_lop rfl rfl rfl rfl ph_ ?_
  | refine sS_ rfl rfl rfl ph_ ?_
  | refine st_lit rfl rfl rfl rfl ph_ ?_
  | refine st_skip rfl rfl rfl ?_
  | refine sk0_ rfl rfl ?_
  | (refine st_if rfl (fun hb=>?_) (fun hb=>?_)<;>(first|exact (fx_ hb).elim|rw [hb]))
  | refine aw_seq ?_
  | refine aw_region tabX_ok _ rfl ?_
  | refine aw_drawn2 tabXS_ok _ rfl mx_ (by decide +kernel) ?_
  | (refine aw_cond rfl (fun hb=>?_) (fun hb=>?_)<;>(try exact (fx_ hb).elim))
  | refine aw_block ?_
  | refine aw_exit ?_
  | refine aw_ret ?_
  | refine aw_skip ?_)
 refine aw_loop (fun _:Unit=>[(0, .one (.sl 0 v 0 n)),(1, .one (.c (.int .i64 n))),(2, .one (.c (.fn F []))),(6, .one (.c (.int .i64 20))),(7, .one (.c (.int .i64 0))),(8, .one (.c (.int .i64 20)))]) (fun _=>[.row v (xs.map gCG) 2]) (fun _=>True) (fun _=>0) () trivial (fun _ _=>Nat.le_refl _)
  (fm_ ⟨rfl,rfl,rfl,rfl,rfl,rfl,trivial⟩ [] rfl ⟨(by show 0<1;omega),trivial,trivial,trivial,trivial,trivial,trivial⟩ ⟨rowC_belowG _ _ _ _,trivial⟩) ?_
 intro _ _
 repeat' (first
  | refine st_nil ?_
  | refine st_pop rfl rfl rfl rfl ph_ ?_
  | refine st_lop rfl rfl rfl rfl ph_ ?_
  | refine sS_ rfl rfl rfl ph_ ?_
  | refine st_lit rfl rfl rfl rfl ph_ ?_
  | refine st_skip rfl rfl rfl ?_
  | refine sk0_ rfl rfl ?_
  | (refine st_run [0] rfl rfl rfl rfl (isort_runG F c v xs n hn (by omega) hcmp) rfl (rf1G rfl (args_below ⟨(by show 0<1;omega),trivial,trivial,trivial,trivial⟩)) rfl (j1G (L':=[.row v ((isortG c xs).map gCG) 2]) rfl) ?_)
  | (refine st_if rfl (fun hb=>?_) (fun hb=>?_)<;>(first|exact (fx_ hb).elim|rw [hb]))
  | refine aw_seq ?_
  | refine aw_region tabX_ok _ rfl ?_
  | refine aw_drawn2 tabXS_ok _ rfl mx_ (by decide +kernel) ?_
  | (refine aw_cond rfl (fun hb=>?_) (fun hb=>?_)<;>(try exact (fx_ hb).elim))
  | refine aw_block ?_
  | refine aw_exit ?_
  | refine aw_ret ?_
  | refine aw_skip ?_)
 refine aw_loop (fun _:Unit=>[(0, .one (.sl 0 v 0 n)),(1, .one (.c (.int .i64 n))),(2, .one (.c (.fn F []))),(6, .one (.c (.int .i64 20))),(7, .one (.c (.int .i64 0)))]) (fun _=>[.row v ((isortG c xs).map gCG) 2]) (fun _=>True) (fun _=>0) () trivial (fun _ _=>Nat.le_refl _)
  (fm_ ⟨rfl,rfl,rfl,rfl,rfl,trivial⟩ [] rfl ⟨(by show 0<1;omega),trivial,trivial,trivial,trivial,trivial⟩ ⟨rowC_belowG _ _ _ _,trivial⟩) ?_
 intro _ _
 repeat' (first
  | refine st_nil ?_
  | refine st_pop rfl rfl rfl rfl ph_ ?_
  | refine st_lop rfl rfl rfl rfl ph_ ?_
  | refine sS_ rfl rfl rfl ph_ ?_
  | refine st_lit rfl rfl rfl rfl ph_ ?_
  | refine st_skip rfl rfl rfl ?_
  | refine sk0_ rfl rfl ?_
  | (refine st_if rfl (fun hb=>?_) (fun hb=>?_)<;>(first|exact (fx_ hb).elim|rw [hb]))
  | refine aw_seq ?_
  | refine aw_region tabX_ok _ rfl ?_
  | refine aw_drawn2 tabXS_ok _ rfl mx_ (by decide +kernel) ?_
  | (refine aw_cond rfl (fun hb=>?_) (fun hb=>?_)<;>(try exact (fx_ hb).elim))
  | refine aw_block ?_
  | refine aw_exit ?_
  | refine aw_ret ?_
  | refine aw_skip ?_)
 all_goals exact ⟨.inl rfl,⟨.inr ⟨.tup [],⟨trivial,rfl⟩,rfl⟩,⟨[],rfl⟩,by simp,mem_below ⟨rowC_belowG _ _ _ _,trivial⟩,trivial⟩⟩
theorem sortS_runG (F:FuncId) (c:AC2→AC2→Int) (v:Nat) (xs:List AC2) (n:Nat) (hn:xs.length=n) (hn2:n≤19) (hcmp : ∀ x y,x∈xs→y∈xs→Pure Tryz.prog F [.agg [x.1,x.2], .agg [y.1,y.2]] (vInt (c x y))):Run Tryz.prog 171 [.row v (xs.map gCG) 2] [.one (.sl 0 v 0 n), .one (.c (.fn F []))] [.row v ((isortG c xs).map gCG) 2] (.tup []):=by
 refine run_of_aw tabX_ok Tryz.func171 rfl rfl Tryz.ntmps171 (by simp) ?_
 simp only [argA]
 repeat' (first
  | refine st_nil ?_
  | refine st_pop rfl rfl rfl rfl ph_ ?_
  | refine st_lop rfl rfl rfl rfl ph_ ?_
  | refine sS_ rfl rfl rfl ph_ ?_
  | refine st_lit rfl rfl rfl rfl ph_ ?_
  | refine st_skip rfl rfl rfl ?_
  | refine sk0_ rfl rfl ?_
  | (refine st_run [0] rfl rfl rfl rfl (stable_runG F c v xs n hn hn2 hcmp) rfl (rf1G rfl (args_below ⟨(by show 0<1;omega),trivial,trivial,trivial⟩)) rfl (j1G (L':=[.row v ((isortG c xs).map gCG) 2]) rfl) ?_)
  | (refine st_if rfl (fun hb=>?_) (fun hb=>?_)<;>(first|exact (fx_ hb).elim|rw [hb]))
  | refine aw_seq ?_
  | refine aw_region tabX_ok _ rfl ?_
  | refine aw_drawn2 tabXS_ok _ rfl mx_ (by decide +kernel) ?_
  | (refine aw_cond rfl (fun hb=>?_) (fun hb=>?_)<;>(try exact (fx_ hb).elim))
  | refine aw_block ?_
  | refine aw_exit ?_
  | refine aw_ret ?_
  | refine aw_skip ?_)
 all_goals exact ⟨.inl rfl,⟨.inr ⟨.tup [],⟨trivial,rfl⟩,rfl⟩,⟨[],rfl⟩,by simp,mem_below ⟨rowC_belowG _ _ _ _,trivial⟩,trivial⟩⟩
theorem normR_gCG (l:List AC2):normR (l.map gCG)=some (l.map fun x=>[x.1,x.2]):=by
 have:=normR_c (l.map fun x=>[x.1,x.2])
 rw [List.map_map] at this
 exact this
def tabQ:TI := { tabX with dyn:=true }
theorem tabQ_ok:TIok Tryz.prog tabQ:=⟨tabX_ok.size,tabX_ok.agg,tabX_ok.elem,tabX_ok.field,tabX_ok.zero,tabX_ok.bytes,tabX_ok.kind,tabX_ok.struct,tabX_ok.zok,tabX_ok.eqs⟩
def bxG (_:GrpC):Ob := .dead
def gbG (g:GrpC):Ob := .row (141+65536) [[.c (tRow g.f.row), .emp]] 2
theorem gbG_below' (g:GrpC) (n:Nat):(gbG g).below n:=by
 intro e he x hx
 rw [List.mem_singleton.1 he] at hx
 rcases List.mem_cons.1 hx with rfl|hx
 ·trivial
 ·rcases List.mem_cons.1 hx with rfl|hx
  ·trivial
  ·cases hx
def pRow (ps:List Per):List (List AC):=ps.map cPer
def rowF:Nat→List GrpC→List (List SV)
 | _,[]=>[]
 | k,g::r=>[.c (tRow g.f.row), .own (pRow g.ps) (4+3*k)]::rowF (k+1) r
def tlC:List GrpC→List Ob
 | []=>[]
 | g::r=>bxG g::gbG g :: .spare g.ps.length 2::tlC r
def tkC:List GrpC→List Ob
 | []=>[]
 | g::r => .spare g.ps.length 2::tlC r
def gbH:List GrpC→Ob
 | [] => .dead
 | g::_=>gbG g
def objN (G:List GrpC):List Ob := .map (mOf 0 G) :: .dead::gbH G :: .row (141+65536*G.length) (rowF 0 G) 2::tkC G
theorem gbH_set {G:List GrpC} {i:Nat} {g:GrpC} (ps:List Per) (h:G[i]?=some g):gbH (G.set i ⟨g.f,ps⟩)=gbH G:=by
 cases G with
 | nil=>rfl
 | cons x r =>
  cases i with
  | zero=>simp at h;subst h;rfl
  | succ i=>rfl
theorem gbH_snoc {G:List GrpC} (g:GrpC) (h:G≠[]):gbH (G++[g])=gbH G:=by cases G with
 | nil=>exact absurd rfl h
 | cons x r=>rfl
theorem gbH_below (G:List GrpC) (n:Nat):(gbH G).below n:=by cases G with
 | nil=>trivial
 | cons x r=>exact gbG_below' x n
def objC:List GrpC→List Ob
 | []=>[.map []]
 | g::r=>objN (g::r)
theorem objC_ne {G:List GrpC} (h:G≠[]):objC G=objN G:=by cases G with
 | nil=>exact absurd rfl h
 | cons g r=>rfl
theorem rowF_len : ∀ (G:List GrpC) (k:Nat),(rowF k G).length=G.length
 | [],_=>rfl
 | g::r,k=>by simp [rowF,rowF_len r]
theorem rowF_get : ∀ (G:List GrpC) (k i:Nat) (g:GrpC),G[i]?=some g→(rowF k G)[i]?=some [.c (tRow g.f.row), .own (pRow g.ps) (4+3*(k+i))]
 | [],_,_,_,h=>by simp at h
 | x::r,k,0,g,h=>by simp at h;subst h;rfl
 | x::r,k,i+1,g,h=>by
  have:=rowF_get r (k+1) i g (by simpa using h)
  simp only [rowF,List.getElem?_cons_succ]
  rw [this,show k+1+i=k+(i+1) by omega]
theorem rowF_set : ∀ (G:List GrpC) (k i:Nat) (g:GrpC) (ps:List Per),G[i]?=some g→(rowF k G).set i [.c (tRow g.f.row), .own (pRow ps) (4+3*(k+i))]=rowF k (G.set i ⟨g.f,ps⟩)
 | [],_,_,_,_,h=>by simp at h
 | x::r,k,0,g,ps,h=>by simp at h;subst h;simp [rowF]
 | x::r,k,i+1,g,ps,h=>by
  have:=rowF_set r (k+1) i g ps (by simpa using h)
  rw [show k+1+i=k+(i+1) by omega] at this
  simp only [rowF,List.set_cons_succ,this]
theorem rowF_snoc : ∀ (G:List GrpC) (k:Nat) (g:GrpC),rowF k (G++[g])=rowF k G++[[.c (tRow g.f.row), .own (pRow g.ps) (4+3*(k+G.length))]]
 | [],k,g=>rfl
 | x::r,k,g=>by
  have:=rowF_snoc r (k+1) g
  simp only [List.cons_append,rowF,this,List.length_cons,show k+1+r.length=k+(r.length+1) by omega]
theorem rowF_below : ∀ (G:List GrpC) (k n:Nat),4+3*(k+G.length)≤n+2 → ∀ e∈rowF k G, ∀ x∈e,x.below n
 | [],_,_,_=>by intro e he;cases he
 | g::r,k,n,h=>by
  intro e he x hx
  simp only [List.length_cons] at h
  rcases List.mem_cons.1 he with rfl|he
  ·rcases List.mem_cons.1 hx with rfl|hx
   ·trivial
   ·rcases List.mem_cons.1 hx with rfl|hx
    ·show 4+3*k<n;omega
    ·cases hx
  ·exact rowF_below r (k+1) n (by omega) e he x hx
theorem normR_rowF : ∀ (G:List GrpC) (k:Nat),normR (rowF k G)=some (G.map fun g=>[tRow g.f.row, .lst (pRow g.ps)])
 | [],_=>rfl
 | g::r,k=>by
  have:=normR_rowF r (k+1)
  simp only [rowF,normR,normL,SV.norm,this,List.map_cons]
theorem tlC_len : ∀ r:List GrpC,(tlC r).length=3*r.length
 | []=>rfl
 | g::r=>by simp [tlC,tlC_len r];omega
theorem tlC_get : ∀ (r:List GrpC) (i:Nat) (g:GrpC),r[i]?=some g→(tlC r)[3*i+2]?=some (.spare g.ps.length 2)
 | [],_,_,h=>by simp at h
 | x::r,0,g,h=>by simp at h;subst h;rfl
 | x::r,i+1,g,h=>by
  have:=tlC_get r i g (by simpa using h)
  rw [show 3*(i+1)+2=(3*i+2)+1+1+1 by omega];simpa [tlC] using this
theorem tlC_set : ∀ (r:List GrpC) (i:Nat) (g:GrpC) (ps:List Per),r[i]?=some g→(tlC r).set (3*i+2) (.spare ps.length 2)=tlC (r.set i ⟨g.f,ps⟩)
 | [],_,_,_,h=>by simp at h
 | x::r,0,g,ps,h=>by simp at h;subst h;simp [tlC,bxG,gbG]
 | x::r,i+1,g,ps,h=>by
  have:=tlC_set r i g ps (by simpa using h)
  rw [show 3*(i+1)+2=(3*i+2)+1+1+1 by omega];simp only [tlC,List.set_cons_succ,this]
theorem tlC_snoc : ∀ (r:List GrpC) (g:GrpC),tlC (r++[g])=tlC r++[bxG g,gbG g, .spare g.ps.length 2]
 | [],g=>rfl
 | x::r,g=>by simp [tlC,tlC_snoc r g]
theorem tkC_len {G:List GrpC} (h:G≠[]):(tkC G).length+2=3*G.length:=by
 cases G with
 | nil=>exact absurd rfl h
 | cons g r=>simp [tkC,tlC_len];omega
theorem tkC_get {G:List GrpC} {i:Nat} {g:GrpC} (h:G[i]?=some g):(tkC G)[3*i]?=some (.spare g.ps.length 2):=by
 cases G with
 | nil=>simp at h
 | cons x r =>
  cases i with
  | zero=>simp at h;subst h;rfl
  | succ i =>
   have:=tlC_get r i g (by simpa using h)
   rw [show 3*(i+1)=(3*i+2)+1 by omega];simpa [tkC] using this
theorem tkC_set {G:List GrpC} {i:Nat} {g:GrpC} (ps:List Per) (h:G[i]?=some g):(tkC G).set (3*i) (.spare ps.length 2)=tkC (G.set i ⟨g.f,ps⟩):=by
 cases G with
 | nil=>simp at h
 | cons x r =>
  cases i with
  | zero=>simp at h;subst h;simp [tkC]
  | succ i =>
   have:=tlC_set r i g ps (by simpa using h)
   rw [show 3*(i+1)=(3*i+2)+1 by omega];simp only [tkC,List.set_cons_succ,this]
theorem tkC_snoc {G:List GrpC} (g:GrpC) (h:G≠[]):tkC (G++[g])=tkC G++[bxG g,gbG g, .spare g.ps.length 2]:=by
 cases G with
 | nil=>exact absurd rfl h
 | cons x r=>simp [tkC,tlC_snoc]
theorem objN_len {G:List GrpC} (h:G≠[]):(objN G).length=2+3*G.length:=by
 have h1:=tkC_len h
 simp [objN];omega
theorem belowL_of : ∀ {n:Nat} {L:List Ob}, (∀ x∈L,x.below n)→belowL n L
 | _,[],_=>trivial
 | n,x::L,h=>⟨h x (by simp),belowL_of fun y hy=>h y (List.mem_cons_of_mem _ hy)⟩
theorem gbG_below (g:GrpC) (n:Nat):(gbG g).below n:=by
 intro e he x hx
 rw [List.mem_singleton.1 he] at hx
 rcases List.mem_cons.1 hx with rfl|hx
 ·trivial
 ·rcases List.mem_cons.1 hx with rfl|hx
  ·trivial
  ·cases hx
theorem bxG_below (g:GrpC) (n:Nat):(bxG g).below n:=trivial
theorem mOf_below : ∀ (G:List GrpC) (k n:Nat),(Ob.map (mOf k G)).below n:=by
 intro G
 induction G with
 | nil=>intro k n p hp;cases hp
 | cons g r ih =>
  intro k n p hp
  rcases List.mem_cons.1 hp with rfl|hp
  ·trivial
  ·exact ih (k+1) n p hp
theorem tlC_below (n:Nat) : ∀ (r:List GrpC), ∀ x∈tlC r,x.below n
 | [],x,h=>by cases h
 | g::r,x,h=>by
  simp only [tlC,List.mem_cons] at h
  rcases h with rfl|rfl|rfl|h
  ·exact bxG_below g n
  ·exact gbG_below g n
  ·trivial
  ·exact tlC_below n r x h
theorem objC_below (G:List GrpC):belowL (objC G).length (objC G):=by
 cases G with
 | nil=>exact ⟨mOf_below [] 0 _,trivial⟩
 | cons g r =>
  have hl:=objN_len (G:=g::r) (by simp)
  refine belowL_of fun x hx=>?_
  show x.below (objN (g::r)).length
  rw [hl]
  have hx:x∈objN (g::r):=hx
  simp only [objN,tkC,List.mem_cons] at hx
  rcases hx with rfl|rfl|rfl|rfl|rfl|hx
  ·exact mOf_below _ 0 _
  ·trivial
  ·exact gbH_below _ _
  ·exact rowF_below (g::r) 0 _ (by simp only [List.length_cons];omega)
  ·trivial
  ·exact tlC_below _ r x hx
def slotC:List GrpC→AV
 | [] => .one .emp
 | g::r => .one (.sl 3 (141+65536*(g::r).length) 0 (g::r).length)
theorem slotC_ne {G:List GrpC} (h:G≠[]):slotC G = .one (.sl 3 (141+65536*G.length) 0 G.length):=by
 cases G with
 | nil=>exact absurd rfl h
 | cons g r=>rfl
theorem slotC_below (G:List GrpC):(slotC G).below (objC G).length:=by
 cases G with
 | nil=>trivial
 | cons g r =>
  show 3<(objN (g::r)).length
  rw [objN_len (by simp)];simp;omega
theorem un_slotC (id:Nat) (ts:List AC) (G:List GrpC):unA id ts (slotC G)=slotC G:=by cases G<;>rfl
section
variable {P:Program} {ti:TI} {N n0:Nat} {ds:List (Option Tmp)} {K:Tm→List Ob→Prop} {rest:List Oper} {o:Oper} {T T':Tm} {A:List Ob} {Q:AX→Tm→List Ob→Prop}
theorem st_storeE {t:TypeId} {p q:Operand} {cs xs:List SV} (hd:o.dst=none) (hg:gdv ds T o.guard=some true) (ho:o.op = .store t p q) (hp:look T p=some (.one (.ptr A.length 0))) (hq:(look T q).bind AV.cells=some xs) (hlen:xs.length=cs.length) (hsz:ti.size t=some xs.length) (h:awOps P ti N ds K rest T (A++[.box xs])):awOps P ti N ds K (o::rest) T (A++[.box cs]):=by
 refine sS_ hd hg (v := .undef) (L':=A++[.box xs]) (φ:=0+xs.length≤cs.length∧ti.size t=some xs.length) ?_ ⟨by omega,hsz⟩ h
 rw [ho]
 have e1:(A++[Ob.box cs])[A.length]?=some (.box cs):=by simp
 have e2:splice cs 0 xs=xs:=by unfold splice;simp [hlen]
 have e3:(A++[Ob.box cs]).set A.length (.box xs)=A++[.box xs]:=by rw [List.set_append_right _ _ (Nat.le_refl _),Nat.sub_self];rfl
 simp only [lop,hp,hq,e1,e2,e3]
theorem aw_frzE {c:Code} {cs:List SV} {ts:List AC} (hn:normL cs=some ts) (hT:(T.map fun p=>(p.1,unA A.length ts p.2))=T') (h:Aw P N n0 c Q T' (A++[.dead])):Aw P N n0 c Q T (A++[.box cs]):=by
 refine aw_freezeBox A.length (by simp) hn ?_
 rw [hT,List.set_append_right _ _ (Nat.le_refl _),Nat.sub_self]
 exact h
end
structure TotC {α:Type} (c:α→α→Int):Prop where
 refl : ∀ a,c a a=0
 zero : ∀ a b,c a b=0→a=b
 anti : ∀ a b,c a b<0↔0<c b a
 trans : ∀ a b d,c a b<0→c b d<0→c a d<0
theorem tCi_:TotC icmp:=by
 refine ⟨fun a=>by simp [icmp],fun a b h=>?_,fun a b=>?_,fun a b d h1 h2=>?_⟩
 ·unfold icmp at h;split at h
  ·omega
  ·split at h<;>omega
 ·unfold icmp;split<;>split<;>(try split)<;>omega
 ·unfold icmp at *
  split at h1
  ·split at h2
   ·rw [if_pos (by omega)];omega
   ·split at h2<;>omega
  ·split at h1<;>omega
def lexC {α:Type} (c:α→α→Int):List α→List α→Int
 | [],[]=>0
 | [],_::_ => -1
 | _::_,[]=>1
 | a::xs,b::ys=>if c a b≠0 then c a b else lexC c xs ys
theorem totC_lex {α:Type} {c:α→α→Int} (h:TotC c):TotC (lexC c):=by
 refine ⟨?_,?_,?_,?_⟩
 ·intro a
  induction a with
  | nil=>rfl
  | cons x a ih=>simp [lexC,h.refl x,ih]
 ·intro a
  induction a with
  | nil=>intro b hb;cases b with
   | nil=>rfl
   | cons _ _=>simp [lexC] at hb
  | cons x a ih =>
   intro b hb
   cases b with
   | nil=>simp [lexC] at hb
   | cons y b =>
    unfold lexC at hb
    split at hb
    ·rename_i h0;exact absurd hb h0
    ·rename_i h0
     have:=h.zero x y (by simpa using h0)
     subst this
     rw [ih b hb]
 ·intro a
  induction a with
  | nil=>intro b;cases b with
   | nil=>simp [lexC]
   | cons _ _=>simp [lexC]
  | cons x a ih =>
   intro b
   cases b with
   | nil=>simp [lexC]
   | cons y b =>
    unfold lexC
    by_cases h0:c x y=0
    ·have:=h.zero x y h0
     subst this
     simp only [h.refl,ne_eq,not_true_eq_false,if_false]
     exact ih b
    ·have h1:c y x≠0:=fun e=>h0 (by rw [h.zero y x e];exact h.refl x)
     rw [if_pos h0,if_pos h1]
     exact h.anti x y
 ·intro a
  induction a with
  | nil =>
   intro b d h1 h2
   cases b with
   | nil=>simp [lexC] at h1
   | cons y b=>cases d with
    | nil=>simp [lexC] at h2
    | cons _ _=>simp [lexC]
  | cons x a ih =>
   intro b d h1 h2
   cases b with
   | nil=>simp [lexC] at h1
   | cons y b =>
    cases d with
    | nil=>simp [lexC] at h2
    | cons z d =>
     unfold lexC at h1 h2 ⊢
     by_cases e1:c x y=0
     ·have:=h.zero x y e1
      subst this
      rw [if_neg (by simpa using e1)] at h1
      by_cases e2:c x z=0
      ·rw [if_neg (by simpa using e2)] at h2 ⊢
       exact ih b d h1 h2
      ·rw [if_pos e2] at h2 ⊢
       exact h2
     ·rw [if_pos e1] at h1
      by_cases e2:c y z=0
      ·have:=h.zero y z e2
       subst this
       rw [if_pos e1];exact h1
      ·rw [if_pos e2] at h2
       have:=h.trans x y z h1 h2
       rw [if_pos (by omega)];exact this
theorem rcmp_lex : ∀ a b:List Val,rcmp a b=lexC vcmp a b
 | [],[]=>rfl
 | [],_::_=>rfl
 | _::_,[]=>rfl
 | a::xs,b::ys=>by rw [rcmp,lexC,rcmp_lex xs ys]
def bcmp (x y:UInt8):Int:=if x<y then -1 else if y<x then 1 else 0
theorem totC_bcmp:TotC bcmp:=by
 have key : ∀ x y:UInt8,bcmp x y=icmp ((x.toNat:Nat):Int) ((y.toNat:Nat):Int):=by
  intro x y
  unfold bcmp icmp
  simp only [UInt8.lt_iff_toNat_lt,Int.ofNat_lt]
 refine ⟨fun a=>by rw [key];exact tCi_.refl _,fun a b h=>?_,fun a b=>by rw [key,key];exact tCi_.anti _ _,fun a b d h1 h2=>by rw [key] at *;exact tCi_.trans _ _ _ h1 h2⟩
 rw [key] at h
 have:=tCi_.zero _ _ h
 exact UInt8.toNat_inj.1 (by omega)
theorem compare_lex : ∀ a b:List UInt8,Lib.compareBytes a b=lexC bcmp a b
 | [],[]=>rfl
 | [],_::_=>rfl
 | _::_,[]=>rfl
 | x::a,y::b=>by
  have e:lexC bcmp (x::a) (y::b)=if bcmp x y≠0 then bcmp x y else lexC bcmp a b:=rfl
  rw [e, ← compare_lex a b]
  have e2:Lib.compareBytes (x::a) (y::b)=if x<y then -1 else if y<x then 1 else Lib.compareBytes a b:=by rw [Lib.compareBytes]
  rw [e2]
  by_cases h1:x<y
  ·simp [h1,bcmp]
  ·by_cases h2:y<x
   ·simp [h1,h2,bcmp]
   ·simp [h1,h2,bcmp]
theorem totC_scmp:TotC scmp:=by
 have key : ∀ a b:ByteArray,scmp a b=lexC bcmp a.data.toList b.data.toList:=by
  intro a b
  unfold scmp
  rw [Lib.cmp_eq,compare_lex]
 have t:=totC_lex totC_bcmp
 refine ⟨fun a=>by rw [key];exact t.refl _,fun a b h=>?_,fun a b=>by rw [key,key];exact t.anti _ _,fun a b d h1 h2=>by rw [key] at *;exact t.trans _ _ _ h1 h2⟩
 rw [key] at h
 have:=t.zero _ _ h
 obtain ⟨⟨a⟩⟩:=a
 obtain ⟨⟨b⟩⟩:=b
 simp at this
 rw [this]
theorem totC_vcmp:TotC vcmp:=by
 refine ⟨?_,?_,?_,?_⟩
 ·intro a;simp [vcmp,tCi_.refl,totC_scmp.refl]
 ·intro a b h
  obtain ⟨k,n,t⟩:=a
  obtain ⟨k',n',t'⟩:=b
  unfold vcmp at h
  dsimp only at h
  split at h
  ·rename_i e;exact absurd h e
  ·rename_i e1
   split at h
   ·rename_i e;exact absurd h e
   ·rename_i e2
    have k1:=tCi_.zero _ _ (show icmp k k'=0 by simpa using e1)
    have k2:=tCi_.zero _ _ (show icmp n n'=0 by simpa using e2)
    have k3:=totC_scmp.zero _ _ h
    subst k1 k2 k3;rfl
 ·intro a b
  unfold vcmp
  by_cases e1:icmp a.kind b.kind=0
  ·have k:=tCi_.zero _ _ e1
   rw [k]
   simp only [tCi_.refl,ne_eq,not_true_eq_false,if_false]
   by_cases e2:icmp a.int b.int=0
   ·have k2:=tCi_.zero _ _ e2
    rw [k2]
    simp only [tCi_.refl,ne_eq,not_true_eq_false,if_false]
    exact totC_scmp.anti _ _
   ·have e2':icmp b.int a.int≠0:=fun e=>e2 (by rw [tCi_.zero _ _ e];exact tCi_.refl _)
    rw [if_pos e2,if_pos e2']
    exact tCi_.anti _ _
  ·have e1':icmp b.kind a.kind≠0:=fun e=>e1 (by rw [tCi_.zero _ _ e];exact tCi_.refl _)
   rw [if_pos e1,if_pos e1']
   exact tCi_.anti _ _
 ·intro a b d h1 h2
  unfold vcmp at *
  by_cases e1:icmp a.kind b.kind=0
  ·have k:=tCi_.zero _ _ e1
   rw [k] at h1 ⊢
   simp only [tCi_.refl,ne_eq,not_true_eq_false,if_false] at h1
   by_cases f1:icmp b.kind d.kind=0
   ·rw [if_neg (by simpa using f1)] at h2 ⊢
    by_cases e2:icmp a.int b.int=0
    ·have k2:=tCi_.zero _ _ e2
     rw [k2] at h1 ⊢
     simp only [tCi_.refl,ne_eq,not_true_eq_false,if_false] at h1
     by_cases f2:icmp b.int d.int=0
     ·rw [if_neg (by simpa using f2)] at h2 ⊢
      exact totC_scmp.trans _ _ _ h1 h2
     ·rw [if_pos f2] at h2 ⊢;exact h2
    ·rw [if_pos e2] at h1
     by_cases f2:icmp b.int d.int=0
     ·have k2:=tCi_.zero _ _ f2
      rw [← k2,if_pos e2];exact h1
     ·rw [if_pos f2] at h2
      have:=tCi_.trans _ _ _ h1 h2
      rw [if_pos (by omega)];exact this
   ·rw [if_pos f1] at h2 ⊢;exact h2
  ·rw [if_pos e1] at h1
   by_cases f1:icmp b.kind d.kind=0
   ·have k:=tCi_.zero _ _ f1
    rw [← k,if_pos e1];exact h1
   ·rw [if_pos f1] at h2
    have:=tCi_.trans _ _ _ h1 h2
    rw [if_pos (by omega)];exact this
theorem tCr_:TotC rcmp:=by
 have t:=totC_lex totC_vcmp
 exact ⟨fun a=>by rw [rcmp_lex];exact t.refl _,fun a b h=>t.zero _ _ (by rw [← rcmp_lex];exact h),fun a b=>by rw [rcmp_lex,rcmp_lex];exact t.anti _ _,fun a b d h1 h2=>by rw [rcmp_lex] at *;exact t.trans _ _ _ h1 h2⟩
section
variable {α:Type} {c:α→α→Int}
def Asc (c:α→α→Int) (l:List α):Prop:=l.Pairwise fun a b=>c a b≤0
theorem TotC.le_trans (h:TotC c) {a b d:α} (h1:c a b≤0) (h2:c b d≤0):c a d≤0:=by
 by_cases e1:c a b=0
 ·rw [h.zero a b e1];exact h2
 ·by_cases e2:c b d=0
  ·rw [← h.zero b d e2];exact h1
  ·have:=h.trans a b d (by omega) (by omega);omega
theorem TotC.total (h:TotC c) (a b:α):c a b≤0∨c b a≤0:=by
 by_cases e:c a b≤0
 ·exact .inl e
 ·have:=(h.anti b a).2 (by omega);exact .inr (by omega)
theorem asc_unique (h:TotC c) : ∀ {l m:List α}, Asc c l→Asc c m→l.Perm m→l=m
 | [],m,_,_,hp=>by rw [List.Perm.nil_eq hp]
 | x::l,[],_,_,hp=>by have:=hp.length_eq;simp at this
 | x::l,y::m,hl,hm,hp=>by
  have hx:x∈y::m:=hp.mem_iff.1 (List.mem_cons_self ..)
  have hy:y∈x::l:=hp.mem_iff.2 (List.mem_cons_self ..)
  rw [Asc,List.pairwise_cons] at hl hm
  have e:x=y:=by
   rcases List.mem_cons.1 hx with e|hx
   ·exact e
   ·rcases List.mem_cons.1 hy with e|hy
    ·exact e.symm
    ·have h1:=hm.1 x hx
     have h2:=hl.1 y hy
     by_cases e0:c x y=0
     ·exact h.zero _ _ e0
     ·have:=(h.anti x y).1 (by omega);omega
  subst e
  rw [asc_unique h hl.2 hm.2 (List.Perm.cons_inv hp)]
end
theorem gICmp_eq (x y:Int):gICmp x y=some (icmp x y):=by
 unfold gICmp gIsNaN icmp
 by_cases h1:x<y
 ·simp [h1]
 ·by_cases h2:y<x
  ·simp [h1,h2]
  ·simp [h1,h2]
def orS (_:Unit) (x:Int):Option (Sum Unit Int):=if x≠0 then some (.inr x) else some (.inl ())
theorem gOr3 (a b c:Int):gOr [a,b,c]=some (if a≠0 then a else if b≠0 then b else c):=by
 unfold gOr
 rw [loop_list (l:=[a,b,c]) (mk:=fun (_:Unit) i=>i) (f:=orS) ?_ ?_ (by unfold fuel;simp) ()]
 ·unfold orS
  by_cases h1:a=0
  ·by_cases h2:b=0
   ·by_cases h3:c=0
    ·simp [foldS,foldR,gOr_K1,h1,h2,h3]
    ·simp [foldS,foldR,gOr_K1,h1,h2,h3]
   ·simp [foldS,foldR,gOr_K1,h1,h2]
  ·simp [foldS,foldR,gOr_K1,h1]
 ·intro s i x hx
  have hi:i<3:=(List.getElem?_eq_some_iff.1 hx).1
  unfold gOr_B1 orS
  dsimp only
  rw [lt_dec hx,cond_true,gn_ hx]
  simp only [Option.bind_some]
  rw [wrapN (by omega)]
  by_cases h:x=0
  ·simp [h,foldN]
  ·simp [h,foldN]
 ·intro s
  unfold gOr_B1
  dsimp only
  rw [lF_,cond_false]
theorem gVCmp_eq (v w:Val):gVCmp v w=some (vcmp v w):=by
 unfold gVCmp
 rw [gICmp_eq,gICmp_eq]
 simp only [Option.bind_some]
 rw [gOr3]
 rfl
theorem rcmp_nil : ∀ (b:List Val),rcmp [] b=if b=[] then 0 else -1
 | []=>rfl
 | _::_=>rfl
theorem gCmpFn_at {a b:List Val} (ha:a.length≤4000000000000) (hb:b.length≤4000000000000) : ∀ (n i:Nat),i≤a.length→i≤b.length→a.length-i<n→(loopM (gCmpFn_B1 a b fun x0 x1=>gVCmp x0 x1) n (i:Int)).bind (gCmpFn_K1 a b)=some (rcmp (a.drop i) (b.drop i))
 | 0,_,_,_,h=>by omega
 | n+1,i,h1,h2,hn=>by
  rw [loopM]
  by_cases hlt:i<a.length
  ·obtain ⟨x,hx⟩:=gol_ hlt
   have ex:=(List.getElem?_eq_some_iff.1 hx).2
   have eb:gCmpFn_B1 a b (fun x0 x1=>gVCmp x0 x1) (i:Int)=bif (decide (((b.length:Nat):Int)≤(i:Int))) then some (.ret (1:Int)) else (getI b (i:Int)).bind fun x_5=>(gVCmp x x_5).bind fun r_6=>bif (decide (r_6≠(0:Int))) then some (.ret r_6) else some (.next (IntKind.i64.wrap ((i:Int)+(1:Int)))):=by
    unfold gCmpFn_B1
    dsimp only
    rw [lt_dec hx,cond_true,gn_ hx]
    rfl
   rw [eb,List.drop_eq_getElem_cons hlt,ex]
   by_cases hlb:i<b.length
   ·obtain ⟨y,hy⟩:=gol_ hlb
    have ey:=(List.getElem?_eq_some_iff.1 hy).2
    rw [List.drop_eq_getElem_cons hlb,ey,show decide (((b.length:Nat):Int)≤(i:Int))=false from decide_eq_false (by omega),cond_false,gn_ hy,rcmp]
    simp only [Option.bind_some,gVCmp_eq]
    by_cases h:vcmp x y=0
    ·simp only [h,ne_eq,not_true_eq_false,decide_false,cond_false,if_false]
     rw [wrapN (by omega)]
     have k:=gCmpFn_at ha hb n (i+1) (by omega) (by omega) (by omega)
     simp only [gVCmp_eq] at k
     exact k
    ·simp [h,gCmpFn_K1]
   ·have:i=b.length:=by omega
    subst this
    rw [List.drop_length,show decide (((b.length:Nat):Int)≤((b.length:Nat):Int))=true from decide_eq_true (by omega),cond_true]
    rfl
  ·have:i=a.length:=by omega
   subst this
   have eb:gCmpFn_B1 a b (fun x0 x1=>gVCmp x0 x1) ((a.length:Nat):Int)=some (.exit ((a.length:Nat):Int)):=by
    unfold gCmpFn_B1
    dsimp only
    rw [lF_,cond_false]
   rw [eb,List.drop_length,rcmp_nil]
   show gCmpFn_K1 a b (.inl ((a.length:Nat):Int))=_
   unfold gCmpFn_K1
   by_cases h:a.length<b.length
   ·rw [show decide (((a.length:Nat):Int)<((b.length:Nat):Int))=true from decide_eq_true (by omega),cond_true,if_neg (by rw [List.drop_eq_nil_iff];omega)]
   ·rw [show decide (((a.length:Nat):Int)<((b.length:Nat):Int))=false from decide_eq_false (by omega),cond_false,if_pos (by rw [List.drop_eq_nil_iff];omega)]
theorem gTCmp_eq (a b:List Val) (ha:a.length≤4000000000000) (hb:b.length≤4000000000000):gTCmp a b=some (rcmp a b):=by
 unfold gTCmp gCmpFn
 have:=gCmpFn_at ha hb fuel 0 (Nat.zero_le _) (Nat.zero_le _) (by unfold fuel;omega)
 rw [show (((0:Nat):Int))=0 from rfl] at this
 rw [this];rfl
theorem bytesLess_eq : ∀ a b:List UInt8,Op.bytesLess a b=decide (Lib.compareBytes a b<0)∧(a==b)=decide (Lib.compareBytes a b=0)
 | [],[]=>⟨rfl,rfl⟩
 | [],_::_=>⟨rfl,rfl⟩
 | _::_,[]=>⟨rfl,rfl⟩
 | x::a,y::b=>by
  have e2:Lib.compareBytes (x::a) (y::b)=if x<y then -1 else if y<x then 1 else Lib.compareBytes a b:=by rw [Lib.compareBytes]
  have e3:Op.bytesLess (x::a) (y::b)=(decide (x<y)||(x==y&&Op.bytesLess a b)):=by rw [Op.bytesLess]
  obtain ⟨i1,i2⟩:=bytesLess_eq a b
  rw [e2,e3,List.cons_beq_cons,i1,i2]
  by_cases h1:x<y
  ·have hne:x≠y:=fun e=>by rw [e] at h1;exact absurd h1 (UInt8.lt_irrefl y)
   simp [h1,hne]
  ·by_cases h2:y<x
   ·have hne:x≠y:=fun e=>by rw [e] at h2;exact absurd h2 (UInt8.lt_irrefl y)
    simp [h1,h2,hne]
   ·have heq:x=y:=UInt8.le_antisymm (UInt8.not_lt.1 h2) (UInt8.not_lt.1 h1)
    subst heq
    simp [h1]
theorem less_scmp (a b:ByteArray):Op.bytesLess a.toList b.toList=decide (scmp a b<0):=by
 unfold scmp
 rw [Lib.cmp_eq,ByteArray.toList_eq,ByteArray.toList_eq];exact (bytesLess_eq _ _).1
theorem eq_scmp (a b:ByteArray):(a.toList==b.toList)=decide (scmp a b=0):=by
 unfold scmp
 rw [Lib.cmp_eq,ByteArray.toList_eq,ByteArray.toList_eq];exact (bytesLess_eq _ _).2
theorem compareBytes_range : ∀ a b:List UInt8,Lib.compareBytes a b = -1∨Lib.compareBytes a b=0∨Lib.compareBytes a b=1
 | [],[] => .inr (.inl rfl)
 | [],_::_ => .inl rfl
 | _::_,[] => .inr (.inr rfl)
 | x::a,y::b=>by
  have e2:Lib.compareBytes (x::a) (y::b)=if x<y then -1 else if y<x then 1 else Lib.compareBytes a b:=by rw [Lib.compareBytes]
  rw [e2]
  split
  ·exact .inl rfl
  ·split
   ·exact .inr (.inr rfl)
   ·exact compareBytes_range a b
theorem gCmp7_eq (v w:Val):gCmp7 v w=some (vcmp v w):=by
 unfold gCmp7 vcmp gSign
 rw [less_scmp,eq_scmp]
 have hr:scmp v.text w.text = -1∨scmp v.text w.text=0∨scmp v.text w.text=1:=by unfold scmp;rw [Lib.cmp_eq];exact compareBytes_range _ _
 by_cases h1:v.kind=w.kind
 ·have e1:icmp v.kind w.kind=0:=by rw [h1];exact tCi_.refl _
  by_cases h2:v.int=w.int
  ·have e2:icmp v.int w.int=0:=by rw [h2];exact tCi_.refl _
   rw [e1,e2]
   simp only [h1,h2,ne_eq,not_true_eq_false,decide_false,cond_false,if_false]
   rcases hr with h|h|h<;>rw [h]<;>rfl
  ·have e2:icmp v.int w.int≠0:=fun e=>h2 (tCi_.zero _ _ e)
   rw [e1]
   simp only [h1,h2,e2,ne_eq,not_true_eq_false,not_false_eq_true,decide_false,decide_true,cond_false,cond_true,if_false,if_true]
   unfold icmp
   by_cases h3:v.int<w.int
   ·simp [h3]
   ·have:w.int<v.int:=by omega
    simp [h3,this]
 ·have e1:icmp v.kind w.kind≠0:=fun e=>h1 (tCi_.zero _ _ e)
  simp only [h1,e1,ne_eq,not_true_eq_false,not_false_eq_true,decide_false,decide_true,cond_false,cond_true,if_false,if_true]
  unfold icmp
  by_cases h3:v.kind<w.kind
  ·simp [h3]
  ·have:w.kind<v.kind:=by omega
   simp [h3,this]
theorem gCmp8_at {a b:List Val} (ha:a.length≤4000000000000) (hb:b.length≤4000000000000) : ∀ (n i:Nat),i≤a.length→i≤b.length→a.length-i<n→(loopM (gCmp8_B1 a b) n (i:Int)).bind (gCmp8_K1 a b)=some (rcmp (a.drop i) (b.drop i))
 | 0,_,_,_,h=>by omega
 | n+1,i,h1,h2,hn=>by
  rw [loopM]
  by_cases hlt:i<a.length
  ·obtain ⟨x,hx⟩:=gol_ hlt
   have ex:=(List.getElem?_eq_some_iff.1 hx).2
   rw [List.drop_eq_getElem_cons hlt,ex]
   by_cases hlb:i<b.length
   ·obtain ⟨y,hy⟩:=gol_ hlb
    have ey:=(List.getElem?_eq_some_iff.1 hy).2
    have eb:gCmp8_B1 a b (i:Int)=bif (decide (vcmp x y≠(0:Int))) then some (.ret (vcmp x y)) else some (.next (IntKind.i64.wrap ((i:Int)+(1:Int)))):=by
     unfold gCmp8_B1
     dsimp only
     rw [lt_dec hx,cond_true,lt_dec hy,cond_true,gn_ hx,gn_ hy]
     simp only [Option.bind_some,gCmp7_eq]
    rw [eb,List.drop_eq_getElem_cons hlb,ey,rcmp]
    by_cases h:vcmp x y=0
    ·simp only [h,ne_eq,not_true_eq_false,decide_false,cond_false,if_false]
     rw [wrapN (by omega)]
     exact gCmp8_at ha hb n (i+1) (by omega) (by omega) (by omega)
    ·simp [h,gCmp8_K1]
   ·have:i=b.length:=by omega
    subst this
    have eb:gCmp8_B1 a b ((b.length:Nat):Int)=some (.exit ((b.length:Nat):Int)):=by
     unfold gCmp8_B1
     dsimp only
     rw [lt_dec hx,cond_true,lF_,cond_false]
    rw [eb,List.drop_length]
    show gCmp8_K1 a b (.inl ((b.length:Nat):Int))=_
    unfold gCmp8_K1
    rw [show decide (((a.length:Nat):Int)<((b.length:Nat):Int))=false from decide_eq_false (by omega),cond_false,show decide (((b.length:Nat):Int)<((a.length:Nat):Int))=true from decide_eq_true (by omega),cond_true]
    rfl
  ·have:i=a.length:=by omega
   subst this
   have eb:gCmp8_B1 a b ((a.length:Nat):Int)=some (.exit ((a.length:Nat):Int)):=by
    unfold gCmp8_B1
    dsimp only
    rw [lF_,cond_false]
   rw [eb,List.drop_length,rcmp_nil]
   show gCmp8_K1 a b (.inl ((a.length:Nat):Int))=_
   unfold gCmp8_K1
   by_cases h:a.length<b.length
   ·rw [show decide (((a.length:Nat):Int)<((b.length:Nat):Int))=true from decide_eq_true (by omega),cond_true,if_neg (by rw [List.drop_eq_nil_iff];omega)]
   ·rw [show decide (((a.length:Nat):Int)<((b.length:Nat):Int))=false from decide_eq_false (by omega),cond_false,show decide (((b.length:Nat):Int)<((a.length:Nat):Int))=false from decide_eq_false (by omega),cond_false,if_pos (by rw [List.drop_eq_nil_iff];omega)]
theorem gCmp8_eq (a b:List Val) (ha:a.length≤4000000000000) (hb:b.length≤4000000000000):gCmp8 a b=some (rcmp a b):=by
 unfold gCmp8
 have:=gCmp8_at ha hb fuel 0 (Nat.zero_le _) (Nat.zero_le _) (by unfold fuel;omega)
 rw [show (((0:Nat):Int))=0 from rfl] at this
 rw [this];rfl
set_option maxHeartbeats 8000000
def gRowsC (a_a:SGroupcoalesce) (a_b:SGroupcoalesce):Option (Int):=(gTCmp a_a.row a_b.row).bind fun r_1=>some r_1
theorem gRowsC_ok {a_a:SGroupcoalesce} {a_b:SGroupcoalesce} {r:Int} (H:gRowsC a_a a_b=some r):Pure Tryz.prog 172 [.agg (cSGroupcoalesce a_a), .agg (cSGroupcoalesce a_b)] (.val (.one (.int .i64 r))):=by
 unfold gRowsC at H
 refine po_ Tryz.func172 Tryz.ntmps172 ?_
 obtain ⟨r_1,c1,H⟩:=bd_ H
 replace c1:=gTCmp_ok c1
 try simp only [List.map_append,List.map_cons,List.map_nil,List.nil_append,tE_eq] at c1
 obtain rfl:=Option.some.inj H
 exact go_
theorem gRowsC_eq (a b:SGroupcoalesce) (ha:a.row.length≤4000000000000) (hb:b.row.length≤4000000000000):gRowsC a b=some (rcmp a.row b.row):=by
 unfold gRowsC
 rw [gTCmp_eq _ _ ha hb];rfl
def posT {α:Type} (c:α→α→Int) (A:List α) (x:α):Nat→Nat
 | 0=>0
 | j+1=>match A[j]? with
  | some y=>if c x y<0 then posT c A x j else j+1
  | none=>j+1
def insT {α:Type} (c:α→α→Int) (A:List α) (x:α):List α:=A.take (posT c A x A.length)++x::A.drop (posT c A x A.length)
def sortT {α:Type} (c:α→α→Int) (l:List α):List α:=l.foldl (insT c) []
theorem posT_spec {α:Type} (c:α→α→Int) (B:List α) (x:α) : ∀ j,j≤B.length→posT c B x j≤j∧(∀ i y,posT c B x j≤i→i<j→B[i]?=some y→c x y<0)∧(∀ q,posT c B x j=q+1 → ∃ y,B[q]?=some y ∧ ¬ c x y<0)
 | 0,_=>⟨Nat.le_refl _,fun i y _ h=>by omega,fun q h=>by simp [posT] at h⟩
 | j+1,hj=>by
  obtain ⟨y,hy⟩:=gol_ (show j<B.length by omega)
  obtain ⟨h1,h2,h3⟩:=posT_spec c B x j (by omega)
  unfold posT
  simp only [hy]
  split
  ·rename_i hlt
   refine ⟨by omega,fun i z hi hij hz=>?_,h3⟩
   by_cases e:i=j
   ·subst e;rw [hy] at hz;injection hz with hz;subst hz;exact hlt
   ·exact h2 i z hi (by omega) hz
  ·rename_i hge
   exact ⟨Nat.le_refl _,fun i z hi hij _=>by omega,fun q hq=>by injection hq with hq;subst hq;exact ⟨y,hy,hge⟩⟩
theorem insT_perm {α:Type} (c:α→α→Int) (B:List α) (x:α):(insT c B x).Perm (x::B):=by
 unfold insT
 refine List.perm_middle.trans ?_
 rw [List.take_append_drop]
theorem foldl_insT_perm {α:Type} (c:α→α→Int) : ∀ (l B:List α),(l.foldl (insT c) B).Perm (l++B)
 | [],B=>List.Perm.refl _
 | x::l,B=>by
  rw [List.foldl_cons]
  refine (foldl_insT_perm c l (insT c B x)).trans ?_
  refine ((insT_perm c B x).append_left l).trans ?_
  exact List.perm_middle
theorem sortT_perm {α:Type} (c:α→α→Int) (l:List α):(sortT c l).Perm l:=by
 have:=foldl_insT_perm c l []
 simpa [sortT] using this
theorem insT_asc {α:Type} {c:α→α→Int} (htr : ∀ a b d,c a b≤0→c b d≤0→c a d≤0) (htot : ∀ a b, ¬ c a b<0→c b a≤0) {B:List α} (x:α) (h:B.Pairwise fun a b=>c a b≤0):(insT c B x).Pairwise fun a b=>c a b≤0:=by
 obtain ⟨h1,h2,h3⟩:=posT_spec c B x B.length (Nat.le_refl _)
 unfold insT
 generalize posT c B x B.length=p at h1 h2 h3
 have hd : ∀ y∈B.drop p,c x y≤0:=by
  intro y hy
  obtain ⟨i,hi⟩:=List.getElem?_of_mem hy
  rw [List.getElem?_drop] at hi
  have:=(List.getElem?_eq_some_iff.1 hi).1
  have:=h2 (p+i) y (by omega) this hi
  omega
 have ht : ∀ y∈B.take p,c y x≤0:=by
  intro y hy
  cases p with
  | zero=>simp at hy
  | succ q =>
   obtain ⟨z,hz,hge⟩:=h3 q rfl
   have hzx:=htot x z hge
   obtain ⟨i,hi⟩:=List.getElem?_of_mem hy
   have hil:i<q+1:=by have:=(List.getElem?_eq_some_iff.1 hi).1;rw [List.length_take] at this;omega
   rw [List.getElem?_take_of_lt hil] at hi
   by_cases e:i=q
   ·subst e;rw [hi] at hz;injection hz with hz;subst hz;exact hzx
   ·have hlt:i<q:=by omega
    have hi':=List.getElem?_eq_some_iff.1 hi
    have hz':=List.getElem?_eq_some_iff.1 hz
    have:=List.pairwise_iff_getElem.1 h i q hi'.1 hz'.1 hlt
    rw [hi'.2,hz'.2] at this
    exact htr _ _ _ this hzx
 refine List.pairwise_append.2 ⟨h.sublist (List.take_sublist _ _),List.pairwise_cons.2 ⟨hd,h.sublist (List.drop_sublist _ _)⟩,fun a ha b hb=>?_⟩
 rcases List.mem_cons.1 hb with rfl|hb
 ·exact ht a ha
 ·exact htr _ _ _ (ht a ha) (hd b hb)
theorem sortT_asc {α:Type} {c:α→α→Int} (htr : ∀ a b d,c a b≤0→c b d≤0→c a d≤0) (htot : ∀ a b, ¬ c a b<0→c b a≤0) (l:List α):(sortT c l).Pairwise fun a b=>c a b≤0:=by
 have : ∀ (l B:List α),(B.Pairwise fun a b=>c a b≤0)→(l.foldl (insT c) B).Pairwise fun a b=>c a b≤0:=by
  intro l
  induction l with
  | nil=>intro B h;exact h
  | cons x l ih=>intro B h;exact ih _ (insT_asc htr htot x h)
 exact this l [] List.Pairwise.nil
abbrev cmpSG (a b:SGroupcoalesce):Int:=rcmp a.row b.row
abbrev encSG (s:SGroupcoalesce):AC2:=(tRow s.row, .lst (s.periods.map cPer))
abbrev tcmpG (x y:AC2):Int:=tcmp x.1 y.1
theorem tcmpG_enc (a b:SGroupcoalesce):tcmpG (encSG a) (encSG b)=cmpSG a b:=by
 show rcmp ((a.row.map cV).map vOf) ((b.row.map cV).map vOf)=_
 rw [vOf_cV,vOf_cV]
theorem posFG_enc (B:List SGroupcoalesce) (x:SGroupcoalesce) : ∀ j,posFG tcmpG (B.map encSG) (encSG x) j=posT cmpSG B x j
 | 0=>rfl
 | j+1=>by
  rw [posFG,posT,List.getElem?_map]
  cases B[j]? with
  | none=>rfl
  | some y =>
   simp only [Option.map_some]
   rw [tcmpG_enc,posFG_enc B x j]
theorem insRG_enc (B:List SGroupcoalesce) (x:SGroupcoalesce):insRG tcmpG (B.map encSG) (encSG x)=(insT cmpSG B x).map encSG:=by
 unfold insRG insT
 rw [List.length_map,posFG_enc,List.map_append,List.map_cons,List.map_take,List.map_drop]
theorem isortG_enc (l:List SGroupcoalesce):isortG tcmpG (l.map encSG)=(sortT cmpSG l).map encSG:=by
 have : ∀ (l B:List SGroupcoalesce),(l.map encSG).foldl (insRG tcmpG) (B.map encSG)=(l.foldl (insT cmpSG) B).map encSG:=by
  intro l
  induction l with
  | nil=>intro B;rfl
  | cons x l ih=>intro B;rw [List.map_cons,List.foldl_cons,List.foldl_cons,insRG_enc,ih]
 exact this l []
theorem rfG3 {L:List Ob} {v k:Nat} {l:List AC2} {x:AV} {xs:List AV} (h0:L[3]?=some (Ob.row v (l.map gCG) k)) (hx : ∀ y∈x::xs,y.below 1):RunFits [3] [Ob.row v (l.map gCG) k] (x::xs) L:=by
 refine ⟨rfl,by simp,fun i y hy=>?_,mem_below ⟨rowC_belowG _ _ _ _,trivial⟩,hx⟩
 match i,hy with
 | 0,hy=>simp at hy;subst hy;rw [row_renG];exact h0
 | i+1,hy=>simp at hy
theorem jG3 {L L':List Ob} {v k:Nat} {l:List AC2} (h:L.set 3 (Ob.row v (l.map gCG) k)=L'):joinL [3] L [Ob.row v (l.map gCG) k]=L':=by
 subst h
 simp [joinL,join,setAll,outIds,newIds,row_renG]
def rowsP (l:List Fct):List SGroupcoalesce:=sortT cmpSG ((gfoldC l).map fun g=>⟨g.f.row,g.ps⟩)
theorem stable_nil:Pure Tryz.prog 171 [.one (.lst []), .one (.fn 172 [])] (.tup []):=(evF_ok cx_ok 40).1 _ _ _ (by kernel_rfl)
end Go.Proofs.YtfccopdbgfdcdaaGreatDoor
