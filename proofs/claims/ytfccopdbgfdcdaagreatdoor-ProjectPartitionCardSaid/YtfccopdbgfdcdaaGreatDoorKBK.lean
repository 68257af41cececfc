/- Parts of the proof, joined. No condition. -/
import Derived.Test.YtfccopdbgfdcdaaGreatDoorKBJ
import Derived.Test.YtfccopdbgfdcdaaGreatDoorKBI
import Derived.Test.YtfccopdbgfdcdaaGreatDoorKAM
set_option linter.unusedSimpArgs false
set_option linter.unusedVariables false
namespace Go.Proofs.YtfccopdbgfdcdaaGreatDoor
open Go.RowKit Go.MapKept
set_option maxRecDepth 100000
def tabK:TI := { tabX with dyn:=false }
theorem tabK_ok:TIok Tryz.prog tabK:=⟨tabX_ok.size,tabX_ok.agg,tabX_ok.elem,tabX_ok.field,tabX_ok.zero,tabX_ok.bytes,tabX_ok.kind,tabX_ok.struct,tabX_ok.zok,tabX_ok.eqs⟩
def tabKS:TI := { tabK with soft:=true }
theorem tabKS_ok:TIok Tryz.prog tabKS:=⟨tabX_ok.size,tabX_ok.agg,tabX_ok.elem,tabX_ok.field,tabX_ok.zero,tabX_ok.bytes,tabX_ok.kind,tabX_ok.struct,tabX_ok.zok,tabX_ok.eqs⟩
def c32:ByteArray:=⟨#[32]⟩
def keyNs (v:Val):List Int:=[v.kind,v.int,v.text.size]
def numS (a:ByteArray) (l:List Int):ByteArray:=l.foldl (fun a n=>a++itoaB n++c32) a
def keyC (l:List Val):ByteArray:=l.foldl (fun a v=>numS a (keyNs v)++v.text) ⟨#[]⟩
theorem keyC_snoc (l:List Val) (v:Val):keyC (l++[v])=numS (keyC l) (keyNs v)++v.text:=by unfold keyC;rw [List.foldl_append];rfl
theorem numS_snoc (a:ByteArray) (l:List Int) (n:Int):numS a (l++[n])=numS a l++itoaB n++c32:=by unfold numS;rw [List.foldl_append];rfl
def VOK (v:Val):Prop:=(-9223372036854775808≤v.kind∧v.kind≤9223372036854775807)∧(-9223372036854775808≤v.int∧v.int≤9223372036854775807)∧v.text.size≤10000000000
theorem itoaB_size (n:Int) (h0 : -9223372036854775808≤n) (h1:n≤9223372036854775807):(itoaB n).size≤30∧0<(itoaB n).size:=by
 unfold itoaB
 show (Lib.itoa n).toArray.size≤30∧0<(Lib.itoa n).toArray.size
 rw [List.size_toArray]
 have key : ∀ u:Nat,u<18446744073709551616→Lib.nDigits u≤20:=by
  intro u h
  rcases Nat.eq_zero_or_pos u with rfl|h1
  ·rw [Lib.nDigits_small (by omega)];omega
  ·have:=Lib.numDigits_eq u h1 h;split at this<;>omega
 by_cases hn:n<0
 ·obtain ⟨u,rfl⟩ : ∃ u:Nat,n = -(u:Int):=⟨n.natAbs,by omega⟩
  rw [Lib.itoa_neg u (by omega),List.length_cons,Lib.decDigits_length]
  have:=key u (by omega);omega
 ·obtain ⟨u,rfl⟩ : ∃ u:Nat,n=(u:Int):=⟨n.toNat,by omega⟩
  rw [Lib.itoa_nonneg,Lib.decDigits_length]
  have:=key u (by omega);have:=Lib.nDigits_pos u;omega
theorem numS_size : ∀ (l:List Int) (a:ByteArray),(∀ n∈l, -9223372036854775808≤n∧n≤9223372036854775807)→(numS a l).size≤a.size+31*l.length
 | [],a,_=>by simp [numS]
 | n::l,a,h=>by
  have h1:=numS_size l (a++itoaB n++c32) fun x hx=>h x (List.mem_cons_of_mem _ hx)
  have h2:=(itoaB_size n (h n (by simp)).1 (h n (by simp)).2).1
  have hc:c32.size=1:=rfl
  have e:numS a (n::l)=numS (a++itoaB n++c32) l:=rfl
  rw [e]
  simp only [ByteArray.size_append,hc] at h1
  rw [List.length_cons];omega
theorem keyC_size (l:List Val) (h : ∀ v∈l,VOK v):(keyC l).size≤l.length*10000000100:=by
 have key : ∀ (l:List Val) (a:ByteArray),(∀ v∈l,VOK v)→(l.foldl (fun a v=>numS a (keyNs v)++v.text) a).size≤a.size+l.length*10000000100:=by
  intro l
  induction l with
  | nil=>intro a _;simp
  | cons v l ih =>
   intro a h
   obtain ⟨h1,h2,h3⟩:=h v (by simp)
   rw [List.foldl_cons]
   have q1:=ih (numS a (keyNs v)++v.text) fun x hx=>h x (List.mem_cons_of_mem _ hx)
   have q2:=numS_size (keyNs v) a (by
    intro n hn
    simp only [keyNs,List.mem_cons,List.not_mem_nil,or_false] at hn
    rcases hn with rfl|rfl|rfl
    ·exact h1
    ·exact h2
    ·omega)
   have e3:(keyNs v).length=3:=rfl
   simp only [ByteArray.size_append] at q1
   rw [List.length_cons]
   omega
 have:=key l ⟨#[]⟩ h
 have e:(⟨#[]⟩:ByteArray).size=0:=rfl
 rw [e,Nat.zero_add] at this
 exact this
def pB (fresh:Bool):SV:=if fresh then .c (.nul .ptr) else (.ep 0 (186+65536) 0 0)
theorem pB_ren (b:Bool):(pB b).ren [0,1]=pB b:=by cases b<;>rfl
theorem pB_below (b:Bool) {n:Nat} (h:0<n):(pB b).below n:=by cases b<;>first|exact h|exact True.intro
theorem writeStringB (b:Bool) (u:Nat) (s t:ByteArray) (hu:u%65536=5) (hs:s.size≤100000000000000) (ht:t.size≤1000000000000):Run Tryz.prog 188 [bldB (pB b) u s 0,bldR u s] [.one (.ep 0 (186+65536) 0 0), .one (.c (.str t))] [bldB (.ep 0 (186+65536) 0 0) (u+65536) (s++t) 0,bldR (u+65536) (s++t)] (.tup [.one (.int .i64 t.size), .one (.nul .iface)]):=by
 cases b
 ·exact writeString1 u s t hu hs ht
 ·exact writeString0 u s t hu hs ht
theorem rf2 {L:List Ob} {p:SV} {u:Nat} {s:ByteArray} {x:AV} {xs:List AV} (hL0:L[0]?=some (bldB p u s 0)) (hL1:L[1]?=some (bldR u s)) (hp:p.ren [0,1]=p) (hpb:p.below 2) (hx : ∀ y∈x::xs,y.below 2):RunFits [0,1] [bldB p u s 0,bldR u s] (x::xs) L:=by
 refine runfits2 ?_ (by rw [bldR_ren];exact hL1) (by decide) (bld_below hpb (by show 1<2;omega)) (byteRow_below _ _ _) hx
 rw [hL0]
 show some (Ob.row _ [[p,SV.sl 1 u 0 s.size]] 2)=some (Ob.row _ [[p.ren [0,1],SV.sl 1 u 0 s.size]] 2)
 rw [hp]
theorem j2 {L L':List Ob} {u:Nat} {s:ByteArray} (h:(L.set 0 (bldB (.ep 0 (186+65536) 0 0) u s 0)).set 1 (bldR u s)=L'):joinL [0,1] L [bldB (.ep 0 (186+65536) 0 0) u s 0,bldR u s]=L':=join2 rfl (bldR_ren _ _ _) h
def keyOb (l:List Val) (i:Nat):List Ob:=[bldB (pB (decide (i=0))) (5+458752*i) (keyC (l.take i)) 0,bldR (5+458752*i) (keyC (l.take i))]
def keyOc (u:Nat) (a:ByteArray) (f:Bool) (ns:List Int) (bx:Ob) (j:Nat):List Ob:=[bldB (pB (f&&decide (j=0))) (u+131072*j) (numS a (ns.take j)) 0,bldR (u+131072*j) (numS a (ns.take j)),bx]
set_option maxHeartbeats 4000000 in
theorem keyC_pure (l:List Val) (hl:l.length≤1000) (h : ∀ v∈l,VOK v):Pure Tryz.prog 170 [.one (tRow l)] (.val (.one (.str (keyC l)))):=by
 refine pa_ tabK_ok Tryz.func170 rfl rfl Tryz.ntmps170 (by simp) ?_
 simp only [argT,PV.av,List.map_cons,List.map_nil]
 obtain ⟨inf,hinf,hiz⟩ : ∃ inf,Tryz.prog.info? 186=some inf∧inf.zero=some (.agg #[.pointer none, .slice none 0 0]):=by
  have hh:(Tryz.prog.info? 186).bind (·.zero)=some (.agg #[.pointer none, .slice none 0 0]):=by kernel_rfl
  cases hi:Tryz.prog.info? 186 with
  | none=>rw [hi] at hh;cases hh
  | some j=>rw [hi] at hh;exact ⟨j,rfl,by simpa using hh⟩
 have hc:c32.size=1:=rfl
 have he0:(⟨#[]⟩:ByteArray).size=0:=rfl
 obtain ⟨n,hn⟩ : ∃ n,l.length=n:=⟨_,rfl⟩
 repeat' (first
  | refine st_nil ?_
  | (refine st_sop rfl rfl rfl rfl rfl (sop_allocBuilder (Eb:=5) (k:=1) hinf hiz (by decide) (by decide) (by decide)) ?_)
  | (refine st_pop rfl rfl rfl rfl ?_ ?_; · (repeat' (first|exact trivial|rfl|exact Nat.le_of_ble_eq_true rfl|omega|refine List.forall_mem_cons.2 ⟨?_,?_⟩|exact fun _ h=>nomatch h|apply And.intro)))
  | (refine st_lop rfl rfl rfl rfl ?_ ?_; · (repeat' (first|exact trivial|rfl|exact Nat.le_of_ble_eq_true rfl|omega|refine List.forall_mem_cons.2 ⟨?_,?_⟩|exact fun _ h=>nomatch h|apply And.intro)))
  | (refine sS_ rfl rfl rfl ?_ ?_; · (repeat' (first|exact trivial|rfl|exact Nat.le_of_ble_eq_true rfl|omega|refine List.forall_mem_cons.2 ⟨?_,?_⟩|exact fun _ h=>nomatch h|apply And.intro)))
  | (refine st_lit rfl rfl rfl rfl ?_ ?_; · (repeat' (first|exact trivial|rfl|exact Nat.le_of_ble_eq_true rfl|omega|refine List.forall_mem_cons.2 ⟨?_,?_⟩|exact fun _ h=>nomatch h|apply And.intro)))
  | refine st_skip rfl rfl rfl ?_
  | refine sk0_ rfl rfl ?_
  | (refine st_if rfl (fun hb=>?_) (fun hb=>?_)<;>(first|exact (fx_ hb).elim|rw [hb]))
  | refine aw_seq ?_
  | refine aw_region tabK_ok _ rfl ?_
  | refine aw_drawn2 tabKS_ok _ rfl mx_ (by decide +kernel) ?_
  | (refine aw_cond rfl (fun hb=>?_) (fun hb=>?_)<;>(try exact (fx_ hb).elim))
  | refine aw_block ?_
  | refine aw_exit ?_
  | refine aw_ret ?_
  | refine aw_skip ?_)
 refine aw_loop (fun i:Nat=>[(0, .one (.c (tRow l))),(3, .one (.ep 0 (186+65536) 0 0)),(8, .one (.c (tRow l))),(9, .one (.c (.int .i64 n))),(10, .one (.c (.int .i64 i)))]) (fun i=>keyOb l i) (fun i=>i≤n) (fun i=>n-i) 0 (by omega) (fun _ _=>Nat.zero_le _)
  (fm_ ⟨rfl,rfl,rfl,slot_int (by simp [hn]),rfl,trivial⟩ [] rfl ⟨trivial,(by show 0<2;omega),trivial,trivial,trivial,trivial⟩ ⟨bld_below (pB_below _ (by show 0<2;omega)) (by show 1<2;omega),byteRow_below _ _ _,trivial⟩) ?_
 intro i hi
 have hsz:=keyC_size (l.take i) fun v hv=>h v (List.mem_of_mem_take hv)
 rw [List.length_take] at hsz
 by_cases hlt2:i<n
 ·obtain ⟨v,hv⟩:=gol_ (show i<l.length by omega)
  obtain ⟨k1,k2,k3⟩:=h v (List.mem_of_getElem? hv)
  have hsn:=keyC_snoc (l.take i) v
  rw [← take_succ hv] at hsn
  have hu:(5+458752*i)%65536=5:=by omega
  have e0:keyOb l i=[bldB (pB (decide (i=0))) (5+458752*i) (keyC (l.take i)) 0,bldR (5+458752*i) (keyC (l.take i))]:=rfl
  rw [e0]
  generalize keyC (l.take i)=a0 at hsz hsn
  obtain ⟨kd,nn,tx⟩:=v
  simp only at k1 k2 k3
  repeat' (first
   | refine st_nil ?_
   | (refine st_pop rfl rfl rfl rfl ?_ ?_; · (repeat' (first|exact trivial|rfl|exact Nat.le_of_ble_eq_true rfl|omega|refine List.forall_mem_cons.2 ⟨?_,?_⟩|exact fun _ h=>nomatch h|apply And.intro)))
   | (refine st_idx rfl rfl rfl rfl rfl rfl rfl rfl (idx_map hv) ?_ ?_; · exact ⟨by omega,rfl⟩)
   | (refine st_lop rfl rfl rfl rfl ?_ ?_; · (repeat' (first|exact trivial|rfl|exact Nat.le_of_ble_eq_true rfl|omega|refine List.forall_mem_cons.2 ⟨?_,?_⟩|exact fun _ h=>nomatch h|apply And.intro)))
   | (refine sS_ rfl rfl rfl ?_ ?_; · (repeat' (first|exact trivial|rfl|exact Nat.le_of_ble_eq_true rfl|omega|refine List.forall_mem_cons.2 ⟨?_,?_⟩|exact fun _ h=>nomatch h|apply And.intro)))
   | (refine st_lit rfl rfl rfl rfl ?_ ?_; · (repeat' (first|exact trivial|rfl|exact Nat.le_of_ble_eq_true rfl|omega|refine List.forall_mem_cons.2 ⟨?_,?_⟩|exact fun _ h=>nomatch h|apply And.intro)))
   | refine st_skip rfl rfl rfl ?_
   | refine sk0_ rfl rfl ?_
   | (refine st_if rfl (fun hb=>?_) (fun hb=>?_)<;>(first|exact (fx_ hb).elim|rw [hb]))
   | refine aw_seq ?_
   | refine aw_region tabK_ok _ rfl ?_
   | refine aw_drawn2 tabKS_ok _ rfl mx_ (by decide +kernel) ?_
   | (refine aw_cond rfl (fun hb=>?_) (fun hb=>?_)<;>(try exact (fx_ hb).elim))
   | refine aw_block ?_
   | refine aw_exit ?_
   | refine aw_ret ?_
   | refine aw_skip ?_)
  refine aw_loop (fun j:Nat=>[(0, .one (.c (tRow l))),(3, .one (.ep 0 (186+65536) 0 0)),(5, .one (.ptr 2 0)),(8, .one (.c (tRow l))),(9, .one (.c (.int .i64 n))),(10, .one (.c (.int .i64 i))),(21, .one (.c (.lst ([kd,nn,(tx.size:Int)].map fun x=>[AC.int .i64 x])))),(22, .one (.c (.int .i64 3))),(23, .one (.c (.int .i64 j)))]) (fun j=>keyOc (5+458752*i) a0 (decide (i=0)) [kd,nn,tx.size] (.box [.c (.int .i64 kd), .c (.int .i64 nn), .c (.str tx)]) j) (fun j=>j≤3) (fun j=>3-j) 0 (by omega) (fun _ _=>Nat.zero_le _)
   (fm_ ⟨rfl,rfl,rfl,rfl,rfl,rfl,rfl,rfl,rfl,trivial⟩ [] ?_ ⟨trivial,(by show 0<3;omega),(by show 2<3;omega),trivial,trivial,trivial,trivial,trivial,trivial,trivial⟩ ⟨bld_below (pB_below _ (by show 0<3;omega)) (by show 1<3;omega),byteRow_below _ _ _,ob_below (by rfl),trivial⟩) ?_
  ·simp only [keyOc,Nat.mul_zero,Nat.add_zero,List.take_zero,decide_true,Bool.and_true];rfl
  intro j hj
  by_cases hj3:j<3
  ·obtain ⟨x,hx⟩:=gol_ (show j<[kd,nn,(tx.size:Int)].length by exact hj3)
   have hxr : -9223372036854775808≤x∧x≤9223372036854775807:=by
    have:=List.mem_of_getElem? hx
    simp only [List.mem_cons,List.not_mem_nil,or_false] at this
    rcases this with rfl|rfl|rfl
    ·exact k1
    ·exact k2
    ·omega
   have hit:=itoa_pure x hxr.1 hxr.2
   repeat' (first
    | refine st_nil ?_
    | (refine st_pop rfl rfl rfl rfl ?_ ?_; · (repeat' (first|exact trivial|rfl|exact Nat.le_of_ble_eq_true rfl|omega|refine List.forall_mem_cons.2 ⟨?_,?_⟩|exact fun _ h=>nomatch h|apply And.intro)))
    | (refine st_idx rfl rfl rfl rfl rfl rfl rfl rfl (idx_map hx) ?_ ?_; · exact ⟨by omega,rfl⟩)
    | (refine st_lop rfl rfl rfl rfl ?_ ?_; · (repeat' (first|exact trivial|rfl|exact Nat.le_of_ble_eq_true rfl|omega|refine List.forall_mem_cons.2 ⟨?_,?_⟩|exact fun _ h=>nomatch h|apply And.intro)))
    | (refine sS_ rfl rfl rfl ?_ ?_; · (repeat' (first|exact trivial|rfl|exact Nat.le_of_ble_eq_true rfl|omega|refine List.forall_mem_cons.2 ⟨?_,?_⟩|exact fun _ h=>nomatch h|apply And.intro)))
    | (refine st_lit rfl rfl rfl rfl ?_ ?_; · (repeat' (first|exact trivial|rfl|exact Nat.le_of_ble_eq_true rfl|omega|refine List.forall_mem_cons.2 ⟨?_,?_⟩|exact fun _ h=>nomatch h|apply And.intro)))
    | refine st_skip rfl rfl rfl ?_
    | refine sk0_ rfl rfl ?_
    | refine st_call rfl rfl rfl rfl hit rfl ?_
    | (refine st_if rfl (fun hb=>?_) (fun hb=>?_)<;>(first|exact (fx_ hb).elim|rw [hb]))
    | refine aw_seq ?_
    | refine aw_region tabK_ok _ rfl ?_
    | refine aw_drawn2 tabKS_ok _ rfl mx_ (by decide +kernel) ?_
    | (refine aw_cond rfl (fun hb=>?_) (fun hb=>?_)<;>(try exact (fx_ hb).elim))
    | refine aw_block ?_
    | refine aw_exit ?_
    | refine aw_ret ?_
    | refine aw_skip ?_)
   have hitz:=itoaB_size x hxr.1 hxr.2
   have hns:=numS_size ([kd,nn,(tx.size:Int)].take j) a0 (by
    intro y hy
    have:=List.mem_of_mem_take hy
    simp only [List.mem_cons,List.not_mem_nil,or_false] at this
    rcases this with rfl|rfl|rfl
    ·exact k1
    ·exact k2
    ·omega)
   have hl3:([kd,nn,(tx.size:Int)].take j).length≤3:=by rw [List.length_take];exact Nat.le_trans (Nat.min_le_right _ _) (Nat.le_refl _)
   have hsj:=numS_snoc a0 ([kd,nn,(tx.size:Int)].take j) x
   rw [← take_succ hx] at hsj
   have hu2:(5+458752*i+131072*j)%65536=5:=by omega
   have eC:keyOc (5+458752*i) a0 (decide (i=0)) [kd,nn,(tx.size:Int)] (.box [.c (.int .i64 kd), .c (.int .i64 nn), .c (.str tx)]) j=[bldB (pB (decide (i=0)&&decide (j=0))) (5+458752*i+131072*j) (numS a0 ([kd,nn,(tx.size:Int)].take j)) 0,bldR (5+458752*i+131072*j) (numS a0 ([kd,nn,(tx.size:Int)].take j)),(.box [.c (.int .i64 kd), .c (.int .i64 nn), .c (.str tx)])]:=rfl
   have eC2:keyOc (5+458752*i) a0 (decide (i=0)) [kd,nn,(tx.size:Int)] (.box [.c (.int .i64 kd), .c (.int .i64 nn), .c (.str tx)]) (j+1)=[bldB (.ep 0 (186+65536) 0 0) (5+458752*i+131072*j+65536+65536) (numS a0 ([kd,nn,(tx.size:Int)].take j)++itoaB x++c32) 0,bldR (5+458752*i+131072*j+65536+65536) (numS a0 ([kd,nn,(tx.size:Int)].take j)++itoaB x++c32),(.box [.c (.int .i64 kd), .c (.int .i64 nn), .c (.str tx)])]:=by
    unfold keyOc
    rw [hsj,show decide (j+1=0)=false by simp,Bool.and_false,show 5+458752*i+131072*(j+1)=5+458752*i+131072*j+65536+65536 by omega]
    rfl
   rw [eC]
   generalize numS a0 ([kd,nn,(tx.size:Int)].take j)=b0 at hns eC2
   generalize 5+458752*i+131072*j=u0 at hu2 eC2
   generalize hB1:itoaB x=b1 at hitz eC2
   refine st_run [0,1] rfl rfl rfl rfl (writeStringB _ u0 b0 b1 hu2 (by omega) (by omega)) rfl (rf2 rfl rfl (pB_ren _) (pB_below _ (by show 0<2;omega)) (fun y hy=>by rcases List.mem_cons.1 hy with rfl|hy<;>first|(show 0<2;omega)|(rcases List.mem_cons.1 hy with rfl|hy<;>first|exact True.intro|cases hy)|cases hy)) rfl (j2 (L':=[bldB (.ep 0 (186+65536) 0 0) (u0+65536) (b0++b1) 0,bldR (u0+65536) (b0++b1),(.box [.c (.int .i64 kd), .c (.int .i64 nn), .c (.str tx)])]) rfl) ?_
   repeat' (first
    | refine st_nil ?_
    | refine st_pop rfl rfl rfl rfl ph_ ?_
    | refine st_lop rfl rfl rfl rfl ph_ ?_
    | refine sS_ rfl rfl rfl ph_ ?_
    | refine st_lit rfl rfl rfl rfl ph_ ?_
    | refine st_skip rfl rfl rfl ?_
    | refine sk0_ rfl rfl ?_
    | (refine st_if rfl (fun hb=>?_) (fun hb=>?_)<;>(first|exact (fx_ hb).elim|rw [hb]))
    | refine aw_seq ?_
    | refine aw_region tabK_ok _ rfl ?_
    | refine aw_drawn2 tabKS_ok _ rfl mx_ (by decide +kernel) ?_
    | (refine aw_cond rfl (fun hb=>?_) (fun hb=>?_)<;>(try exact (fx_ hb).elim))
    | refine aw_block ?_
    | refine aw_exit ?_
    | refine aw_ret ?_
    | refine aw_skip ?_)
   refine st_run [0,1] rfl rfl rfl rfl (writeByte1 (u0+65536) (b0++b1) 32 (by omega) (by simp only [ByteArray.size_append];omega)) rfl (rf2 rfl rfl rfl (by show 0<2;omega) (fun y hy=>by rcases List.mem_cons.1 hy with rfl|hy<;>first|(show 0<2;omega)|(rcases List.mem_cons.1 hy with rfl|hy<;>first|exact True.intro|cases hy)|cases hy)) rfl (j2 (L':=[bldB (.ep 0 (186+65536) 0 0) (u0+65536+65536) (b0++b1++c32) 0,bldR (u0+65536+65536) (b0++b1++c32),(.box [.c (.int .i64 kd), .c (.int .i64 nn), .c (.str tx)])]) rfl) ?_
   repeat' (first
    | refine st_nil ?_
    | refine st_pop rfl rfl rfl rfl ph_ ?_
    | refine st_lop rfl rfl rfl rfl ph_ ?_
    | refine sS_ rfl rfl rfl ph_ ?_
    | refine st_lit rfl rfl rfl rfl ph_ ?_
    | refine st_skip rfl rfl rfl ?_
    | refine sk0_ rfl rfl ?_
    | (refine st_if rfl (fun hb=>?_) (fun hb=>?_)<;>(first|exact (fx_ hb).elim|rw [hb]))
    | refine aw_seq ?_
    | refine aw_region tabK_ok _ rfl ?_
    | refine aw_drawn2 tabKS_ok _ rfl mx_ (by decide +kernel) ?_
    | (refine aw_cond rfl (fun hb=>?_) (fun hb=>?_)<;>(try exact (fx_ hb).elim))
    | refine aw_block ?_
    | refine aw_exit ?_
    | refine aw_ret ?_
    | refine aw_skip ?_)
   exact ⟨j+1,by omega,by omega,fm_ ⟨rfl,rfl,rfl,rfl,rfl,rfl,rfl,rfl,slot_int (wrap_eq (by omega) (by omega)),trivial⟩ [] (by rw [eC2];rfl) (by rw [eC2];exact ⟨trivial,(by show 0<3;omega),(by show 2<3;omega),trivial,trivial,trivial,trivial,trivial,trivial,trivial⟩) (by rw [eC2];exact ⟨bld_below (by show 0<3;omega) (by show 1<3;omega),byteRow_below _ _ _,ob_below (by rfl),trivial⟩)⟩
  ·have hj4:j=3:=by omega
   subst hj4
   have hns:=numS_size [kd,nn,(tx.size:Int)] a0 (by
    intro y hy
    simp only [List.mem_cons,List.not_mem_nil,or_false] at hy
    rcases hy with rfl|rfl|rfl
    ·exact k1
    ·exact k2
    ·omega)
   have hl3:[kd,nn,(tx.size:Int)].length=3:=rfl
   have eC:keyOc (5+458752*i) a0 (decide (i=0)) [kd,nn,(tx.size:Int)] (.box [.c (.int .i64 kd), .c (.int .i64 nn), .c (.str tx)]) 3=[bldB (.ep 0 (186+65536) 0 0) (5+458752*i+393216) (numS a0 [kd,nn,(tx.size:Int)]) 0,bldR (5+458752*i+393216) (numS a0 [kd,nn,(tx.size:Int)]),(.box [.c (.int .i64 kd), .c (.int .i64 nn), .c (.str tx)])]:=by
    unfold keyOc
    rw [show decide (3=0)=false by simp,Bool.and_false]
    rfl
   have eN:keyOb l (i+1)=[bldB (.ep 0 (186+65536) 0 0) (5+458752*i+393216+65536) (numS a0 [kd,nn,(tx.size:Int)]++tx) 0,bldR (5+458752*i+393216+65536) (numS a0 [kd,nn,(tx.size:Int)]++tx)]:=by
    unfold keyOb
    rw [hsn,show decide (i+1=0)=false by simp,show 5+458752*(i+1)=5+458752*i+393216+65536 by omega]
    rfl
   rw [eC]
   generalize numS a0 [kd,nn,(tx.size:Int)]=b0 at hns eN
   have hu2:(5+458752*i+393216)%65536=5:=by omega
   generalize 5+458752*i+393216=u0 at hu2 eN
   repeat' (first
    | refine st_nil ?_
    | refine st_pop rfl rfl rfl rfl ph_ ?_
    | refine st_lop rfl rfl rfl rfl ph_ ?_
    | refine sS_ rfl rfl rfl ph_ ?_
    | refine st_lit rfl rfl rfl rfl ph_ ?_
    | refine st_skip rfl rfl rfl ?_
    | refine sk0_ rfl rfl ?_
    | (refine st_if rfl (fun hb=>?_) (fun hb=>?_)<;>(first|exact (fx_ hb).elim|rw [hb]))
    | refine aw_seq ?_
    | refine aw_region tabK_ok _ rfl ?_
    | refine aw_drawn2 tabKS_ok _ rfl mx_ (by decide +kernel) ?_
    | (refine aw_cond rfl (fun hb=>?_) (fun hb=>?_)<;>(try exact (fx_ hb).elim))
    | refine aw_block ?_
    | refine aw_exit ?_
    | refine aw_ret ?_
    | refine aw_skip ?_)
   refine st_run [0,1] rfl rfl rfl rfl (writeString1 u0 b0 tx hu2 (by omega) (by omega)) rfl (rf2 rfl rfl rfl (by show 0<2;omega) (fun y hy=>by rcases List.mem_cons.1 hy with rfl|hy<;>first|(show 0<2;omega)|(rcases List.mem_cons.1 hy with rfl|hy<;>first|exact True.intro|cases hy)|cases hy)) rfl (j2 (L':=[bldB (.ep 0 (186+65536) 0 0) (u0+65536) (b0++tx) 0,bldR (u0+65536) (b0++tx),(.box [.c (.int .i64 kd), .c (.int .i64 nn), .c (.str tx)])]) rfl) ?_
   repeat' (first
    | refine st_nil ?_
    | refine st_pop rfl rfl rfl rfl ph_ ?_
    | refine st_lop rfl rfl rfl rfl ph_ ?_
    | refine sS_ rfl rfl rfl ph_ ?_
    | refine st_lit rfl rfl rfl rfl ph_ ?_
    | refine st_skip rfl rfl rfl ?_
    | refine sk0_ rfl rfl ?_
    | (refine st_if rfl (fun hb=>?_) (fun hb=>?_)<;>(first|exact (fx_ hb).elim|rw [hb]))
    | refine aw_seq ?_
    | refine aw_region tabK_ok _ rfl ?_
    | refine aw_drawn2 tabKS_ok _ rfl mx_ (by decide +kernel) ?_
    | (refine aw_cond rfl (fun hb=>?_) (fun hb=>?_)<;>(try exact (fx_ hb).elim))
    | refine aw_block ?_
    | refine aw_exit ?_
    | refine aw_ret ?_
    | refine aw_skip ?_)
   exact ⟨i+1,by omega,by omega,fm_ ⟨rfl,rfl,rfl,rfl,slot_int (wrap_eq (by omega) (by omega)),trivial⟩ [(.box [.c (.int .i64 kd), .c (.int .i64 nn), .c (.str tx)])] (by rw [eN];rfl) (by rw [eN];exact ⟨trivial,(by show 0<2;omega),trivial,trivial,trivial,trivial⟩) (by rw [eN];exact ⟨bld_below (by show 0<2;omega) (by show 1<2;omega),byteRow_below _ _ _,trivial⟩)⟩
 ·have hi2:i=l.length:=by omega
  have htk:l.take i=l:=by rw [hi2,List.take_length]
  by_cases hi0:i=0
  ·subst hi0
   have hnil:l=[]:=List.eq_nil_of_length_eq_zero hi2.symm
   subst hnil
   have e0:keyOb [] 0=[bldB (.c (.nul .ptr)) 5 ⟨#[]⟩ 0,bldR 5 ⟨#[]⟩]:=rfl
   rw [e0]
   repeat' (first
    | refine st_nil ?_
    | refine st_pop rfl rfl rfl rfl ph_ ?_
    | refine st_lop rfl rfl rfl rfl ph_ ?_
    | refine sS_ rfl rfl rfl ph_ ?_
    | refine st_lit rfl rfl rfl rfl ph_ ?_
    | refine st_skip rfl rfl rfl ?_
    | refine sk0_ rfl rfl ?_
    | (refine st_if rfl (fun hb=>?_) (fun hb=>?_)<;>(first|exact (fx_ hb).elim|rw [hb]))
    | refine aw_seq ?_
    | refine aw_region tabK_ok _ rfl ?_
    | refine aw_drawn2 tabKS_ok _ rfl mx_ (by decide +kernel) ?_
    | (refine aw_cond rfl (fun hb=>?_) (fun hb=>?_)<;>(try exact (fx_ hb).elim))
    | refine aw_block ?_
    | refine aw_exit ?_
    | refine aw_ret ?_
    | refine aw_skip ?_)
   refine st_run [0,1] rfl rfl rfl rfl string0 rfl (rf2 rfl rfl rfl True.intro (fun y hy=>by rcases List.mem_cons.1 hy with rfl|hy<;>first|(show 0<2;omega)|(rcases List.mem_cons.1 hy with rfl|hy<;>first|exact True.intro|cases hy)|cases hy)) rfl (join2 rfl (bldR_ren _ _ _) (L':=[bldB (.c (.nul .ptr)) 5 ⟨#[]⟩ 0,bldR 5 ⟨#[]⟩]) rfl) ?_
   repeat' (first
    | refine st_nil ?_
    | refine st_pop rfl rfl rfl rfl ph_ ?_
    | refine st_lop rfl rfl rfl rfl ph_ ?_
    | refine sS_ rfl rfl rfl ph_ ?_
    | refine st_lit rfl rfl rfl rfl ph_ ?_
    | refine st_skip rfl rfl rfl ?_
    | refine sk0_ rfl rfl ?_
    | (refine st_if rfl (fun hb=>?_) (fun hb=>?_)<;>(first|exact (fx_ hb).elim|rw [hb]))
    | refine aw_seq ?_
    | refine aw_region tabK_ok _ rfl ?_
    | refine aw_drawn2 tabKS_ok _ rfl mx_ (by decide +kernel) ?_
    | (refine aw_cond rfl (fun hb=>?_) (fun hb=>?_)<;>(try exact (fx_ hb).elim))
    | refine aw_block ?_
    | refine aw_exit ?_
    | refine aw_ret ?_
    | refine aw_skip ?_)
   exact end_ret (res_of rfl (by trivial) rfl)
  ·have e1:keyOb l i=[bldB (.ep 0 (186+65536) 0 0) (5+458752*i) (keyC l) 0,bldR (5+458752*i) (keyC l)]:=by unfold keyOb;rw [htk,show decide (i=0)=false by simpa using hi0];rfl
   rw [e1]
   rw [htk] at hsz
   have hu:(5+458752*i)%65536=5:=by omega
   generalize 5+458752*i=u0 at hu
   have hpos:0<(keyC l).size:=by
    obtain ⟨v,hv⟩:=gol_ (show i-1<l.length by omega)
    have hsn:=keyC_snoc (l.take (i-1)) v
    rw [← take_succ hv,show i-1+1=i by omega,htk] at hsn
    obtain ⟨q1,q2,q3⟩:=h v (List.mem_of_getElem? hv)
    have:=(itoaB_size v.kind q1.1 q1.2).2
    rw [hsn]
    show 0<(numS (keyC (List.take (i-1) l)) [v.kind,v.int,(v.text.size:Int)]++v.text).size
    have e3:numS (keyC (List.take (i-1) l)) [v.kind,v.int,(v.text.size:Int)]=keyC (List.take (i-1) l)++itoaB v.kind++c32++itoaB v.int++c32++itoaB v.text.size++c32:=rfl
    rw [e3]
    simp only [ByteArray.size_append];omega
   generalize keyC l=s0 at hsz hpos
   repeat' (first
    | refine st_nil ?_
    | refine st_pop rfl rfl rfl rfl ph_ ?_
    | refine st_lop rfl rfl rfl rfl ph_ ?_
    | refine sS_ rfl rfl rfl ph_ ?_
    | refine st_lit rfl rfl rfl rfl ph_ ?_
    | refine st_skip rfl rfl rfl ?_
    | refine sk0_ rfl rfl ?_
    | (refine st_if rfl (fun hb=>?_) (fun hb=>?_)<;>(first|exact (fx_ hb).elim|rw [hb]))
    | refine aw_seq ?_
    | refine aw_region tabK_ok _ rfl ?_
    | refine aw_drawn2 tabKS_ok _ rfl mx_ (by decide +kernel) ?_
    | (refine aw_cond rfl (fun hb=>?_) (fun hb=>?_)<;>(try exact (fx_ hb).elim))
    | refine aw_block ?_
    | refine aw_exit ?_
    | refine aw_ret ?_
    | refine aw_skip ?_)
   refine st_run [0,1] rfl rfl rfl rfl (string1 u0 s0 hu hpos (by omega)) rfl (rf2 rfl rfl rfl (by show 0<2;omega) (fun y hy=>by rcases List.mem_cons.1 hy with rfl|hy<;>first|(show 0<2;omega)|(rcases List.mem_cons.1 hy with rfl|hy<;>first|exact True.intro|cases hy)|cases hy)) rfl (join2 rfl rfl (L':=[bldB (.ep 0 (186+65536) 0 0) u0 s0 0, .dead]) rfl) ?_
   repeat' (first
    | refine st_nil ?_
    | refine st_pop rfl rfl rfl rfl ph_ ?_
    | refine st_lop rfl rfl rfl rfl ph_ ?_
    | refine sS_ rfl rfl rfl ph_ ?_
    | refine st_lit rfl rfl rfl rfl ph_ ?_
    | refine st_skip rfl rfl rfl ?_
    | refine sk0_ rfl rfl ?_
    | (refine st_if rfl (fun hb=>?_) (fun hb=>?_)<;>(first|exact (fx_ hb).elim|rw [hb]))
    | refine aw_seq ?_
    | refine aw_region tabK_ok _ rfl ?_
    | refine aw_drawn2 tabKS_ok _ rfl mx_ (by decide +kernel) ?_
    | (refine aw_cond rfl (fun hb=>?_) (fun hb=>?_)<;>(try exact (fx_ hb).elim))
    | refine aw_block ?_
    | refine aw_exit ?_
    | refine aw_ret ?_
    | refine aw_skip ?_)
   exact end_ret (res_of rfl (by trivial) rfl)
section
variable {P:Program} {ti:TI} {B:Nat→Prop} {R:PH} {γ:List Gh} {L:List Ob} {w:World} {ρ:Operand→Option AV}
theorem sop_litAgg (hti:TIok P ti) {t:TypeId} {E k:Nat} {y:Operand} {cs:List SV} (hy:ρ y=some (.agg cs)) (hl:cs.length=k) (hk:0<k) (hk2:k≤1000) (ht:ti.elem t=some E) (hE:E<65536) (hsz:ti.size E=some k) (hzo:ti.zok E=true) :
  Sop P ρ L (.buildSlice t 1 #[(0,y)]) (.one (.sl L.length (E+65536) 0 1)) (L++[.row (E+65536) [cs] k]):=by
 intro B R γ w ev o ho hi hρ hfv
 obtain ⟨dst,op,type,pos,after,guard⟩:=o
 simp only at ho;subst ho
 obtain ⟨vs,hev,hvs,hrep⟩:=hρ y (by simp [Op.operands]) _ hy
 obtain ⟨i,z,hi1,hi2,hi3,hi4⟩:=hti.zok _ hzo _ (hti.size _ _ hsz)
 have hb:=run_buildSlice (P:=P) w t E 1 #[(0,ev y)] vs i z (under_of hti ht) hi1 hi2 (by rw [hi3];omega) (by rw [hi3];omega) (by
  have h1:=Go.Great.fill_whole hk [ev y] ((Array.range (1*i.size)).map (z.cells[· % z.cells.size]!)) (by intro v hv;rw [List.mem_singleton.1 hv,hev];show vs.size=k;omega) (by simp [hi3])
  have h2:([ev y].flatMap fun v=>v.cells.toList).toArray=vs:=by rw [hev];simp [Value.cells]
  rw [h2,hi3] at h1
  rw [hi3]
  exact h1)
 have hrun:(execOp ev { dst,op := .buildSlice t 1 #[(0,y)],type,pos,after,guard }).run P w = .ok (.value (.slice (some ⟨w.heap.size,0,none⟩) 1 1)) (w.alloc (.cells vs E)):=by
  simp [execOp,hb]
 have hm:Mv R R γ (γ++[.arr w.heap.size 1]) L (L++[.row (E+65536) [cs] k]):=Mv.push _ _ hi.len
 refine ⟨_,R,_, .inl ⟨_,hrun,⟨rfl,rfl⟩,by simp,fun ver2 es2 k2 e2=>?_⟩,?_,⟨Kept.alloc hi.bsz _,PH.sub_refl _,fun _ _ _=>rfl⟩,hm⟩
 ·rw [List.getElem?_append_right (by omega)] at e2
  simp at e2
  obtain ⟨q1,q2,q3⟩:=e2
  subst q1 q2
  exact ⟨Nat.le_refl _,fun _=>⟨by simp, .arr w.heap.size 1,by rw [← hi.len];simp, .inl (by rw [Nat.zero_mul])⟩⟩
 ·refine hi.push _ _ _ rfl ⟨⟨_,E,⟨heap_new w _,by show (E:Nat)=(E+65536)%65536;omega,by omega⟩,by omega,fun i e j u x he hu hx=>?_⟩,by simp,by omega,by simp [hl],fun o=>hi.none_at o⟩
  have hi0:i=0:=by have:=(List.getElem?_eq_some_iff.1 he).1;simpa using this
  subst hi0
  simp at he;subst he
  exact SV.mv hm (hrep j u x (by simpa using hu) hx)
end
structure GrpC where
 f:Fct
 ps:List Per
abbrev pvalB (p:Per):Bool:=decide (0≤p.lo)&&decide (p.lo<p.hi)&&decide (p.hi≤1099511627776)
theorem gPV_eq (p:Per):gPV p=some (pvalB p):=by
 unfold gPV pvalB
 cases h1:decide (0≤p.lo)<;>cases h2:decide (p.lo<p.hi)<;>cases h3:decide (p.hi≤1099511627776)<;>simp_all
def gfind (s:ByteArray):List GrpC→Option Nat
 | []=>none
 | g::r=>if s=keyC g.f.row then some 0 else (gfind s r).map (· + 1)
def mOf:Nat→List GrpC→List (AC × AV)
 | _,[]=>[]
 | k,g::r=>(.str (keyC g.f.row), .one (.c (.int .i64 k)))::mOf (k+1) r
theorem mOf_keys : ∀ (G:List GrpC) (k:Nat),strKeys (mOf k G)
 | [],_=>by intro p hp;cases hp
 | g::r,k=>by
  intro p hp
  rcases List.mem_cons.1 hp with rfl|hp
  ·exact ⟨_,rfl⟩
  ·exact mOf_keys r (k+1) p hp
theorem kidx_mOf (s:ByteArray) : ∀ (G:List GrpC) (k:Nat),kidx s (mOf k G)=gfind s G
 | [],_=>rfl
 | g::r,k=>by
  simp only [mOf,kidx,gfind]
  rw [kidx_mOf s r (k+1)]
theorem mOf_get : ∀ (G:List GrpC) (k i:Nat),i<G.length → ∃ q,(mOf k G)[i]?=some q∧q.2 = .one (.c (.int .i64 ((k+i:Nat):Int)))
 | [],_,_,h=>by simp at h
 | g::r,k,0,_=>⟨_,rfl,by simp⟩
 | g::r,k,i+1,h=>by
  obtain ⟨q,h1,h2⟩:=mOf_get r (k+1) i (by simpa using h)
  exact ⟨q,by simpa [mOf] using h1,by rw [h2,show k+1+i=k+(i+1) by omega]⟩
theorem gfind_lt {s:ByteArray} : ∀ {G:List GrpC} {i:Nat}, gfind s G=some i→i<G.length
 | [],_,h=>by simp [gfind] at h
 | g::r,i,h=>by
  unfold gfind at h
  split at h
  ·injection h with h;subst h;simp
  ·cases hr:gfind s r with
   | none=>rw [hr] at h;cases h
   | some j=>rw [hr] at h;injection h with h;subst h;have:=gfind_lt hr;simp;omega
theorem mval_some {s:ByteArray} {G:List GrpC} {i:Nat} {z:AV} (h:gfind s G=some i):mval (mOf 0 G) s z = .one (.c (.int .i64 i)):=by
 obtain ⟨q,h1,h2⟩:=mOf_get G 0 i (gfind_lt h)
 unfold mval
 rw [kidx_mOf,h]
 simp only [h1,h2,Nat.zero_add]
theorem mval_none {s:ByteArray} {G:List GrpC} {z:AV} (h:gfind s G=none):mval (mOf 0 G) s z=z:=by
 unfold mval
 rw [kidx_mOf,h]
theorem mOf_snoc : ∀ (G:List GrpC) (k:Nat) (g:GrpC),mOf k (G++[g])=mOf k G++[(.str (keyC g.f.row), .one (.c (.int .i64 ((k+G.length:Nat):Int))))]
 | [],k,g=>by simp [mOf]
 | x::r,k,g=>by
  have:=mOf_snoc r (k+1) g
  simp only [List.cons_append,mOf,this,List.length_cons,show k+1+r.length=k+(r.length+1) by omega]
theorem mput_none {s:ByteArray} {G:List GrpC} (h:gfind s G=none) (g:GrpC) (hg:keyC g.f.row=s):mput (mOf 0 G) s (.one (.c (.int .i64 (G.length:Nat))))=mOf 0 (G++[g]):=by
 unfold mput
 rw [kidx_mOf,h,mOf_snoc,hg,Nat.zero_add]
theorem mOf_set {G:List GrpC} {i:Nat} {g:GrpC} (hg:G[i]?=some g) (ps:List Per) : ∀ k,mOf k (G.set i ⟨g.f,ps⟩)=mOf k G:=by
 induction G generalizing i with
 | nil=>intro k;rfl
 | cons x r ih =>
  intro k
  cases i with
  | zero=>simp at hg;subst hg;rfl
  | succ i=>simp only [List.set_cons_succ,mOf];rw [ih (by simpa using hg)]
theorem sop_get1 {P:Program} {ti:TI} {ρ:Operand→Option AV} {L:List Ob} {t kt et:TypeId} {x k:Operand} {s:ByteArray} {id:Nat} {G:List GrpC} {i:Nat} (hti:TIok P ti) (hf:gfind s G=some i) (hx:ρ x=some (.one (.mp id))) (hk:ρ k=some (.one (.c (.str s)))) (hL:L[id]?=some (.map (mOf 0 G)))
  (ht:ti.kind t=some (.map kt et)) (hkt:ti.kind kt=some .string) (hz:ti.zero et=some (.one (.c (.int .i64 0)))):Sop P ρ L (.lookup t x k true) (.tup [.one (.int .i64 i), .one (.bool true)]) L:=by
 have:=sop_lookup_ok (P:=P) hx hk hL (mOf_keys G 0) (hti.kind _ _ ht) (hti.kind _ _ hkt) (hti.zero _ _ hz) (p := .one (.int .i64 i)) (by rw [mval_some hf];rfl)
 rw [kidx_mOf,hf] at this
 exact this
theorem sop_get0 {P:Program} {ti:TI} {ρ:Operand→Option AV} {L:List Ob} {t kt et:TypeId} {x k:Operand} {s:ByteArray} {id:Nat} {G:List GrpC} (hti:TIok P ti) (hf:gfind s G=none) (hx:ρ x=some (.one (.mp id))) (hk:ρ k=some (.one (.c (.str s)))) (hL:L[id]?=some (.map (mOf 0 G)))
  (ht:ti.kind t=some (.map kt et)) (hkt:ti.kind kt=some .string) (hz:ti.zero et=some (.one (.c (.int .i64 0)))):Sop P ρ L (.lookup t x k true) (.tup [.one (.int .i64 0), .one (.bool false)]) L:=by
 have:=sop_lookup_ok (P:=P) hx hk hL (mOf_keys G 0) (hti.kind _ _ ht) (hti.kind _ _ hkt) (hti.zero _ _ hz) (p := .one (.int .i64 0)) (by rw [mval_none hf];rfl)
 rw [kidx_mOf,hf] at this
 exact this
theorem sop_putG {P:Program} {ti:TI} {ρ:Operand→Option AV} {L:List Ob} {t kt et:TypeId} {x k y:Operand} {s:ByteArray} {id:Nat} {G:List GrpC} (g:GrpC) (hti:TIok P ti) (hf:gfind s G=none) (hg:keyC g.f.row=s) (hx:ρ x=some (.one (.mp id))) (hk:ρ k=some (.one (.c (.str s)))) (hy:ρ y=some (.one (.c (.int .i64 (G.length:Nat))))) (hL:L[id]?=some (.map (mOf 0 G)))
  (ht:ti.kind t=some (.map kt et)) (hkt:ti.kind kt=some .string):Sop P ρ L (.mapUpdate t x k y) .undef (L.set id (.map (mOf 0 (G++[g])))):=by
 have:=sop_mapUpdate (P:=P) hx hk hy hL (mOf_keys G 0) (hti.kind _ _ ht) (hti.kind _ _ hkt)
 rw [mput_none hf g hg] at this
 exact this
def gstepC (G:List GrpC) (f:Fct):List GrpC:=bif pvalB f.valid then (match gfind (keyC f.row) G with
 | some i=>match G[i]? with
  | some g=>G.set i ⟨g.f,g.ps++[f.valid]⟩
  | none=>G
 | none=>G++[⟨f,[f.valid]⟩]) else G
def gfoldC (l:List Fct):List GrpC:=l.foldl gstepC []
theorem gfoldC_snoc (l:List Fct) (f:Fct):gfoldC (l++[f])=gstepC (gfoldC l) f:=by unfold gfoldC;rw [List.foldl_append];rfl
theorem gstepC_len (G:List GrpC) (f:Fct):(gstepC G f).length≤G.length+1:=by
 unfold gstepC
 cases pvalB f.valid with
 | false=>rw [cond_false];omega
 | true =>
  rw [cond_true]
  split
  ·split
   ·rw [List.length_set];omega
   ·omega
  ·simp
theorem gfoldC_len (l:List Fct):(gfoldC l).length≤l.length:=by
 have : ∀ (l:List Fct) (G:List GrpC),(l.foldl gstepC G).length≤G.length+l.length:=by
  intro l
  induction l with
  | nil=>intro G;simp
  | cons f l ih=>intro G;have h1:=ih (gstepC G f);have h2:=gstepC_len G f;rw [List.foldl_cons,List.length_cons];omega
 have:=this l []
 simpa [gfoldC] using this
theorem gfoldC_mem (l:List Fct) : ∀ g∈gfoldC l,g.ps.length≤l.length∧g.f∈l∧(∀ p∈g.ps,pvalB p=true):=by
 have : ∀ (l:List Fct) (G:List GrpC) (b:Nat) (l0:List Fct),(∀ g∈G,g.ps.length≤b∧g.f∈l0∧(∀ p∈g.ps,pvalB p=true)) → ∀ g∈l.foldl gstepC G,g.ps.length≤b+l.length∧g.f∈l0++l∧(∀ p∈g.ps,pvalB p=true):=by
  intro l
  induction l with
  | nil=>intro G b l0 h g hg;simpa using h g hg
  | cons f l ih =>
   intro G b l0 h g hg
   rw [List.foldl_cons] at hg
   have hst : ∀ g∈gstepC G f,g.ps.length≤b+1∧g.f∈l0++[f]∧(∀ p∈g.ps,pvalB p=true):=by
    intro g hg
    unfold gstepC at hg
    cases hv:pvalB f.valid with
    | false=>rw [hv,cond_false] at hg;obtain ⟨a1,a2,a3⟩:=h g hg;exact ⟨by omega,List.mem_append.2 (.inl a2),a3⟩
    | true =>
     rw [hv,cond_true] at hg
     split at hg
     ·split at hg
      ·rename_i i _ g0 hg0
       rcases List.mem_or_eq_of_mem_set hg with hg|rfl
       ·obtain ⟨a1,a2,a3⟩:=h g hg;exact ⟨by omega,List.mem_append.2 (.inl a2),a3⟩
       ·obtain ⟨a1,a2,a3⟩:=h g0 (List.mem_of_getElem? hg0)
        refine ⟨by simp;omega,List.mem_append.2 (.inl a2),fun p hp=>?_⟩
        rcases List.mem_append.1 hp with hp|hp
        ·exact a3 p hp
        ·rw [List.mem_singleton.1 hp];exact hv
      ·obtain ⟨a1,a2,a3⟩:=h g hg;exact ⟨by omega,List.mem_append.2 (.inl a2),a3⟩
     ·rcases List.mem_append.1 hg with hg|hg
      ·obtain ⟨a1,a2,a3⟩:=h g hg;exact ⟨by omega,List.mem_append.2 (.inl a2),a3⟩
      ·rw [List.mem_singleton.1 hg]
       exact ⟨by simp,by simp,fun p hp=>by rw [List.mem_singleton.1 hp];exact hv⟩
   obtain ⟨a1,a2,a3⟩:=ih (gstepC G f) (b+1) (l0++[f]) hst g hg
   exact ⟨by rw [List.length_cons];omega,by simpa using a2,a3⟩
 intro g hg
 have:=this l [] 0 [] (fun g hg=>by cases hg) g hg
 simpa using this
end Go.Proofs.YtfccopdbgfdcdaaGreatDoor
