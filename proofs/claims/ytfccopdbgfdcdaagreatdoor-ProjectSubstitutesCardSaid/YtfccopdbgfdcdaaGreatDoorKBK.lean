/- Parts of the proof, joined. No condition. -/
import Derived.Test.YtfccopdbgfdcdaaGreatDoorKAA
import Derived.Test.YtfccopdbgfdcdaaGreatDoorKBJ
import Derived.Test.YtfccopdbgfdcdaaGreatDoorKBI
import Derived.Test.YtfccopdbgfdcdaaGreatDoorKAM
set_option linter.unusedSimpArgs false
set_option linter.unusedVariables false
namespace Go.Proofs.YtfccopdbgfdcdaaGreatDoor
open Go.RowKit Go.MapKept
set_option maxRecDepth 100000
def abY:TI := { VE with dyn:=false }
theorem jA:TIok Tryz.prog abY:=⟨ah.size,ah.agg,ah.elem,ah.field,ah.zero,ah.bytes,ah.kind,ah.struct,ah.zok,ah.eqs⟩
def acl:TI := { abY with soft:=true }
theorem iO:TIok Tryz.prog acl:=⟨ah.size,ah.agg,ah.elem,ah.field,ah.zero,ah.bytes,ah.kind,ah.struct,ah.zok,ah.eqs⟩
def c32:ByteArray:=⟨#[32]⟩
def BI (v:Val):List Int:=[v.kind,v.int,v.text.size]
def kY (a:ByteArray) (l:List Int):ByteArray:=l.foldl (fun a n=>a++kR n++c32) a
def jg (l:List Val):ByteArray:=l.foldl (fun a v=>kY a (BI v)++v.text) ⟨#[]⟩
theorem Lp (l:List Val) (v:Val):jg (l++[v])=kY (jg l) (BI v)++v.text:=by unfold jg;rw [List.foldl_append];rfl
theorem VD (a:ByteArray) (l:List Int) (n:Int):kY a (l++[n])=kY a l++kR n++c32:=by unfold kY;rw [List.foldl_append];rfl
def VOK (v:Val):Prop:=(-9223372036854775808<=v.kind/\v.kind<=9223372036854775807)/\(-9223372036854775808<=v.int/\v.int<=9223372036854775807)/\v.text.size<=10000000000
theorem Ar (n:Int) (h0 : -9223372036854775808<=n) (h1:n<=9223372036854775807):(kR n).size<=30/\0<(kR n).size:=by
 unfold kR
 show (Lib.itoa n).toArray.size<=30/\0<(Lib.itoa n).toArray.size
 rw [List.size_toArray]
 have key : ∀ u:Nat,u<18446744073709551616->Lib.nDigits u<=20:=by
  intro u h
  rcases Nat.eq_zero_or_pos u with rfl|h1
  ·rw [Lib.nDigits_small (by omega)];omega
  ·have:=Lib.numDigits_eq u h1 h;split at this<;>omega
 by_cases hn:n<0
 ·obtain ⟨u,rfl⟩ : ∃ u:Nat,n = -(u:Int):=⟨n.natAbs,by omega⟩
  rw [Lib.itoa_neg u (by omega),ad5,Lib.decDigits_length]
  have:=key u (by omega);omega
 ·obtain ⟨u,rfl⟩ : ∃ u:Nat,n=(u:Int):=⟨n.toNat,by omega⟩
  rw [Lib.itoa_nonneg,Lib.decDigits_length]
  have:=key u (by omega);have:=Lib.nDigits_pos u;omega
theorem yJ : ∀ (l:List Int) (a:ByteArray),(∀ n∈l, -9223372036854775808<=n/\n<=9223372036854775807)->(kY a l).size<=a.size+31*l.length
 | [],a,_=>by simp [kY]
 | n::l,a,h=>by
  have h1:=yJ l (a++kR n++c32) fun x hx=>h x (ad7 _ hx)
  have h2:=(Ar n (h n (by simp)).1 (h n (by simp)).2).1
  have hc:c32.size=1:=rfl
  have e:kY a (n::l)=kY (a++kR n++c32) l:=rfl
  rw [e]
  simp only [ByteArray.size_append,hc] at h1
  rw [ad5];omega
theorem Ua (l:List Val) (h : ∀ v∈l,VOK v):(jg l).size<=l.length*10000000100:=by
 have key : ∀ (l:List Val) (a:ByteArray),(∀ v∈l,VOK v)->(l.foldl (fun a v=>kY a (BI v)++v.text) a).size<=a.size+l.length*10000000100:=by
  intro l
  induction l with
  | nil=>intro a _;simp
  | cons v l ih =>
   intro a h
   obtain ⟨h1,h2,h3⟩:=h v (by simp)
   rw [aew]
   have q1:=ih (kY a (BI v)++v.text) fun x hx=>h x (ad7 _ hx)
   have q2:=yJ (BI v) a (by
    intro n hn
    simp only [BI,adZ,List.not_mem_nil,or_false] at hn
    rcases hn with rfl|rfl|rfl
    ·exact h1
    ·exact h2
    ·omega)
   have e3:(BI v).length=3:=rfl
   simp only [ByteArray.size_append] at q1
   rw [ad5]
   omega
 have:=key l ⟨#[]⟩ h
 have e:(⟨#[]⟩:ByteArray).size=0:=rfl
 rw [e,aeo] at this
 exact this
def pB (fresh:Bool):SV:=if fresh then .c (.nul .ptr) else (.ep 0 (186+65536) 0 0)
theorem abj (b:Bool):(pB b).ren [0,1]=pB b:=by cases b<;>rfl
theorem F8 (b:Bool) {n:Nat} (h:0<n):(pB b).below n:=by cases b<;>first|exact h|exact True.intro
theorem Md (b:Bool) (u:Nat) (s t:ByteArray) (hu:u%65536=5) (hs:s.size<=100000000000000) (ht:t.size<=1000000000000):Run Tryz.prog 188 [gW (pB b) u s 0,gX u s] [.one (.ep 0 (186+65536) 0 0), .one (.c (.str t))] [gW (.ep 0 (186+65536) 0 0) (u+65536) (s++t) 0,gX (u+65536) (s++t)] (.tup [.one (.int .i64 t.size), .one (.nul .iface)]):=by
 cases b
 ·exact CG u s t hu hs ht
 ·exact Ny u s t hu hs ht
theorem rf2 {L:List Ob} {p:SV} {u:Nat} {s:ByteArray} {x:AV} {xs:List AV} (hL0:L[0]?=some (gW p u s 0)) (hL1:L[1]?=some (gX u s)) (hp:p.ren [0,1]=p) (hpb:p.below 2) (hx : ∀ y∈x::xs,y.below 2):nE [0,1] [gW p u s 0,gX u s] (x::xs) L:=by
 refine xE ?_ (by rw [iK];exact hL1) (by decide) (bZ hpb (by show 1<2;omega)) (bg _ _ _) hx
 rw [hL0]
 show some (Ob.row _ [[p,SV.sl 1 u 0 s.size]] 2)=some (Ob.row _ [[p.ren [0,1],SV.sl 1 u 0 s.size]] 2)
 rw [hp]
theorem j2 {L L':List Ob} {u:Nat} {s:ByteArray} (h:(L.set 0 (gW (.ep 0 (186+65536) 0 0) u s 0)).set 1 (gX u s)=L'):joinL [0,1] L [gW (.ep 0 (186+65536) 0 0) u s 0,gX u s]=L':=FQ rfl (iK _ _ _) h
def Gg (l:List Val) (i:Nat):List Ob:=[gW (pB (decide (i=0))) (5+458752*i) (jg (l.take i)) 0,gX (5+458752*i) (jg (l.take i))]
def Gy (u:Nat) (a:ByteArray) (f:Bool) (ns:List Int) (bx:Ob) (j:Nat):List Ob:=[gW (pB (f&&decide (j=0))) (u+131072*j) (kY a (ns.take j)) 0,gX (u+131072*j) (kY a (ns.take j)),bx]
set_option maxHeartbeats 4000000 in
theorem UW (l:List Val) (hl:l.length<=1000) (h : ∀ v∈l,VOK v):Pure Tryz.prog 170 [.one (dC l)] (.val (.one (.str (jg l)))):=by
 refine pa_ jA Tryz.func170 rfl rfl Tryz.ntmps170 (by simp) ?_
 simp only [argT,PV.av,adT,adX]
 obtain ⟨inf,hinf,hiz⟩ : ∃ inf,Tryz.prog.info? 186=some inf/\inf.zero=some (.agg #[.pointer none, .slice none 0 0]):=by
  have hh:(Tryz.prog.info? 186).bind (·.zero)=some (.agg #[.pointer none, .slice none 0 0]):=by kernel_rfl
  cases hi:Tryz.prog.info? 186 with
  | none=>rw [hi] at hh;cases hh
  | some j=>rw [hi] at hh;exact ⟨j,rfl,by simpa using hh⟩
 have hc:c32.size=1:=rfl
 have he0:(⟨#[]⟩:ByteArray).size=0:=rfl
 obtain ⟨n,hn⟩ : ∃ n,l.length=n:=⟨_,rfl⟩
 repeat' (first
  | refine st_nil ?_
  | (refine iy rfl rfl rfl rfl rfl (rT (Eb:=5) (k:=1) hinf hiz (by decide) (by decide) (by decide)) ?_)
  | (refine aP rfl rfl rfl rfl ?_ ?_; · (repeat' (first|exact trivial|rfl|exact adS rfl|omega|refine aeA.2 ⟨?_,?_⟩|exact fun _ h=>nomatch h|apply And.intro)))
  | (refine aT rfl rfl rfl rfl ?_ ?_; · (repeat' (first|exact trivial|rfl|exact adS rfl|omega|refine aeA.2 ⟨?_,?_⟩|exact fun _ h=>nomatch h|apply And.intro)))
  | (refine sS_ rfl rfl rfl ?_ ?_; · (repeat' (first|exact trivial|rfl|exact adS rfl|omega|refine aeA.2 ⟨?_,?_⟩|exact fun _ h=>nomatch h|apply And.intro)))
  | (refine aS rfl rfl rfl rfl ?_ ?_; · (repeat' (first|exact trivial|rfl|exact adS rfl|omega|refine aeA.2 ⟨?_,?_⟩|exact fun _ h=>nomatch h|apply And.intro)))
  | refine aK rfl rfl rfl ?_
  | refine sk0_ rfl rfl ?_
  | (refine bF rfl (fun hb=>?_) (fun hb=>?_)<;>(first|exact (fx_ hb).elim|rw [hb]))
  | refine aw_seq ?_
  | refine aw_region jA _ rfl ?_
  | refine aw_drawn2 iO _ rfl mixed (by decide +kernel) ?_
  | (refine aJ rfl (fun hb=>?_) (fun hb=>?_)<;>(try exact (fx_ hb).elim))
  | refine aw_block ?_
  | refine aw_exit ?_
  | refine aw_ret ?_
  | refine aw_skip ?_)
 refine qh (fun i:Nat=>[(0, .one (.c (dC l))),(3, .one (.ep 0 (186+65536) 0 0)),(8, .one (.c (dC l))),(9, .one (.c (.int .i64 n))),(10, .one (.c (.int .i64 i)))]) (fun i=>Gg l i) (fun i=>i<=n) (fun i=>n-i) 0 (by omega) (fun _ _=>ad4 _)
  (fm_ ⟨rfl,rfl,rfl,iA (by simp [hn]),rfl,trivial⟩ [] rfl ⟨trivial,(by show 0<2;omega),trivial,trivial,trivial,trivial⟩ ⟨bZ (F8 _ (by show 0<2;omega)) (by show 1<2;omega),bg _ _ _,trivial⟩) ?_
 intro i hi
 have hsz:=Ua (l.take i) fun v hv=>h v (aeD hv)
 rw [aex] at hsz
 by_cases hlt2:i<n
 ·obtain ⟨v,hv⟩:=gol_ (show i<l.length by omega)
  obtain ⟨k1,k2,k3⟩:=h v (adO hv)
  have hsn:=Lp (l.take i) v
  rw [<- kV hv] at hsn
  have hu:(5+458752*i)%65536=5:=by omega
  have e0:Gg l i=[gW (pB (decide (i=0))) (5+458752*i) (jg (l.take i)) 0,gX (5+458752*i) (jg (l.take i))]:=rfl
  rw [e0]
  generalize jg (l.take i)=a0 at hsz hsn
  obtain ⟨kd,nn,tx⟩:=v
  simp only at k1 k2 k3
  repeat' (first
   | refine st_nil ?_
   | (refine aP rfl rfl rfl rfl ?_ ?_; · (repeat' (first|exact trivial|rfl|exact adS rfl|omega|refine aeA.2 ⟨?_,?_⟩|exact fun _ h=>nomatch h|apply And.intro)))
   | (refine A9 rfl rfl rfl rfl rfl rfl rfl rfl (Mr hv) ?_ ?_; · exact ⟨by omega,rfl⟩)
   | (refine aT rfl rfl rfl rfl ?_ ?_; · (repeat' (first|exact trivial|rfl|exact adS rfl|omega|refine aeA.2 ⟨?_,?_⟩|exact fun _ h=>nomatch h|apply And.intro)))
   | (refine sS_ rfl rfl rfl ?_ ?_; · (repeat' (first|exact trivial|rfl|exact adS rfl|omega|refine aeA.2 ⟨?_,?_⟩|exact fun _ h=>nomatch h|apply And.intro)))
   | (refine aS rfl rfl rfl rfl ?_ ?_; · (repeat' (first|exact trivial|rfl|exact adS rfl|omega|refine aeA.2 ⟨?_,?_⟩|exact fun _ h=>nomatch h|apply And.intro)))
   | refine aK rfl rfl rfl ?_
   | refine sk0_ rfl rfl ?_
   | (refine bF rfl (fun hb=>?_) (fun hb=>?_)<;>(first|exact (fx_ hb).elim|rw [hb]))
   | refine aw_seq ?_
   | refine aw_region jA _ rfl ?_
   | refine aw_drawn2 iO _ rfl mixed (by decide +kernel) ?_
   | (refine aJ rfl (fun hb=>?_) (fun hb=>?_)<;>(try exact (fx_ hb).elim))
   | refine aw_block ?_
   | refine aw_exit ?_
   | refine aw_ret ?_
   | refine aw_skip ?_)
  refine qh (fun j:Nat=>[(0, .one (.c (dC l))),(3, .one (.ep 0 (186+65536) 0 0)),(5, .one (.ptr 2 0)),(8, .one (.c (dC l))),(9, .one (.c (.int .i64 n))),(10, .one (.c (.int .i64 i))),(21, .one (.c (.lst ([kd,nn,(tx.size:Int)].map fun x=>[AC.int .i64 x])))),(22, .one (.c (.int .i64 3))),(23, .one (.c (.int .i64 j)))]) (fun j=>Gy (5+458752*i) a0 (decide (i=0)) [kd,nn,tx.size] (.box [.c (.int .i64 kd), .c (.int .i64 nn), .c (.str tx)]) j) (fun j=>j<=3) (fun j=>3-j) 0 (by omega) (fun _ _=>ad4 _)
   (fm_ ⟨rfl,rfl,rfl,rfl,rfl,rfl,rfl,rfl,rfl,trivial⟩ [] ?_ ⟨trivial,(by show 0<3;omega),(by show 2<3;omega),trivial,trivial,trivial,trivial,trivial,trivial,trivial⟩ ⟨bZ (F8 _ (by show 0<3;omega)) (by show 1<3;omega),bg _ _ _,jl (by rfl),trivial⟩) ?_
  ·simp only [Gy,Nat.mul_zero,Nat.add_zero,List.take_zero,decide_true,Bool.and_true];rfl
  intro j hj
  by_cases hj3:j<3
  ·obtain ⟨x,hx⟩:=gol_ (show j<[kd,nn,(tx.size:Int)].length by exact hj3)
   have hxr : -9223372036854775808<=x/\x<=9223372036854775807:=by
    have:=adO hx
    simp only [adZ,List.not_mem_nil,or_false] at this
    rcases this with rfl|rfl|rfl
    ·exact k1
    ·exact k2
    ·omega
   have hit:=Vm x hxr.1 hxr.2
   repeat' (first
    | refine st_nil ?_
    | (refine aP rfl rfl rfl rfl ?_ ?_; · (repeat' (first|exact trivial|rfl|exact adS rfl|omega|refine aeA.2 ⟨?_,?_⟩|exact fun _ h=>nomatch h|apply And.intro)))
    | (refine A9 rfl rfl rfl rfl rfl rfl rfl rfl (Mr hx) ?_ ?_; · exact ⟨by omega,rfl⟩)
    | (refine aT rfl rfl rfl rfl ?_ ?_; · (repeat' (first|exact trivial|rfl|exact adS rfl|omega|refine aeA.2 ⟨?_,?_⟩|exact fun _ h=>nomatch h|apply And.intro)))
    | (refine sS_ rfl rfl rfl ?_ ?_; · (repeat' (first|exact trivial|rfl|exact adS rfl|omega|refine aeA.2 ⟨?_,?_⟩|exact fun _ h=>nomatch h|apply And.intro)))
    | (refine aS rfl rfl rfl rfl ?_ ?_; · (repeat' (first|exact trivial|rfl|exact adS rfl|omega|refine aeA.2 ⟨?_,?_⟩|exact fun _ h=>nomatch h|apply And.intro)))
    | refine aK rfl rfl rfl ?_
    | refine sk0_ rfl rfl ?_
    | refine cK rfl rfl rfl rfl hit rfl ?_
    | (refine bF rfl (fun hb=>?_) (fun hb=>?_)<;>(first|exact (fx_ hb).elim|rw [hb]))
    | refine aw_seq ?_
    | refine aw_region jA _ rfl ?_
    | refine aw_drawn2 iO _ rfl mixed (by decide +kernel) ?_
    | (refine aJ rfl (fun hb=>?_) (fun hb=>?_)<;>(try exact (fx_ hb).elim))
    | refine aw_block ?_
    | refine aw_exit ?_
    | refine aw_ret ?_
    | refine aw_skip ?_)
   have hitz:=Ar x hxr.1 hxr.2
   have hns:=yJ ([kd,nn,(tx.size:Int)].take j) a0 (by
    intro y hy
    have:=aeD hy
    simp only [adZ,List.not_mem_nil,or_false] at this
    rcases this with rfl|rfl|rfl
    ·exact k1
    ·exact k2
    ·omega)
   have hl3:([kd,nn,(tx.size:Int)].take j).length<=3:=by rw [aex];exact Nat.le_trans (Nat.min_le_right _ _) (adY _)
   have hsj:=VD a0 ([kd,nn,(tx.size:Int)].take j) x
   rw [<- kV hx] at hsj
   have hu2:(5+458752*i+131072*j)%65536=5:=by omega
   have eC:Gy (5+458752*i) a0 (decide (i=0)) [kd,nn,(tx.size:Int)] (.box [.c (.int .i64 kd), .c (.int .i64 nn), .c (.str tx)]) j=[gW (pB (decide (i=0)&&decide (j=0))) (5+458752*i+131072*j) (kY a0 ([kd,nn,(tx.size:Int)].take j)) 0,gX (5+458752*i+131072*j) (kY a0 ([kd,nn,(tx.size:Int)].take j)),(.box [.c (.int .i64 kd), .c (.int .i64 nn), .c (.str tx)])]:=rfl
   have eC2:Gy (5+458752*i) a0 (decide (i=0)) [kd,nn,(tx.size:Int)] (.box [.c (.int .i64 kd), .c (.int .i64 nn), .c (.str tx)]) (j+1)=[gW (.ep 0 (186+65536) 0 0) (5+458752*i+131072*j+65536+65536) (kY a0 ([kd,nn,(tx.size:Int)].take j)++kR x++c32) 0,gX (5+458752*i+131072*j+65536+65536) (kY a0 ([kd,nn,(tx.size:Int)].take j)++kR x++c32),(.box [.c (.int .i64 kd), .c (.int .i64 nn), .c (.str tx)])]:=by
    unfold Gy
    rw [hsj,show decide (j+1=0)=false by simp,Bool.and_false,show 5+458752*i+131072*(j+1)=5+458752*i+131072*j+65536+65536 by omega]
    rfl
   rw [eC]
   generalize kY a0 ([kd,nn,(tx.size:Int)].take j)=b0 at hns eC2
   generalize 5+458752*i+131072*j=u0 at hu2 eC2
   generalize hB1:kR x=b1 at hitz eC2
   refine lH [0,1] rfl rfl rfl rfl (Md _ u0 b0 b1 hu2 (by omega) (by omega)) rfl (rf2 rfl rfl (abj _) (F8 _ (by show 0<2;omega)) (fun y hy=>by rcases adZ.1 hy with rfl|hy<;>first|(show 0<2;omega)|(rcases adZ.1 hy with rfl|hy<;>first|exact True.intro|cases hy)|cases hy)) rfl (j2 (L':=[gW (.ep 0 (186+65536) 0 0) (u0+65536) (b0++b1) 0,gX (u0+65536) (b0++b1),(.box [.c (.int .i64 kd), .c (.int .i64 nn), .c (.str tx)])]) rfl) ?_
   repeat' (first
    | refine st_nil ?_
    | refine aP rfl rfl rfl rfl ph_ ?_
    | refine aT rfl rfl rfl rfl ph_ ?_
    | refine sS_ rfl rfl rfl ph_ ?_
    | refine aS rfl rfl rfl rfl ph_ ?_
    | refine aK rfl rfl rfl ?_
    | refine sk0_ rfl rfl ?_
    | (refine bF rfl (fun hb=>?_) (fun hb=>?_)<;>(first|exact (fx_ hb).elim|rw [hb]))
    | refine aw_seq ?_
    | refine aw_region jA _ rfl ?_
    | refine aw_drawn2 iO _ rfl mixed (by decide +kernel) ?_
    | (refine aJ rfl (fun hb=>?_) (fun hb=>?_)<;>(try exact (fx_ hb).elim))
    | refine aw_block ?_
    | refine aw_exit ?_
    | refine aw_ret ?_
    | refine aw_skip ?_)
   refine lH [0,1] rfl rfl rfl rfl (Sg (u0+65536) (b0++b1) 32 (by omega) (by simp only [ByteArray.size_append];omega)) rfl (rf2 rfl rfl rfl (by show 0<2;omega) (fun y hy=>by rcases adZ.1 hy with rfl|hy<;>first|(show 0<2;omega)|(rcases adZ.1 hy with rfl|hy<;>first|exact True.intro|cases hy)|cases hy)) rfl (j2 (L':=[gW (.ep 0 (186+65536) 0 0) (u0+65536+65536) (b0++b1++c32) 0,gX (u0+65536+65536) (b0++b1++c32),(.box [.c (.int .i64 kd), .c (.int .i64 nn), .c (.str tx)])]) rfl) ?_
   repeat' (first
    | refine st_nil ?_
    | refine aP rfl rfl rfl rfl ph_ ?_
    | refine aT rfl rfl rfl rfl ph_ ?_
    | refine sS_ rfl rfl rfl ph_ ?_
    | refine aS rfl rfl rfl rfl ph_ ?_
    | refine aK rfl rfl rfl ?_
    | refine sk0_ rfl rfl ?_
    | (refine bF rfl (fun hb=>?_) (fun hb=>?_)<;>(first|exact (fx_ hb).elim|rw [hb]))
    | refine aw_seq ?_
    | refine aw_region jA _ rfl ?_
    | refine aw_drawn2 iO _ rfl mixed (by decide +kernel) ?_
    | (refine aJ rfl (fun hb=>?_) (fun hb=>?_)<;>(try exact (fx_ hb).elim))
    | refine aw_block ?_
    | refine aw_exit ?_
    | refine aw_ret ?_
    | refine aw_skip ?_)
   exact ⟨j+1,by omega,by omega,fm_ ⟨rfl,rfl,rfl,rfl,rfl,rfl,rfl,rfl,iA (iY (by omega) (by omega)),trivial⟩ [] (by rw [eC2];rfl) (by rw [eC2];exact ⟨trivial,(by show 0<3;omega),(by show 2<3;omega),trivial,trivial,trivial,trivial,trivial,trivial,trivial⟩) (by rw [eC2];exact ⟨bZ (by show 0<3;omega) (by show 1<3;omega),bg _ _ _,jl (by rfl),trivial⟩)⟩
  ·have hj4:j=3:=by omega
   subst hj4
   have hns:=yJ [kd,nn,(tx.size:Int)] a0 (by
    intro y hy
    simp only [adZ,List.not_mem_nil,or_false] at hy
    rcases hy with rfl|rfl|rfl
    ·exact k1
    ·exact k2
    ·omega)
   have hl3:[kd,nn,(tx.size:Int)].length=3:=rfl
   have eC:Gy (5+458752*i) a0 (decide (i=0)) [kd,nn,(tx.size:Int)] (.box [.c (.int .i64 kd), .c (.int .i64 nn), .c (.str tx)]) 3=[gW (.ep 0 (186+65536) 0 0) (5+458752*i+393216) (kY a0 [kd,nn,(tx.size:Int)]) 0,gX (5+458752*i+393216) (kY a0 [kd,nn,(tx.size:Int)]),(.box [.c (.int .i64 kd), .c (.int .i64 nn), .c (.str tx)])]:=by
    unfold Gy
    rw [show decide (3=0)=false by simp,Bool.and_false]
    rfl
   have eN:Gg l (i+1)=[gW (.ep 0 (186+65536) 0 0) (5+458752*i+393216+65536) (kY a0 [kd,nn,(tx.size:Int)]++tx) 0,gX (5+458752*i+393216+65536) (kY a0 [kd,nn,(tx.size:Int)]++tx)]:=by
    unfold Gg
    rw [hsn,show decide (i+1=0)=false by simp,show 5+458752*(i+1)=5+458752*i+393216+65536 by omega]
    rfl
   rw [eC]
   generalize kY a0 [kd,nn,(tx.size:Int)]=b0 at hns eN
   have hu2:(5+458752*i+393216)%65536=5:=by omega
   generalize 5+458752*i+393216=u0 at hu2 eN
   repeat' (first
    | refine st_nil ?_
    | refine aP rfl rfl rfl rfl ph_ ?_
    | refine aT rfl rfl rfl rfl ph_ ?_
    | refine sS_ rfl rfl rfl ph_ ?_
    | refine aS rfl rfl rfl rfl ph_ ?_
    | refine aK rfl rfl rfl ?_
    | refine sk0_ rfl rfl ?_
    | (refine bF rfl (fun hb=>?_) (fun hb=>?_)<;>(first|exact (fx_ hb).elim|rw [hb]))
    | refine aw_seq ?_
    | refine aw_region jA _ rfl ?_
    | refine aw_drawn2 iO _ rfl mixed (by decide +kernel) ?_
    | (refine aJ rfl (fun hb=>?_) (fun hb=>?_)<;>(try exact (fx_ hb).elim))
    | refine aw_block ?_
    | refine aw_exit ?_
    | refine aw_ret ?_
    | refine aw_skip ?_)
   refine lH [0,1] rfl rfl rfl rfl (CG u0 b0 tx hu2 (by omega) (by omega)) rfl (rf2 rfl rfl rfl (by show 0<2;omega) (fun y hy=>by rcases adZ.1 hy with rfl|hy<;>first|(show 0<2;omega)|(rcases adZ.1 hy with rfl|hy<;>first|exact True.intro|cases hy)|cases hy)) rfl (j2 (L':=[gW (.ep 0 (186+65536) 0 0) (u0+65536) (b0++tx) 0,gX (u0+65536) (b0++tx),(.box [.c (.int .i64 kd), .c (.int .i64 nn), .c (.str tx)])]) rfl) ?_
   repeat' (first
    | refine st_nil ?_
    | refine aP rfl rfl rfl rfl ph_ ?_
    | refine aT rfl rfl rfl rfl ph_ ?_
    | refine sS_ rfl rfl rfl ph_ ?_
    | refine aS rfl rfl rfl rfl ph_ ?_
    | refine aK rfl rfl rfl ?_
    | refine sk0_ rfl rfl ?_
    | (refine bF rfl (fun hb=>?_) (fun hb=>?_)<;>(first|exact (fx_ hb).elim|rw [hb]))
    | refine aw_seq ?_
    | refine aw_region jA _ rfl ?_
    | refine aw_drawn2 iO _ rfl mixed (by decide +kernel) ?_
    | (refine aJ rfl (fun hb=>?_) (fun hb=>?_)<;>(try exact (fx_ hb).elim))
    | refine aw_block ?_
    | refine aw_exit ?_
    | refine aw_ret ?_
    | refine aw_skip ?_)
   exact ⟨i+1,by omega,by omega,fm_ ⟨rfl,rfl,rfl,rfl,iA (iY (by omega) (by omega)),trivial⟩ [(.box [.c (.int .i64 kd), .c (.int .i64 nn), .c (.str tx)])] (by rw [eN];rfl) (by rw [eN];exact ⟨trivial,(by show 0<2;omega),trivial,trivial,trivial,trivial⟩) (by rw [eN];exact ⟨bZ (by show 0<2;omega) (by show 1<2;omega),bg _ _ _,trivial⟩)⟩
 ·have hi2:i=l.length:=by omega
  have htk:l.take i=l:=by rw [hi2,List.take_length]
  by_cases hi0:i=0
  ·subst hi0
   have hnil:l=[]:=ad9 hi2.symm
   subst hnil
   have e0:Gg [] 0=[gW (.c (.nul .ptr)) 5 ⟨#[]⟩ 0,gX 5 ⟨#[]⟩]:=rfl
   rw [e0]
   repeat' (first
    | refine st_nil ?_
    | refine aP rfl rfl rfl rfl ph_ ?_
    | refine aT rfl rfl rfl rfl ph_ ?_
    | refine sS_ rfl rfl rfl ph_ ?_
    | refine aS rfl rfl rfl rfl ph_ ?_
    | refine aK rfl rfl rfl ?_
    | refine sk0_ rfl rfl ?_
    | (refine bF rfl (fun hb=>?_) (fun hb=>?_)<;>(first|exact (fx_ hb).elim|rw [hb]))
    | refine aw_seq ?_
    | refine aw_region jA _ rfl ?_
    | refine aw_drawn2 iO _ rfl mixed (by decide +kernel) ?_
    | (refine aJ rfl (fun hb=>?_) (fun hb=>?_)<;>(try exact (fx_ hb).elim))
    | refine aw_block ?_
    | refine aw_exit ?_
    | refine aw_ret ?_
    | refine aw_skip ?_)
   refine lH [0,1] rfl rfl rfl rfl Y9 rfl (rf2 rfl rfl rfl True.intro (fun y hy=>by rcases adZ.1 hy with rfl|hy<;>first|(show 0<2;omega)|(rcases adZ.1 hy with rfl|hy<;>first|exact True.intro|cases hy)|cases hy)) rfl (FQ rfl (iK _ _ _) (L':=[gW (.c (.nul .ptr)) 5 ⟨#[]⟩ 0,gX 5 ⟨#[]⟩]) rfl) ?_
   repeat' (first
    | refine st_nil ?_
    | refine aP rfl rfl rfl rfl ph_ ?_
    | refine aT rfl rfl rfl rfl ph_ ?_
    | refine sS_ rfl rfl rfl ph_ ?_
    | refine aS rfl rfl rfl rfl ph_ ?_
    | refine aK rfl rfl rfl ?_
    | refine sk0_ rfl rfl ?_
    | (refine bF rfl (fun hb=>?_) (fun hb=>?_)<;>(first|exact (fx_ hb).elim|rw [hb]))
    | refine aw_seq ?_
    | refine aw_region jA _ rfl ?_
    | refine aw_drawn2 iO _ rfl mixed (by decide +kernel) ?_
    | (refine aJ rfl (fun hb=>?_) (fun hb=>?_)<;>(try exact (fx_ hb).elim))
    | refine aw_block ?_
    | refine aw_exit ?_
    | refine aw_ret ?_
    | refine aw_skip ?_)
   exact bE (bR rfl (by trivial) rfl)
  ·have e1:Gg l i=[gW (.ep 0 (186+65536) 0 0) (5+458752*i) (jg l) 0,gX (5+458752*i) (jg l)]:=by unfold Gg;rw [htk,show decide (i=0)=false by simpa using hi0];rfl
   rw [e1]
   rw [htk] at hsz
   have hu:(5+458752*i)%65536=5:=by omega
   generalize 5+458752*i=u0 at hu
   have hpos:0<(jg l).size:=by
    obtain ⟨v,hv⟩:=gol_ (show i-1<l.length by omega)
    have hsn:=Lp (l.take (i-1)) v
    rw [<- kV hv,show i-1+1=i by omega,htk] at hsn
    obtain ⟨q1,q2,q3⟩:=h v (adO hv)
    have:=(Ar v.kind q1.1 q1.2).2
    rw [hsn]
    show 0<(kY (jg (List.take (i-1) l)) [v.kind,v.int,(v.text.size:Int)]++v.text).size
    have e3:kY (jg (List.take (i-1) l)) [v.kind,v.int,(v.text.size:Int)]=jg (List.take (i-1) l)++kR v.kind++c32++kR v.int++c32++kR v.text.size++c32:=rfl
    rw [e3]
    simp only [ByteArray.size_append];omega
   generalize jg l=s0 at hsz hpos
   repeat' (first
    | refine st_nil ?_
    | refine aP rfl rfl rfl rfl ph_ ?_
    | refine aT rfl rfl rfl rfl ph_ ?_
    | refine sS_ rfl rfl rfl ph_ ?_
    | refine aS rfl rfl rfl rfl ph_ ?_
    | refine aK rfl rfl rfl ?_
    | refine sk0_ rfl rfl ?_
    | (refine bF rfl (fun hb=>?_) (fun hb=>?_)<;>(first|exact (fx_ hb).elim|rw [hb]))
    | refine aw_seq ?_
    | refine aw_region jA _ rfl ?_
    | refine aw_drawn2 iO _ rfl mixed (by decide +kernel) ?_
    | (refine aJ rfl (fun hb=>?_) (fun hb=>?_)<;>(try exact (fx_ hb).elim))
    | refine aw_block ?_
    | refine aw_exit ?_
    | refine aw_ret ?_
    | refine aw_skip ?_)
   refine lH [0,1] rfl rfl rfl rfl (ZC u0 s0 hu hpos (by omega)) rfl (rf2 rfl rfl rfl (by show 0<2;omega) (fun y hy=>by rcases adZ.1 hy with rfl|hy<;>first|(show 0<2;omega)|(rcases adZ.1 hy with rfl|hy<;>first|exact True.intro|cases hy)|cases hy)) rfl (FQ rfl rfl (L':=[gW (.ep 0 (186+65536) 0 0) u0 s0 0, .dead]) rfl) ?_
   repeat' (first
    | refine st_nil ?_
    | refine aP rfl rfl rfl rfl ph_ ?_
    | refine aT rfl rfl rfl rfl ph_ ?_
    | refine sS_ rfl rfl rfl ph_ ?_
    | refine aS rfl rfl rfl rfl ph_ ?_
    | refine aK rfl rfl rfl ?_
    | refine sk0_ rfl rfl ?_
    | (refine bF rfl (fun hb=>?_) (fun hb=>?_)<;>(first|exact (fx_ hb).elim|rw [hb]))
    | refine aw_seq ?_
    | refine aw_region jA _ rfl ?_
    | refine aw_drawn2 iO _ rfl mixed (by decide +kernel) ?_
    | (refine aJ rfl (fun hb=>?_) (fun hb=>?_)<;>(try exact (fx_ hb).elim))
    | refine aw_block ?_
    | refine aw_exit ?_
    | refine aw_ret ?_
    | refine aw_skip ?_)
   exact bE (bR rfl (by trivial) rfl)
section
variable {P:Program} {ti:TI} {B:Nat->Prop} {R:PH} {γ:List Gh} {L:List Ob} {w:World} {ρ:Operand->Option AV}
theorem FO (hti:TIok P ti) {t:TypeId} {E k:Nat} {y:Operand} {cs:List SV} (hy:ρ y=some (.agg cs)) (hl:cs.length=k) (hk:0<k) (hk2:k<=1000) (ht:ti.elem t=some E) (hE:E<65536) (hsz:ti.size E=some k) (hzo:ti.zok E=true) :
  wu P ρ L (.buildSlice t 1 #[(0,y)]) (.one (.sl L.length (E+65536) 0 1)) (L++[.row (E+65536) [cs] k]):=by
 intro B R γ w ev o ho hi hρ hfv
 obtain ⟨dst,op,type,pos,after,guard⟩:=o
 simp only at ho;subst ho
 obtain ⟨vs,hev,hvs,hrep⟩:=hρ y (by simp [Op.operands]) _ hy
 obtain ⟨i,z,hi1,hi2,hi3,hi4⟩:=hti.zok _ hzo _ (hti.size _ _ hsz)
 have hb:=run_buildSlice (P:=P) w t E 1 #[(0,ev y)] vs i z (pM hti ht) hi1 hi2 (by rw [hi3];omega) (by rw [hi3];omega) (by
  have h1:=Go.Great.fill_whole hk [ev y] ((Array.range (1*i.size)).map (z.cells[· % z.cells.size]!)) (by intro v hv;rw [aem.1 hv,hev];show vs.size=k;omega) (by simp [hi3])
  have h2:([ev y].flatMap fun v=>v.cells.toList).toArray=vs:=by rw [hev];simp [Value.cells]
  rw [h2,hi3] at h1
  rw [hi3]
  exact h1)
 have hrun:(execOp ev { dst,op := .buildSlice t 1 #[(0,y)],type,pos,after,guard }).run P w = .ok (.value (.slice (some ⟨w.heap.size,0,none⟩) 1 1)) (w.alloc (.cells vs E)):=by
  simp [execOp,hb]
 have hm:Mv R R γ (γ++[.arr w.heap.size 1]) L (L++[.row (E+65536) [cs] k]):=Mv.push _ _ hi.len
 refine ⟨_,R,_, .inl ⟨_,hrun,⟨rfl,rfl⟩,by simp,fun ver2 es2 k2 e2=>?_⟩,?_,⟨Kept.alloc hi.bsz _,PH.sub_refl _,fun _ _ _=>rfl⟩,hm⟩
 ·rw [adP (by omega)] at e2
  simp at e2
  obtain ⟨q1,q2,q3⟩:=e2
  subst q1 q2
  exact ⟨adY _,fun _=>⟨by simp, .arr w.heap.size 1,by rw [<- hi.len];simp, .inl (by rw [Nat.zero_mul])⟩⟩
 ·refine hi.push _ _ _ rfl ⟨⟨_,E,⟨gq w _,by show (E:Nat)=(E+65536)%65536;omega,by omega⟩,by omega,fun i e j u x he hu hx=>?_⟩,by simp,by omega,by simp [hl],fun o=>hi.none_at o⟩
  have hi0:i=0:=by have:=(adI.1 he).1;simpa using this
  subst hi0
  simp at he;subst he
  exact SV.mv hm (hrep j u x (by simpa using hu) hx)
end
structure bN where
 f:aG
 ps:List aW
abbrev aM (p:aW):Bool:=decide (0<=p.lo)&&decide (p.lo<p.hi)&&decide (p.hi<=1099511627776)
theorem IY (p:aW):YK p=some (aM p):=by
 unfold YK aM
 cases h1:decide (0<=p.lo)<;>cases h2:decide (p.lo<p.hi)<;>cases h3:decide (p.hi<=1099511627776)<;>simp_all
def iN (s:ByteArray):List bN->Option Nat
 | []=>none
 | g::r=>if s=jg g.f.row then some 0 else (iN s r).map (· + 1)
def rX:Nat->List bN->List (AC × AV)
 | _,[]=>[]
 | k,g::r=>(.str (jg g.f.row), .one (.c (.int .i64 k)))::rX (k+1) r
theorem Cm : ∀ (G:List bN) (k:Nat),strKeys (rX k G)
 | [],_=>by intro p hp;cases hp
 | g::r,k=>by
  intro p hp
  rcases adZ.1 hp with rfl|hp
  ·exact ⟨_,rfl⟩
  ·exact Cm r (k+1) p hp
theorem tQ (s:ByteArray) : ∀ (G:List bN) (k:Nat),zk s (rX k G)=iN s G
 | [],_=>rfl
 | g::r,k=>by
  simp only [rX,zk,iN]
  rw [tQ s r (k+1)]
theorem SS : ∀ (G:List bN) (k i:Nat),i<G.length -> ∃ q,(rX k G)[i]?=some q/\q.2 = .one (.c (.int .i64 ((k+i:Nat):Int)))
 | [],_,_,h=>by simp at h
 | g::r,k,0,_=>⟨_,rfl,by simp⟩
 | g::r,k,i+1,h=>by
  obtain ⟨q,h1,h2⟩:=SS r (k+1) i (by simpa using h)
  exact ⟨q,by simpa [rX] using h1,by rw [h2,show k+1+i=k+(i+1) by omega]⟩
theorem FV {s:ByteArray} : ∀ {G:List bN} {i:Nat}, iN s G=some i->i<G.length
 | [],_,h=>by simp [iN] at h
 | g::r,i,h=>by
  unfold iN at h
  split at h
  ·injection h with h;subst h;simp
  ·cases hr:iN s r with
   | none=>rw [hr] at h;cases h
   | some j=>rw [hr] at h;injection h with h;subst h;have:=FV hr;simp;omega
theorem UF {s:ByteArray} {G:List bN} {i:Nat} {z:AV} (h:iN s G=some i):sW (rX 0 G) s z = .one (.c (.int .i64 i)):=by
 obtain ⟨q,h1,h2⟩:=SS G 0 i (FV h)
 unfold sW
 rw [tQ,h]
 simp only [h1,h2,aeo]
theorem Vd {s:ByteArray} {G:List bN} {z:AV} (h:iN s G=none):sW (rX 0 G) s z=z:=by
 unfold sW
 rw [tQ,h]
theorem Om : ∀ (G:List bN) (k:Nat) (g:bN),rX k (G++[g])=rX k G++[(.str (jg g.f.row), .one (.c (.int .i64 ((k+G.length:Nat):Int))))]
 | [],k,g=>by simp [rX]
 | x::r,k,g=>by
  have:=Om r (k+1) g
  simp only [List.cons_append,rX,this,ad5,show k+1+r.length=k+(r.length+1) by omega]
theorem Vy {s:ByteArray} {G:List bN} (h:iN s G=none) (g:bN) (hg:jg g.f.row=s):JU (rX 0 G) s (.one (.c (.int .i64 (G.length:Nat))))=rX 0 (G++[g]):=by
 unfold JU
 rw [tQ,h,Om,hg,aeo]
theorem YX {G:List bN} {i:Nat} {g:bN} (hg:G[i]?=some g) (ps:List aW) : ∀ k,rX k (G.set i ⟨g.f,ps⟩)=rX k G:=by
 induction G generalizing i with
 | nil=>intro k;rfl
 | cons x r ih =>
  intro k
  cases i with
  | zero=>simp at hg;subst hg;rfl
  | succ i=>simp only [List.set_cons_succ,rX];rw [ih (by simpa using hg)]
theorem Xc {P:Program} {ti:TI} {ρ:Operand->Option AV} {L:List Ob} {t kt et:TypeId} {x k:Operand} {s:ByteArray} {id:Nat} {G:List bN} {i:Nat} (hti:TIok P ti) (hf:iN s G=some i) (hx:ρ x=some (.one (.mp id))) (hk:ρ k=some (.one (.c (.str s)))) (hL:L[id]?=some (.map (rX 0 G)))
  (ht:ti.kind t=some (.map kt et)) (hkt:ti.kind kt=some .string) (hz:ti.zero et=some (.one (.c (.int .i64 0)))):wu P ρ L (.lookup t x k true) (.tup [.one (.int .i64 i), .one (.bool true)]) L:=by
 have:=rF (P:=P) hx hk hL (Cm G 0) (hti.kind _ _ ht) (hti.kind _ _ hkt) (hti.zero _ _ hz) (p := .one (.int .i64 i)) (by rw [UF hf];rfl)
 rw [tQ,hf] at this
 exact this
theorem IK {P:Program} {ti:TI} {ρ:Operand->Option AV} {L:List Ob} {t kt et:TypeId} {x k:Operand} {s:ByteArray} {id:Nat} {G:List bN} (hti:TIok P ti) (hf:iN s G=none) (hx:ρ x=some (.one (.mp id))) (hk:ρ k=some (.one (.c (.str s)))) (hL:L[id]?=some (.map (rX 0 G)))
  (ht:ti.kind t=some (.map kt et)) (hkt:ti.kind kt=some .string) (hz:ti.zero et=some (.one (.c (.int .i64 0)))):wu P ρ L (.lookup t x k true) (.tup [.one (.int .i64 0), .one (.bool false)]) L:=by
 have:=rF (P:=P) hx hk hL (Cm G 0) (hti.kind _ _ ht) (hti.kind _ _ hkt) (hti.zero _ _ hz) (p := .one (.int .i64 0)) (by rw [Vd hf];rfl)
 rw [tQ,hf] at this
 exact this
theorem Ig {P:Program} {ti:TI} {ρ:Operand->Option AV} {L:List Ob} {t kt et:TypeId} {x k y:Operand} {s:ByteArray} {id:Nat} {G:List bN} (g:bN) (hti:TIok P ti) (hf:iN s G=none) (hg:jg g.f.row=s) (hx:ρ x=some (.one (.mp id))) (hk:ρ k=some (.one (.c (.str s)))) (hy:ρ y=some (.one (.c (.int .i64 (G.length:Nat))))) (hL:L[id]?=some (.map (rX 0 G)))
  (ht:ti.kind t=some (.map kt et)) (hkt:ti.kind kt=some .string):wu P ρ L (.mapUpdate t x k y) .undef (L.set id (.map (rX 0 (G++[g])))):=by
 have:=zt (P:=P) hx hk hy hL (Cm G 0) (hti.kind _ _ ht) (hti.kind _ _ hkt)
 rw [Vy hf g hg] at this
 exact this
def jK (G:List bN) (f:aG):List bN:=bif aM f.valid then (match iN (jg f.row) G with
 | some i=>match G[i]? with
  | some g=>G.set i ⟨g.f,g.ps++[f.valid]⟩
  | none=>G
 | none=>G++[⟨f,[f.valid]⟩]) else G
def fo (l:List aG):List bN:=l.foldl jK []
theorem N7 (l:List aG) (f:aG):fo (l++[f])=jK (fo l) f:=by unfold fo;rw [List.foldl_append];rfl
theorem Rf (G:List bN) (f:aG):(jK G f).length<=G.length+1:=by
 unfold jK
 cases aM f.valid with
 | false=>rw [adJ];omega
 | true =>
  rw [adK]
  split
  ·split
   ·rw [List.length_set];omega
   ·omega
  ·simp
theorem zV (l:List aG):(fo l).length<=l.length:=by
 have : ∀ (l:List aG) (G:List bN),(l.foldl jK G).length<=G.length+l.length:=by
  intro l
  induction l with
  | nil=>intro G;simp
  | cons f l ih=>intro G;have h1:=ih (jK G f);have h2:=Rf G f;rw [aew,ad5];omega
 have:=this l []
 simpa [fo] using this
theorem FM (l:List aG) : ∀ g∈fo l,g.ps.length<=l.length/\g.f∈l/\(∀ p∈g.ps,aM p=true):=by
 have : ∀ (l:List aG) (G:List bN) (b:Nat) (l0:List aG),(∀ g∈G,g.ps.length<=b/\g.f∈l0/\(∀ p∈g.ps,aM p=true)) -> ∀ g∈l.foldl jK G,g.ps.length<=b+l.length/\g.f∈l0++l/\(∀ p∈g.ps,aM p=true):=by
  intro l
  induction l with
  | nil=>intro G b l0 h g hg;simpa using h g hg
  | cons f l ih =>
   intro G b l0 h g hg
   rw [aew] at hg
   have hst : ∀ g∈jK G f,g.ps.length<=b+1/\g.f∈l0++[f]/\(∀ p∈g.ps,aM p=true):=by
    intro g hg
    unfold jK at hg
    cases hv:aM f.valid with
    | false=>rw [hv,adJ] at hg;obtain ⟨a1,a2,a3⟩:=h g hg;exact ⟨by omega,ad'.2 (.inl a2),a3⟩
    | true =>
     rw [hv,adK] at hg
     split at hg
     ·split at hg
      ·rename_i i _ g0 hg0
       rcases List.mem_or_eq_of_mem_set hg with hg|rfl
       ·obtain ⟨a1,a2,a3⟩:=h g hg;exact ⟨by omega,ad'.2 (.inl a2),a3⟩
       ·obtain ⟨a1,a2,a3⟩:=h g0 (adO hg0)
        refine ⟨by simp;omega,ad'.2 (.inl a2),fun p hp=>?_⟩
        rcases ad'.1 hp with hp|hp
        ·exact a3 p hp
        ·rw [aem.1 hp];exact hv
      ·obtain ⟨a1,a2,a3⟩:=h g hg;exact ⟨by omega,ad'.2 (.inl a2),a3⟩
     ·rcases ad'.1 hg with hg|hg
      ·obtain ⟨a1,a2,a3⟩:=h g hg;exact ⟨by omega,ad'.2 (.inl a2),a3⟩
      ·rw [aem.1 hg]
       exact ⟨by simp,by simp,fun p hp=>by rw [aem.1 hp];exact hv⟩
   obtain ⟨a1,a2,a3⟩:=ih (jK G f) (b+1) (l0++[f]) hst g hg
   exact ⟨by rw [ad5];omega,by simpa using a2,a3⟩
 intro g hg
 have:=this l [] 0 [] (fun g hg=>by cases hg) g hg
 simpa using this
end Go.Proofs.YtfccopdbgfdcdaaGreatDoor
