/- Parts of the proof, joined. No condition. -/
import Derived.Test.YtcehmafobkhdbaaGreatDoorKBD
import Derived.Lib.Bytealg
set_option linter.unusedSimpArgs false
set_option linter.unusedVariables false
namespace Go.Proofs.YtcehmafobkhdbaaGreatDoor
open Go.RowKit Go.MapKept
set_option maxRecDepth 100000
def ae3:TI := { WK with dyn:=false }
theorem ll:TIok Tryz.prog ae3:=⟨ay.size,ay.agg,ay.elem,ay.field,ay.zero,ay.bytes,ay.kind,ay.struct,ay.zok,ay.eqs⟩
def afB:TI := { ae3 with soft:=true }
theorem jD:TIok Tryz.prog afB:=⟨ay.size,ay.agg,ay.elem,ay.field,ay.zero,ay.bytes,ay.kind,ay.struct,ay.zok,ay.eqs⟩
def c32:ByteArray:=⟨#[32]⟩
def Dp (v:Val):List Int:=[v.kind,v.int,v.text.size]
def nS (a:ByteArray) (l:List Int):ByteArray:=l.foldl (fun a n=>a++nu n++c32) a
def dP (l:List Val):ByteArray:=l.foldl (fun a v=>nS a (Dp v)++v.text) ⟨#[]⟩
theorem ME (l:List Val) (v:Val):dP (l++[v])=nS (dP l) (Dp v)++v.text:=by unfold dP;rw [List.foldl_append];rfl
theorem WU (a:ByteArray) (l:List Int) (n:Int):nS a (l++[n])=nS a l++nu n++c32:=by unfold nS;rw [List.foldl_append];rfl
def VOK (v:Val):Prop:=(-9223372036854775808<=v.kind/\v.kind<=9223372036854775807)/\(-9223372036854775808<=v.int/\v.int<=9223372036854775807)/\v.text.size<=10000000000
theorem Cb (n:Int) (h0 : -9223372036854775808<=n) (h1:n<=9223372036854775807):(nu n).size<=30/\0<(nu n).size:=by
 unfold nu
 show (Lib.itoa n).toArray.size<=30/\0<(Lib.itoa n).toArray.size
 rw [List.size_toArray]
 have key : ∀ u:Nat,u<18446744073709551616->Lib.nDigits u<=20:=by
  intro u h
  rcases Nat.eq_zero_or_pos u with rfl|h1
  ·rw [Lib.nDigits_small (by omega)];omega
  ·have:=Lib.numDigits_eq u h1 h;split at this<;>omega
 by_cases hn:n<0
 ·obtain ⟨u,rfl⟩ : ∃ u:Nat,n = -(u:Int):=⟨n.natAbs,by omega⟩
  rw [Lib.itoa_neg u (by omega),ahf,Lib.decDigits_length]
  have:=key u (by omega);omega
 ·obtain ⟨u,rfl⟩ : ∃ u:Nat,n=(u:Int):=⟨n.toNat,by omega⟩
  rw [Lib.itoa_nonneg,Lib.decDigits_length]
  have:=key u (by omega);have:=Lib.nDigits_pos u;omega
theorem z8 : ∀ (l:List Int) (a:ByteArray),(∀ n∈l, -9223372036854775808<=n/\n<=9223372036854775807)->(nS a l).size<=a.size+31*l.length
 | [],a,_=>by simp [nS]
 | n::l,a,h=>by
  have h1:=z8 l (a++nu n++c32) fun x hx=>h x (ahh _ hx)
  have h2:=(Cb n (h n (by simp)).1 (h n (by simp)).2).1
  have hc:c32.size=1:=rfl
  have e:nS a (n::l)=nS (a++nu n++c32) l:=rfl
  rw [e]
  simp only [ByteArray.size_append,hc] at h1
  rw [ahf];omega
theorem YJ (l:List Val) (h : ∀ v∈l,VOK v):(dP l).size<=l.length*10000000100:=by
 have key : ∀ (l:List Val) (a:ByteArray),(∀ v∈l,VOK v)->(l.foldl (fun a v=>nS a (Dp v)++v.text) a).size<=a.size+l.length*10000000100:=by
  intro l
  induction l with
  | nil=>intro a _;simp
  | cons v l ih =>
   intro a h
   obtain ⟨h1,h2,h3⟩:=h v (by simp)
   rw [ahJ]
   have q1:=ih (nS a (Dp v)++v.text) fun x hx=>h x (ahh _ hx)
   have q2:=z8 (Dp v) a (by
    intro n hn
    simp only [Dp,aha,List.not_mem_nil,or_false] at hn
    rcases hn with rfl|rfl|rfl
    ·exact h1
    ·exact h2
    ·omega)
   have e3:(Dp v).length=3:=rfl
   simp only [ByteArray.size_append] at q1
   rw [ahf]
   omega
 have:=key l ⟨#[]⟩ h
 have e:(⟨#[]⟩:ByteArray).size=0:=rfl
 rw [e,ahB] at this
 exact this
def pB (fresh:Bool):SV:=if fresh then .c (.nul .ptr) else (.ep 0 (173+65536) 0 0)
theorem adf (b:Bool):(pB b).ren [0,1]=pB b:=by cases b<;>rfl
theorem Jb (b:Bool) {n:Nat} (h:0<n):(pB b).below n:=by cases b<;>first|exact h|exact True.intro
theorem NT (b:Bool) (u:Nat) (s t:ByteArray) (hu:u%65536=5) (hs:s.size<=100000000000000) (ht:t.size<=1000000000000):Run Tryz.prog 174 [iY (pB b) u s 0,iW u s] [.one (.ep 0 (173+65536) 0 0), .one (.c (.str t))] [iY (.ep 0 (173+65536) 0 0) (u+65536) (s++t) 0,iW (u+65536) (s++t)] (.tup [.one (.int .i64 t.size), .one (.nul .iface)]):=by
 cases b
 ·exact Db u s t hu hs ht
 ·exact Pn u s t hu hs ht
theorem rf2 {L:List Ob} {p:SV} {u:Nat} {s:ByteArray} {x:AV} {xs:List AV} (hL0:L[0]?=some (iY p u s 0)) (hL1:L[1]?=some (iW u s)) (hp:p.ren [0,1]=p) (hpb:p.below 2) (hx : ∀ y∈x::xs,y.below 2):nX [0,1] [iY p u s 0,iW u s] (x::xs) L:=by
 refine yJ ?_ (by rw [jL];exact hL1) (by decide) (dz hpb (by show 1<2;omega)) (bC _ _ _) hx
 rw [hL0]
 show some (Ob.row _ [[p,SV.sl 1 u 0 s.size]] 2)=some (Ob.row _ [[p.ren [0,1],SV.sl 1 u 0 s.size]] 2)
 rw [hp]
theorem j2 {L L':List Ob} {u:Nat} {s:ByteArray} (h:(L.set 0 (iY (.ep 0 (173+65536) 0 0) u s 0)).set 1 (iW u s)=L'):joinL [0,1] L [iY (.ep 0 (173+65536) 0 0) u s 0,iW u s]=L':=IE rfl (jL _ _ _) h
def IM (l:List Val) (i:Nat):List Ob:=[iY (pB (decide (i=0))) (5+458752*i) (dP (l.take i)) 0,iW (5+458752*i) (dP (l.take i))]
def Je (u:Nat) (a:ByteArray) (f:Bool) (ns:List Int) (bx:Ob) (j:Nat):List Ob:=[iY (pB (f&&decide (j=0))) (u+131072*j) (nS a (ns.take j)) 0,iW (u+131072*j) (nS a (ns.take j)),bx]
set_option maxHeartbeats 4000000 in
theorem Xh (l:List Val) (hl:l.length<=1000) (h : ∀ v∈l,VOK v):Pure Tryz.prog 153 [.one (dW l)] (.val (.one (.str (dP l)))):=by
 refine pa_ ll Tryz.func153 rfl rfl Tryz.ntmps153 (by simp) ?_
 simp only [argT,PV.av,ag6,ag_]
 obtain ⟨inf,hinf,hiz⟩ : ∃ inf,Tryz.prog.info? 173=some inf/\inf.zero=some (.agg #[.pointer none, .slice none 0 0]):=by
  have hh:(Tryz.prog.info? 173).bind (·.zero)=some (.agg #[.pointer none, .slice none 0 0]):=by kernel_rfl
  cases hi:Tryz.prog.info? 173 with
  | none=>rw [hi] at hh;cases hh
  | some j=>rw [hi] at hh;exact ⟨j,rfl,by simpa using hh⟩
 have hc:c32.size=1:=rfl
 have he0:(⟨#[]⟩:ByteArray).size=0:=rfl
 obtain ⟨n,hn⟩ : ∃ n,l.length=n:=⟨_,rfl⟩
 repeat' (first
  | refine st_nil ?_
  | (refine jQ rfl rfl rfl rfl rfl (vH (Eb:=5) (k:=1) hinf hiz (by decide) (by decide) (by decide)) ?_)
  | (refine aZ rfl rfl rfl rfl ?_ ?_; · (repeat' (first|exact trivial|rfl|exact ag5 rfl|omega|refine ahN.2 ⟨?_,?_⟩|exact fun _ h=>nomatch h|apply And.intro)))
  | (refine bq rfl rfl rfl rfl ?_ ?_; · (repeat' (first|exact trivial|rfl|exact ag5 rfl|omega|refine ahN.2 ⟨?_,?_⟩|exact fun _ h=>nomatch h|apply And.intro)))
  | (refine sS_ rfl rfl rfl ?_ ?_; · (repeat' (first|exact trivial|rfl|exact ag5 rfl|omega|refine ahN.2 ⟨?_,?_⟩|exact fun _ h=>nomatch h|apply And.intro)))
  | (refine bn rfl rfl rfl rfl ?_ ?_; · (repeat' (first|exact trivial|rfl|exact ag5 rfl|omega|refine ahN.2 ⟨?_,?_⟩|exact fun _ h=>nomatch h|apply And.intro)))
  | refine aW rfl rfl rfl ?_
  | refine sk0_ rfl rfl ?_
  | (refine bQ rfl (fun hb=>?_) (fun hb=>?_)<;>(first|exact (fx_ hb).elim|rw [hb]))
  | refine aw_seq ?_
  | refine aw_region ll _ rfl ?_
  | refine aw_drawn2 jD _ rfl mixed (by decide +kernel) ?_
  | (refine aU rfl (fun hb=>?_) (fun hb=>?_)<;>(try exact (fx_ hb).elim))
  | refine aw_block ?_
  | refine aw_exit ?_
  | refine aw_ret ?_
  | refine aw_skip ?_)
 refine sN (fun i:Nat=>[(0, .one (.c (dW l))),(3, .one (.ep 0 (173+65536) 0 0)),(8, .one (.c (dW l))),(9, .one (.c (.int .i64 n))),(10, .one (.c (.int .i64 i)))]) (fun i=>IM l i) (fun i=>i<=n) (fun i=>n-i) 0 (by omega) (fun _ _=>ahe _)
  (fm_ ⟨rfl,rfl,rfl,jE (by simp [hn]),rfl,trivial⟩ [] rfl ⟨trivial,(by show 0<2;omega),trivial,trivial,trivial,trivial⟩ ⟨dz (Jb _ (by show 0<2;omega)) (by show 1<2;omega),bC _ _ _,trivial⟩) ?_
 intro i hi
 have hsz:=YJ (l.take i) fun v hv=>h v (ahQ hv)
 rw [ahK] at hsz
 by_cases hlt2:i<n
 ·obtain ⟨v,hv⟩:=gol_ (show i<l.length by omega)
  obtain ⟨k1,k2,k3⟩:=h v (ag1 hv)
  have hsn:=ME (l.take i) v
  rw [<- nN hv] at hsn
  have hu:(5+458752*i)%65536=5:=by omega
  have e0:IM l i=[iY (pB (decide (i=0))) (5+458752*i) (dP (l.take i)) 0,iW (5+458752*i) (dP (l.take i))]:=rfl
  rw [e0]
  generalize dP (l.take i)=a0 at hsz hsn
  obtain ⟨kd,nn,tx⟩:=v
  simp only at k1 k2 k3
  repeat' (first
   | refine st_nil ?_
   | (refine aZ rfl rfl rfl rfl ?_ ?_; · (repeat' (first|exact trivial|rfl|exact ag5 rfl|omega|refine ahN.2 ⟨?_,?_⟩|exact fun _ h=>nomatch h|apply And.intro)))
   | (refine CB rfl rfl rfl rfl rfl rfl rfl rfl (Ow hv) ?_ ?_; · exact ⟨by omega,rfl⟩)
   | (refine bq rfl rfl rfl rfl ?_ ?_; · (repeat' (first|exact trivial|rfl|exact ag5 rfl|omega|refine ahN.2 ⟨?_,?_⟩|exact fun _ h=>nomatch h|apply And.intro)))
   | (refine sS_ rfl rfl rfl ?_ ?_; · (repeat' (first|exact trivial|rfl|exact ag5 rfl|omega|refine ahN.2 ⟨?_,?_⟩|exact fun _ h=>nomatch h|apply And.intro)))
   | (refine bn rfl rfl rfl rfl ?_ ?_; · (repeat' (first|exact trivial|rfl|exact ag5 rfl|omega|refine ahN.2 ⟨?_,?_⟩|exact fun _ h=>nomatch h|apply And.intro)))
   | refine aW rfl rfl rfl ?_
   | refine sk0_ rfl rfl ?_
   | (refine bQ rfl (fun hb=>?_) (fun hb=>?_)<;>(first|exact (fx_ hb).elim|rw [hb]))
   | refine aw_seq ?_
   | refine aw_region ll _ rfl ?_
   | refine aw_drawn2 jD _ rfl mixed (by decide +kernel) ?_
   | (refine aU rfl (fun hb=>?_) (fun hb=>?_)<;>(try exact (fx_ hb).elim))
   | refine aw_block ?_
   | refine aw_exit ?_
   | refine aw_ret ?_
   | refine aw_skip ?_)
  refine sN (fun j:Nat=>[(0, .one (.c (dW l))),(3, .one (.ep 0 (173+65536) 0 0)),(5, .one (.ptr 2 0)),(8, .one (.c (dW l))),(9, .one (.c (.int .i64 n))),(10, .one (.c (.int .i64 i))),(21, .one (.c (.lst ([kd,nn,(tx.size:Int)].map fun x=>[AC.int .i64 x])))),(22, .one (.c (.int .i64 3))),(23, .one (.c (.int .i64 j)))]) (fun j=>Je (5+458752*i) a0 (decide (i=0)) [kd,nn,tx.size] (.box [.c (.int .i64 kd), .c (.int .i64 nn), .c (.str tx)]) j) (fun j=>j<=3) (fun j=>3-j) 0 (by omega) (fun _ _=>ahe _)
   (fm_ ⟨rfl,rfl,rfl,rfl,rfl,rfl,rfl,rfl,rfl,trivial⟩ [] ?_ ⟨trivial,(by show 0<3;omega),(by show 2<3;omega),trivial,trivial,trivial,trivial,trivial,trivial,trivial⟩ ⟨dz (Jb _ (by show 0<3;omega)) (by show 1<3;omega),bC _ _ _,kQ (by rfl),trivial⟩) ?_
  ·simp only [Je,Nat.mul_zero,Nat.add_zero,List.take_zero,decide_true,Bool.and_true];rfl
  intro j hj
  by_cases hj3:j<3
  ·obtain ⟨x,hx⟩:=gol_ (show j<[kd,nn,(tx.size:Int)].length by exact hj3)
   have hxr : -9223372036854775808<=x/\x<=9223372036854775807:=by
    have:=ag1 hx
    simp only [aha,List.not_mem_nil,or_false] at this
    rcases this with rfl|rfl|rfl
    ·exact k1
    ·exact k2
    ·omega
   have hit:=XB x hxr.1 hxr.2
   repeat' (first
    | refine st_nil ?_
    | (refine aZ rfl rfl rfl rfl ?_ ?_; · (repeat' (first|exact trivial|rfl|exact ag5 rfl|omega|refine ahN.2 ⟨?_,?_⟩|exact fun _ h=>nomatch h|apply And.intro)))
    | (refine CB rfl rfl rfl rfl rfl rfl rfl rfl (Ow hx) ?_ ?_; · exact ⟨by omega,rfl⟩)
    | (refine bq rfl rfl rfl rfl ?_ ?_; · (repeat' (first|exact trivial|rfl|exact ag5 rfl|omega|refine ahN.2 ⟨?_,?_⟩|exact fun _ h=>nomatch h|apply And.intro)))
    | (refine sS_ rfl rfl rfl ?_ ?_; · (repeat' (first|exact trivial|rfl|exact ag5 rfl|omega|refine ahN.2 ⟨?_,?_⟩|exact fun _ h=>nomatch h|apply And.intro)))
    | (refine bn rfl rfl rfl rfl ?_ ?_; · (repeat' (first|exact trivial|rfl|exact ag5 rfl|omega|refine ahN.2 ⟨?_,?_⟩|exact fun _ h=>nomatch h|apply And.intro)))
    | refine aW rfl rfl rfl ?_
    | refine sk0_ rfl rfl ?_
    | refine dG rfl rfl rfl rfl hit rfl ?_
    | (refine bQ rfl (fun hb=>?_) (fun hb=>?_)<;>(first|exact (fx_ hb).elim|rw [hb]))
    | refine aw_seq ?_
    | refine aw_region ll _ rfl ?_
    | refine aw_drawn2 jD _ rfl mixed (by decide +kernel) ?_
    | (refine aU rfl (fun hb=>?_) (fun hb=>?_)<;>(try exact (fx_ hb).elim))
    | refine aw_block ?_
    | refine aw_exit ?_
    | refine aw_ret ?_
    | refine aw_skip ?_)
   have hitz:=Cb x hxr.1 hxr.2
   have hns:=z8 ([kd,nn,(tx.size:Int)].take j) a0 (by
    intro y hy
    have:=ahQ hy
    simp only [aha,List.not_mem_nil,or_false] at this
    rcases this with rfl|rfl|rfl
    ·exact k1
    ·exact k2
    ·omega)
   have hl3:([kd,nn,(tx.size:Int)].take j).length<=3:=by rw [ahK];exact Nat.le_trans (Nat.min_le_right _ _) (ag' _)
   have hsj:=WU a0 ([kd,nn,(tx.size:Int)].take j) x
   rw [<- nN hx] at hsj
   have hu2:(5+458752*i+131072*j)%65536=5:=by omega
   have eC:Je (5+458752*i) a0 (decide (i=0)) [kd,nn,(tx.size:Int)] (.box [.c (.int .i64 kd), .c (.int .i64 nn), .c (.str tx)]) j=[iY (pB (decide (i=0)&&decide (j=0))) (5+458752*i+131072*j) (nS a0 ([kd,nn,(tx.size:Int)].take j)) 0,iW (5+458752*i+131072*j) (nS a0 ([kd,nn,(tx.size:Int)].take j)),(.box [.c (.int .i64 kd), .c (.int .i64 nn), .c (.str tx)])]:=rfl
   have eC2:Je (5+458752*i) a0 (decide (i=0)) [kd,nn,(tx.size:Int)] (.box [.c (.int .i64 kd), .c (.int .i64 nn), .c (.str tx)]) (j+1)=[iY (.ep 0 (173+65536) 0 0) (5+458752*i+131072*j+65536+65536) (nS a0 ([kd,nn,(tx.size:Int)].take j)++nu x++c32) 0,iW (5+458752*i+131072*j+65536+65536) (nS a0 ([kd,nn,(tx.size:Int)].take j)++nu x++c32),(.box [.c (.int .i64 kd), .c (.int .i64 nn), .c (.str tx)])]:=by
    unfold Je
    rw [hsj,show decide (j+1=0)=false by simp,Bool.and_false,show 5+458752*i+131072*(j+1)=5+458752*i+131072*j+65536+65536 by omega]
    rfl
   rw [eC]
   generalize nS a0 ([kd,nn,(tx.size:Int)].take j)=b0 at hns eC2
   generalize 5+458752*i+131072*j=u0 at hu2 eC2
   generalize hB1:nu x=b1 at hitz eC2
   refine kN [0,1] rfl rfl rfl rfl (NT _ u0 b0 b1 hu2 (by omega) (by omega)) rfl (rf2 rfl rfl (adf _) (Jb _ (by show 0<2;omega)) (fun y hy=>by rcases aha.1 hy with rfl|hy<;>first|(show 0<2;omega)|(rcases aha.1 hy with rfl|hy<;>first|exact True.intro|cases hy)|cases hy)) rfl (j2 (L':=[iY (.ep 0 (173+65536) 0 0) (u0+65536) (b0++b1) 0,iW (u0+65536) (b0++b1),(.box [.c (.int .i64 kd), .c (.int .i64 nn), .c (.str tx)])]) rfl) ?_
   repeat' (first
    | refine st_nil ?_
    | refine aZ rfl rfl rfl rfl ph_ ?_
    | refine bq rfl rfl rfl rfl ph_ ?_
    | refine sS_ rfl rfl rfl ph_ ?_
    | refine bn rfl rfl rfl rfl ph_ ?_
    | refine aW rfl rfl rfl ?_
    | refine sk0_ rfl rfl ?_
    | (refine bQ rfl (fun hb=>?_) (fun hb=>?_)<;>(first|exact (fx_ hb).elim|rw [hb]))
    | refine aw_seq ?_
    | refine aw_region ll _ rfl ?_
    | refine aw_drawn2 jD _ rfl mixed (by decide +kernel) ?_
    | (refine aU rfl (fun hb=>?_) (fun hb=>?_)<;>(try exact (fx_ hb).elim))
    | refine aw_block ?_
    | refine aw_exit ?_
    | refine aw_ret ?_
    | refine aw_skip ?_)
   refine kN [0,1] rfl rfl rfl rfl (UR (u0+65536) (b0++b1) 32 (by omega) (by simp only [ByteArray.size_append];omega)) rfl (rf2 rfl rfl rfl (by show 0<2;omega) (fun y hy=>by rcases aha.1 hy with rfl|hy<;>first|(show 0<2;omega)|(rcases aha.1 hy with rfl|hy<;>first|exact True.intro|cases hy)|cases hy)) rfl (j2 (L':=[iY (.ep 0 (173+65536) 0 0) (u0+65536+65536) (b0++b1++c32) 0,iW (u0+65536+65536) (b0++b1++c32),(.box [.c (.int .i64 kd), .c (.int .i64 nn), .c (.str tx)])]) rfl) ?_
   repeat' (first
    | refine st_nil ?_
    | refine aZ rfl rfl rfl rfl ph_ ?_
    | refine bq rfl rfl rfl rfl ph_ ?_
    | refine sS_ rfl rfl rfl ph_ ?_
    | refine bn rfl rfl rfl rfl ph_ ?_
    | refine aW rfl rfl rfl ?_
    | refine sk0_ rfl rfl ?_
    | (refine bQ rfl (fun hb=>?_) (fun hb=>?_)<;>(first|exact (fx_ hb).elim|rw [hb]))
    | refine aw_seq ?_
    | refine aw_region ll _ rfl ?_
    | refine aw_drawn2 jD _ rfl mixed (by decide +kernel) ?_
    | (refine aU rfl (fun hb=>?_) (fun hb=>?_)<;>(try exact (fx_ hb).elim))
    | refine aw_block ?_
    | refine aw_exit ?_
    | refine aw_ret ?_
    | refine aw_skip ?_)
   exact ⟨j+1,by omega,by omega,fm_ ⟨rfl,rfl,rfl,rfl,rfl,rfl,rfl,rfl,jE (ko (by omega) (by omega)),trivial⟩ [] (by rw [eC2];rfl) (by rw [eC2];exact ⟨trivial,(by show 0<3;omega),(by show 2<3;omega),trivial,trivial,trivial,trivial,trivial,trivial,trivial⟩) (by rw [eC2];exact ⟨dz (by show 0<3;omega) (by show 1<3;omega),bC _ _ _,kQ (by rfl),trivial⟩)⟩
  ·have hj4:j=3:=by omega
   subst hj4
   have hns:=z8 [kd,nn,(tx.size:Int)] a0 (by
    intro y hy
    simp only [aha,List.not_mem_nil,or_false] at hy
    rcases hy with rfl|rfl|rfl
    ·exact k1
    ·exact k2
    ·omega)
   have hl3:[kd,nn,(tx.size:Int)].length=3:=rfl
   have eC:Je (5+458752*i) a0 (decide (i=0)) [kd,nn,(tx.size:Int)] (.box [.c (.int .i64 kd), .c (.int .i64 nn), .c (.str tx)]) 3=[iY (.ep 0 (173+65536) 0 0) (5+458752*i+393216) (nS a0 [kd,nn,(tx.size:Int)]) 0,iW (5+458752*i+393216) (nS a0 [kd,nn,(tx.size:Int)]),(.box [.c (.int .i64 kd), .c (.int .i64 nn), .c (.str tx)])]:=by
    unfold Je
    rw [show decide (3=0)=false by simp,Bool.and_false]
    rfl
   have eN:IM l (i+1)=[iY (.ep 0 (173+65536) 0 0) (5+458752*i+393216+65536) (nS a0 [kd,nn,(tx.size:Int)]++tx) 0,iW (5+458752*i+393216+65536) (nS a0 [kd,nn,(tx.size:Int)]++tx)]:=by
    unfold IM
    rw [hsn,show decide (i+1=0)=false by simp,show 5+458752*(i+1)=5+458752*i+393216+65536 by omega]
    rfl
   rw [eC]
   generalize nS a0 [kd,nn,(tx.size:Int)]=b0 at hns eN
   have hu2:(5+458752*i+393216)%65536=5:=by omega
   generalize 5+458752*i+393216=u0 at hu2 eN
   repeat' (first
    | refine st_nil ?_
    | refine aZ rfl rfl rfl rfl ph_ ?_
    | refine bq rfl rfl rfl rfl ph_ ?_
    | refine sS_ rfl rfl rfl ph_ ?_
    | refine bn rfl rfl rfl rfl ph_ ?_
    | refine aW rfl rfl rfl ?_
    | refine sk0_ rfl rfl ?_
    | (refine bQ rfl (fun hb=>?_) (fun hb=>?_)<;>(first|exact (fx_ hb).elim|rw [hb]))
    | refine aw_seq ?_
    | refine aw_region ll _ rfl ?_
    | refine aw_drawn2 jD _ rfl mixed (by decide +kernel) ?_
    | (refine aU rfl (fun hb=>?_) (fun hb=>?_)<;>(try exact (fx_ hb).elim))
    | refine aw_block ?_
    | refine aw_exit ?_
    | refine aw_ret ?_
    | refine aw_skip ?_)
   refine kN [0,1] rfl rfl rfl rfl (Db u0 b0 tx hu2 (by omega) (by omega)) rfl (rf2 rfl rfl rfl (by show 0<2;omega) (fun y hy=>by rcases aha.1 hy with rfl|hy<;>first|(show 0<2;omega)|(rcases aha.1 hy with rfl|hy<;>first|exact True.intro|cases hy)|cases hy)) rfl (j2 (L':=[iY (.ep 0 (173+65536) 0 0) (u0+65536) (b0++tx) 0,iW (u0+65536) (b0++tx),(.box [.c (.int .i64 kd), .c (.int .i64 nn), .c (.str tx)])]) rfl) ?_
   repeat' (first
    | refine st_nil ?_
    | refine aZ rfl rfl rfl rfl ph_ ?_
    | refine bq rfl rfl rfl rfl ph_ ?_
    | refine sS_ rfl rfl rfl ph_ ?_
    | refine bn rfl rfl rfl rfl ph_ ?_
    | refine aW rfl rfl rfl ?_
    | refine sk0_ rfl rfl ?_
    | (refine bQ rfl (fun hb=>?_) (fun hb=>?_)<;>(first|exact (fx_ hb).elim|rw [hb]))
    | refine aw_seq ?_
    | refine aw_region ll _ rfl ?_
    | refine aw_drawn2 jD _ rfl mixed (by decide +kernel) ?_
    | (refine aU rfl (fun hb=>?_) (fun hb=>?_)<;>(try exact (fx_ hb).elim))
    | refine aw_block ?_
    | refine aw_exit ?_
    | refine aw_ret ?_
    | refine aw_skip ?_)
   exact ⟨i+1,by omega,by omega,fm_ ⟨rfl,rfl,rfl,rfl,jE (ko (by omega) (by omega)),trivial⟩ [(.box [.c (.int .i64 kd), .c (.int .i64 nn), .c (.str tx)])] (by rw [eN];rfl) (by rw [eN];exact ⟨trivial,(by show 0<2;omega),trivial,trivial,trivial,trivial⟩) (by rw [eN];exact ⟨dz (by show 0<2;omega) (by show 1<2;omega),bC _ _ _,trivial⟩)⟩
 ·have hi2:i=l.length:=by omega
  have htk:l.take i=l:=by rw [hi2,List.take_length]
  by_cases hi0:i=0
  ·subst hi0
   have hnil:l=[]:=ahj hi2.symm
   subst hnil
   have e0:IM [] 0=[iY (.c (.nul .ptr)) 5 ⟨#[]⟩ 0,iW 5 ⟨#[]⟩]:=rfl
   rw [e0]
   repeat' (first
    | refine st_nil ?_
    | refine aZ rfl rfl rfl rfl ph_ ?_
    | refine bq rfl rfl rfl rfl ph_ ?_
    | refine sS_ rfl rfl rfl ph_ ?_
    | refine bn rfl rfl rfl rfl ph_ ?_
    | refine aW rfl rfl rfl ?_
    | refine sk0_ rfl rfl ?_
    | (refine bQ rfl (fun hb=>?_) (fun hb=>?_)<;>(first|exact (fx_ hb).elim|rw [hb]))
    | refine aw_seq ?_
    | refine aw_region ll _ rfl ?_
    | refine aw_drawn2 jD _ rfl mixed (by decide +kernel) ?_
    | (refine aU rfl (fun hb=>?_) (fun hb=>?_)<;>(try exact (fx_ hb).elim))
    | refine aw_block ?_
    | refine aw_exit ?_
    | refine aw_ret ?_
    | refine aw_skip ?_)
   refine kN [0,1] rfl rfl rfl rfl abZ rfl (rf2 rfl rfl rfl True.intro (fun y hy=>by rcases aha.1 hy with rfl|hy<;>first|(show 0<2;omega)|(rcases aha.1 hy with rfl|hy<;>first|exact True.intro|cases hy)|cases hy)) rfl (IE rfl (jL _ _ _) (L':=[iY (.c (.nul .ptr)) 5 ⟨#[]⟩ 0,iW 5 ⟨#[]⟩]) rfl) ?_
   repeat' (first
    | refine st_nil ?_
    | refine aZ rfl rfl rfl rfl ph_ ?_
    | refine bq rfl rfl rfl rfl ph_ ?_
    | refine sS_ rfl rfl rfl ph_ ?_
    | refine bn rfl rfl rfl rfl ph_ ?_
    | refine aW rfl rfl rfl ?_
    | refine sk0_ rfl rfl ?_
    | (refine bQ rfl (fun hb=>?_) (fun hb=>?_)<;>(first|exact (fx_ hb).elim|rw [hb]))
    | refine aw_seq ?_
    | refine aw_region ll _ rfl ?_
    | refine aw_drawn2 jD _ rfl mixed (by decide +kernel) ?_
    | (refine aU rfl (fun hb=>?_) (fun hb=>?_)<;>(try exact (fx_ hb).elim))
    | refine aw_block ?_
    | refine aw_exit ?_
    | refine aw_ret ?_
    | refine aw_skip ?_)
   exact bO (bZ rfl (by trivial) rfl)
  ·have e1:IM l i=[iY (.ep 0 (173+65536) 0 0) (5+458752*i) (dP l) 0,iW (5+458752*i) (dP l)]:=by unfold IM;rw [htk,show decide (i=0)=false by simpa using hi0];rfl
   rw [e1]
   rw [htk] at hsz
   have hu:(5+458752*i)%65536=5:=by omega
   generalize 5+458752*i=u0 at hu
   have hpos:0<(dP l).size:=by
    obtain ⟨v,hv⟩:=gol_ (show i-1<l.length by omega)
    have hsn:=ME (l.take (i-1)) v
    rw [<- nN hv,show i-1+1=i by omega,htk] at hsn
    obtain ⟨q1,q2,q3⟩:=h v (ag1 hv)
    have:=(Cb v.kind q1.1 q1.2).2
    rw [hsn]
    show 0<(nS (dP (List.take (i-1) l)) [v.kind,v.int,(v.text.size:Int)]++v.text).size
    have e3:nS (dP (List.take (i-1) l)) [v.kind,v.int,(v.text.size:Int)]=dP (List.take (i-1) l)++nu v.kind++c32++nu v.int++c32++nu v.text.size++c32:=rfl
    rw [e3]
    simp only [ByteArray.size_append];omega
   generalize dP l=s0 at hsz hpos
   repeat' (first
    | refine st_nil ?_
    | refine aZ rfl rfl rfl rfl ph_ ?_
    | refine bq rfl rfl rfl rfl ph_ ?_
    | refine sS_ rfl rfl rfl ph_ ?_
    | refine bn rfl rfl rfl rfl ph_ ?_
    | refine aW rfl rfl rfl ?_
    | refine sk0_ rfl rfl ?_
    | (refine bQ rfl (fun hb=>?_) (fun hb=>?_)<;>(first|exact (fx_ hb).elim|rw [hb]))
    | refine aw_seq ?_
    | refine aw_region ll _ rfl ?_
    | refine aw_drawn2 jD _ rfl mixed (by decide +kernel) ?_
    | (refine aU rfl (fun hb=>?_) (fun hb=>?_)<;>(try exact (fx_ hb).elim))
    | refine aw_block ?_
    | refine aw_exit ?_
    | refine aw_ret ?_
    | refine aw_skip ?_)
   refine kN [0,1] rfl rfl rfl rfl (acJ u0 s0 hu hpos (by omega)) rfl (rf2 rfl rfl rfl (by show 0<2;omega) (fun y hy=>by rcases aha.1 hy with rfl|hy<;>first|(show 0<2;omega)|(rcases aha.1 hy with rfl|hy<;>first|exact True.intro|cases hy)|cases hy)) rfl (IE rfl rfl (L':=[iY (.ep 0 (173+65536) 0 0) u0 s0 0, .dead]) rfl) ?_
   repeat' (first
    | refine st_nil ?_
    | refine aZ rfl rfl rfl rfl ph_ ?_
    | refine bq rfl rfl rfl rfl ph_ ?_
    | refine sS_ rfl rfl rfl ph_ ?_
    | refine bn rfl rfl rfl rfl ph_ ?_
    | refine aW rfl rfl rfl ?_
    | refine sk0_ rfl rfl ?_
    | (refine bQ rfl (fun hb=>?_) (fun hb=>?_)<;>(first|exact (fx_ hb).elim|rw [hb]))
    | refine aw_seq ?_
    | refine aw_region ll _ rfl ?_
    | refine aw_drawn2 jD _ rfl mixed (by decide +kernel) ?_
    | (refine aU rfl (fun hb=>?_) (fun hb=>?_)<;>(try exact (fx_ hb).elim))
    | refine aw_block ?_
    | refine aw_exit ?_
    | refine aw_ret ?_
    | refine aw_skip ?_)
   exact bO (bZ rfl (by trivial) rfl)
section
variable {P:Program} {ti:TI} {B:Nat->Prop} {R:PH} {γ:List Gh} {L:List Ob} {w:World} {ρ:Operand->Option AV}
theorem J4 (hti:TIok P ti) {t:TypeId} {E k:Nat} {y:Operand} {cs:List SV} (hy:ρ y=some (.agg cs)) (hl:cs.length=k) (hk:0<k) (hk2:k<=1000) (ht:ti.elem t=some E) (hE:E<65536) (hsz:ti.size E=some k) (hzo:ti.zok E=true) :
  xQ P ρ L (.buildSlice t 1 #[(0,y)]) (.one (.sl L.length (E+65536) 0 1)) (L++[.row (E+65536) [cs] k]):=by
 intro B R γ w ev o ho hi hρ hfv
 obtain ⟨dst,op,type,pos,after,guard⟩:=o
 simp only at ho;subst ho
 obtain ⟨vs,hev,hvs,hrep⟩:=hρ y (by simp [Op.operands]) _ hy
 obtain ⟨i,z,hi1,hi2,hi3,hi4⟩:=hti.zok _ hzo _ (hti.size _ _ hsz)
 have hb:=run_buildSlice (P:=P) w t E 1 #[(0,ev y)] vs i z (qA hti ht) hi1 hi2 (by rw [hi3];omega) (by rw [hi3];omega) (by
  have h1:=Go.Great.fill_whole hk [ev y] ((Array.range (1*i.size)).map (z.cells[· % z.cells.size]!)) (by intro v hv;rw [ahz.1 hv,hev];show vs.size=k;omega) (by simp [hi3])
  have h2:([ev y].flatMap fun v=>v.cells.toList).toArray=vs:=by rw [hev];simp [Value.cells]
  rw [h2,hi3] at h1
  rw [hi3]
  exact h1)
 have hrun:(execOp ev { dst,op := .buildSlice t 1 #[(0,y)],type,pos,after,guard }).run P w = .ok (.value (.slice (some ⟨w.heap.size,0,none⟩) 1 1)) (w.alloc (.cells vs E)):=by
  simp [execOp,hb]
 have hm:Mv R R γ (γ++[.arr w.heap.size 1]) L (L++[.row (E+65536) [cs] k]):=Mv.push _ _ hi.len
 refine ⟨_,R,_, .inl ⟨_,hrun,⟨rfl,rfl⟩,by simp,fun ver2 es2 k2 e2=>?_⟩,?_,⟨Kept.alloc hi.bsz _,PH.sub_refl _,fun _ _ _=>rfl⟩,hm⟩
 ·rw [ag2 (by omega)] at e2
  simp at e2
  obtain ⟨q1,q2,q3⟩:=e2
  subst q1 q2
  exact ⟨ag' _,fun _=>⟨by simp, .arr w.heap.size 1,by rw [<- hi.len];simp, .inl (by rw [Nat.zero_mul])⟩⟩
 ·refine hi.push _ _ _ rfl ⟨⟨_,E,⟨ib w _,by show (E:Nat)=(E+65536)%65536;omega,by omega⟩,by omega,fun i e j u x he hu hx=>?_⟩,by simp,by omega,by simp [hl],fun o=>hi.none_at o⟩
  have hi0:i=0:=by have:=(agV.1 he).1;simpa using this
  subst hi0
  simp at he;subst he
  exact SV.mv hm (hrep j u x (by simpa using hu) hx)
end
structure bL where
 f:aj
 ps:List aI
abbrev aL (p:aI):Bool:=decide (0<=p.lo)&&decide (p.lo<p.hi)&&decide (p.hi<=1099511627776)
theorem Bj (p:aI):UI p=some (aL p):=by
 unfold UI aL
 cases h1:decide (0<=p.lo)<;>cases h2:decide (p.lo<p.hi)<;>cases h3:decide (p.hi<=1099511627776)<;>simp_all
def ik (s:ByteArray):List bL->Option Nat
 | []=>none
 | g::r=>if s=dP g.f.row then some 0 else (ik s r).map (· + 1)
def vz:Nat->List bL->List (AC × AV)
 | _,[]=>[]
 | k,g::r=>(.str (dP g.f.row), .one (.c (.int .i64 k)))::vz (k+1) r
theorem DL : ∀ (G:List bL) (k:Nat),strKeys (vz k G)
 | [],_=>by intro p hp;cases hp
 | g::r,k=>by
  intro p hp
  rcases aha.1 hp with rfl|hp
  ·exact ⟨_,rfl⟩
  ·exact DL r (k+1) p hp
theorem vD (s:ByteArray) : ∀ (G:List bL) (k:Nat),AA s (vz k G)=ik s G
 | [],_=>rfl
 | g::r,k=>by
  simp only [vz,AA,ik]
  rw [vD s r (k+1)]
theorem Vx : ∀ (G:List bL) (k i:Nat),i<G.length -> ∃ q,(vz k G)[i]?=some q/\q.2 = .one (.c (.int .i64 ((k+i:Nat):Int)))
 | [],_,_,h=>by simp at h
 | g::r,k,0,_=>⟨_,rfl,by simp⟩
 | g::r,k,i+1,h=>by
  obtain ⟨q,h1,h2⟩:=Vx r (k+1) i (by simpa using h)
  exact ⟨q,by simpa [vz] using h1,by rw [h2,show k+1+i=k+(i+1) by omega]⟩
theorem JF {s:ByteArray} : ∀ {G:List bL} {i:Nat}, ik s G=some i->i<G.length
 | [],_,h=>by simp [ik] at h
 | g::r,i,h=>by
  unfold ik at h
  split at h
  ·injection h with h;subst h;simp
  ·cases hr:ik s r with
   | none=>rw [hr] at h;cases h
   | some j=>rw [hr] at h;injection h with h;subst h;have:=JF hr;simp;omega
theorem WF {s:ByteArray} {G:List bL} {i:Nat} {z:AV} (h:ik s G=some i):vK (vz 0 G) s z = .one (.c (.int .i64 i)):=by
 obtain ⟨q,h1,h2⟩:=Vx G 0 i (JF h)
 unfold vK
 rw [vD,h]
 simp only [h1,h2,ahB]
theorem Xj {s:ByteArray} {G:List bL} {z:AV} (h:ik s G=none):vK (vz 0 G) s z=z:=by
 unfold vK
 rw [vD,h]
theorem RG : ∀ (G:List bL) (k:Nat) (g:bL),vz k (G++[g])=vz k G++[(.str (dP g.f.row), .one (.c (.int .i64 ((k+G.length:Nat):Int))))]
 | [],k,g=>by simp [vz]
 | x::r,k,g=>by
  have:=RG r (k+1) g
  simp only [List.cons_append,vz,this,ahf,show k+1+r.length=k+(r.length+1) by omega]
theorem Xl {s:ByteArray} {G:List bL} (h:ik s G=none) (g:bL) (hg:dP g.f.row=s):La (vz 0 G) s (.one (.c (.int .i64 (G.length:Nat))))=vz 0 (G++[g]):=by
 unfold La
 rw [vD,h,RG,hg,ahB]
theorem abu {G:List bL} {i:Nat} {g:bL} (hg:G[i]?=some g) (ps:List aI) : ∀ k,vz k (G.set i ⟨g.f,ps⟩)=vz k G:=by
 induction G generalizing i with
 | nil=>intro k;rfl
 | cons x r ih =>
  intro k
  cases i with
  | zero=>simp at hg;subst hg;rfl
  | succ i=>simp only [List.set_cons_succ,vz];rw [ih (by simpa using hg)]
theorem Zq {P:Program} {ti:TI} {ρ:Operand->Option AV} {L:List Ob} {t kt et:TypeId} {x k:Operand} {s:ByteArray} {id:Nat} {G:List bL} {i:Nat} (hti:TIok P ti) (hf:ik s G=some i) (hx:ρ x=some (.one (.mp id))) (hk:ρ k=some (.one (.c (.str s)))) (hL:L[id]?=some (.map (vz 0 G)))
  (ht:ti.kind t=some (.map kt et)) (hkt:ti.kind kt=some .string) (hz:ti.zero et=some (.one (.c (.int .i64 0)))):xQ P ρ L (.lookup t x k true) (.tup [.one (.int .i64 i), .one (.bool true)]) L:=by
 have:=tJ (P:=P) hx hk hL (DL G 0) (hti.kind _ _ ht) (hti.kind _ _ hkt) (hti.zero _ _ hz) (p := .one (.int .i64 i)) (by rw [WF hf];rfl)
 rw [vD,hf] at this
 exact this
theorem Im {P:Program} {ti:TI} {ρ:Operand->Option AV} {L:List Ob} {t kt et:TypeId} {x k:Operand} {s:ByteArray} {id:Nat} {G:List bL} (hti:TIok P ti) (hf:ik s G=none) (hx:ρ x=some (.one (.mp id))) (hk:ρ k=some (.one (.c (.str s)))) (hL:L[id]?=some (.map (vz 0 G)))
  (ht:ti.kind t=some (.map kt et)) (hkt:ti.kind kt=some .string) (hz:ti.zero et=some (.one (.c (.int .i64 0)))):xQ P ρ L (.lookup t x k true) (.tup [.one (.int .i64 0), .one (.bool false)]) L:=by
 have:=tJ (P:=P) hx hk hL (DL G 0) (hti.kind _ _ ht) (hti.kind _ _ hkt) (hti.zero _ _ hz) (p := .one (.int .i64 0)) (by rw [Xj hf];rfl)
 rw [vD,hf] at this
 exact this
theorem JI {P:Program} {ti:TI} {ρ:Operand->Option AV} {L:List Ob} {t kt et:TypeId} {x k y:Operand} {s:ByteArray} {id:Nat} {G:List bL} (g:bL) (hti:TIok P ti) (hf:ik s G=none) (hg:dP g.f.row=s) (hx:ρ x=some (.one (.mp id))) (hk:ρ k=some (.one (.c (.str s)))) (hy:ρ y=some (.one (.c (.int .i64 (G.length:Nat))))) (hL:L[id]?=some (.map (vz 0 G)))
  (ht:ti.kind t=some (.map kt et)) (hkt:ti.kind kt=some .string):xQ P ρ L (.mapUpdate t x k y) .undef (L.set id (.map (vz 0 (G++[g])))):=by
 have:=Ba (P:=P) hx hk hy hL (DL G 0) (hti.kind _ _ ht) (hti.kind _ _ hkt)
 rw [Xl hf g hg] at this
 exact this
def jq (G:List bL) (f:aj):List bL:=bif aL f.valid then (match ik (dP f.row) G with
 | some i=>match G[i]? with
  | some g=>G.set i ⟨g.f,g.ps++[f.valid]⟩
  | none=>G
 | none=>G++[⟨f,[f.valid]⟩]) else G
def eT (l:List aj):List bL:=l.foldl jq []
theorem Rt (l:List aj) (f:aj):eT (l++[f])=jq (eT l) f:=by unfold eT;rw [List.foldl_append];rfl
theorem Uj (G:List bL) (f:aj):(jq G f).length<=G.length+1:=by
 unfold jq
 cases aL f.valid with
 | false=>rw [agW];omega
 | true =>
  rw [agX]
  split
  ·split
   ·rw [List.length_set];omega
   ·omega
  ·simp
theorem Bu (l:List aj):(eT l).length<=l.length:=by
 have : ∀ (l:List aj) (G:List bL),(l.foldl jq G).length<=G.length+l.length:=by
  intro l
  induction l with
  | nil=>intro G;simp
  | cons f l ih=>intro G;have h1:=ih (jq G f);have h2:=Uj G f;rw [ahJ,ahf];omega
 have:=this l []
 simpa [eT] using this
theorem Iw (l:List aj) : ∀ g∈eT l,g.ps.length<=l.length/\g.f∈l/\(∀ p∈g.ps,aL p=true):=by
 have : ∀ (l:List aj) (G:List bL) (b:Nat) (l0:List aj),(∀ g∈G,g.ps.length<=b/\g.f∈l0/\(∀ p∈g.ps,aL p=true)) -> ∀ g∈l.foldl jq G,g.ps.length<=b+l.length/\g.f∈l0++l/\(∀ p∈g.ps,aL p=true):=by
  intro l
  induction l with
  | nil=>intro G b l0 h g hg;simpa using h g hg
  | cons f l ih =>
   intro G b l0 h g hg
   rw [ahJ] at hg
   have hst : ∀ g∈jq G f,g.ps.length<=b+1/\g.f∈l0++[f]/\(∀ p∈g.ps,aL p=true):=by
    intro g hg
    unfold jq at hg
    cases hv:aL f.valid with
    | false=>rw [hv,agW] at hg;obtain ⟨a1,a2,a3⟩:=h g hg;exact ⟨by omega,ahl.2 (.inl a2),a3⟩
    | true =>
     rw [hv,agX] at hg
     split at hg
     ·split at hg
      ·rename_i i _ g0 hg0
       rcases List.mem_or_eq_of_mem_set hg with hg|rfl
       ·obtain ⟨a1,a2,a3⟩:=h g hg;exact ⟨by omega,ahl.2 (.inl a2),a3⟩
       ·obtain ⟨a1,a2,a3⟩:=h g0 (ag1 hg0)
        refine ⟨by simp;omega,ahl.2 (.inl a2),fun p hp=>?_⟩
        rcases ahl.1 hp with hp|hp
        ·exact a3 p hp
        ·rw [ahz.1 hp];exact hv
      ·obtain ⟨a1,a2,a3⟩:=h g hg;exact ⟨by omega,ahl.2 (.inl a2),a3⟩
     ·rcases ahl.1 hg with hg|hg
      ·obtain ⟨a1,a2,a3⟩:=h g hg;exact ⟨by omega,ahl.2 (.inl a2),a3⟩
      ·rw [ahz.1 hg]
       exact ⟨by simp,by simp,fun p hp=>by rw [ahz.1 hp];exact hv⟩
   obtain ⟨a1,a2,a3⟩:=ih (jq G f) (b+1) (l0++[f]) hst g hg
   exact ⟨by rw [ahf];omega,by simpa using a2,a3⟩
 intro g hg
 have:=this l [] 0 [] (fun g hg=>by cases hg) g hg
 simpa using this
abbrev jB:=AC × AC
def uB (x:jB):List SV:=[.c x.1, .c x.2]
theorem dM (n v k:Nat) (l:List jB):(Ob.row v (l.map uB) k).below n:=by
 intro e he x hx
 obtain ⟨y,_,rfl⟩:=aht.1 he
 simp only [uB,aha,List.not_mem_nil,or_false] at hx
 rcases hx with rfl|rfl<;>trivial
theorem Ea (σ:List Nat) (v k:Nat) (l:List jB):(Ob.row v (l.map uB) k).ren σ=Ob.row v (l.map uB) k:=by
 simp only [Ob.ren,List.map_map];rfl
theorem YI (l:List jB):oO (l.map uB)=some (l.map fun x=>[x.1,x.2]):=by
 have:=GV (l.map fun x=>[x.1,x.2])
 rw [List.map_map] at this
 exact this
def afI:TI := { WK with dyn:=true }
theorem dB:TIok Tryz.prog afI:=⟨ay.size,ay.agg,ay.elem,ay.field,ay.zero,ay.bytes,ay.kind,ay.struct,ay.zok,ay.eqs⟩
def bxG (_:bL):Ob := .dead
def gbG (g:bL):Ob := .row (127+65536) [[.c (dW g.f.row), .emp]] 2
theorem Tu (g:bL) (n:Nat):(gbG g).below n:=by
 intro e he x hx
 rw [ahz.1 he] at hx
 rcases aha.1 hx with rfl|hx
 ·trivial
 ·rcases aha.1 hx with rfl|hx
  ·trivial
  ·cases hx
def AB (ps:List aI):List (List AC):=ps.map bE
def iZ:Nat->List bL->List (List SV)
 | _,[]=>[]
 | k,g::r=>[.c (dW g.f.row), .own (AB g.ps) (4+3*k)]::iZ (k+1) r
def UC:List bL->List Ob
 | []=>[]
 | g::r=>bxG g::gbG g :: .spare g.ps.length 2::UC r
def CQ:List bL->List Ob
 | []=>[]
 | g::r => .spare g.ps.length 2::UC r
def Hm:List bL->Ob
 | [] => .dead
 | g::_=>gbG g
def yP (G:List bL):List Ob := .map (vz 0 G) :: .dead::Hm G :: .row (127+65536*G.length) (iZ 0 G) 2::CQ G
theorem acZ {G:List bL} {i:Nat} {g:bL} (ps:List aI) (h:G[i]?=some g):Hm (G.set i ⟨g.f,ps⟩)=Hm G:=by
 cases G with
 | nil=>rfl
 | cons x r =>
  cases i with
  | zero=>simp at h;subst h;rfl
  | succ i=>rfl
theorem ZU {G:List bL} (g:bL) (h:G≠[]):Hm (G++[g])=Hm G:=by cases G with
 | nil=>exact absurd rfl h
 | cons x r=>rfl
theorem Xq (G:List bL) (n:Nat):(Hm G).below n:=by cases G with
 | nil=>trivial
 | cons x r=>exact Tu x n
def Qv:List bL->List Ob
 | []=>[.map []]
 | g::r=>yP (g::r)
theorem xe {G:List bL} (h:G≠[]):Qv G=yP G:=by cases G with
 | nil=>exact absurd rfl h
 | cons g r=>rfl
theorem uW : ∀ (G:List bL) (k:Nat),(iZ k G).length=G.length
 | [],_=>rfl
 | g::r,k=>by simp [iZ,uW r]
theorem Qt : ∀ (G:List bL) (k i:Nat) (g:bL),G[i]?=some g->(iZ k G)[i]?=some [.c (dW g.f.row), .own (AB g.ps) (4+3*(k+i))]
 | [],_,_,_,h=>by simp at h
 | x::r,k,0,g,h=>by simp at h;subst h;rfl
 | x::r,k,i+1,g,h=>by
  have:=Qt r (k+1) i g (by simpa using h)
  simp only [iZ,List.getElem?_cons_succ]
  rw [this,show k+1+i=k+(i+1) by omega]
theorem QB : ∀ (G:List bL) (k i:Nat) (g:bL) (ps:List aI),G[i]?=some g->(iZ k G).set i [.c (dW g.f.row), .own (AB ps) (4+3*(k+i))]=iZ k (G.set i ⟨g.f,ps⟩)
 | [],_,_,_,_,h=>by simp at h
 | x::r,k,0,g,ps,h=>by simp at h;subst h;simp [iZ]
 | x::r,k,i+1,g,ps,h=>by
  have:=QB r (k+1) i g ps (by simpa using h)
  rw [show k+1+i=k+(i+1) by omega] at this
  simp only [iZ,List.set_cons_succ,this]
theorem Np : ∀ (G:List bL) (k:Nat) (g:bL),iZ k (G++[g])=iZ k G++[[.c (dW g.f.row), .own (AB g.ps) (4+3*(k+G.length))]]
 | [],k,g=>rfl
 | x::r,k,g=>by
  have:=Np r (k+1) g
  simp only [List.cons_append,iZ,this,ahf,show k+1+r.length=k+(r.length+1) by omega]
theorem HV : ∀ (G:List bL) (k n:Nat),4+3*(k+G.length)<=n+2 -> ∀ e∈iZ k G, ∀ x∈e,x.below n
 | [],_,_,_=>by intro e he;cases he
 | g::r,k,n,h=>by
  intro e he x hx
  simp only [ahf] at h
  rcases aha.1 he with rfl|he
  ·rcases aha.1 hx with rfl|hx
   ·trivial
   ·rcases aha.1 hx with rfl|hx
    ·show 4+3*k<n;omega
    ·cases hx
  ·exact HV r (k+1) n (by omega) e he x hx
theorem JQ : ∀ (G:List bL) (k:Nat),oO (iZ k G)=some (G.map fun g=>[dW g.f.row, .lst (AB g.ps)])
 | [],_=>rfl
 | g::r,k=>by
  have:=JQ r (k+1)
  simp only [iZ,oO,ni,SV.norm,this,ag6]
theorem U7 : ∀ r:List bL,(UC r).length=3*r.length
 | []=>rfl
 | g::r=>by simp [UC,U7 r];omega
theorem UZ : ∀ (r:List bL) (i:Nat) (g:bL),r[i]?=some g->(UC r)[3*i+2]?=some (.spare g.ps.length 2)
 | [],_,_,h=>by simp at h
 | x::r,0,g,h=>by simp at h;subst h;rfl
 | x::r,i+1,g,h=>by
  have:=UZ r i g (by simpa using h)
  rw [show 3*(i+1)+2=(3*i+2)+1+1+1 by omega];simpa [UC] using this
theorem VT : ∀ (r:List bL) (i:Nat) (g:bL) (ps:List aI),r[i]?=some g->(UC r).set (3*i+2) (.spare ps.length 2)=UC (r.set i ⟨g.f,ps⟩)
 | [],_,_,_,h=>by simp at h
 | x::r,0,g,ps,h=>by simp at h;subst h;simp [UC,bxG,gbG]
 | x::r,i+1,g,ps,h=>by
  have:=VT r i g ps (by simpa using h)
  rw [show 3*(i+1)+2=(3*i+2)+1+1+1 by omega];simp only [UC,List.set_cons_succ,this]
theorem Q4 : ∀ (r:List bL) (g:bL),UC (r++[g])=UC r++[bxG g,gbG g, .spare g.ps.length 2]
 | [],g=>rfl
 | x::r,g=>by simp [UC,Q4 r g]
theorem Wd {G:List bL} (h:G≠[]):(CQ G).length+2=3*G.length:=by
 cases G with
 | nil=>exact absurd rfl h
 | cons g r=>simp [CQ,U7];omega
theorem abp {G:List bL} {i:Nat} {g:bL} (h:G[i]?=some g):(CQ G)[3*i]?=some (.spare g.ps.length 2):=by
 cases G with
 | nil=>simp at h
 | cons x r =>
  cases i with
  | zero=>simp at h;subst h;rfl
  | succ i =>
   have:=UZ r i g (by simpa using h)
   rw [show 3*(i+1)=(3*i+2)+1 by omega];simpa [CQ] using this
theorem acL {G:List bL} {i:Nat} {g:bL} (ps:List aI) (h:G[i]?=some g):(CQ G).set (3*i) (.spare ps.length 2)=CQ (G.set i ⟨g.f,ps⟩):=by
 cases G with
 | nil=>simp at h
 | cons x r =>
  cases i with
  | zero=>simp at h;subst h;simp [CQ]
  | succ i =>
   have:=VT r i g ps (by simpa using h)
   rw [show 3*(i+1)=(3*i+2)+1 by omega];simp only [CQ,List.set_cons_succ,this]
theorem aa' {G:List bL} (g:bL) (h:G≠[]):CQ (G++[g])=CQ G++[bxG g,gbG g, .spare g.ps.length 2]:=by
 cases G with
 | nil=>exact absurd rfl h
 | cons x r=>simp [CQ,Q4]
theorem qJ {G:List bL} (h:G≠[]):(yP G).length=2+3*G.length:=by
 have h1:=Wd h
 simp [yP];omega
theorem Nv : ∀ {n:Nat} {L:List Ob}, (∀ x∈L,x.below n)->Kz n L
 | _,[],_=>trivial
 | n,x::L,h=>⟨h x (by simp),Nv fun y hy=>h y (ahh _ hy)⟩
theorem XR (g:bL) (n:Nat):(gbG g).below n:=by
 intro e he x hx
 rw [ahz.1 he] at hx
 rcases aha.1 hx with rfl|hx
 ·trivial
 ·rcases aha.1 hx with rfl|hx
  ·trivial
  ·cases hx
theorem WR (g:bL) (n:Nat):(bxG g).below n:=trivial
theorem Ma : ∀ (G:List bL) (k n:Nat),(Ob.map (vz k G)).below n:=by
 intro G
 induction G with
 | nil=>intro k n p hp;cases hp
 | cons g r ih =>
  intro k n p hp
  rcases aha.1 hp with rfl|hp
  ·trivial
  ·exact ih (k+1) n p hp
theorem MI (n:Nat) : ∀ (r:List bL), ∀ x∈UC r,x.below n
 | [],x,h=>by cases h
 | g::r,x,h=>by
  simp only [UC,aha] at h
  rcases h with rfl|rfl|rfl|h
  ·exact WR g n
  ·exact XR g n
  ·trivial
  ·exact MI n r x h
theorem qV (G:List bL):Kz (Qv G).length (Qv G):=by
 cases G with
 | nil=>exact ⟨Ma [] 0 _,trivial⟩
 | cons g r =>
  have hl:=qJ (G:=g::r) (by simp)
  refine Nv fun x hx=>?_
  show x.below (yP (g::r)).length
  rw [hl]
  have hx:x∈yP (g::r):=hx
  simp only [yP,CQ,aha] at hx
  rcases hx with rfl|rfl|rfl|rfl|rfl|hx
  ·exact Ma _ 0 _
  ·trivial
  ·exact Xq _ _
  ·exact HV (g::r) 0 _ (by simp only [ahf];omega)
  ·trivial
  ·exact MI _ r x hx
def Qz:List bL->AV
 | [] => .one .emp
 | g::r => .one (.sl 3 (127+65536*(g::r).length) 0 (g::r).length)
theorem yR {G:List bL} (h:G≠[]):Qz G = .one (.sl 3 (127+65536*G.length) 0 G.length):=by
 cases G with
 | nil=>exact absurd rfl h
 | cons g r=>rfl
theorem yc (G:List bL):(Qz G).below (Qv G).length:=by
 cases G with
 | nil=>trivial
 | cons g r =>
  show 3<(yP (g::r)).length
  rw [qJ (by simp)];simp;omega
theorem aal (id:Nat) (ts:List AC) (G:List bL):Md id ts (Qz G)=Qz G:=by cases G<;>rfl
section
variable {P:Program} {ti:TI} {N n0:Nat} {ds:List (Option Tmp)} {K:Tm->List Ob->Prop} {rest:List Oper} {o:Oper} {T T':Tm} {A:List Ob} {Q:AX->Tm->List Ob->Prop}
theorem X8 {t:TypeId} {p q:Operand} {cs xs:List SV} (hd:o.dst=none) (hg:kJ ds T o.guard=some true) (ho:o.op = .store t p q) (hp:look T p=some (.one (.ptr A.length 0))) (hq:(look T q).bind AV.cells=some xs) (hlen:xs.length=cs.length) (hsz:ti.size t=some xs.length) (h:aQ P ti N ds K rest T (A++[.box xs])):aQ P ti N ds K (o::rest) T (A++[.box cs]):=by
 refine sS_ hd hg (v := .undef) (L':=A++[.box xs]) (φ:=0+xs.length<=cs.length/\ti.size t=some xs.length) ?_ ⟨by omega,hsz⟩ h
 rw [ho]
 have e1:(A++[Ob.box cs])[A.length]?=some (.box cs):=by simp
 have e2:splice cs 0 xs=xs:=by unfold splice;simp [hlen]
 have e3:(A++[Ob.box cs]).set A.length (.box xs)=A++[.box xs]:=by rw [List.set_append_right _ _ (ag' _),Nat.sub_self];rfl
 simp only [He,hp,hq,e1,e2,e3]
theorem abM {c:Code} {cs:List SV} {ts:List AC} (hn:ni cs=some ts) (hT:(T.map fun p=>(p.1,Md A.length ts p.2))=T') (h:Aw P N n0 c Q T' (A++[.dead])):Aw P N n0 c Q T (A++[.box cs]):=by
 refine bI A.length (by simp) hn ?_
 rw [hT,List.set_append_right _ _ (ag' _),Nat.sub_self]
 exact h
end
structure GH {α:Type} (c:α->α->Int):Prop where
 refl : ∀ a,c a a=0
 zero : ∀ a b,c a b=0->a=b
 anti : ∀ a b,c a b<0↔0<c b a
 trans : ∀ a b d,c a b<0->c b d<0->c a d<0
theorem tCi_:GH lM:=by
 refine ⟨fun a=>by simp [lM],fun a b h=>?_,fun a b=>?_,fun a b d h1 h2=>?_⟩
 ·unfold lM at h;split at h
  ·omega
  ·split at h<;>omega
 ·unfold lM;split<;>split<;>(try split)<;>omega
 ·unfold lM at *
  split at h1
  ·split at h2
   ·rw [if_pos (by omega)];omega
   ·split at h2<;>omega
  ·split at h1<;>omega
def rT {α:Type} (c:α->α->Int):List α->List α->Int
 | [],[]=>0
 | [],_::_ => -1
 | _::_,[]=>1
 | a::xs,b::ys=>if c a b≠0 then c a b else rT c xs ys
theorem RY {α:Type} {c:α->α->Int} (h:GH c):GH (rT c):=by
 refine ⟨?_,?_,?_,?_⟩
 ·intro a
  induction a with
  | nil=>rfl
  | cons x a ih=>simp [rT,h.refl x,ih]
 ·intro a
  induction a with
  | nil=>intro b hb;cases b with
   | nil=>rfl
   | cons _ _=>simp [rT] at hb
  | cons x a ih =>
   intro b hb
   cases b with
   | nil=>simp [rT] at hb
   | cons y b =>
    unfold rT at hb
    split at hb
    ·rename_i h0;exact absurd hb h0
    ·rename_i h0
     have:=h.zero x y (by simpa using h0)
     subst this
     rw [ih b hb]
 ·intro a
  induction a with
  | nil=>intro b;cases b with
   | nil=>simp [rT]
   | cons _ _=>simp [rT]
  | cons x a ih =>
   intro b
   cases b with
   | nil=>simp [rT]
   | cons y b =>
    unfold rT
    by_cases h0:c x y=0
    ·have:=h.zero x y h0
     subst this
     simp only [h.refl,ne_eq,not_true_eq_false,if_false]
     exact ih b
    ·have h1:c y x≠0:=fun e=>h0 (by rw [h.zero y x e];exact h.refl x)
     rw [if_pos h0,if_pos h1]
     exact h.anti x y
 ·intro a
  induction a with
  | nil =>
   intro b d h1 h2
   cases b with
   | nil=>simp [rT] at h1
   | cons y b=>cases d with
    | nil=>simp [rT] at h2
    | cons _ _=>simp [rT]
  | cons x a ih =>
   intro b d h1 h2
   cases b with
   | nil=>simp [rT] at h1
   | cons y b =>
    cases d with
    | nil=>simp [rT] at h2
    | cons z d =>
     unfold rT at h1 h2 ⊢
     by_cases e1:c x y=0
     ·have:=h.zero x y e1
      subst this
      rw [if_neg (by simpa using e1)] at h1
      by_cases e2:c x z=0
      ·rw [if_neg (by simpa using e2)] at h2 ⊢
       exact ih b d h1 h2
      ·rw [if_pos e2] at h2 ⊢
       exact h2
     ·rw [if_pos e1] at h1
      by_cases e2:c y z=0
      ·have:=h.zero y z e2
       subst this
       rw [if_pos e1];exact h1
      ·rw [if_pos e2] at h2
       have:=h.trans x y z h1 h2
       rw [if_pos (by omega)];exact this
theorem vg : ∀ a b:List Val,bS a b=rT zA a b
 | [],[]=>rfl
 | [],_::_=>rfl
 | _::_,[]=>rfl
 | a::xs,b::ys=>by rw [bS,rT,vg xs ys]
def GG (x y:UInt8):Int:=if x<y then -1 else if y<x then 1 else 0
theorem Yc:GH GG:=by
 have key : ∀ x y:UInt8,GG x y=lM ((x.toNat:Nat):Int) ((y.toNat:Nat):Int):=by
  intro x y
  unfold GG lM
  simp only [UInt8.lt_iff_toNat_lt,Int.ofNat_lt]
 refine ⟨fun a=>by rw [key];exact tCi_.refl _,fun a b h=>?_,fun a b=>by rw [key,key];exact tCi_.anti _ _,fun a b d h1 h2=>by rw [key] at *;exact tCi_.trans _ _ _ h1 h2⟩
 rw [key] at h
 have:=tCi_.zero _ _ h
 exact UInt8.toNat_inj.1 (by omega)
theorem FY : ∀ a b:List UInt8,Lib.compareBytes a b=rT GG a b
 | [],[]=>rfl
 | [],_::_=>rfl
 | _::_,[]=>rfl
 | x::a,y::b=>by
  have e:rT GG (x::a) (y::b)=if GG x y≠0 then GG x y else rT GG a b:=rfl
  rw [e, <- FY a b]
  have e2:Lib.compareBytes (x::a) (y::b)=if x<y then -1 else if y<x then 1 else Lib.compareBytes a b:=by rw [Lib.compareBytes]
  rw [e2]
  by_cases h1:x<y
  ·simp [h1,GG]
  ·by_cases h2:y<x
   ·simp [h1,h2,GG]
   ·simp [h1,h2,GG]
theorem zG:GH xS:=by
 have key : ∀ a b:ByteArray,xS a b=rT GG a.data.toList b.data.toList:=by
  intro a b
  unfold xS
  rw [Lib.cmp_eq,FY]
 have t:=RY Yc
 refine ⟨fun a=>by rw [key];exact t.refl _,fun a b h=>?_,fun a b=>by rw [key,key];exact t.anti _ _,fun a b d h1 h2=>by rw [key] at *;exact t.trans _ _ _ h1 h2⟩
 rw [key] at h
 have:=t.zero _ _ h
 obtain ⟨⟨a⟩⟩:=a
 obtain ⟨⟨b⟩⟩:=b
 simp at this
 rw [this]
theorem X5:GH zA:=by
 refine ⟨?_,?_,?_,?_⟩
 ·intro a;simp [zA,tCi_.refl,zG.refl]
 ·intro a b h
  obtain ⟨k,n,t⟩:=a
  obtain ⟨k',n',t'⟩:=b
  unfold zA at h
  dsimp only at h
  split at h
  ·rename_i e;exact absurd h e
  ·rename_i e1
   split at h
   ·rename_i e;exact absurd h e
   ·rename_i e2
    have k1:=tCi_.zero _ _ (show lM k k'=0 by simpa using e1)
    have k2:=tCi_.zero _ _ (show lM n n'=0 by simpa using e2)
    have k3:=zG.zero _ _ h
    subst k1 k2 k3;rfl
 ·intro a b
  unfold zA
  by_cases e1:lM a.kind b.kind=0
  ·have k:=tCi_.zero _ _ e1
   rw [k]
   simp only [tCi_.refl,ne_eq,not_true_eq_false,if_false]
   by_cases e2:lM a.int b.int=0
   ·have k2:=tCi_.zero _ _ e2
    rw [k2]
    simp only [tCi_.refl,ne_eq,not_true_eq_false,if_false]
    exact zG.anti _ _
   ·have e2':lM b.int a.int≠0:=fun e=>e2 (by rw [tCi_.zero _ _ e];exact tCi_.refl _)
    rw [if_pos e2,if_pos e2']
    exact tCi_.anti _ _
  ·have e1':lM b.kind a.kind≠0:=fun e=>e1 (by rw [tCi_.zero _ _ e];exact tCi_.refl _)
   rw [if_pos e1,if_pos e1']
   exact tCi_.anti _ _
 ·intro a b d h1 h2
  unfold zA at *
  by_cases e1:lM a.kind b.kind=0
  ·have k:=tCi_.zero _ _ e1
   rw [k] at h1 ⊢
   simp only [tCi_.refl,ne_eq,not_true_eq_false,if_false] at h1
   by_cases f1:lM b.kind d.kind=0
   ·rw [if_neg (by simpa using f1)] at h2 ⊢
    by_cases e2:lM a.int b.int=0
    ·have k2:=tCi_.zero _ _ e2
     rw [k2] at h1 ⊢
     simp only [tCi_.refl,ne_eq,not_true_eq_false,if_false] at h1
     by_cases f2:lM b.int d.int=0
     ·rw [if_neg (by simpa using f2)] at h2 ⊢
      exact zG.trans _ _ _ h1 h2
     ·rw [if_pos f2] at h2 ⊢;exact h2
    ·rw [if_pos e2] at h1
     by_cases f2:lM b.int d.int=0
     ·have k2:=tCi_.zero _ _ f2
      rw [<- k2,if_pos e2];exact h1
     ·rw [if_pos f2] at h2
      have:=tCi_.trans _ _ _ h1 h2
      rw [if_pos (by omega)];exact this
   ·rw [if_pos f1] at h2 ⊢;exact h2
  ·rw [if_pos e1] at h1
   by_cases f1:lM b.kind d.kind=0
   ·have k:=tCi_.zero _ _ f1
    rw [<- k,if_pos e1];exact h1
   ·rw [if_pos f1] at h2
    have:=tCi_.trans _ _ _ h1 h2
    rw [if_pos (by omega)];exact this
theorem tCr_:GH bS:=by
 have t:=RY X5
 exact ⟨fun a=>by rw [vg];exact t.refl _,fun a b h=>t.zero _ _ (by rw [<- vg];exact h),fun a b=>by rw [vg,vg];exact t.anti _ _,fun a b d h1 h2=>by rw [vg] at *;exact t.trans _ _ _ h1 h2⟩
section
variable {α:Type} {c:α->α->Int}
def Asc (c:α->α->Int) (l:List α):Prop:=l.Pairwise fun a b=>c a b<=0
theorem GH.le_trans (h:GH c) {a b d:α} (h1:c a b<=0) (h2:c b d<=0):c a d<=0:=by
 by_cases e1:c a b=0
 ·rw [h.zero a b e1];exact h2
 ·by_cases e2:c b d=0
  ·rw [<- h.zero b d e2];exact h1
  ·have:=h.trans a b d (by omega) (by omega);omega
theorem GH.total (h:GH c) (a b:α):c a b<=0\/c b a<=0:=by
 by_cases e:c a b<=0
 ·exact .inl e
 ·have:=(h.anti b a).2 (by omega);exact .inr (by omega)
theorem BA (h:GH c) : ∀ {l m:List α}, Asc c l->Asc c m->l.Perm m->l=m
 | [],m,_,_,hp=>by rw [List.Perm.nil_eq hp]
 | x::l,[],_,_,hp=>by have:=hp.length_eq;simp at this
 | x::l,y::m,hl,hm,hp=>by
  have hx:x∈y::m:=hp.mem_iff.1 (ahG ..)
  have hy:y∈x::l:=hp.mem_iff.2 (ahG ..)
  rw [Asc,ahP] at hl hm
  have e:x=y:=by
   rcases aha.1 hx with e|hx
   ·exact e
   ·rcases aha.1 hy with e|hy
    ·exact e.symm
    ·have h1:=hm.1 x hx
     have h2:=hl.1 y hy
     by_cases e0:c x y=0
     ·exact h.zero _ _ e0
     ·have:=(h.anti x y).1 (by omega);omega
  subst e
  rw [BA h hl.2 hm.2 (List.Perm.cons_inv hp)]
end
theorem QA (x y:Int):Mo x y=some (lM x y):=by
 unfold Mo KR lM
 by_cases h1:x<y
 ·simp [h1]
 ·by_cases h2:y<x
  ·simp [h1,h2]
  ·simp [h1,h2]
def orS (_:Unit) (x:Int):Option (Sum Unit Int):=if x≠0 then some (.inr x) else some (.inl ())
theorem agi (a b c:Int):gOr [a,b,c]=some (if a≠0 then a else if b≠0 then b else c):=by
 unfold gOr
 rw [di (l:=[a,b,c]) (mk:=fun (_:Unit) i=>i) (f:=orS) ?_ ?_ (by unfold fuel;simp) ()]
 ·unfold orS
  by_cases h1:a=0
  ·by_cases h2:b=0
   ·by_cases h3:c=0
    ·simp [dF,Jl,xx,h1,h2,h3]
    ·simp [dF,Jl,xx,h1,h2,h3]
   ·simp [dF,Jl,xx,h1,h2]
  ·simp [dF,Jl,xx,h1]
 ·intro s i x hx
  have hi:i<3:=(agV.1 hx).1
  unfold O0 orS
  dsimp only
  rw [aV hx,agX,gn_ hx]
  simp only [agU]
  rw [wrapN (by omega)]
  by_cases h:x=0
  ·simp [h,uw]
  ·simp [h,uw]
 ·intro s
  unfold O0
  dsimp only
  rw [lF_,agW]
theorem DZ (v w:Val):yz v w=some (zA v w):=by
 unfold yz
 rw [QA,QA]
 simp only [agU]
 rw [agi]
 rfl
theorem Qf : ∀ (b:List Val),bS [] b=if b=[] then 0 else -1
 | []=>rfl
 | _::_=>rfl
theorem NN {a b:List Val} (ha:a.length<=4000000000000) (hb:b.length<=4000000000000) : ∀ (n i:Nat),i<=a.length->i<=b.length->a.length-i<n->(ax (nQ a b fun x0 x1=>yz x0 x1) n (i:Int)).bind (iA a b)=some (bS (a.drop i) (b.drop i))
 | 0,_,_,_,h=>by omega
 | n+1,i,h1,h2,hn=>by
  rw [ax]
  by_cases hlt:i<a.length
  ·obtain ⟨x,hx⟩:=gol_ hlt
   have ex:=(agV.1 hx).2
   have eb:nQ a b (fun x0 x1=>yz x0 x1) (i:Int)=bif (decide (((b.length:Nat):Int)<=(i:Int))) then some (.ret (1:Int)) else (aH b (i:Int)).bind fun x_5=>(yz x x_5).bind fun r_6=>bif (decide (r_6≠(0:Int))) then some (.ret r_6) else some (.next (IntKind.i64.wrap ((i:Int)+(1:Int)))):=by
    unfold nQ
    dsimp only
    rw [aV hx,agX,gn_ hx]
    rfl
   rw [eb,ahp hlt,ex]
   by_cases hlb:i<b.length
   ·obtain ⟨y,hy⟩:=gol_ hlb
    have ey:=(agV.1 hy).2
    rw [ahp hlb,ey,show decide (((b.length:Nat):Int)<=(i:Int))=false from agY (by omega),agW,gn_ hy,bS]
    simp only [agU,DZ]
    by_cases h:zA x y=0
    ·simp only [h,ne_eq,not_true_eq_false,decide_false,agW,if_false]
     rw [wrapN (by omega)]
     have k:=NN ha hb n (i+1) (by omega) (by omega) (by omega)
     simp only [DZ] at k
     exact k
    ·simp [h,iA]
   ·have:i=b.length:=by omega
    subst this
    rw [ahO,show decide (((b.length:Nat):Int)<=((b.length:Nat):Int))=true from agZ (by omega),agX]
    rfl
  ·have:i=a.length:=by omega
   subst this
   have eb:nQ a b (fun x0 x1=>yz x0 x1) ((a.length:Nat):Int)=some (.exit ((a.length:Nat):Int)):=by
    unfold nQ
    dsimp only
    rw [lF_,agW]
   rw [eb,ahO,Qf]
   show iA a b (.inl ((a.length:Nat):Int))=_
   unfold iA
   by_cases h:a.length<b.length
   ·rw [show decide (((a.length:Nat):Int)<((b.length:Nat):Int))=true from agZ (by omega),agX,if_neg (by rw [List.drop_eq_nil_iff];omega)]
   ·rw [show decide (((a.length:Nat):Int)<((b.length:Nat):Int))=false from agY (by omega),agW,if_pos (by rw [List.drop_eq_nil_iff];omega)]
theorem aa1 (a b:List Val) (ha:a.length<=4000000000000) (hb:b.length<=4000000000000):Su a b=some (bS a b):=by
 unfold Su PI
 have:=NN ha hb fuel 0 (ahe _) (ahe _) (by unfold fuel;omega)
 rw [show (((0:Nat):Int))=0 from rfl] at this
 rw [this];rfl
theorem bytesLess_eq : ∀ a b:List UInt8,Op.bytesLess a b=decide (Lib.compareBytes a b<0)/\(a==b)=decide (Lib.compareBytes a b=0)
 | [],[]=>⟨rfl,rfl⟩
 | [],_::_=>⟨rfl,rfl⟩
 | _::_,[]=>⟨rfl,rfl⟩
 | x::a,y::b=>by
  have e2:Lib.compareBytes (x::a) (y::b)=if x<y then -1 else if y<x then 1 else Lib.compareBytes a b:=by rw [Lib.compareBytes]
  have e3:Op.bytesLess (x::a) (y::b)=(decide (x<y)||(x==y&&Op.bytesLess a b)):=by rw [Op.bytesLess]
  obtain ⟨i1,i2⟩:=bytesLess_eq a b
  rw [e2,e3,List.cons_beq_cons,i1,i2]
  by_cases h1:x<y
  ·have hne:x≠y:=fun e=>by rw [e] at h1;exact absurd h1 (UInt8.lt_irrefl y)
   simp [h1,hne]
  ·by_cases h2:y<x
   ·have hne:x≠y:=fun e=>by rw [e] at h2;exact absurd h2 (UInt8.lt_irrefl y)
    simp [h1,h2,hne]
   ·have heq:x=y:=UInt8.le_antisymm (UInt8.not_lt.1 h2) (UInt8.not_lt.1 h1)
    subst heq
    simp [h1]
theorem XG (a b:ByteArray):Op.bytesLess a.toList b.toList=decide (xS a b<0):=by
 unfold xS
 rw [Lib.cmp_eq,ByteArray.toList_eq,ByteArray.toList_eq];exact (bytesLess_eq _ _).1
theorem ab' (a b:ByteArray):(a.toList==b.toList)=decide (xS a b=0):=by
 unfold xS
 rw [Lib.cmp_eq,ByteArray.toList_eq,ByteArray.toList_eq];exact (bytesLess_eq _ _).2
theorem rA : ∀ a b:List UInt8,Lib.compareBytes a b = -1\/Lib.compareBytes a b=0\/Lib.compareBytes a b=1
 | [],[] => .inr (.inl rfl)
 | [],_::_ => .inl rfl
 | _::_,[] => .inr (.inr rfl)
 | x::a,y::b=>by
  have e2:Lib.compareBytes (x::a) (y::b)=if x<y then -1 else if y<x then 1 else Lib.compareBytes a b:=by rw [Lib.compareBytes]
  rw [e2]
  split
  ·exact .inl rfl
  ·split
   ·exact .inr (.inr rfl)
   ·exact rA a b
theorem KL (v w:Val):AL v w=some (zA v w):=by
 unfold AL zA Jc
 rw [XG,ab']
 have hr:xS v.text w.text = -1\/xS v.text w.text=0\/xS v.text w.text=1:=by unfold xS;rw [Lib.cmp_eq];exact rA _ _
 by_cases h1:v.kind=w.kind
 ·have e1:lM v.kind w.kind=0:=by rw [h1];exact tCi_.refl _
  by_cases h2:v.int=w.int
  ·have e2:lM v.int w.int=0:=by rw [h2];exact tCi_.refl _
   rw [e1,e2]
   simp only [h1,h2,ne_eq,not_true_eq_false,decide_false,agW,if_false]
   rcases hr with h|h|h<;>rw [h]<;>rfl
  ·have e2:lM v.int w.int≠0:=fun e=>h2 (tCi_.zero _ _ e)
   rw [e1]
   simp only [h1,h2,e2,ne_eq,not_true_eq_false,not_false_eq_true,decide_false,decide_true,agW,agX,if_false,if_true]
   unfold lM
   by_cases h3:v.int<w.int
   ·simp [h3]
   ·have:w.int<v.int:=by omega
    simp [h3,this]
 ·have e1:lM v.kind w.kind≠0:=fun e=>h1 (tCi_.zero _ _ e)
  simp only [h1,e1,ne_eq,not_true_eq_false,not_false_eq_true,decide_false,decide_true,agW,agX,if_false,if_true]
  unfold lM
  by_cases h3:v.kind<w.kind
  ·simp [h3]
  ·have:w.kind<v.kind:=by omega
   simp [h3,this]
theorem Sa {a b:List Val} (ha:a.length<=4000000000000) (hb:b.length<=4000000000000) : ∀ (n i:Nat),i<=a.length->i<=b.length->a.length-i<n->(ax (jK a b) n (i:Int)).bind (fG a b)=some (bS (a.drop i) (b.drop i))
 | 0,_,_,_,h=>by omega
 | n+1,i,h1,h2,hn=>by
  rw [ax]
  by_cases hlt:i<a.length
  ·obtain ⟨x,hx⟩:=gol_ hlt
   have ex:=(agV.1 hx).2
   rw [ahp hlt,ex]
   by_cases hlb:i<b.length
   ·obtain ⟨y,hy⟩:=gol_ hlb
    have ey:=(agV.1 hy).2
    have eb:jK a b (i:Int)=bif (decide (zA x y≠(0:Int))) then some (.ret (zA x y)) else some (.next (IntKind.i64.wrap ((i:Int)+(1:Int)))):=by
     unfold jK
     dsimp only
     rw [aV hx,agX,aV hy,agX,gn_ hx,gn_ hy]
     simp only [agU,KL]
    rw [eb,ahp hlb,ey,bS]
    by_cases h:zA x y=0
    ·simp only [h,ne_eq,not_true_eq_false,decide_false,agW,if_false]
     rw [wrapN (by omega)]
     exact Sa ha hb n (i+1) (by omega) (by omega) (by omega)
    ·simp [h,fG]
   ·have:i=b.length:=by omega
    subst this
    have eb:jK a b ((b.length:Nat):Int)=some (.exit ((b.length:Nat):Int)):=by
     unfold jK
     dsimp only
     rw [aV hx,agX,lF_,agW]
    rw [eb,ahO]
    show fG a b (.inl ((b.length:Nat):Int))=_
    unfold fG
    rw [show decide (((a.length:Nat):Int)<((b.length:Nat):Int))=false from agY (by omega),agW,show decide (((b.length:Nat):Int)<((a.length:Nat):Int))=true from agZ (by omega),agX]
    rfl
  ·have:i=a.length:=by omega
   subst this
   have eb:jK a b ((a.length:Nat):Int)=some (.exit ((a.length:Nat):Int)):=by
    unfold jK
    dsimp only
    rw [lF_,agW]
   rw [eb,ahO,Qf]
   show fG a b (.inl ((a.length:Nat):Int))=_
   unfold fG
   by_cases h:a.length<b.length
   ·rw [show decide (((a.length:Nat):Int)<((b.length:Nat):Int))=true from agZ (by omega),agX,if_neg (by rw [List.drop_eq_nil_iff];omega)]
   ·rw [show decide (((a.length:Nat):Int)<((b.length:Nat):Int))=false from agY (by omega),agW,show decide (((b.length:Nat):Int)<((a.length:Nat):Int))=false from agY (by omega),agW,if_pos (by rw [List.drop_eq_nil_iff];omega)]
theorem oz (a b:List Val) (ha:a.length<=4000000000000) (hb:b.length<=4000000000000):vo a b=some (bS a b):=by
 unfold vo
 have:=Sa ha hb fuel 0 (ahe _) (ahe _) (by unfold fuel;omega)
 rw [show (((0:Nat):Int))=0 from rfl] at this
 rw [this];rfl
set_option maxHeartbeats 8000000
def Cj (a_a:aa) (a_b:aa):Option (Int):=(Su a_a.row a_b.row).bind fun r_1=>some r_1
theorem Ww {a_a:aa} {a_b:aa} {r:Int} (H:Cj a_a a_b=some r):Pure Tryz.prog 155 [.agg (ae a_a), .agg (ae a_b)] (.val (.one (.int .i64 r))):=by
 unfold Cj at H
 refine po_ Tryz.func155 Tryz.ntmps155 ?_
 obtain ⟨r_1,c1,H⟩:=bd_ H
 replace c1:=aaO c1
 try simp only [ag8,ag6,ag_,ag0,aC] at c1
 obtain rfl:=ahq H
 exact aD
theorem Yl (a b:aa) (ha:a.row.length<=4000000000000) (hb:b.row.length<=4000000000000):Cj a b=some (bS a.row b.row):=by
 unfold Cj
 rw [aa1 _ _ ha hb];rfl
def Ke {α:Type} (c:α->α->Int) (A:List α) (x:α):Nat->Nat
 | 0=>0
 | j+1=>match A[j]? with
  | some y=>if c x y<0 then Ke c A x j else j+1
  | none=>j+1
def KG {α:Type} (c:α->α->Int) (A:List α) (x:α):List α:=A.take (Ke c A x A.length)++x::A.drop (Ke c A x A.length)
def qZ {α:Type} (c:α->α->Int) (l:List α):List α:=l.foldl (KG c) []
theorem NM {α:Type} (c:α->α->Int) (B:List α) (x:α) : ∀ j,j<=B.length->Ke c B x j<=j/\(∀ i y,Ke c B x j<=i->i<j->B[i]?=some y->c x y<0)/\(∀ q,Ke c B x j=q+1 -> ∃ y,B[q]?=some y /\ ¬ c x y<0)
 | 0,_=>⟨ag' _,fun i y _ h=>by omega,fun q h=>by simp [Ke] at h⟩
 | j+1,hj=>by
  obtain ⟨y,hy⟩:=gol_ (show j<B.length by omega)
  obtain ⟨h1,h2,h3⟩:=NM c B x j (by omega)
  unfold Ke
  simp only [hy]
  split
  ·rename_i hlt
   refine ⟨by omega,fun i z hi hij hz=>?_,h3⟩
   by_cases e:i=j
   ·subst e;rw [hy] at hz;injection hz with hz;subst hz;exact hlt
   ·exact h2 i z hi (by omega) hz
  ·rename_i hge
   exact ⟨ag' _,fun i z hi hij _=>by omega,fun q hq=>by injection hq with hq;subst hq;exact ⟨y,hy,hge⟩⟩
theorem Yr {α:Type} (c:α->α->Int) (B:List α) (x:α):(KG c B x).Perm (x::B):=by
 unfold KG
 refine List.perm_middle.trans ?_
 rw [ahE]
theorem xM {α:Type} (c:α->α->Int) : ∀ (l B:List α),(l.foldl (KG c) B).Perm (l++B)
 | [],B=>List.Perm.refl _
 | x::l,B=>by
  rw [ahJ]
  refine (xM c l (KG c B x)).trans ?_
  refine ((Yr c B x).append_left l).trans ?_
  exact List.perm_middle
theorem wN {α:Type} (c:α->α->Int) (l:List α):(qZ c l).Perm l:=by
 have:=xM c l []
 simpa [qZ] using this
theorem aaD {α:Type} {c:α->α->Int} (htr : ∀ a b d,c a b<=0->c b d<=0->c a d<=0) (htot : ∀ a b, ¬ c a b<0->c b a<=0) {B:List α} (x:α) (h:B.Pairwise fun a b=>c a b<=0):(KG c B x).Pairwise fun a b=>c a b<=0:=by
 obtain ⟨h1,h2,h3⟩:=NM c B x B.length (ag' _)
 unfold KG
 generalize Ke c B x B.length=p at h1 h2 h3
 have hd : ∀ y∈B.drop p,c x y<=0:=by
  intro y hy
  obtain ⟨i,hi⟩:=List.getElem?_of_mem hy
  rw [ahF] at hi
  have:=(agV.1 hi).1
  have:=h2 (p+i) y (by omega) this hi
  omega
 have ht : ∀ y∈B.take p,c y x<=0:=by
  intro y hy
  cases p with
  | zero=>simp at hy
  | succ q =>
   obtain ⟨z,hz,hge⟩:=h3 q rfl
   have hzx:=htot x z hge
   obtain ⟨i,hi⟩:=List.getElem?_of_mem hy
   have hil:i<q+1:=by have:=(agV.1 hi).1;rw [ahK] at this;omega
   rw [List.getElem?_take_of_lt hil] at hi
   by_cases e:i=q
   ·subst e;rw [hi] at hz;injection hz with hz;subst hz;exact hzx
   ·have hlt:i<q:=by omega
    have hi':=agV.1 hi
    have hz':=agV.1 hz
    have:=List.pairwise_iff_getElem.1 h i q hi'.1 hz'.1 hlt
    rw [hi'.2,hz'.2] at this
    exact htr _ _ _ this hzx
 refine List.pairwise_append.2 ⟨h.sublist (List.take_sublist _ _),ahP.2 ⟨hd,h.sublist (List.drop_sublist _ _)⟩,fun a ha b hb=>?_⟩
 rcases aha.1 hb with rfl|hb
 ·exact ht a ha
 ·exact htr _ _ _ (ht a ha) (hd b hb)
theorem MF {α:Type} {c:α->α->Int} (htr : ∀ a b d,c a b<=0->c b d<=0->c a d<=0) (htot : ∀ a b, ¬ c a b<0->c b a<=0) (l:List α):(qZ c l).Pairwise fun a b=>c a b<=0:=by
 have : ∀ (l B:List α),(B.Pairwise fun a b=>c a b<=0)->(l.foldl (KG c) B).Pairwise fun a b=>c a b<=0:=by
  intro l
  induction l with
  | nil=>intro B h;exact h
  | cons x l ih=>intro B h;exact ih _ (aaD htr htot x h)
 exact this l [] List.Pairwise.nil
abbrev jw (a b:aa):Int:=bS a.row b.row
abbrev kT (s:aa):jB:=(dW s.row, .lst (s.periods.map bE))
theorem agx {L:List Ob} {v k:Nat} {l:List jB} {x:AV} {xs:List AV} (h0:L[3]?=some (Ob.row v (l.map uB) k)) (hx : ∀ y∈x::xs,y.below 1):nX [3] [Ob.row v (l.map uB) k] (x::xs) L:=by
 refine ⟨rfl,by simp,fun i y hy=>?_,cZ ⟨dM _ _ _ _,trivial⟩,hx⟩
 match i,hy with
 | 0,hy=>simp at hy;subst hy;rw [Ea];exact h0
 | i+1,hy=>simp at hy
theorem jG3 {L L':List Ob} {v k:Nat} {l:List jB} (h:L.set 3 (Ob.row v (l.map uB) k)=L'):joinL [3] L [Ob.row v (l.map uB) k]=L':=by
 subst h
 simp [joinL,join,jV,dR,mE,Ea]
def rD (l:List aj):List aa:=qZ jw ((eT l).map fun g=>⟨g.f.row,g.ps⟩)
theorem Uy:Pure Tryz.prog 154 [.one (.lst []), .one (.fn 155 [])] (.tup []):=(Ci Vv 40).1 _ _ _ (by kernel_rfl)
abbrev dC {α:Type} (enc:α->List AC) (k v:Nat) (X:List α):Ob := .row v ((X.map enc).map (List.map SV.c)) k
theorem QE {α:Type} (enc:α->List AC) (k v:Nat) (X:List α) (σ:List Nat):(dC enc k v X).ren σ=dC enc k v X:=by
 show Ob.row v (((X.map enc).map (List.map SV.c)).map (List.map (SV.ren σ))) k=_
 rw [List.map_map]
 congr 1
 refine List.map_congr_left fun e _=>?_
 show (e.map SV.c).map (SV.ren σ)=e.map SV.c
 rw [List.map_map]
 rfl
theorem aT {α:Type} (n:Nat) (enc:α->List AC) (k v:Nat) (X:List α):(dC enc k v X).below n:=CE n v k enc X
theorem rfX {α:Type} {enc:α->List AC} {k v:Nat} {X:List α} {L:List Ob} {args:List AV} (h0:L[0]?=some (dC enc k v X)) (hx : ∀ y∈args,y.below 1):nX [0] [dC enc k v X] args L:=by
 refine ⟨rfl,by simp,fun i y hy=>?_,cZ ⟨aT _ _ _ _ _,trivial⟩,hx⟩
 match i,hy with
 | 0,hy=>simp only [List.getElem?_cons_zero,Option.some.injEq] at hy;subst hy;rw [QE];exact h0
 | i+1,hy=>simp at hy
theorem jX {α:Type} {enc:α->List AC} {k v:Nat} {X:List α} {L L':List Ob} (h:L.set 0 (dC enc k v X)=L'):joinL [0] L [dC enc k v X]=L':=by
 subst h
 simp only [joinL,join,jV,dR,mE,ag6,ag_,QE]
 simp
section
variable {P:Program} {ti:TI} {N:Nat} {ds:List (Option Tmp)} {K:Tm->List Ob->Prop} {rest:List Oper} {o:Oper} {T:Tm} {L:List Ob}
theorem r_ {α:Type} {enc:α->List AC} {X Y:List α} {g:FuncId} {asx args:List AV} {v k d:Nat} (hd:o.dst=some d) (hN:Nat.blt d N=true) (hg:kJ ds T o.guard=some true) (hp:fJ ti (look T) o.op=some (g,asx)) (hL:L[0]?=some (dC enc k v X)) (h:aQ P ti N ds K rest ((d, .tup [])::T) (L.set 0 (dC enc k v Y)))
  (hc:Run P g [dC enc k v X] args [dC enc k v Y] (.tup []):=by assumption) (ha:asx=args.map (AV.ren [0]):=by rfl) (hb : ∀ y∈args,y.below 1:=by refine wX ?_;repeat' (first|refine ⟨?_,?_⟩|exact trivial|exact lt_)):aQ P ti N ds K (o::rest) T L :=
 kN [0] hd hN hg hp hc ha (rfX hL hb) rfl (jX rfl) h
theorem afo {α:Type} {enc:α->List AC} {X:List α} {x:α} {t:TypeId} {p:Operand} {id ver i k d:Nat} (hd:o.dst=some d) (hN:Nat.blt d N=true) {g0:Bool} (hg:kJ ds T o.guard=some g0) (ho:o.op = .load t p) (hp:look T p=some (.one (.ep id ver i 0))) (hL:L[id]?=some (dC enc k ver X)) (ha:ti.agg t=some true) (hn:ti.size t=some k) (hk : ∀ x,(enc x).length=k)
  (h:aQ P ti N ds K rest ((d, .agg ((enc x).map SV.c))::T) L) (hx:X[i]?=some x:=by assumption) (hg1:g0=true:=by first|rfl|exact nU (by first|assumption|exact oD (by assumption))|exact nH (by first|assumption|exact oF (by assumption))):aQ P ti N ds K (o::rest) T L:=by
 subst hg1
 have hl:((enc x).map SV.c).length=k:=by rw [ag7,hk]
 refine Oi hd hN hg ho hp hL ha hn (e:=(enc x).map SV.c) ?_ (by rw [List.drop_zero, <- hl,List.take_length]) (by omega) h
 rw [ahg,ahg,hx];rfl
theorem afs {α:Type} {enc:α->List AC} {X:List α} {x:α} {y:AC} {t:TypeId} {p:Operand} {id ver i k d:Nat} (hd:o.dst=some d) (hN:Nat.blt d N=true) {g0:Bool} (hg:kJ ds T o.guard=some g0) (ho:o.op = .load t p) (hp:look T p=some (.one (.ep id ver i 0))) (hL:L[id]?=some (dC enc k ver X)) (ha:ti.agg t=some false)
  (h:aQ P ti N ds K rest ((d, .one (.c y))::T) L) (hx:X[i]?=some x:=by assumption) (hy:enc x=[y]:=by rfl) (hg1:g0=true:=by first|rfl|exact nU (by first|assumption|exact oD (by assumption))|exact nH (by first|assumption|exact oF (by assumption))):aQ P ti N ds K (o::rest) T L:=by
 subst hg1
 refine NV hd hN hg ho hp hL ha (e:=(enc x).map SV.c) (x := .c y) ?_ (by rw [hy];rfl) h
 rw [ahg,ahg,hx];rfl
end
theorem pO {α β:Type} {X:List α} {i:Int} {k:α->Option β} {r:β} (H:(aH X i).bind k=some r) : ∃ x,X[0+i.toNat]?=some x/\k x=some r:=by
 obtain ⟨x,h,K⟩:=bd_ H
 obtain ⟨h0,h1⟩:=nE h
 exact ⟨x,by rw [ahB];exact h1,K⟩
theorem AJ {p q:Prop} (k:q) (h:Bx q->p:=by
 intro hq
 repeat' (first
  | refine r_ rfl rfl rfl rfl rfl ?_|refine afo rfl rfl rfl rfl rfl rfl rfl rfl (fun _=>rfl) ?_|refine afs rfl rfl rfl rfl rfl rfl rfl ?_|refine Hq rfl rfl rfl rfl rfl (by omega) rfl (fun _=>rfl) rfl ?_|refine p_ rfl rfl rfl rfl rfl ?_|refine st_nil ?_|refine x_ rfl rfl rfl rfl rfl rfl rfl rfl ?_|refine l_ rfl rfl rfl rfl ?_|refine s_ rfl rfl rfl ?_|refine t_ rfl rfl rfl rfl ?_|refine k_ rfl rfl rfl ?_|refine k0_ rfl rfl ?_|refine c_ rfl rfl rfl rfl ?_|refine pick_t rfl rfl rfl rfl rfl rfl rfl ?_|refine pick_f rfl rfl rfl rfl rfl rfl rfl ?_|refine aw_seq ?_|refine aw_region ay _ rfl ?_|refine aw_drawn2 bf _ rfl mixed (by decide +kernel) ?_|refine aw_condT rfl ?_|refine aw_condF rfl ?_|refine aw_block ?_|refine aw_exit ?_|refine aw_ret ?_|refine aw_skip ?_|rw [ag7]|rw [mn_norm]|rw [mx_norm])
 exact hq.out):p:=h ⟨k⟩
theorem mi {p:Prop} (h:p:=by
 repeat' (first
  | refine r_ rfl rfl rfl rfl rfl ?_|refine afo rfl rfl rfl rfl rfl rfl rfl rfl (fun _=>rfl) ?_|refine afs rfl rfl rfl rfl rfl rfl rfl ?_|refine Hq rfl rfl rfl rfl rfl (by omega) rfl (fun _=>rfl) rfl ?_|refine p_ rfl rfl rfl rfl rfl ?_|refine st_nil ?_|refine x_ rfl rfl rfl rfl rfl rfl rfl rfl ?_|refine l_ rfl rfl rfl rfl ?_|refine s_ rfl rfl rfl ?_|refine t_ rfl rfl rfl rfl ?_|refine k_ rfl rfl rfl ?_|refine k0_ rfl rfl ?_|refine c_ rfl rfl rfl rfl ?_|refine pick_t rfl rfl rfl rfl rfl rfl rfl ?_|refine pick_f rfl rfl rfl rfl rfl rfl rfl ?_|refine aw_seq ?_|refine aw_region ay _ rfl ?_|refine aw_drawn2 bf _ rfl mixed (by decide +kernel) ?_|refine aw_condT rfl ?_|refine aw_condF rfl ?_|refine aw_block ?_|refine aw_exit ?_|refine aw_ret ?_|refine aw_skip ?_|rw [ag7]|rw [mn_norm]|rw [mx_norm])
 first
  | exact ⟨.inl rfl,⟨.inr ⟨.tup [],⟨trivial,rfl⟩,rfl⟩,⟨[],rfl⟩,by simp,cZ ⟨aT _ _ _ _ _,trivial⟩,trivial⟩⟩
  | exact ⟨.inr rfl,⟨.inr ⟨.tup [],⟨trivial,rfl⟩,rfl⟩,⟨[],rfl⟩,by simp,cZ ⟨aT _ _ _ _ _,trivial⟩,trivial⟩⟩):p:=h
end Go.Proofs.YtcehmafobkhdbaaGreatDoor
