/- Parts. No condition. -/
import Derived.Test.YtnbnpnmkgemdeaaGreatDoorKAQ
set_option maxHeartbeats 8000000
set_option maxRecDepth 100000
set_option linter.unusedSimpArgs false
set_option linter.unusedVariables false
namespace Go.Proofs.YtnbnpnmkgemdeaaGreatDoor
open Go.RowKit Go.MapKept Tryz
theorem gv_ {A B p q:Prop}(a:A)(b:B)(k:q)(h:Bx q->A->B->p:=by
 intro hq ha hb0
 first|refine st_nil ?_|refine st_pop rfl rfl rfl rfl qp_ ?_|refine st_lop rfl rfl rfl rfl qp_ ?_|refine sS_ rfl rfl rfl qp_ ?_|refine st_lit rfl rfl rfl rfl qp_ ?_|refine st_skip rfl rfl rfl ?_|refine sk0_ rfl rfl ?_|refine aw_seq ?_|refine aw_region ha _ rfl ?_|refine aw_drawn2 hb0 _ rfl mixed (by decide +kernel) ?_|refine aw_block ?_|refine aw_exit ?_|refine aw_ret ?_|refine aw_skip ?_
 exact hq.out):p:=h ⟨k⟩ a b
def cg (it:Int->ByteArray)(l:List Val):ByteArray:=l.foldl (λa v=>a++it v.kind++ct++it v.int++ct++it v.text.size++ct++v.text) ⟨#[]⟩
theorem DZ (it:Int->ByteArray)(l:List Val)(v:Val):cg it (l++[v])=cg it l++it v.kind++ct++it v.int++ct++it v.text.size++ct++v.text:=by unfold cg;rw[List.foldl_append];rfl
structure K6 (it:Int->ByteArray)(v:Val):Prop where
 kind:PTz 185 [.one (.int .i64 v.kind)] (.val (.one (.str (it v.kind))))
 int:PTz 185 [.one (.int .i64 v.int)] (.val (.one (.str (it v.int))))
 len:PTz 185 [.one (.int .i64 v.text.size)] (.val (.one (.str (it v.text.size))))
 s1:(it v.kind).size<=30/\0<(it v.kind).size
 s2:(it v.int).size<=30
 s3:(it v.text.size).size<=30
 s4:v.text.size<=10000000000
theorem NJ (it:Int->ByteArray)(l:List Val)(h:∀ v∈l,K6 it v):(cg it l).size<=l.length*10000000100:=by
 have key:∀ (l:List Val) (a:ByteArray),(∀ v∈l,K6 it v)->(l.foldl (λa v=>a++it v.kind++ct++it v.int++ct++it v.text.size++ct++v.text) a).size<=a.size+l.length*10000000100:=by
  intro l
  induction l with
  |nil=>intro a _;simp
  |cons v l ih =>
   intro a h;have hv:=h v m5;have:=hv.s1;have:=hv.s2;have:=hv.s3;have:=hv.s4;rw[aiC];have h1:=ih (a++it v.kind++ct++it v.int++ct++it v.text.size++ct++v.text) λx hx=>h x (aid _ hx)
   have hc:ct.size=1:=rfl;simp only[ByteArray.size_append,hc]at h1;rw[aib];omega
 have:=key l ⟨#[]⟩ h;have e:(⟨#[]⟩:ByteArray).size=0:=rfl;rw[e,aiw]at this;exact this
def lj (it:Int->ByteArray)(l:List Val)(i:Nat):List Ob:=[cG (if i=0 then .c (.nul .ptr)else(.ep 0 (219+65536) 0 0)) (5+458752*i) (cg it (l.take i)) 0,cH (5+458752*i) (cg it (l.take i))]
theorem aa3 (it:Int->ByteArray)(l:List Val)(hl:l.length<=1000)(h:∀ v∈l,K6 it v):PTz 164 [.one (bD l)] (.val (.one (.str (cg it l)))):=by
 refine pa_ ax func164 rfl rfl ntmps164 m5 ?_;simp only[argT,PV.av,ah2,ah6];obtain⟨inf,Qa,hiz⟩:∃ inf,prog.info? 219=some inf/\inf.zero=some (.agg #[.pointer none,.slice none 0 0]):=by
  have hh:(prog.info? 219).bind (·.zero)=some (.agg #[.pointer none,.slice none 0 0]):=k7
  cases hi:prog.info? 219 with
  |none=>rw[hi]at hh;cases hh
  |some j=>rw[hi]at hh;exact⟨j,rfl,by simpa using hh⟩
 have hc:ct.size=1:=rfl;have Uc:(⟨#[]⟩:ByteArray).size=0:=rfl;obtain⟨n,hn⟩:∃ n,l.length=n:=⟨_,rfl⟩
 repeat' (first|(refine bQ rfl rfl rfl rfl rfl (nq (Eb:=5) (k:=1) Qa hiz m9 m9 m9) ?_)|refine gv_ ax ar ?_|refine gi_ (λhb=>?_) (λhb=>?_)<;>try exact(fx_ hb).elim|fail)
 refine b7 (λi:Nat=>[(0,.one (.c (bD l))),(3,.one (.ep 0 (219+65536) 0 0)),(6,.one (.c (bD l))),(7,.one (.c (.int .i64 n))),(8,.one (.c (.int .i64 i)))]) (λi=>lj it l i) (λi=>i<=n) (λi=>n-i) 0 m0 (λ_ _=>aia _)
  (fm_ ⟨rfl,rfl,rfl,aL (by simp[hn]),rfl,t7⟩ [] rfl ⟨t7,(by show 0<2;omega),t7,t7,t7,t7⟩ ⟨cj trivial (by show 1<2;omega),bf _ _ _,t7⟩) ?_
 intro i hi;have Qf:=NJ it (l.take i) λv hv=>h v (List.mem_of_mem_take hv)
 rw[aiD]at Qf;by_cases Rz:i<n
 .obtain⟨v,hv⟩:=gol_ (show i<l.length by omega)
  have hk:=h v (ahX hv);have k1:=hk.kind;have k2:=hk.int;have k3:=hk.len;have q1:=hk.s1;have q2:=hk.s2;have q3:=hk.s3;have q4:=hk.s4;have U0:=DZ it (l.take i) v;rw[<- bG hv]at U0;obtain⟨kd,nn,tx⟩:=v;simp only at k1 k2 k3 q1 q2 q3 q4 U0;generalize it kd=b1 at k1 q1 U0;generalize it nn=b2 at k2 q2 U0;generalize it tx.size=b3 at k3 q3 U0;by_cases SH:i=0
  .subst SH
   have e0:lj it l 0=[cG (.c (.nul .ptr)) 5 ⟨#[]⟩ 0,cH 5 ⟨#[]⟩]:=rfl;rw[e0];have hs0:cg it (l.take 0)=⟨#[]⟩:=rfl;rw[hs0]at U0
   repeat' (first|(refine aO rfl rfl rfl rfl rfl rfl rfl rfl (aU hv) ?_ ?_;· exact⟨m0,rfl⟩)|refine au rfl rfl rfl rfl k1 rfl ?_|refine au rfl rfl rfl rfl k2 rfl ?_|refine au rfl rfl rfl rfl k3 rfl ?_|refine gv_ ax ar ?_|refine gi_ (λhb=>?_) (λhb=>?_)<;>try exact(fx_ hb).elim|fail)
   refine cl [0,1] rfl rfl rfl rfl (uS (5) ((⟨#[]⟩:ByteArray)) b1 m0 (by(try simp only[ByteArray.size_append,hc,Uc]);omega) m0) rfl (I1 rfl rfl rfl t7 (λy hy=>by rcases ah8.1 hy with rfl|hy<;>first|(show 0<2;omega)|(rcases ah8.1 hy with rfl|hy<;>first|exact True.intro|cases hy)|cases hy)) rfl (j2 (L':=[cG (.ep 0 (219+65536) 0 0) (5+65536) ((⟨#[]⟩:ByteArray)++b1) 0,cH (5+65536) ((⟨#[]⟩:ByteArray)++b1),.box [.c (.int .i64 kd),.c (.int .i64 nn),.c (.str tx)]]) rfl) ?_
   repeat' (first|(refine aO rfl rfl rfl rfl rfl rfl rfl rfl (aU hv) ?_ ?_;· exact⟨m0,rfl⟩)|refine au rfl rfl rfl rfl k1 rfl ?_|refine au rfl rfl rfl rfl k2 rfl ?_|refine au rfl rfl rfl rfl k3 rfl ?_|refine gv_ ax ar ?_|refine gi_ (λhb=>?_) (λhb=>?_)<;>try exact(fx_ hb).elim|fail)
   refine cl [0,1] rfl rfl rfl rfl (iF (5+65536) ((⟨#[]⟩:ByteArray)++b1) 58 m0 (by(try simp only[ByteArray.size_append,hc,Uc]);omega)) rfl (I1 rfl rfl rfl (by show 0<2;omega) (λy hy=>by rcases ah8.1 hy with rfl|hy<;>first|(show 0<2;omega)|(rcases ah8.1 hy with rfl|hy<;>first|exact True.intro|cases hy)|cases hy)) rfl (j2 (L':=[cG (.ep 0 (219+65536) 0 0) (5+65536+65536) ((⟨#[]⟩:ByteArray)++b1++ct) 0,cH (5+65536+65536) ((⟨#[]⟩:ByteArray)++b1++ct),.box [.c (.int .i64 kd),.c (.int .i64 nn),.c (.str tx)]]) rfl) ?_
   repeat' (first|(refine aO rfl rfl rfl rfl rfl rfl rfl rfl (aU hv) ?_ ?_;· exact⟨m0,rfl⟩)|refine au rfl rfl rfl rfl k1 rfl ?_|refine au rfl rfl rfl rfl k2 rfl ?_|refine au rfl rfl rfl rfl k3 rfl ?_|refine gv_ ax ar ?_|refine gi_ (λhb=>?_) (λhb=>?_)<;>try exact(fx_ hb).elim|fail)
   refine cl [0,1] rfl rfl rfl rfl (dr (5+65536+65536) ((⟨#[]⟩:ByteArray)++b1++ct) b2 m0 (by(try simp only[ByteArray.size_append,hc,Uc]);omega) m0) rfl (I1 rfl rfl rfl (by show 0<2;omega) (λy hy=>by rcases ah8.1 hy with rfl|hy<;>first|(show 0<2;omega)|(rcases ah8.1 hy with rfl|hy<;>first|exact True.intro|cases hy)|cases hy)) rfl (j2 (L':=[cG (.ep 0 (219+65536) 0 0) (5+65536+65536+65536) ((⟨#[]⟩:ByteArray)++b1++ct++b2) 0,cH (5+65536+65536+65536) ((⟨#[]⟩:ByteArray)++b1++ct++b2),.box [.c (.int .i64 kd),.c (.int .i64 nn),.c (.str tx)]]) rfl) ?_
   repeat' (first|(refine aO rfl rfl rfl rfl rfl rfl rfl rfl (aU hv) ?_ ?_;· exact⟨m0,rfl⟩)|refine au rfl rfl rfl rfl k1 rfl ?_|refine au rfl rfl rfl rfl k2 rfl ?_|refine au rfl rfl rfl rfl k3 rfl ?_|refine gv_ ax ar ?_|refine gi_ (λhb=>?_) (λhb=>?_)<;>try exact(fx_ hb).elim|fail)
   refine cl [0,1] rfl rfl rfl rfl (iF (5+65536+65536+65536) ((⟨#[]⟩:ByteArray)++b1++ct++b2) 58 m0 (by(try simp only[ByteArray.size_append,hc,Uc]);omega)) rfl (I1 rfl rfl rfl (by show 0<2;omega) (λy hy=>by rcases ah8.1 hy with rfl|hy<;>first|(show 0<2;omega)|(rcases ah8.1 hy with rfl|hy<;>first|exact True.intro|cases hy)|cases hy)) rfl (j2 (L':=[cG (.ep 0 (219+65536) 0 0) (5+65536+65536+65536+65536) ((⟨#[]⟩:ByteArray)++b1++ct++b2++ct) 0,cH (5+65536+65536+65536+65536) ((⟨#[]⟩:ByteArray)++b1++ct++b2++ct),.box [.c (.int .i64 kd),.c (.int .i64 nn),.c (.str tx)]]) rfl) ?_
   repeat' (first|(refine aO rfl rfl rfl rfl rfl rfl rfl rfl (aU hv) ?_ ?_;· exact⟨m0,rfl⟩)|refine au rfl rfl rfl rfl k1 rfl ?_|refine au rfl rfl rfl rfl k2 rfl ?_|refine au rfl rfl rfl rfl k3 rfl ?_|refine gv_ ax ar ?_|refine gi_ (λhb=>?_) (λhb=>?_)<;>try exact(fx_ hb).elim|fail)
   refine cl [0,1] rfl rfl rfl rfl (dr (5+65536+65536+65536+65536) ((⟨#[]⟩:ByteArray)++b1++ct++b2++ct) b3 m0 (by(try simp only[ByteArray.size_append,hc,Uc]);omega) m0) rfl (I1 rfl rfl rfl (by show 0<2;omega) (λy hy=>by rcases ah8.1 hy with rfl|hy<;>first|(show 0<2;omega)|(rcases ah8.1 hy with rfl|hy<;>first|exact True.intro|cases hy)|cases hy)) rfl (j2 (L':=[cG (.ep 0 (219+65536) 0 0) (5+65536+65536+65536+65536+65536) ((⟨#[]⟩:ByteArray)++b1++ct++b2++ct++b3) 0,cH (5+65536+65536+65536+65536+65536) ((⟨#[]⟩:ByteArray)++b1++ct++b2++ct++b3),.box [.c (.int .i64 kd),.c (.int .i64 nn),.c (.str tx)]]) rfl) ?_
   repeat' (first|(refine aO rfl rfl rfl rfl rfl rfl rfl rfl (aU hv) ?_ ?_;· exact⟨m0,rfl⟩)|refine au rfl rfl rfl rfl k1 rfl ?_|refine au rfl rfl rfl rfl k2 rfl ?_|refine au rfl rfl rfl rfl k3 rfl ?_|refine gv_ ax ar ?_|refine gi_ (λhb=>?_) (λhb=>?_)<;>try exact(fx_ hb).elim|fail)
   refine cl [0,1] rfl rfl rfl rfl (iF (5+65536+65536+65536+65536+65536) ((⟨#[]⟩:ByteArray)++b1++ct++b2++ct++b3) 58 m0 (by(try simp only[ByteArray.size_append,hc,Uc]);omega)) rfl (I1 rfl rfl rfl (by show 0<2;omega) (λy hy=>by rcases ah8.1 hy with rfl|hy<;>first|(show 0<2;omega)|(rcases ah8.1 hy with rfl|hy<;>first|exact True.intro|cases hy)|cases hy)) rfl (j2 (L':=[cG (.ep 0 (219+65536) 0 0) (5+65536+65536+65536+65536+65536+65536) ((⟨#[]⟩:ByteArray)++b1++ct++b2++ct++b3++ct) 0,cH (5+65536+65536+65536+65536+65536+65536) ((⟨#[]⟩:ByteArray)++b1++ct++b2++ct++b3++ct),.box [.c (.int .i64 kd),.c (.int .i64 nn),.c (.str tx)]]) rfl) ?_
   repeat' (first|(refine aO rfl rfl rfl rfl rfl rfl rfl rfl (aU hv) ?_ ?_;· exact⟨m0,rfl⟩)|refine au rfl rfl rfl rfl k1 rfl ?_|refine au rfl rfl rfl rfl k2 rfl ?_|refine au rfl rfl rfl rfl k3 rfl ?_|refine gv_ ax ar ?_|refine gi_ (λhb=>?_) (λhb=>?_)<;>try exact(fx_ hb).elim|fail)
   refine cl [0,1] rfl rfl rfl rfl (dr (5+65536+65536+65536+65536+65536+65536) ((⟨#[]⟩:ByteArray)++b1++ct++b2++ct++b3++ct) tx m0 (by(try simp only[ByteArray.size_append,hc,Uc]);omega) m0) rfl (I1 rfl rfl rfl (by show 0<2;omega) (λy hy=>by rcases ah8.1 hy with rfl|hy<;>first|(show 0<2;omega)|(rcases ah8.1 hy with rfl|hy<;>first|exact True.intro|cases hy)|cases hy)) rfl (j2 (L':=[cG (.ep 0 (219+65536) 0 0) (5+65536+65536+65536+65536+65536+65536+65536) ((⟨#[]⟩:ByteArray)++b1++ct++b2++ct++b3++ct++tx) 0,cH (5+65536+65536+65536+65536+65536+65536+65536) ((⟨#[]⟩:ByteArray)++b1++ct++b2++ct++b3++ct++tx),.box [.c (.int .i64 kd),.c (.int .i64 nn),.c (.str tx)]]) rfl) ?_
   repeat' (first|(refine aO rfl rfl rfl rfl rfl rfl rfl rfl (aU hv) ?_ ?_;· exact⟨m0,rfl⟩)|refine au rfl rfl rfl rfl k1 rfl ?_|refine au rfl rfl rfl rfl k2 rfl ?_|refine au rfl rfl rfl rfl k3 rfl ?_|refine gv_ ax ar ?_|refine gi_ (λhb=>?_) (λhb=>?_)<;>try exact(fx_ hb).elim|fail)
   have eL:lj it l (0+1)=[cG (.ep 0 (219+65536) 0 0) (5+65536+65536+65536+65536+65536+65536+65536) ((⟨#[]⟩:ByteArray)++b1++ct++b2++ct++b3++ct++tx) 0,cH (5+65536+65536+65536+65536+65536+65536+65536) ((⟨#[]⟩:ByteArray)++b1++ct++b2++ct++b3++ct++tx)]:=by unfold lj;rw[if_neg m0,U0,show 5+458752*(0+1)=5+65536+65536+65536+65536+65536+65536+65536 by omega]
   exact⟨0+1,m0,m0,fm_ ⟨rfl,rfl,rfl,rfl,aL (a8 m0 m0),t7⟩ [.box [.c (.int .i64 kd),.c (.int .i64 nn),.c (.str tx)]] (by rw[eL];rfl) ⟨t7,(by show 0<2;omega),t7,t7,t7,t7⟩ (by rw[eL];exact⟨cj (by show 0<2;omega) (by show 1<2;omega),bf _ _ _,t7⟩)⟩
  .have e1:lj it l i=[cG (.ep 0 (219+65536) 0 0) (5+458752*i) (cg it (l.take i)) 0,cH (5+458752*i) (cg it (l.take i))]:=by unfold lj;rw[if_neg SH]
   rw[e1];generalize cg it (l.take i)=s0 at Qf U0;have hu:(5+458752*i)%65536=5:=m0
   generalize hue:5+458752*i=u0 at hu
   repeat' (first|(refine aO rfl rfl rfl rfl rfl rfl rfl rfl (aU hv) ?_ ?_;· exact⟨m0,rfl⟩)|refine au rfl rfl rfl rfl k1 rfl ?_|refine au rfl rfl rfl rfl k2 rfl ?_|refine au rfl rfl rfl rfl k3 rfl ?_|refine gv_ ax ar ?_|refine gi_ (λhb=>?_) (λhb=>?_)<;>try exact(fx_ hb).elim|fail)
   refine cl [0,1] rfl rfl rfl rfl (dr (u0) (s0) b1 m0 (by(try simp only[ByteArray.size_append,hc,Uc]);omega) m0) rfl (I1 rfl rfl rfl (by show 0<2;omega) (λy hy=>by rcases ah8.1 hy with rfl|hy<;>first|(show 0<2;omega)|(rcases ah8.1 hy with rfl|hy<;>first|exact True.intro|cases hy)|cases hy)) rfl (j2 (L':=[cG (.ep 0 (219+65536) 0 0) (u0+65536) (s0++b1) 0,cH (u0+65536) (s0++b1),.box [.c (.int .i64 kd),.c (.int .i64 nn),.c (.str tx)]]) rfl) ?_
   repeat' (first|(refine aO rfl rfl rfl rfl rfl rfl rfl rfl (aU hv) ?_ ?_;· exact⟨m0,rfl⟩)|refine au rfl rfl rfl rfl k1 rfl ?_|refine au rfl rfl rfl rfl k2 rfl ?_|refine au rfl rfl rfl rfl k3 rfl ?_|refine gv_ ax ar ?_|refine gi_ (λhb=>?_) (λhb=>?_)<;>try exact(fx_ hb).elim|fail)
   refine cl [0,1] rfl rfl rfl rfl (iF (u0+65536) (s0++b1) 58 m0 (by(try simp only[ByteArray.size_append,hc,Uc]);omega)) rfl (I1 rfl rfl rfl (by show 0<2;omega) (λy hy=>by rcases ah8.1 hy with rfl|hy<;>first|(show 0<2;omega)|(rcases ah8.1 hy with rfl|hy<;>first|exact True.intro|cases hy)|cases hy)) rfl (j2 (L':=[cG (.ep 0 (219+65536) 0 0) (u0+65536+65536) (s0++b1++ct) 0,cH (u0+65536+65536) (s0++b1++ct),.box [.c (.int .i64 kd),.c (.int .i64 nn),.c (.str tx)]]) rfl) ?_
   repeat' (first|(refine aO rfl rfl rfl rfl rfl rfl rfl rfl (aU hv) ?_ ?_;· exact⟨m0,rfl⟩)|refine au rfl rfl rfl rfl k1 rfl ?_|refine au rfl rfl rfl rfl k2 rfl ?_|refine au rfl rfl rfl rfl k3 rfl ?_|refine gv_ ax ar ?_|refine gi_ (λhb=>?_) (λhb=>?_)<;>try exact(fx_ hb).elim|fail)
   refine cl [0,1] rfl rfl rfl rfl (dr (u0+65536+65536) (s0++b1++ct) b2 m0 (by(try simp only[ByteArray.size_append,hc,Uc]);omega) m0) rfl (I1 rfl rfl rfl (by show 0<2;omega) (λy hy=>by rcases ah8.1 hy with rfl|hy<;>first|(show 0<2;omega)|(rcases ah8.1 hy with rfl|hy<;>first|exact True.intro|cases hy)|cases hy)) rfl (j2 (L':=[cG (.ep 0 (219+65536) 0 0) (u0+65536+65536+65536) (s0++b1++ct++b2) 0,cH (u0+65536+65536+65536) (s0++b1++ct++b2),.box [.c (.int .i64 kd),.c (.int .i64 nn),.c (.str tx)]]) rfl) ?_
   repeat' (first|(refine aO rfl rfl rfl rfl rfl rfl rfl rfl (aU hv) ?_ ?_;· exact⟨m0,rfl⟩)|refine au rfl rfl rfl rfl k1 rfl ?_|refine au rfl rfl rfl rfl k2 rfl ?_|refine au rfl rfl rfl rfl k3 rfl ?_|refine gv_ ax ar ?_|refine gi_ (λhb=>?_) (λhb=>?_)<;>try exact(fx_ hb).elim|fail)
   refine cl [0,1] rfl rfl rfl rfl (iF (u0+65536+65536+65536) (s0++b1++ct++b2) 58 m0 (by(try simp only[ByteArray.size_append,hc,Uc]);omega)) rfl (I1 rfl rfl rfl (by show 0<2;omega) (λy hy=>by rcases ah8.1 hy with rfl|hy<;>first|(show 0<2;omega)|(rcases ah8.1 hy with rfl|hy<;>first|exact True.intro|cases hy)|cases hy)) rfl (j2 (L':=[cG (.ep 0 (219+65536) 0 0) (u0+65536+65536+65536+65536) (s0++b1++ct++b2++ct) 0,cH (u0+65536+65536+65536+65536) (s0++b1++ct++b2++ct),.box [.c (.int .i64 kd),.c (.int .i64 nn),.c (.str tx)]]) rfl) ?_
   repeat' (first|(refine aO rfl rfl rfl rfl rfl rfl rfl rfl (aU hv) ?_ ?_;· exact⟨m0,rfl⟩)|refine au rfl rfl rfl rfl k1 rfl ?_|refine au rfl rfl rfl rfl k2 rfl ?_|refine au rfl rfl rfl rfl k3 rfl ?_|refine gv_ ax ar ?_|refine gi_ (λhb=>?_) (λhb=>?_)<;>try exact(fx_ hb).elim|fail)
   refine cl [0,1] rfl rfl rfl rfl (dr (u0+65536+65536+65536+65536) (s0++b1++ct++b2++ct) b3 m0 (by(try simp only[ByteArray.size_append,hc,Uc]);omega) m0) rfl (I1 rfl rfl rfl (by show 0<2;omega) (λy hy=>by rcases ah8.1 hy with rfl|hy<;>first|(show 0<2;omega)|(rcases ah8.1 hy with rfl|hy<;>first|exact True.intro|cases hy)|cases hy)) rfl (j2 (L':=[cG (.ep 0 (219+65536) 0 0) (u0+65536+65536+65536+65536+65536) (s0++b1++ct++b2++ct++b3) 0,cH (u0+65536+65536+65536+65536+65536) (s0++b1++ct++b2++ct++b3),.box [.c (.int .i64 kd),.c (.int .i64 nn),.c (.str tx)]]) rfl) ?_
   repeat' (first|(refine aO rfl rfl rfl rfl rfl rfl rfl rfl (aU hv) ?_ ?_;· exact⟨m0,rfl⟩)|refine au rfl rfl rfl rfl k1 rfl ?_|refine au rfl rfl rfl rfl k2 rfl ?_|refine au rfl rfl rfl rfl k3 rfl ?_|refine gv_ ax ar ?_|refine gi_ (λhb=>?_) (λhb=>?_)<;>try exact(fx_ hb).elim|fail)
   refine cl [0,1] rfl rfl rfl rfl (iF (u0+65536+65536+65536+65536+65536) (s0++b1++ct++b2++ct++b3) 58 m0 (by(try simp only[ByteArray.size_append,hc,Uc]);omega)) rfl (I1 rfl rfl rfl (by show 0<2;omega) (λy hy=>by rcases ah8.1 hy with rfl|hy<;>first|(show 0<2;omega)|(rcases ah8.1 hy with rfl|hy<;>first|exact True.intro|cases hy)|cases hy)) rfl (j2 (L':=[cG (.ep 0 (219+65536) 0 0) (u0+65536+65536+65536+65536+65536+65536) (s0++b1++ct++b2++ct++b3++ct) 0,cH (u0+65536+65536+65536+65536+65536+65536) (s0++b1++ct++b2++ct++b3++ct),.box [.c (.int .i64 kd),.c (.int .i64 nn),.c (.str tx)]]) rfl) ?_
   repeat' (first|(refine aO rfl rfl rfl rfl rfl rfl rfl rfl (aU hv) ?_ ?_;· exact⟨m0,rfl⟩)|refine au rfl rfl rfl rfl k1 rfl ?_|refine au rfl rfl rfl rfl k2 rfl ?_|refine au rfl rfl rfl rfl k3 rfl ?_|refine gv_ ax ar ?_|refine gi_ (λhb=>?_) (λhb=>?_)<;>try exact(fx_ hb).elim|fail)
   refine cl [0,1] rfl rfl rfl rfl (dr (u0+65536+65536+65536+65536+65536+65536) (s0++b1++ct++b2++ct++b3++ct) tx m0 (by(try simp only[ByteArray.size_append,hc,Uc]);omega) m0) rfl (I1 rfl rfl rfl (by show 0<2;omega) (λy hy=>by rcases ah8.1 hy with rfl|hy<;>first|(show 0<2;omega)|(rcases ah8.1 hy with rfl|hy<;>first|exact True.intro|cases hy)|cases hy)) rfl (j2 (L':=[cG (.ep 0 (219+65536) 0 0) (u0+65536+65536+65536+65536+65536+65536+65536) (s0++b1++ct++b2++ct++b3++ct++tx) 0,cH (u0+65536+65536+65536+65536+65536+65536+65536) (s0++b1++ct++b2++ct++b3++ct++tx),.box [.c (.int .i64 kd),.c (.int .i64 nn),.c (.str tx)]]) rfl) ?_
   repeat' (first|(refine aO rfl rfl rfl rfl rfl rfl rfl rfl (aU hv) ?_ ?_;· exact⟨m0,rfl⟩)|refine au rfl rfl rfl rfl k1 rfl ?_|refine au rfl rfl rfl rfl k2 rfl ?_|refine au rfl rfl rfl rfl k3 rfl ?_|refine gv_ ax ar ?_|refine gi_ (λhb=>?_) (λhb=>?_)<;>try exact(fx_ hb).elim|fail)
   have eL:lj it l (i+1)=[cG (.ep 0 (219+65536) 0 0) (u0+65536+65536+65536+65536+65536+65536+65536) (s0++b1++ct++b2++ct++b3++ct++tx) 0,cH (u0+65536+65536+65536+65536+65536+65536+65536) (s0++b1++ct++b2++ct++b3++ct++tx)]:=by unfold lj;rw[if_neg m0,U0,show 5+458752*(i+1)=u0+65536+65536+65536+65536+65536+65536+65536 by omega]
   exact⟨i+1,m0,m0,fm_ ⟨rfl,rfl,rfl,rfl,aL (a8 m0 m0),t7⟩ [.box [.c (.int .i64 kd),.c (.int .i64 nn),.c (.str tx)]] (by rw[eL];rfl) ⟨t7,(by show 0<2;omega),t7,t7,t7,t7⟩ (by rw[eL];exact⟨cj (by show 0<2;omega) (by show 1<2;omega),bf _ _ _,t7⟩)⟩
 .have U2:i=l.length:=m0
  have Rw:l.take i=l:=by rw[U2,List.take_length]
  by_cases SH:i=0
  .subst SH
   have UF:l=[]:=aif U2.symm;subst UF;have e0:lj it [] 0=[cG (.c (.nul .ptr)) 5 ⟨#[]⟩ 0,cH 5 ⟨#[]⟩]:=rfl;rw[e0]
   repeat' (first|refine gv_ ax ar ?_|refine gi_ (λhb=>?_) (λhb=>?_)<;>try exact(fx_ hb).elim|fail)
   refine cl [0,1] rfl rfl rfl rfl ac3 rfl (I1 rfl rfl rfl True.intro (λy hy=>by rcases ah8.1 hy with rfl|hy<;>first|(show 0<2;omega)|(rcases ah8.1 hy with rfl|hy<;>first|exact True.intro|cases hy)|cases hy)) rfl (zC rfl (fg _ _ _) (L':=[cG (.c (.nul .ptr)) 5 ⟨#[]⟩ 0,cH 5 ⟨#[]⟩]) rfl) ?_
   repeat' (first|refine gv_ ax ar ?_|refine gi_ (λhb=>?_) (λhb=>?_)<;>try exact(fx_ hb).elim|fail)
   exact az (aE rfl (by trivial) rfl)
  .have e1:lj it l i=[cG (.ep 0 (219+65536) 0 0) (5+458752*i) (cg it l) 0,cH (5+458752*i) (cg it l)]:=by unfold lj;rw[if_neg SH,Rw]
   rw[e1];rw[Rw]at Qf;have hu:(5+458752*i)%65536=5:=m0
   generalize 5+458752*i=u0 at hu;have Vu:0<(cg it l).size:=by
    obtain⟨v,hv⟩:=gol_ (show i-1<l.length by omega);have U0:=DZ it (l.take (i-1)) v;rw[<- bG hv,show i-1+1=i by omega,Rw]at U0;have:=(h v (ahX hv)).s1;rw[U0];simp only[ByteArray.size_append];omega
   generalize cg it l=s0 at Qf Vu
   repeat' (first|refine gv_ ax ar ?_|refine gi_ (λhb=>?_) (λhb=>?_)<;>try exact(fx_ hb).elim|fail)
   refine cl [0,1] rfl rfl rfl rfl (ac6 u0 s0 hu Vu m0) rfl (I1 rfl rfl rfl (by show 0<2;omega) (λy hy=>by rcases ah8.1 hy with rfl|hy<;>first|(show 0<2;omega)|(rcases ah8.1 hy with rfl|hy<;>first|exact True.intro|cases hy)|cases hy)) rfl (zC rfl rfl (L':=[cG (.ep 0 (219+65536) 0 0) u0 s0 0,.dead]) rfl) ?_
   repeat' (first|refine gv_ ax ar ?_|refine gi_ (λhb=>?_) (λhb=>?_)<;>try exact(fx_ hb).elim|fail)
   exact az (aE rfl (by trivial) rfl)
theorem aaJ {v:Val}(h:KO v):K6 ce v:=by
 obtain⟨⟨a,b⟩,⟨c,d⟩,e⟩:=h;exact⟨vR _ a b,vR _ c d,vR _ m0 m0,nE _ a b,(nE _ c d).1,(nE _ m0 m0).1,e⟩
theorem mD (l:List Val)(hl:l.length<=1000)(h:∀ v∈l,KO v):PTz 164 [.one (bD l)] (.val (.one (.str (df l)))):=aa3 ce l hl λv hv=>aaJ (h v hv)
def agb:TI :={ OQ with dyn:=true }
theorem bu:TIok prog agb:=⟨aj.size,aj.agg,aj.elem,aj.field,aj.zero,aj.bytes,aj.kind,aj.struct,aj.zok,aj.eqs⟩
def af4:TI :={ agb with soft:=true }
theorem bZ:TIok prog af4:=⟨aj.size,aj.agg,aj.elem,aj.field,aj.zero,aj.bytes,aj.kind,aj.struct,aj.zok,aj.eqs⟩
def cE (M:List (ByteArray×Int)):List (AC×AV):=M.map λp=>(.str p.1,.one (.c (.int .i64 p.2)))
def b9:List (ByteArray×Int)->ByteArray->Int
 |[],_=>0
 |p::r,s=>if s=p.1 then p.2 else b9 r s
def cP:List (ByteArray×Int)->ByteArray->Int->List (ByteArray×Int)
 |[],s,n=>[(s,n)]
 |p::r,s,n=>if s=p.1 then(s,n)::r else p::cP r s n
theorem vK (M:List (ByteArray×Int)):strKeys (cE M):=by intro p hp;obtain⟨q,_,rfl⟩:=aip.1 hp;exact⟨q.1,rfl⟩
theorem J9 (s:ByteArray):∀ (M:List (ByteArray×Int)),(fF s (cE M)=none/\b9 M s=0 /\ ∀ n,cP M s n=M++[(s,n)])\/(∃ i p,fF s (cE M)=some i/\M[i]?=some p/\b9 M s=p.2 /\ ∀ n,cP M s n=M.set i (s,n))
 |[] => .inl ⟨rfl,rfl,λ_=>rfl⟩
 |p::r=>by
  have hk:fF s (cE (p::r))=if s=p.1 then some 0 else(fF s (cE r)).map (· +1):=rfl
  by_cases h:s=p.1
  .exact .inr ⟨0,p,by rw[hk,if_pos h],rfl,by simp[b9,h],λn=>by simp[cP,h]⟩
  .obtain⟨h1,h2,h3⟩|⟨i,q,h1,h2,h3,h4⟩:=J9 s r
   .exact .inl ⟨by rw[hk,if_neg h,h1];rfl,by simp[b9,h,h2],λn=>by simp[cP,h,h3]⟩
   .exact .inr ⟨i+1,q,by rw[hk,if_neg h,h1];rfl,by simpa using h2,by simp[b9,h,h3],λn=>by simp[cP,h,h4]⟩
theorem OU (M:List (ByteArray×Int))(s:ByteArray):mO (cE M) s (.one (.c (.int .i64 0))) = .one (.c (.int .i64 (b9 M s))):=by
 unfold mO;obtain⟨h1,h2,_⟩|⟨i,p,h1,h2,h3,_⟩:=J9 s M
 .rw[h1,h2]
 .have:(cE M)[i]?=some (.str p.1,.one (.c (.int .i64 p.2))):=by unfold cE;rw[aic,h2];rfl
  rw[h1];simp only[this];rw[h3]
theorem aeb (M:List (ByteArray×Int))(s:ByteArray)(n:Int):xL (cE M) s (.one (.c (.int .i64 n)))=cE (cP M s n):=by
 unfold xL;obtain⟨h1,_,h3⟩|⟨i,p,h1,h2,_,h4⟩:=J9 s M
 .rw[h1,h3];simp[cE]
 .rw[h1,h4];unfold cE;rw[List.map_set]
theorem aap (σ:List Nat)(M:List (ByteArray×Int)):(Ob.map (cE M)).ren σ=Ob.map (cE M):=by
 simp only[Ob.ren,cE,List.map_map];rfl
theorem bC (n:Nat)(M:List (ByteArray×Int)):(Ob.map (cE M)).below n:=by
 intro p hp;obtain⟨q,_,rfl⟩:=aip.1 hp;trivial
theorem Md {P:Program}{ti:TI}{ρ:Operand->Option AV}{L:List Ob}{t:TypeId}{kt et:TypeId}{x k:Operand}{s:ByteArray}{id:Nat}{M:List (ByteArray×Int)}(Pm:TIok P ti)(hx:ρ x=some (.one (.mp id)))(hk:ρ k=some (.one (.c (.str s))))(hL:L[id]?=some (.map (cE M)))
  (ht:ti.kind t=some (.map kt et)) (Tt:ti.kind kt=some .string) (hz:ti.zero et=some (.one (.c (.int .i64 0)))):nA P ρ L (.lookup t x k false) (.one (.c (.int .i64 (b9 M s)))) L:=by
 have:=tM (P:=P) hx hk hL (vK M) (Pm.kind _ _ ht) (Pm.kind _ _ Tt) (Pm.zero _ _ hz);rw[OU]at this;exact this
theorem rT {P:Program}{ti:TI}{ρ:Operand->Option AV}{L:List Ob}{t:TypeId}{kt et:TypeId}{x k y:Operand}{s:ByteArray}{id:Nat}{n:Int}{M:List (ByteArray×Int)}(Pm:TIok P ti)(hx:ρ x=some (.one (.mp id)))(hk:ρ k=some (.one (.c (.str s))))(hy:ρ y=some (.one (.c (.int .i64 n))))(hL:L[id]?=some (.map (cE M)))
  (ht:ti.kind t=some (.map kt et)) (Tt:ti.kind kt=some .string):nA P ρ L (.mapUpdate t x k y) .undef (L.set id (.map (cE (cP M s n)))):=by
 have:=mf (P:=P) hx hk hy hL (vK M) (Pm.kind _ _ ht) (Pm.kind _ _ Tt);rw[aeb]at this;exact this
def IK (M:List (ByteArray×Int))(k:ByteArray):List (ByteArray×Int):=cP M k (b9 M k+1)
def l9 (ks:List ByteArray):List (ByteArray×Int):=ks.foldl IK []
theorem lb (s t:ByteArray)(n:Int):∀ (M:List (ByteArray×Int)),b9 (cP M s n) t=if t=s then n else b9 M t
 |[]=>by by_cases h:t=s<;>simp[cP,b9,h]
 |p::r=>by
  unfold cP;by_cases h:s=p.1
  .rw[if_pos h]
   by_cases h2:t=s
   .simp[b9,h2]
   .have:¬ t=p.1:=λe=>h2 (e.trans h.symm)
    simp[b9,h2,this]
  .rw[if_neg h]
   have ih:=lb s t n r;by_cases h2:t=p.1
   .have:¬ t=s:=λe=>h (e.symm.trans h2)
    simp[b9,h2,this];intro e;exact absurd e.symm h
   .simp only[b9,h2,if_false,ih]
theorem abd (ks:List ByteArray)(k:ByteArray):l9 (ks++[k])=cP (l9 ks) k (b9 (l9 ks) k+1):=by unfold l9;rw[List.foldl_append];rfl
theorem DF (ks:List ByteArray)(s:ByteArray):0<=b9 (l9 ks) s/\b9 (l9 ks) s<=ks.length:=by
 have:∀ (ks:List ByteArray) (M:List (ByteArray×Int)) (b:Int),(∀ s,0<=b9 M s/\b9 M s<=b) ->∀ s,0<=b9 (ks.foldl IK M) s/\b9 (ks.foldl IK M) s<=b+ks.length:=by
  intro ks
  induction ks with
  |nil=>intro M b h s;simpa using h s
  |cons k ks ih =>
   intro M b h s;rw[aiC];have:=ih (IK M k) (b+1) (λt=>by
    unfold IK;rw[lb];have h1:=h k;have h2:=h t;split<;>omega) s
   simp only[aib];omega
 have:=this ks [] 0 (λs=>by simp[b9]) s;simpa[l9]using this
theorem JY (it:Int->ByteArray)(l:List (List Val))(hl:l.length<=1000000)(hk:∀ r∈l,PTz 164 [.one (bD r)] (.val (.one (.str (cg it r))))):RTz 219 [] [.one (.c (bA l))] [.map (cE (l9 (l.map (cg it))))] (.one (.mp 0)):=by
 refine bB bu func219 rfl rfl ntmps219 m5 ?_;simp only[gp];obtain⟨n,hn⟩:∃ n,l.length=n:=⟨_,rfl⟩
 repeat' (first|refine gv_ bu bZ ?_|refine gi_ (λhb=>?_) (λhb=>?_)<;>try exact(fx_ hb).elim|(refine bQ rfl rfl rfl rfl rfl gR ?_)|fail)
 refine b7 (λi:Nat=>[(3,.one (.mp 0)),(7,.one (.c (bA l))),(8,.one (.c (.int .i64 n))),(9,.one (.c (.int .i64 i)))]) (λi=>[.map (cE (l9 ((l.take i).map (cg it))))]) (λi=>i<=n) (λi=>n-i) 0 m0 (λ_ _=>aia _)
  (fm_ ⟨rfl,rfl,aL (by simp[hn]),rfl,t7⟩ [] rfl ⟨by show 0<1;omega,t7,t7,t7,t7⟩ ⟨bC _ _,t7⟩) ?_
 intro i hi;by_cases O8:i<n
 .obtain⟨r,hx⟩:=gol_ (show i<l.length by omega)
  have Pe:=DF ((l.take i).map (cg it)) (cg it r);have Tj:((l.take i).map (cg it)).length=i:=by simp;omega
  have QR:l9 ((l.take (i+1)).map (cg it))=cP (l9 ((l.take i).map (cg it))) (cg it r) (b9 (l9 ((l.take i).map (cg it))) (cg it r)+1):=by rw[bG hx,ah4];exact abd _ _
  have hw:IntKind.i64.wrap (b9 (l9 ((l.take i).map (cg it))) (cg it r)+1)=b9 (l9 ((l.take i).map (cg it))) (cg it r)+1:=aV m0
  repeat' (first|(refine aO rfl rfl rfl rfl rfl rfl rfl rfl (aU hx) ?_ ?_;· exact⟨m0,rfl⟩)|refine au rfl rfl rfl rfl (hk r (ahX hx)) rfl ?_|refine gv_ bu bZ ?_|refine gi_ (λhb=>?_) (λhb=>?_)<;>try exact(fx_ hb).elim|(refine cf rfl rfl rfl rfl rfl (Md (M:=l9 ((l.take i).map (cg it))) bu rfl rfl rfl rfl rfl rfl) ?_)|(refine nZ rfl rfl rfl rfl (rT (M:=l9 ((l.take i).map (cg it))) bu rfl rfl rfl rfl rfl rfl) ?_)|fail)
  exact⟨i+1,m0,m0,fm_ ⟨rfl,rfl,rfl,aL (a8 m0 m0),t7⟩ [] (by rw[QR,hw];rfl) ⟨by show 0<1;omega,t7,t7,t7,t7⟩ ⟨bC _ _,t7⟩⟩
 .have Rw:l.take i=l:=aiu m0
  rw[Rw]
  repeat' (first|refine gv_ bu bZ ?_|refine gi_ (λhb=>?_) (λhb=>?_)<;>try exact(fx_ hb).elim|fail)
  exact⟨.inr rfl,⟨.inl ⟨2,rfl,rfl⟩,⟨[],rfl⟩,aia _,bU ⟨bC _ _,t7⟩,by show 0<1;omega⟩⟩
structure Spl where
 M:List (ByteArray×Int)
 W:List (List Val)
 O:List (List Val)
def sT (it:Int->ByteArray)(s:Spl)(r:List Val):Spl:=if 0<b9 s.M (cg it r)then⟨cP s.M (cg it r) (b9 s.M (cg it r)-1),s.W++[r],s.O⟩else⟨s.M,s.W,s.O++[r]⟩
def Cd (it:Int->ByteArray)(a b:List (List Val)):Spl:=a.foldl (sT it) ⟨l9 (b.map (cg it)),[],[]⟩
theorem abK (it:Int->ByteArray)(a b:List (List Val))(r:List Val):Cd it (a++[r]) b=sT it (Cd it a b) r:=by unfold Cd;rw[List.foldl_append];rfl
theorem Om (it:Int->ByteArray)(a b:List (List Val))(s:ByteArray):0<=b9 (Cd it a b).M s/\b9 (Cd it a b).M s<=b.length:=by
 have:∀ (a:List (List Val)) (S:Spl) (n:Int),(∀ s,0<=b9 S.M s/\b9 S.M s<=n) ->∀ s,0<=b9 (a.foldl (sT it) S).M s/\b9 (a.foldl (sT it) S).M s<=n:=by
  intro a
  induction a with
  |nil=>intro S n h;exact h
  |cons r a ih =>
   intro S n h;rw[aiC];refine ih _ n λt=>?_
   unfold sT;split
   .simp only;rw[lb];have:=h (cg it r);have:=h t;split<;>omega
   .exact h t
 have h:=this a ⟨l9 (b.map (cg it)),[],[]⟩ b.length (λs=>by have:=DF (b.map (cg it)) s;simpa using this) s;exact h
theorem acB (it:Int->ByteArray)(a b:List (List Val)):(Cd it a b).W.length+(Cd it a b).O.length=a.length:=by
 have:∀ (a:List (List Val)) (S:Spl),(a.foldl (sT it) S).W.length+(a.foldl (sT it) S).O.length=S.W.length+S.O.length+a.length:=by
  intro a
  induction a with
  |nil=>intro S;simp
  |cons r a ih=>intro S;rw[aiC,ih];unfold sT;split<;>simp<;>omega
 have:=this a ⟨l9 (b.map (cg it)),[],[]⟩;simpa[Cd]using this
theorem aR {n:Nat}{x y:AC}:(Ob.box [.c x,.c y]).below n:=by
 intro z hz;obtain rfl|hz:=ah8.1 hz
 .trivial
 obtain rfl|hz:=ah8.1 hz
 .trivial
 cases hz
theorem Jb (it:Int->ByteArray)(ka kb:List Int)(a b:List (List Val))(ha:a.length<=1000000)(hb0:b.length<=1000000)(hka:∀ r∈a,PTz 164 [.one (bD r)] (.val (.one (.str (cg it r)))))(hkb:∀ r∈b,PTz 164 [.one (bD r)] (.val (.one (.str (cg it r))))):PTz 169 [.agg [be ka,bA a],.agg [be kb,bA b]] (.tup [.one (bA (Cd it a b).W),.one (bA (Cd it a b).O)]):=by
 refine pa_ bu func169 rfl rfl ntmps169 m5 ?_;simp only[argT,PV.av,ah2,ah6];obtain⟨n,hn⟩:∃ n,a.length=n:=⟨_,rfl⟩;have SE:(((a.map λr=>[bD r]).length:Nat):Int)=n:=by simp[hn]
 repeat' (first|(refine cl [] rfl rfl rfl rfl (JY it b hb0 hkb) rfl ⟨rfl,m5,λi x hx=>by simp at hx,λx hx=>by simp at hx,iO ⟨t7,t7⟩⟩ rfl (show joinL [] _ [_]=[.box [.c (be ka),.c (bA a)],.box [.c (be kb),.c (bA b)],.map (cE (l9 (b.map (cg it))))]by simp only[joinL,ah2,aap];rfl) ?_)|refine gv_ bu bZ ?_|refine gi_ (λhb=>?_) (λhb=>?_)<;>try exact(fx_ hb).elim|fail)
 refine br 7 1 rfl ?_;refine br 8 1 rfl ?_;refine b7 (λi:Nat=>[(6,.one (.mp 2)),(7,.one (.own ((Cd it (a.take i) b).W.map λr=>[bD r]) 3)),(8,.one (.own ((Cd it (a.take i) b).O.map λr=>[bD r]) 4)),(16,.one (.c (bA a))),(17,.one (.c (.int .i64 n))),(18,.one (.c (.int .i64 i)))]) (λi=>[.box [.c (be ka),.c (bA a)],.box [.c (be kb),.c (bA b)],.map (cE (Cd it (a.take i) b).M),.spare (Cd it (a.take i) b).W.length 1,.spare (Cd it (a.take i) b).O.length 1]) (λi=>i<=n) (λi=>n-i) 0 m0 (λ_ _=>aia _)
  (fm_ ⟨rfl,rfl,rfl,rfl,aL SE,rfl,t7⟩ [] rfl ⟨by show 2<5;omega,by show 3<5;omega,by show 4<5;omega,t7,t7,t7,t7⟩ ⟨aR,aR,bC _ _,t7,t7,t7⟩) ?_
 intro i hi;by_cases O8:i<n
 .obtain⟨r,hx⟩:=gol_ (show i<a.length by omega)
  have Pe:=Om it (a.take i) b (cg it r);have VY:=acB it (a.take i) b;rw[aiD]at VY;have QR:Cd it (a.take (i+1)) b=sT it (Cd it (a.take i) b) r:=by rw[bG hx];exact abK _ _ _ _
  unfold sT at QR;generalize Cd it (a.take i) b=S at Pe VY QR;obtain⟨M,W,O⟩:=S;dsimp only at Pe VY QR ⊢;have hw:IntKind.i64.wrap (b9 M (cg it r)-1)=b9 M (cg it r)-1:=aV m0;have hWl:(W.map λr=>[bD r]).length=W.length:=by simp
  have XK:(O.map λr=>[bD r]).length=O.length:=by simp
  repeat' (first|(refine aO rfl rfl rfl rfl rfl rfl rfl rfl (aU hx) ?_ ?_;· exact⟨m0,rfl⟩)|refine au rfl rfl rfl rfl (hka r (ahX hx)) rfl ?_|refine gv_ bu bZ ?_|refine gi_ (λhb=>?_) (λhb=>?_)<;>try exact(fx_ hb).elim|(refine st_pop rfl rfl rfl rfl ?_ ?_;· (repeat' (first|exact t7|rfl|exact ah1 rfl|omega|(intro e he;simp at he;subst he;rfl)|exact hWl|exact XK|(show(_+1)*24<=_;omega)|(show _+1<=_;omega)|apply And.intro)))|(refine st_lop rfl rfl rfl rfl ?_ ?_;· (repeat' (first|exact t7|rfl|exact ah1 rfl|omega|(intro e he;simp at he;subst he;rfl)|exact hWl|exact XK|(show(_+1)*24<=_;omega)|(show _+1<=_;omega)|apply And.intro)))|(refine sS_ rfl rfl rfl ?_ ?_;· (repeat' (first|exact t7|rfl|exact ah1 rfl|omega|(intro e he;simp at he;subst he;rfl)|exact hWl|exact XK|(show(_+1)*24<=_;omega)|(show _+1<=_;omega)|apply And.intro)))|(refine st_lit rfl rfl rfl rfl ?_ ?_;· (repeat' (first|exact t7|rfl|exact ah1 rfl|omega|(intro e he;simp at he;subst he;rfl)|exact hWl|exact XK|(show(_+1)*24<=_;omega)|(show _+1<=_;omega)|apply And.intro)))|(refine cf rfl rfl rfl rfl rfl (Md (M:=M) bu rfl rfl rfl rfl rfl rfl) ?_)|(refine nZ rfl rfl rfl rfl (rT (M:=M) bu rfl rfl rfl rfl rfl rfl) ?_)|fail)
  .have hp:0<b9 M (cg it r):=aii hb
   rw[if_pos hp]at QR;exact⟨i+1,m0,m0,by rw[QR];exact fm_ ⟨rfl,bY (by rw[ah4];rfl),rfl,rfl,rfl,aL (a8 m0 m0),t7⟩ [] (by rw[hw];simp) ⟨by show 2<5;omega,by show 3<5;omega,by show 4<5;omega,t7,t7,t7,t7⟩ ⟨aR,aR,bC _ _,t7,t7,t7⟩⟩
  .have hp:¬ 0<b9 M (cg it r):=of_decide_eq_false hb
   rw[if_neg hp]at QR;exact⟨i+1,m0,m0,by rw[QR];exact fm_ ⟨rfl,rfl,bY (by rw[ah4];rfl),rfl,rfl,aL (a8 m0 m0),t7⟩ [] m5 ⟨by show 2<5;omega,by show 3<5;omega,by show 4<5;omega,t7,t7,t7,t7⟩ ⟨aR,aR,bC _ _,t7,t7,t7⟩⟩
 .have Rw:a.take i=a:=aiu m0
  rw[Rw]
  repeat' (first|refine gv_ bu bZ ?_|refine gi_ (λhb=>?_) (λhb=>?_)<;>try exact(fx_ hb).elim|fail)
  exact az (aE rfl (by trivial) rfl)
def rj (O3:dV):Option (Bool):=bif (0:Int)<=O3.lo then bif O3.lo<O3.hi then some (decide (O3.hi<=(1099511627776:Int)))else
 some false else
 some false
theorem AU {O3:dV}{r:Bool}(H:rj O3=some r):PTz 53 [.agg (mb O3)] (.val (.one (.bool r))):=by
 unfold rj at H;refine po_ func53 ntmps53 ?_;obtain⟨PT,H⟩|⟨PT,H⟩:=ae H
 .obtain⟨PP,H⟩|⟨PP,H⟩:=ae H
  .cases H
   exact ao
  cases H;exact ao
 cases H;exact ao
theorem bX {α β ρ:Type}{l:List α}{body:(List β×Int)->Option (Step (List β×Int) ρ)}(g:α->List β)(N:Nat)(h1:∀ (s:List β) (i:Nat) x,l[i]?=some x->s.length+(g x).length<=N->body (s,(i:Int))=some (.next (s++g x,((i+1:Nat):Int))))(h2:∀ s:List β,body (s,(l.length:Int))=some (.exit (s,(l.length:Int))))(hl:l.length<fuel)(s:List β)(hN:s.length+(l.flatMap g).length<=N) :
  af body fuel (s,(0:Int))=some (.inl (s++l.flatMap g,(l.length:Int))):=by
 have key:∀ (n i:Nat) (s:List β),i<=l.length->l.length-i<n->s.length+((l.drop i).flatMap g).length<=N->af body n (s,(i:Int))=some (.inl (s++(l.drop i).flatMap g,(l.length:Int))):=by
  intro n
  induction n with
  |zero=>intro i s _ h _;omega
  |succ n ih =>
   intro i s hi hn hs;rw[af];by_cases O8:i<l.length
   .obtain⟨x,hx⟩:=gol_ O8
    have e1:=(ahR.1 hx).2;rw[ail O8,e1,ais]at hs ⊢;rw[ahZ]at hs;rw[h1 s i x hx m0];show af body n _=_;rw[ih (i+1) (s++g x) m0 m0 (by rw[ahZ];omega),aig]
   .have:i=l.length:=m0
    subst this;rw[h2,aiG];simp
 have:=key fuel 0 s (aia _) m0 (by simpa using hN);simpa using this
def sI (l:List (List Val)):Prop:=l.Pairwise λa b=>aX a b<0
instance decRow (a b : List Val) : Decidable (a = b) := if h : aX a b = 0 then .isTrue (tCr_.zero _ _ h) else .isFalse λe => h (by rw [e]; exact tCr_.refl _)
abbrev cz (p:dV):Bool:=decide (0<=p.lo)&&decide (p.lo<p.hi)&&decide (p.hi<=1099511627776)
theorem abG (p:dV):gPV p=some (cz p):=by
 unfold gPV cz
 cases h1:decide (0<=p.lo)<;>cases h2:decide (p.lo<p.hi)<;>cases h3:decide (p.hi<=1099511627776)<;>simp_all
abbrev iY:=List (List (List Val))
def fS (M:List (ByteArray×Int))(s:ByteArray):Bool:=(fF s (cE M)).isSome
theorem nv {P:Program}{ti:TI}{ρ:Operand->Option AV}{L:List Ob}{t:TypeId}{kt et:TypeId}{x k:Operand}{s:ByteArray}{id:Nat}{M:List (ByteArray×Int)}(Pm:TIok P ti)(hx:ρ x=some (.one (.mp id)))(hk:ρ k=some (.one (.c (.str s))))(hL:L[id]?=some (.map (cE M)))
  (ht:ti.kind t=some (.map kt et)) (Tt:ti.kind kt=some .string) (hz:ti.zero et=some (.one (.c (.int .i64 0)))):nA P ρ L (.lookup t x k true) (.tup [.one (.int .i64 (b9 M s)),.one (.bool (fS M s))]) L :=
 sn (P:=P) hx hk hL (vK M) (Pm.kind _ _ ht) (Pm.kind _ _ Tt) (Pm.zero _ _ hz) (by rw[OU];rfl)
structure Gs where
 M:List (ByteArray×Int)
 G:iY
def gV (ky:List Val->ByteArray)(s:Gs)(r:List Val):Gs:=bif fS s.M (ky r)then⟨s.M,s.G.set (b9 s.M (ky r)).toNat (s.G.getD (b9 s.M (ky r)).toNat []++[r])⟩else⟨cP s.M (ky r) s.G.length,s.G++[[r]]⟩
def gN (ky:List Val->ByteArray)(rows:List (List Val)):Gs:=rows.foldl (gV ky) ⟨[],[]⟩
theorem zz (ky:List Val->ByteArray)(rows:List (List Val))(r:List Val):gN ky (rows++[r])=gV ky (gN ky rows) r:=by unfold gN;rw[List.foldl_append];rfl
theorem abJ (M:List (ByteArray×Int))(s t:ByteArray)(n:Int)(h:fS (cP M s n) t=true):t=s\/fS M t=true:=by
 induction M with
 |nil =>
  unfold fS cP cE fF at h;by_cases e:t=s
  .exact .inl e
  .simp[fF,e]at h
 |cons p r ih =>
  unfold cP at h;by_cases e1:s=p.1
  .rw[if_pos e1]at h
   by_cases e:t=s
   .exact .inl e
   .right
    unfold fS cE at h ⊢;simp only[ah2,fF]at h ⊢;have e2:¬ t=p.1:=λq=>e (q.trans e1.symm)
    simpa[e,e2]using h
  .rw[if_neg e1]at h
   by_cases e2:t=p.1
   .right;unfold fS cE;simp[fF,e2]
   .have h':fS (cP r s n) t=true:=by
     unfold fS cE at h ⊢;simp only[ah2,fF]at h;simpa[e2]using h
    obtain q|q:=ih h'
    .exact .inl q
    .right
     unfold fS cE at q ⊢;simp only[ah2,fF];simpa[e2]using q
structure GOK (s:Gs):Prop where
 idx:∀ k,fS s.M k=true->0<=b9 s.M k/\b9 s.M k<s.G.length
 ne:∀ g∈s.G,g≠[]
theorem aah {ky:List Val->ByteArray}{s:Gs}(h:GOK s)(r:List Val):GOK (gV ky s r):=by
 unfold gV
 cases hb:fS s.M (ky r)with
 |true =>
  rw[ahT];refine⟨λk hk=>?_,λg hg=>?_⟩
  .have:=h.idx k hk;simpa using this
  .obtain hg|rfl:=List.mem_or_eq_of_mem_set hg
   .exact h.ne g hg
   .simp
 |false =>
  rw[ahS];refine⟨λk hk=>?_,λg hg=>?_⟩
  .simp only[ahZ,List.length_singleton]
   rw[lb];obtain e|e:=abJ _ _ _ _ hk
   .rw[if_pos e];omega
   .have:=h.idx k e
    split<;>omega
  .obtain hg|hg:=aih.1 hg
   .exact h.ne g hg
   .simp at hg;subst hg;simp
theorem OS (ky:List Val->ByteArray)(rows:List (List Val)):GOK (gN ky rows):=by
 have:∀ (rows:List (List Val)) (s:Gs),GOK s->GOK (rows.foldl (gV ky) s):=by
  intro rows
  induction rows with
  |nil=>intro s h;exact h
  |cons r rows ih=>intro s h;exact ih _ (aah h r)
 exact this rows ⟨[],[]⟩ ⟨λk hk=>by simp[fS,cE,fF]at hk,λg hg=>by cases hg⟩
theorem NV (ky:List Val->ByteArray)(s:Gs)(r:List Val):s.G.length<=(gV ky s r).G.length/\(gV ky s r).G.length<=s.G.length+1:=by
 unfold gV
 cases fS s.M (ky r)<;>simp
theorem NP (ky:List Val->ByteArray)(rows:List (List Val)):(gN ky rows).G.length<=rows.length:=by
 have:∀ (rows:List (List Val)) (s:Gs),(rows.foldl (gV ky) s).G.length<=s.G.length+rows.length:=by
  intro rows
  induction rows with
  |nil=>intro s;simp
  |cons r rows ih=>intro s;have:=ih (gV ky s r);have:=(NV ky s r).2;rw[aiC];simp only[aib];omega
 have:=this rows ⟨[],[]⟩;simpa[gN]using this
instance decEqRow : DecidableEq (List Val) := decRow
theorem x5 {l m:List (List Val)}(h1:Asc aX l)(h2:Asc aX m)(h:∀ r,l.count r=m.count r):l=m:=k9 tCr_ h1 h2 (List.perm_iff_count.2 h)
theorem dF (l:List (List Val))(r:List Val):(aH l).count r=l.count r:=(aP l).count_eq r
def gY (n:List Val->Nat):List (List Val)->List (List Val)×List (List Val)
 |[]=>([],[])
 |x::l=>if 0<n x then(x::(gY (λy=>if y=x then n x-1 else n y) l).1,(gY (λy=>if y=x then n x-1 else n y) l).2)else((gY n l).1,x::(gY n l).2)
theorem iM (r:List Val):∀ (l:List (List Val)) (n:List Val->Nat),(gY n l).1.count r=min (l.count r) (n r)/\(gY n l).2.count r=l.count r-n r
 |[],n=>by simp[gY]
 |x::l,n=>by
  unfold gY;by_cases hx:0<n x
  .rw[if_pos hx]
   have ih:=iM r l (λy=>if y=x then n x-1 else n y);by_cases e:r=x
   .subst e
    simp only[eq_self,if_true,List.count_cons_self]at ih ⊢;omega
   .have e2:¬ x=r:=λh=>e h.symm
    simp only[if_neg e]at ih;rw[List.count_cons_of_ne e2,List.count_cons_of_ne e2];exact ih
  .rw[if_neg hx]
   have ih:=iM r l n;by_cases e:r=x
   .subst e
    simp only[List.count_cons_self];omega
   .have e2:¬ x=r:=λh=>e h.symm
    rw[List.count_cons_of_ne e2,List.count_cons_of_ne e2];exact ih
theorem AY (l:List (List Val))(n:List Val->Nat):(gY n l).1.length+(gY n l).2.length=l.length:=by
 induction l generalizing n with
 |nil=>rfl
 |cons x l ih =>
  unfold gY;by_cases hx:0<n x
  .rw[if_pos hx]
   have:=ih (λy=>if y=x then n x-1 else n y);simp only[aib];omega
  .rw[if_neg hx]
   have:=ih n;simp only[aib];omega
theorem uH (x:List Val)(l:List (List Val))(n:List Val->Nat):(x∈(gY n l).1->x∈l)/\(x∈(gY n l).2->x∈l):=by
 have h:=iM x l n;refine⟨λhx=>?_,λhx=>?_⟩
 .have:=List.count_pos_iff.2 hx
  exact List.count_pos_iff.1 m0
 .have:=List.count_pos_iff.2 hx
  exact List.count_pos_iff.1 m0
def dN:List (List Val)->List (List Val)->List (List Val)
 |_,[]=>[]
 |seen,x::l=>if x∈seen then dN seen l else x::dN (x::seen) l
theorem gu (r:List Val):∀ (l seen:List (List Val)),(dN seen l).count r=if r∈l/\r∉seen then 1 else 0
 |[],seen=>by simp[dN]
 |x::l,seen=>by
  unfold dN;by_cases hx:x∈seen
  .rw[if_pos hx,gu r l seen]
   by_cases e:r=x
   .subst e;simp[hx]
   .simp[e]
  .rw[if_neg hx]
   by_cases e:r=x
   .subst e
    rw[List.count_cons_self,gu r l (r::seen)];simp[hx]
   .have e2:¬ x=r:=λh=>e h.symm
    rw[List.count_cons_of_ne e2,gu r l (x::seen)];simp[e]
def tl (n:List Val->Nat)(l:List (List Val)):List (List Val):=l.flatMap λr=>List.replicate (n r) r
theorem BA (n:List Val->Nat)(r:List Val):∀ {l:List (List Val)},l.Nodup->(tl n l).count r=if r∈l then n r else 0
 |[],_=>by simp[tl]
 |x::l,h=>by
  have hd:=List.nodup_cons.1 h;unfold tl;rw[ais,List.count_append];have ih:=BA n r hd.2;unfold tl at ih;rw[ih,List.count_replicate];by_cases e:r=x
  .subst e;simp[hd.1]
  .have e2:¬ x=r:=λh=>e h.symm
   simp[e,e2]
theorem aaR (n:List Val->Nat){l:List (List Val)}(h:sI l):Asc aX (tl n l):=by
 induction l with
 |nil=>exact List.Pairwise.nil
 |cons x l ih =>
  have hc:=aiH.1 h;unfold tl;rw[ais];refine List.pairwise_append.2 ⟨?_,ih hc.2,?_⟩
  .refine List.pairwise_replicate.2 (.inr ?_)
   rw[tCr_.refl];omega
  .intro a ha b hb
   rw[List.eq_of_mem_replicate ha];obtain⟨y,hy,hb⟩:=List.mem_flatMap.1 hb;rw[List.eq_of_mem_replicate hb];exact Int.le_of_lt (hc.1 y hy)
theorem lS {l:List (List Val)}(h:sI l):l.Nodup:=h.imp λ{a b} O8 e=>by rw[e,tCr_.refl]at O8;omega
def b6:Option (List Val)->List (List Val)->List (List Val)
 |_,[]=>[]
 |p,x::l=>if p=some x then b6 (some x) l else x::b6 (some x) l
theorem vt (r:List Val):∀ (l:List (List Val)) (p:Option (List Val)),r∈b6 p l->r∈l
 |[],p,h=>by cases h
 |x::l,p,h=>by
  unfold b6 at h;split at h
  .exact aid _ (vt r l _ h)
  .obtain rfl|h:=ah8.1 h
   .simp
   .exact aid _ (vt r l _ h)
theorem F7 (r:List Val):∀ (l:List (List Val)) (p:Option (List Val)),r∈l->r∈b6 p l\/p=some r
 |[],p,h=>by cases h
 |x::l,p,h=>by
  unfold b6;by_cases hp:p=some x
  .rw[if_pos hp]
   obtain rfl|h:=ah8.1 h
   .exact .inr hp
   .obtain h|h:=F7 r l (some x) h
    .exact .inl h
    .exact .inr (hp.trans h)
  .rw[if_neg hp]
   obtain rfl|h:=ah8.1 h
   .exact .inl m5
   .obtain h|h:=F7 r l (some x) h
    .exact .inl (aid _ h)
    .injection h with h;subst h;exact .inl m5
theorem wi:∀ (l:List (List Val)) (p:Option (List Val)),Asc aX l->(∀ q,p=some q ->∀ x∈l,aX q x<=0)->sI (b6 p l) /\ ∀ q,p=some q ->∀ y∈b6 p l,aX q y<0
 |[],p,_,_=>⟨List.Pairwise.nil,λ_ _ _ h=>by cases h⟩
 |x::l,p,ha,hp=>by
  have hc:=aiH.1 ha;have ih:=wi l (some x) hc.2 (λq e y hy=>by injection e with e;subst e;exact hc.1 y hy);unfold b6;by_cases e:p=some x
  .rw[if_pos e,e]
   exact ih
  .rw[if_neg e]
   refine⟨aiH.2 ⟨ih.2 x rfl,ih.1⟩,λq hq y hy=>?_⟩;have hqx:=hp q hq x m5;have O8:aX q x<0:=by
    by_cases h0:aX q x=0
    .exact absurd (by rw[hq,tCr_.zero _ _ h0]) e
    .omega
   obtain rfl|hy:=ah8.1 hy
   .exact O8
   .exact tCr_.trans _ _ _ O8 (ih.2 x rfl y hy)
theorem lh (l:List (List Val)):sI (b6 none (aH l)):=(wi _ _ (cZ l) (λq e=>by cases e)).1
theorem Af (l:List (List Val))(r:List Val):r∈b6 none (aH l)↔r∈l:=by
 refine⟨λh=>(aP l).mem_iff.1 (vt r _ _ h),λh=>?_⟩;rcases F7 r _ none ((aP l).mem_iff.2 h)with h|h
 .exact h
 .cases h
theorem Og {a b:List (List Val)}(h:a.Perm b):aH a=aH b:=k9 tCr_ (cZ a) (cZ b) ((aP a).trans (h.trans (aP b).symm))
theorem Im {l:List (List Val)}(h:l.Nodup)(r:List Val):l.count r=if r∈l then 1 else 0:=by
 by_cases hr:r∈l
 .rw[if_pos hr]
  exact List.Nodup.count h |>.trans (if_pos hr)
 .rw[if_neg hr]
  exact List.count_eq_zero.2 hr
theorem Fv (l:List (List Val)):aH (dN [] l)=b6 none (aH l):=by
 refine x5 (cZ _) ((lh l).imp λh=>Int.le_of_lt h) λr=>?_
 rw[dF,gu,Im (lS (lh l))];simp[Af]
theorem MI (f:Nat->Nat->Nat)(a b:List (List Val))(hf:∀ m,f 0 m=0){l:List (List Val)}(hl:∀ r,l.count r=f (a.count r) (b.count r)):aH l=tl (λr=>f (a.count r) (b.count r)) (b6 none (aH a)):=by
 refine x5 (cZ _) (aaR _ (lh a)) λr=>?_
 rw[dF,hl,BA _ _ (lS (lh a))];by_cases h:r∈a
 .rw[if_pos ((Af a r).2 h)]
 .rw[if_neg (λq=>h ((Af a r).1 q)),List.count_eq_zero.2 h,hf]
theorem zg (a b:List (List Val)):aH (gY (λr=>b.count r) a).2=tl (λr=>a.count r-b.count r) (b6 none (aH a)):=MI (λm n=>m-n) a b (λm=>by simp) λr=>(iM r a _).2
theorem D7 (a b:List (List Val)):aH (gY (λr=>b.count r) a).1=tl (λr=>min (a.count r) (b.count r)) (b6 none (aH a)):=MI (λm n=>min m n) a b (λm=>by simp) λr=>(iM r a _).1
abbrev KR:=List Val×List Val
def EP (l:List KR):Prop:=l.Pairwise λa b=>aX a.1 b.1<=0
def Bj:List KR->List KR->List KR
 |[],b=>b
 |x::a,b=>go x (λb=>Bj a b) a b
 where
 go (x:KR) (rec:List KR->List KR) (a:List KR):List KR->List KR
  |[]=>x::a
  |y::b=>if aX y.1 x.1<0 then y::go x rec a b else x::rec (y::b)
theorem ug (a:List KR):Bj a []=a:=by
 cases a with
 |nil=>rfl
 |cons x a=>rfl
theorem rc (x y:KR)(a b:List KR):Bj (x::a) (y::b)=if aX y.1 x.1<0 then y::Bj (x::a) b else x::Bj a (y::b):=rfl
theorem mS:∀ (a b:List KR),(Bj a b).Perm (a++b)
 |[],b=>List.Perm.refl _
 |x::a,[]=>by rw[ug,aio]
 |x::a,y::b=>by
  rw[rc];split
  .exact((mS (x::a) b).cons y).trans (List.perm_middle (l₁:=x::a)).symm
  .exact(mS a (y::b)).cons x
theorem le_tr {a b c:List Val}(h1:aX a b<=0)(h2:aX b c<=0):aX a c<=0:=by
 by_cases e1:aX a b=0
 .rw[tCr_.zero _ _ e1];exact h2
 .by_cases e2:aX b c=0
  .rw[<- tCr_.zero _ _ e2];exact h1
  .have:=tCr_.trans a b c m0 m0
   omega
theorem Bz:∀ {a b:List KR},EP a->EP b->EP (Bj a b)
 |[],b,_,hb=>hb
 |x::a,[],ha,_=>by rw[ug];exact ha
 |x::a,y::b,ha,hb=>by
  rw[rc];have WJ:=aiH.1 ha;have YO:=aiH.1 hb;split
  .rename_i O8
   refine aiH.2 ⟨λz hz=>?_,Bz ha YO.2⟩;rcases aih.1 ((mS (x::a) b).mem_iff.1 hz)with h|h
   .obtain rfl|h:=ah8.1 h
    .omega
    .exact le_tr m0 (WJ.1 z h)
   .exact YO.1 z h
  .rename_i hge
   have Y9:aX x.1 y.1<=0:=by have:=tCr_.anti y.1 x.1;have:=tCr_.anti x.1 y.1;omega
   refine aiH.2 ⟨λz hz=>?_,Bz WJ.2 hb⟩;rcases aih.1 ((mS a (y::b)).mem_iff.1 hz)with h|h
   .exact WJ.1 z h
   .obtain rfl|h:=ah8.1 h
    .exact Y9
    .exact le_tr Y9 (YO.1 z h)
theorem pC (k:List Val):∀ {a b:List KR},EP a->EP b->((Bj a b).filter λp=>decide (p.1=k))=(a.filter λp=>decide (p.1=k))++b.filter λp=>decide (p.1=k)
 |[],b,_,_=>rfl
 |x::a,[],_,_=>by rw[ug];simp
 |x::a,y::b,ha,hb=>by
  rw[rc];have WJ:=aiH.1 ha;have YO:=aiH.1 hb;split
  .rename_i O8
   have ih:=pC k ha YO.2;by_cases e:y.1=k
   .have h0:((x::a).filter λp=>decide (p.1=k))=[]:=by
     rw[List.filter_eq_nil_iff];intro z hz hq;have Zw:=aii hq;have:aX x.1 z.1<=0:=by
      obtain rfl|hz:=ah8.1 hz
      .rw[tCr_.refl];omega
      .exact WJ.1 z hz
     rw[Zw,<- e]at this;have:=tCr_.anti y.1 x.1;omega
    rw[h0,ahW]at ih;rw[h0,List.filter_cons_of_pos (by simpa using e),List.filter_cons_of_pos (by simpa using e),ih];rfl
   .rw[List.filter_cons_of_neg (by simpa using e),ih]
    rw[List.filter_cons_of_neg (p:=λp=>decide (p.1=k)) (a:=y) (by simpa using e)]
  .have ih:=pC k WJ.2 hb
   by_cases e:x.1=k
   .rw[List.filter_cons_of_pos (by simpa using e),List.filter_cons_of_pos (by simpa using e),ih]
    rfl
   .rw[List.filter_cons_of_neg (by simpa using e),List.filter_cons_of_neg (p:=λp=>decide (p.1=k)) (a:=x) (by simpa using e),ih]
def vE:Nat->List KR->List KR
 |0,l=>l
 |n+1,l=>if l.length<2 then l else Bj (vE n (l.take (l.length/2))) (vE n (l.drop (l.length/2)))
theorem rA:∀ (n:Nat) (l:List KR),l.length<=n->EP (vE n l)/\(vE n l).Perm l /\ ∀ k,((vE n l).filter λp=>decide (p.1=k))=l.filter λp=>decide (p.1=k)
 |0,l,h=>by
  have:l=[]:=aif m0;subst this;exact⟨List.Pairwise.nil,List.Perm.refl _,λ_=>rfl⟩
 |n+1,l,h=>by
  unfold vE;by_cases h2:l.length<2
  .rw[if_pos h2]
   refine⟨?_,List.Perm.refl _,λ_=>rfl⟩
   match l,h2 with
   |[],_=>exact List.Pairwise.nil
   |[x],_=>exact List.pairwise_singleton _ _
  .rw[if_neg h2]
   obtain⟨a1,a2,a3⟩:=rA n (l.take (l.length/2)) (by rw[aiD];omega);obtain⟨b1,b2,b3⟩:=rA n (l.drop (l.length/2)) (by rw[List.length_drop];omega);refine⟨Bz a1 b1,?_,λk=>?_⟩
   .have:=(mS (vE n (l.take (l.length/2))) (vE n (l.drop (l.length/2)))).trans (a2.append b2)
    rwa[aiz]at this
   .rw[pC k a1 b1,a3,b3,<- List.filter_append,aiz]
def runs:Nat->List KR->List (List Val×List (List Val))
 |0,_=>[]
 |_,[]=>[]
 |n+1,(k,r)::l=>(k,r::(l.takeWhile λp=>decide (p.1=k)).map (·.2))::runs n (l.dropWhile λp=>decide (p.1=k))
theorem Gg (k:List Val):∀ l:List (List Val),b6 (some k) l=b6 none (l.dropWhile λx=>decide (x=k))
 |[]=>rfl
 |x::l=>by
  by_cases e:x=k
  .subst e
   rw[List.dropWhile_cons_of_pos m5,<- Gg x l];unfold b6;rw[if_pos rfl]
   cases l<;>rfl
  .rw[List.dropWhile_cons_of_neg (by simpa using e)]
   unfold b6;rw[if_neg (λh=>e (by injection h with h;exact h.symm)),if_neg (λh=>by cases h)]
theorem xj (k:List Val):∀ l:List KR,(∀ p∈l,aX k p.1<=0)->EP l->(l.takeWhile λp=>decide (p.1=k))=(l.filter λp=>decide (p.1=k))/\(l.dropWhile λp=>decide (p.1=k))=l.filter λp => !decide (p.1=k)
 |[],_,_=>⟨rfl,rfl⟩
 |x::l,h1,h2=>by
  have hc:=aiH.1 h2;by_cases e:x.1=k
  .have ih:=xj k l (λp hp=>h1 p (aid _ hp)) hc.2
   rw[List.takeWhile_cons_of_pos (by simpa using e),List.dropWhile_cons_of_pos (by simpa using e),List.filter_cons_of_pos (by simpa using e),List.filter_cons_of_neg (by simpa using e),ih.1,ih.2];exact⟨rfl,rfl⟩
  .have O8:aX k x.1<0:=by
    have:=h1 x m5;by_cases h0:aX k x.1=0
    .exact absurd (tCr_.zero _ _ h0).symm e
    .omega
   have PE:∀ p∈x::l,¬ p.1=k:=by
    intro p hp q;obtain rfl|hp:=ah8.1 hp
    .exact e q
    .have:=hc.1 p hp
     rw[q]at this;have:=tCr_.anti k x.1;omega
   rw[List.takeWhile_cons_of_neg (by simpa using e),List.dropWhile_cons_of_neg (by simpa using e)];refine⟨(List.filter_eq_nil_iff.2 λp hp=>by simpa using PE p hp).symm,(List.filter_eq_self.2 λp hp=>by simpa using PE p hp).symm⟩
theorem map_drop (k:List Val):∀ l:List KR,((l.map (·.1)).dropWhile λx=>decide (x=k))=(l.dropWhile λp=>decide (p.1=k)).map (·.1)
 |[]=>rfl
 |x::l=>by
  by_cases e:x.1=k
  .rw[ah2,List.dropWhile_cons_of_pos (by simpa using e),List.dropWhile_cons_of_pos (by simpa using e),map_drop k l]
  .rw[ah2,List.dropWhile_cons_of_neg (by simpa using e),List.dropWhile_cons_of_neg (by simpa using e),ah2]
theorem LG:∀ (n:Nat) (l:List KR),l.length<=n->EP l->runs n l=(b6 none (l.map (·.1))).map λk=>(k,(l.filter λp=>decide (p.1=k)).map (·.2))
 |0,l,h,_=>by
  have:l=[]:=aif m0;subst this;rfl
 |n+1,[],_,_=>rfl
 |n+1,(k,r)::l,h,ha=>by
  have hc:=aiH.1 ha;have ht:=xj k l (λp hp=>hc.1 p hp) hc.2;have hs:EP (l.dropWhile λp=>decide (p.1=k)):=by rw[ht.2];exact hc.2.sublist List.filter_sublist
  have ih:=LG n (l.dropWhile λp=>decide (p.1=k)) (by rw[ht.2];have:=List.length_filter_le (λp:KR => !decide (p.1=k)) l;simp only[aib]at h;omega) hs;have e1:runs (n+1) ((k,r)::l)=(k,r::(l.takeWhile λp=>decide (p.1=k)).map (·.2))::runs n (l.dropWhile λp=>decide (p.1=k)):=rfl;have e2:b6 none (((k,r)::l).map (·.1))=k::b6 (some k) (l.map (·.1)):=by
   rw[ah2];unfold b6;rw[if_neg (λh=>by cases h)]
   cases l.map (·.1)<;>rfl
  rw[e1,e2,Gg,map_drop,ah2,ih,ht.1];congr 1
  .rw[List.filter_cons_of_pos m5];rfl
  .refine List.map_congr_left λk' ZF=>?_
   have RE:=vt k' _ _ ZF;obtain⟨p,hp,Ye⟩:=aip.1 RE;rw[ht.2]at hp;have PE:¬ p.1=k:=by have:=(List.mem_filter.1 hp).2;simpa using this
   have Vk:¬ k=k':=λq=>PE (by rw[Ye,q])
   rw[List.filter_cons_of_neg (by simpa using Vk),ht.2,List.filter_filter];congr 2;refine List.filter_congr λq _=>?_
   by_cases e:q.1=k'
   .have:¬ k'=k:=λh=>Vk h.symm
    simp[e,this]
   .simp[e]
section
variable {α:Type}
def na (e:α->AC)(M:List (ByteArray×α)):List (AC×AV):=M.map λp=>(.str p.1,.one (.c (e p.2)))
def lB (z:α):List (ByteArray×α)->ByteArray->α
 |[],_=>z
 |p::r,s=>if s=p.1 then p.2 else lB z r s
def tk:List (ByteArray×α)->ByteArray->α->List (ByteArray×α)
 |[],s,n=>[(s,n)]
 |p::r,s,n=>if s=p.1 then(s,n)::r else p::tk r s n
theorem CS (e:α->AC)(M:List (ByteArray×α)):strKeys (na e M):=by intro p hp;obtain⟨q,_,rfl⟩:=aip.1 hp;exact⟨q.1,rfl⟩
theorem I_ (e:α->AC)(z:α)(s:ByteArray):∀ (M:List (ByteArray×α)),(fF s (na e M)=none/\lB z M s=z /\ ∀ n,tk M s n=M++[(s,n)])\/(∃ i p,fF s (na e M)=some i/\M[i]?=some p/\lB z M s=p.2 /\ ∀ n,tk M s n=M.set i (s,n))
 |[] => .inl ⟨rfl,rfl,λ_=>rfl⟩
 |p::r=>by
  have hk:fF s (na e (p::r))=if s=p.1 then some 0 else(fF s (na e r)).map (· +1):=rfl
  by_cases h:s=p.1
  .exact .inr ⟨0,p,by rw[hk,if_pos h],rfl,by simp[lB,h],λn=>by simp[tk,h]⟩
  .obtain⟨h1,h2,h3⟩|⟨i,q,h1,h2,h3,h4⟩:=I_ e z s r
   .exact .inl ⟨by rw[hk,if_neg h,h1];rfl,by simp[lB,h,h2],λn=>by simp[tk,h,h3]⟩
   .exact .inr ⟨i+1,q,by rw[hk,if_neg h,h1];rfl,by simpa using h2,by simp[lB,h,h3],λn=>by simp[tk,h,h4]⟩
theorem aeo (e:α->AC)(z:α)(M:List (ByteArray×α))(s:ByteArray):mO (na e M) s (.one (.c (e z))) = .one (.c (e (lB z M s))):=by
 unfold mO;obtain⟨h1,h2,_⟩|⟨i,p,h1,h2,h3,_⟩:=I_ e z s M
 .rw[h1,h2]
 .have:(na e M)[i]?=some (.str p.1,.one (.c (e p.2))):=by unfold na;rw[aic,h2];rfl
  rw[h1];simp only[this];rw[h3]
theorem ae' (e:α->AC)(z:α)(M:List (ByteArray×α))(s:ByteArray)(n:α):xL (na e M) s (.one (.c (e n)))=na e (tk M s n):=by
 unfold xL;obtain⟨h1,_,h3⟩|⟨i,p,h1,h2,_,h4⟩:=I_ e z s M
 .rw[h1,h3];simp[na]
 .rw[h1,h4];unfold na;rw[List.map_set]
theorem tK (e:α->AC)(n:Nat)(M:List (ByteArray×α)):(Ob.map (na e M)).below n:=by
 intro p hp;obtain⟨q,_,rfl⟩:=aip.1 hp;trivial
theorem HE {P:Program}{ti:TI}{ρ:Operand->Option AV}{L:List Ob}{t:TypeId}{kt et:TypeId}{x k:Operand}{s:ByteArray}{id:Nat}(e:α->AC)(z:α){M:List (ByteArray×α)}(Pm:TIok P ti)(hx:ρ x=some (.one (.mp id)))(hk:ρ k=some (.one (.c (.str s))))(hL:L[id]?=some (.map (na e M)))
  (ht:ti.kind t=some (.map kt et)) (Tt:ti.kind kt=some .string) (hz:ti.zero et=some (.one (.c (e z)))):nA P ρ L (.lookup t x k false) (.one (.c (e (lB z M s)))) L:=by
 have:=tM (P:=P) hx hk hL (CS e M) (Pm.kind _ _ ht) (Pm.kind _ _ Tt) (Pm.zero _ _ hz);rw[aeo]at this;exact this
theorem abj {P:Program}{ti:TI}{ρ:Operand->Option AV}{L:List Ob}{t:TypeId}{kt et:TypeId}{x k y:Operand}{s:ByteArray}{id:Nat}(e:α->AC){n:α}{M:List (ByteArray×α)}(Pm:TIok P ti)(hx:ρ x=some (.one (.mp id)))(hk:ρ k=some (.one (.c (.str s))))(hy:ρ y=some (.one (.c (e n))))(hL:L[id]?=some (.map (na e M)))
  (ht:ti.kind t=some (.map kt et)) (Tt:ti.kind kt=some .string):nA P ρ L (.mapUpdate t x k y) .undef (L.set id (.map (na e (tk M s n)))):=by
 have:=mf (P:=P) hx hk hy hL (CS e M) (Pm.kind _ _ ht) (Pm.kind _ _ Tt);rw[ae' e n]at this;exact this
theorem Gw (z:α)(s t:ByteArray)(n:α):∀ (M:List (ByteArray×α)),lB z (tk M s n) t=if t=s then n else lB z M t
 |[]=>by by_cases h:t=s<;>simp[tk,lB,h]
 |p::r=>by
  unfold tk;by_cases h:s=p.1
  .rw[if_pos h]
   by_cases h2:t=s
   .simp[lB,h2]
   .have:¬ t=p.1:=λe=>h2 (e.trans h.symm)
    simp[lB,h2,this]
  .rw[if_neg h]
   have ih:=Gw z s t n r;by_cases h2:t=p.1
   .have:¬ t=s:=λe=>h (e.symm.trans h2)
    simp[lB,h2,this];intro e;exact absurd e.symm h
   .simp only[lB,h2,if_false,ih]
end
structure Dst where
 M:List (ByteArray×Bool)
 O:List (List Val)
def zM (s:Dst)(r:List Val):Dst:=bif lB false s.M (df r)then s else⟨tk s.M (df r) true,s.O++[r]⟩
def dst (a:List (List Val)):Dst:=a.foldl zM ⟨[],[]⟩
theorem ab' (a:List (List Val))(r:List Val):dst (a++[r])=zM (dst a) r:=by unfold dst;rw[List.foldl_append];rfl
theorem yH:∀ (a seen:List (List Val)) (s:Dst),(∀ r,lB false s.M (df r)=decide (r∈seen))->(a.foldl zM s).O=s.O++dN seen a
 |[],seen,s,h=>by simp[dN]
 |x::a,seen,s,h=>by
  have e0:zM s x=bif lB false s.M (df x)then s else⟨tk s.M (df x) true,s.O++[x]⟩:=rfl
  rw[aiC,e0,h x];unfold dN;by_cases hx:x∈seen
  .rw[ahV hx,ahT,if_pos hx]
   exact yH a seen s h
  .rw[ahU hx,ahS,if_neg hx,yH a (x::seen) _ (λr=>?_)]
   .simp
   .show lB false (tk s.M (df x) true) (df r)=_
    rw[Gw];by_cases e:r=x
    .subst e
     rw[if_pos rfl];simp
    .rw[if_neg (λq=>e (pL q)),h r]
     simp[e]
theorem vW (a:List (List Val)):(dst a).O=dN [] a:=by
 have:=yH a [] ⟨[],[]⟩ (λr=>by simp[lB]);rw[ahW]at this;exact this
theorem qV (a:List (List Val)):(dst a).O.length<=a.length:=by
 have:∀ (a:List (List Val)) (s:Dst),(a.foldl zM s).O.length<=s.O.length+a.length:=by
  intro a
  induction a with
  |nil=>intro s;simp
  |cons x a ih =>
   intro s;rw[aiC];have h1:=ih (zM s x);have h2:(zM s x).O.length<=s.O.length+1:=by
    unfold zM
    cases lB false s.M (df x)<;>simp
   rw[aib];omega
 have:=this a ⟨[],[]⟩;simpa[dst]using this
theorem GH (r:List Val):∀ (b:List (List Val)) (M:List (ByteArray×Int)),b9 ((b.map df).foldl IK M) (df r)=b9 M (df r)+(b.count r:Int)
 |[],M=>by simp
 |x::b,M=>by
  rw[ah2,aiC,GH r b];unfold IK;rw[lb];by_cases e:r=x
  .subst e
   rw[if_pos rfl,List.count_cons_self];omega
  .have e2:¬ x=r:=λh=>e h.symm
   rw[if_neg (λh=>e (pL h)),List.count_cons_of_ne e2]
theorem yN:∀ (a:List (List Val)) (n:List Val->Nat) (S:Spl),(∀ r,b9 S.M (df r)=(n r:Int))->(a.foldl (sT ce) S).W=S.W++(gY n a).1/\(a.foldl (sT ce) S).O=S.O++(gY n a).2
 |[],n,S,h=>by simp[gY]
 |x::a,n,S,h=>by
  have hx:b9 S.M (cg ce x)=(n x:Int):=h x;have e0:sT ce S x=if 0<b9 S.M (cg ce x)then⟨cP S.M (cg ce x) (b9 S.M (cg ce x)-1),S.W++[x],S.O⟩else⟨S.M,S.W,S.O++[x]⟩:=rfl
  rw[aiC,e0];unfold gY;by_cases hp:0<n x
  .rw[if_pos hp,if_pos (by rw[hx];omega)]
   have ih:=yN a (λy=>if y=x then n x-1 else n y) ⟨cP S.M (cg ce x) (b9 S.M (cg ce x)-1),S.W++[x],S.O⟩ (λr=>by
    show b9 (cP S.M (df x) _) (df r)=_;rw[lb,hx];by_cases e:r=x
    .subst e
     rw[if_pos rfl,if_pos rfl];omega
    .rw[if_neg (λh=>e (pL h)),if_neg e]
     exact h r)
   rw[ih.1,ih.2];simp
  .rw[if_neg hp,if_neg (by rw[hx];omega)]
   have ih:=yN a n ⟨S.M,S.W,S.O++[x]⟩ h;rw[ih.1,ih.2];simp
theorem aaI (a b:List (List Val)):(Cd ce a b).W=(gY (λr=>b.count r) a).1/\(Cd ce a b).O=(gY (λr=>b.count r) a).2:=by
 have:=yN a (λr=>b.count r) ⟨l9 (b.map df),[],[]⟩ (λr=>by
  show b9 ((b.map df).foldl IK []) (df r)=_;rw[GH];show(0:Int)+_=_;omega)
 rw[ahW,ahW]at this;exact this
theorem xI (s t:ByteArray)(n:Int):∀ M:List (ByteArray×Int),fS (cP M s n) t=(decide (t=s)||fS M t)
 |[]=>by
  unfold fS cP cE;by_cases e:t=s<;>simp[fF,e]
 |p::r=>by
  have ih:=xI s t n r;have hc:∀ (q:ByteArray×Int) (m:List (ByteArray×Int)),fS (q::m) t=(decide (t=q.1)||fS m t):=by
   intro q m;unfold fS cE;by_cases e:t=q.1<;>simp[fF,e]
  unfold cP;by_cases e1:s=p.1
  .rw[if_pos e1,hc,hc]
   by_cases e:t=s
   .simp[e]
   .have e2:¬ t=p.1:=λq=>e (q.trans e1.symm)
    simp[e,e2]
  .rw[if_neg e1,hc,hc,ih]
   by_cases e2:t=p.1<;>simp[e2]
theorem wI (x:List Val):∀ (l seen:List (List Val)),dN seen (l++[x])=dN seen l++(if x∈seen\/x∈l then []else [x])
 |[],seen=>by
  by_cases h:x∈seen<;>simp[dN,h]
 |y::l,seen=>by
  rw[List.cons_append];unfold dN;by_cases hy:y∈seen
  .rw[if_pos hy,if_pos hy,wI x l seen]
   by_cases hx:x∈seen
   .simp[hx]
   .have:¬ x=y:=λe=>hx (by rw[e];exact hy)
    simp[hx,this]
  .rw[if_neg hy,if_neg hy,wI x l (y::seen)]
   by_cases hx:x∈seen
   .simp[hx]
   .by_cases e:x=y<;>simp[hx,e]
theorem eD (x:List Val)(l:List (List Val)):x∈dN [] l↔x∈l:=by
 have:=gu x l [];constructor
 .intro h
  have h1:=List.count_pos_iff.2 h;rw[this]at h1;by_cases hx:x∈l
  .exact hx
  .simp[hx]at h1
 .intro h
  apply List.count_pos_iff.1;rw[this];simp[h]
theorem tN (l:List (List Val)):(dN [] l).Nodup:=(aP _).nodup_iff.1 (by rw[Fv];exact lS (lh l))
def Bl (ky:List Val->List Val)(rows:List (List Val)):iY:=(dN [] (rows.map ky)).map λk=>rows.filter λr=>decide (ky r=k)
structure GInv (ky:List Val->List Val)(rows:List (List Val))(s:Gs):Prop where
 G:s.G=Bl ky rows
 has:∀ k,fS s.M (df k)=decide (k∈rows.map ky)
 idx:∀ (k:List Val) (i:Nat),(dN [] (rows.map ky))[i]?=some k->b9 s.M (df k)=(i:Int)
theorem rX (ky:List Val->List Val)(rows:List (List Val))(r k:List Val):((rows++[r]).filter λx=>decide (ky x=k))=(rows.filter λx=>decide (ky x=k))++(if ky r=k then [r]else []):=by
 rw[List.filter_append];by_cases h:ky r=k<;>simp[h]
theorem Ns {ky:List Val->List Val}{rows:List (List Val)}{s:Gs}(h:GInv ky rows s)(r:List Val):GInv ky (rows++[r]) (gV (λx=>df (ky x)) s r):=by
 have hm:(rows++[r]).map ky=rows.map ky++[ky r]:=by simp
 have hD:=wI (ky r) (rows.map ky) [];have e0:gV (λx=>df (ky x)) s r=bif fS s.M (df (ky r))then⟨s.M,s.G.set (b9 s.M (df (ky r))).toNat (s.G.getD (b9 s.M (df (ky r))).toNat []++[r])⟩else⟨cP s.M (df (ky r)) s.G.length,s.G++[[r]]⟩:=rfl;rw[e0,h.has];by_cases hk:ky r∈rows.map ky
 .rw[ahV hk,ahT]
  have TL:dN [] (rows.map ky++[ky r])=dN [] (rows.map ky):=by rw[hD,if_pos (.inr hk),aio]
  obtain⟨i,hi⟩:=List.mem_iff_getElem?.1 ((eD _ _).2 hk);have hix:=h.idx _ i hi;rw[hix];have hn:=tN (rows.map ky);have O8:=(ahR.1 hi).1;refine⟨?_,λk=>?_,λk j hj=>?_⟩
  .show s.G.set i (s.G.getD i []++[r])=_
   unfold Bl;rw[hm,TL,h.G];unfold Bl;apply List.ext_getElem?;intro j;rw[aic];by_cases e:j=i
   .subst e
    rw[ah_ (by rw[ah3];exact O8),hi,aiE,aic,hi];simp[rX]
   .rw[ah' (Ne.symm e),aic]
    cases hj:(dN [] (rows.map ky))[j]? with
    |none=>rfl
    |some k =>
     have PE:¬ ky r=k:=by
      intro q;have hjlt:=(ahR.1 hj).1;have:=(List.getElem_inj (h₀:=hjlt) (h₁:=O8) hn).1 (by rw[(ahR.1 hj).2,(ahR.1 hi).2,q]);exact e this
     simp[rX,PE]
  .show fS s.M (df k)=_
   rw[h.has,hm];by_cases e:k=ky r
   .subst e;simp only[hk];simp
   .simp[e]
  .rw[hm,TL]at hj
   exact h.idx k j hj
 .rw[ahU hk,ahS]
  have TL:dN [] (rows.map ky++[ky r])=dN [] (rows.map ky)++[ky r]:=by rw[hD,if_neg (by simpa using hk)]
  have hlen:s.G.length=(dN [] (rows.map ky)).length:=by rw[h.G];unfold Bl;simp
  refine⟨?_,λk=>?_,λk j hj=>?_⟩
  .show s.G++[[r]]=_
   unfold Bl;rw[hm,TL,h.G,ah4];unfold Bl;congr 1
   .refine List.map_congr_left λk hkm=>?_
    have PE:¬ ky r=k:=λq=>hk (by rw[q];exact(eD _ _).1 hkm)
    simp[rX,PE]
   .have h0:(rows.filter λx=>decide (ky x=ky r))=[]:=by
     rw[List.filter_eq_nil_iff];intro x hx hq;exact hk (aip.2 ⟨x,hx,aii hq⟩)
    simp only[ah2,ah6,rX,h0,if_true,ahW]
  .show fS (cP s.M (df (ky r)) _) (df k)=_
   rw[xI,h.has,hm];by_cases e:k=ky r
   .subst e;simp
   .have:¬ df k=df (ky r):=λq=>e (pL q)
    simp[e,this]
  .show b9 (cP s.M (df (ky r)) _) (df k)=_
   rw[hm,TL]at hj;rw[lb];by_cases Wh:j<(dN [] (rows.map ky)).length
   .rw[ah5 Wh]at hj
    have PE:¬ k=ky r:=λq=>hk (by rw[<- q];exact(eD _ _).1 (ahX hj))
    rw[if_neg (λq=>PE (pL q))];exact h.idx k j hj
   .rw[ahY m0]at hj
    have Zm:j-(dN [] (rows.map ky)).length=0:=by
     have:=(ahR.1 hj).1;simpa using this
    rw[Zm]at hj;simp at hj;subst hj;rw[if_pos rfl,hlen];omega
theorem OL (ky:List Val->List Val):∀ (n:Nat) (rows:List (List Val)),rows.length=n->GInv ky rows (gN (λx=>df (ky x)) rows):=by
 intro n
 induction n with
 |zero =>
  intro rows h;have:rows=[]:=aif h;subst this;exact⟨rfl,λk=>by simp[gN,fS,cE,fF],λk i h=>by simp[dN]at h⟩
 |succ n ih =>
  intro rows h;obtain rfl|⟨l,r,rfl⟩:=List.eq_nil_or_concat rows
  .cases h
  .rw[List.concat_eq_append,zz]
   exact Ns (ih l (by simpa using h)) r
theorem aaH (ky:List Val->List Val)(rows:List (List Val)):(gN (λx=>df (ky x)) rows).G=Bl ky rows:=(OL ky _ rows rfl).G
theorem Kq (ky:List Val->List Val)(f:List Val->List (List Val)->List Val)(rows:List (List Val)):aH ((dN [] (rows.map ky)).map λk=>f k (rows.filter λr=>decide (ky r=k)))=aH ((b6 none (aH (rows.map ky))).map λk=>f k (rows.filter λr=>decide (ky r=k))) :=
 Og (by rw[<- Fv];exact((aP _).map _).symm)
theorem abz (ky:List Val->List Val)(rows:List (List Val)){k:List Val}(hk:k∈dN [] (rows.map ky)):ky ((rows.filter λr=>decide (ky r=k)).headD [])=k:=by
 obtain⟨r,hr,e⟩:=aip.1 ((eD _ _).1 hk)
 cases hf:rows.filter λr=>decide (ky r=k)with
 |nil =>
  have:=List.filter_eq_nil_iff.1 hf r hr;simp[e]at this
 |cons x l =>
  have:x∈rows.filter λr=>decide (ky r=k):=by rw[hf];simp
  exact aii (List.mem_filter.1 this).2
theorem Am (r x:List Val)(h:¬ aX x r<0):∀ o:List (List Val×Nat),x∈o.map (·.1)↔x∈(o.dropWhile λp=>decide (aX p.1 r<0)).map (·.1)
 |[]=>Iff.rfl
 |p::o=>by
  by_cases e:aX p.1 r<0
  .rw[List.dropWhile_cons_of_pos (by simpa using e),<- Am r x h o,ah2,ah8]
   constructor
   .rintro(q|q)
    .exact absurd (by rw[q];exact e) h
    .exact q
   .exact .inr
  .rw[List.dropWhile_cons_of_neg (by simpa using e)]
theorem Ix (r:List Val):∀ o:List (List Val×Nat),(o.dropWhile λp=>decide (aX p.1 r<0)).Sublist o
 |[]=>List.Sublist.refl _
 |p::o=>by
  by_cases e:aX p.1 r<0
  .rw[List.dropWhile_cons_of_pos (by simpa using e)]
   exact(Ix r o).cons p
  .rw[List.dropWhile_cons_of_neg (by simpa using e)]
   exact List.Sublist.refl _
theorem Du (r:List Val){p:List Val×Nat}{t:List (List Val×Nat)}:∀ {o:List (List Val×Nat)},(o.dropWhile λp=>decide (aX p.1 r<0))=p::t ->¬ aX p.1 r<0
 |[],h=>by cases h
 |q::o,h=>by
  by_cases e:aX q.1 r<0
  .rw[List.dropWhile_cons_of_pos (by simpa using e)]at h
   exact Du r h
  .rw[List.dropWhile_cons_of_neg (by simpa using e)]at h
   injection h with h1 h2
   rw[<- h1];exact e
def C4:List (List Val)->List (List Val×Nat)->List Nat
 |[],_=>[]
 |r::rs,o=>(match (o.dropWhile λp=>decide (aX p.1 r<0))with|p::_=>if p.1=r then p.2 else 0|[]=>0)::C4 rs (o.dropWhile λp=>decide (aX p.1 r<0))
theorem Hz (f:List Val->Nat):∀ (rows:List (List Val)) (o:List (List Val×Nat)),sI rows->sI (o.map (·.1))->(∀ p∈o,p.2=f p.1)->C4 rows o=rows.map λr=>if r∈o.map (·.1)then f r else 0
 |[],_,_,_,_=>rfl
 |r::rs,o,h1,h2,h3=>by
  have hc:=aiH.1 h1;have hs:=Ix r o;have W8:sI ((o.dropWhile λp=>decide (aX p.1 r<0)).map (·.1)):=h2.sublist (hs.map _);have ih:=Hz f rs (o.dropWhile λp=>decide (aX p.1 r<0)) hc.2 W8 (λp hp=>h3 p (hs.subset hp));unfold C4;rw[ih,ah2];congr 1
  .have hm:=Am r r (by rw[tCr_.refl];omega) o
   cases hd:(o.dropWhile λp=>decide (aX p.1 r<0))with
   |nil =>
    rw[hd]at hm;rw[if_neg (λq=>by have:=hm.1 q;cases this)]
   |cons p t =>
    have hh:=Du r hd;rw[hd]at hm W8;have hp:p∈o:=hs.subset (by rw[hd];simp);by_cases e:p.1=r
    .rw[if_pos (hm.2 (by rw[ah2,e];simp))]
     show(if p.1=r then p.2 else 0)=_;rw[if_pos e,h3 p hp,e]
    .rw[if_neg (λq=>?_)]
     .show(if p.1=r then p.2 else 0)=_
      rw[if_neg e]
     .have hq:=hm.1 q
      rw[ah2]at hq W8;have hpc:=aiH.1 W8;obtain q|q:=ah8.1 hq
      .exact e q.symm
      .exact hh (hpc.1 r q)
  .refine List.map_congr_left λx hx=>?_
   have O8:=hc.1 x hx;have W5:¬ aX x r<0:=by have:=tCr_.anti r x;omega
   have:=Am r x W5 o;by_cases q:x∈o.map (·.1)
   .rw[if_pos q,if_pos (this.1 q)]
   .rw[if_neg q,if_neg (λh=>q (this.2 h))]
theorem F6 (y:List Val)(p:Option (List Val))(l:List (List Val)):((y::l).getLast?.or p)=(l.getLast?.or (some y)):=by
 cases l with
 |nil=>rfl
 |cons z l =>
  rw[List.getLast?_cons_cons]
  cases h:(z::l).getLast? with
  |none=>rw[List.getLast?_eq_none_iff]at h;cases h
  |some w=>rfl
theorem qs (y:List Val)(p:Option (List Val))(l:List (List Val)):b6 p (y::l)=if p=some y then b6 (some y) l else y::b6 (some y) l:=rfl
theorem qq (x:List Val):∀ (l:List (List Val)) (p:Option (List Val)),b6 p (l++[x])=b6 p l++(if (l.getLast?.or p)=some x then []else [x])
 |[],p=>by
  show(if p=some x then b6 (some x) []else x::b6 (some x) [])=_;by_cases e:p=some x
  .simp[e,b6]
  .simp[e,b6]
 |y::l,p=>by
  rw[List.cons_append,F6,qs,qs];by_cases e:p=some y
  .rw[if_pos e,if_pos e,qq x l (some y)]
  .rw[if_neg e,if_neg e,qq x l (some y)]
   rfl
theorem Hl:∀ (l:List (List Val)) (p:Option (List Val)),((b6 p l).getLast?.or p)=(l.getLast?.or p)
 |[],_=>rfl
 |y::l,p=>by
  rw[F6,<- Hl l (some y),qs];by_cases e:p=some y
  .rw[if_pos e,e]
  .rw[if_neg e,F6]
def iA (l:List (List Val)):List Nat:=(b6 none l).map λr=>l.count r
theorem OX {a b:List (List Val)}(h:Asc aX (a++b)):Asc aX a:=h.sublist (List.sublist_append_left a b)
theorem adJ {l:List (List Val)}(h:Asc aX l):sI (b6 none l):=(wi _ _ h (λq e=>by cases e)).1
theorem uG (o:Option (List Val)):o.or none=o:=by cases o<;>rfl
theorem aao {l:List (List Val)}{x:List Val}(h:Asc aX (l++[x]))(PE:l.getLast?≠some x):x∉l:=by
 intro hx;obtain rfl|⟨m,y,rfl⟩:=List.eq_nil_or_concat l
 .cases hx
 .rw[List.concat_eq_append]at h PE hx
  have hy:y≠x:=λe=>PE (by rw[List.getLast?_append,e];rfl)
  obtain hm|hm:=aih.1 hx
  .rw[aig]at h
   have hp:=List.pairwise_append.1 h;have h1:=hp.2.2 x hm y m5;have h2:aX y x<=0:=by
    have:=hp.2.1;exact(aiH.1 this).1 x m5
   have h3:=tCr_.anti x y;have h4:=tCr_.anti y x;exact hy (tCr_.zero y x m0)
  .simp at hm
   exact hy hm.symm
theorem Ld {l:List (List Val)}{x:List Val}(h:Asc aX (l++[x]))(PE:l.getLast?≠some x):b6 none (l++[x])=b6 none l++[x]/\iA (l++[x])=iA l++[1]:=by
 have e:b6 none (l++[x])=b6 none l++[x]:=by
  rw[qq,uG,if_neg PE]
 refine⟨e,?_⟩;unfold iA;rw[e,ah4];have hx:=aao h PE;congr 1
 .refine List.map_congr_left λr hr=>?_
  have:¬ x=r:=λq=>hx (by rw[q];exact vt r _ _ hr)
  rw[List.count_append,List.count_cons_of_ne this];rfl
 .simp[List.count_append,List.count_eq_zero.2 hx]
theorem abg {l:List (List Val)}{x:List Val}(h:Asc aX (l++[x]))(he:l.getLast?=some x):b6 none (l++[x])=b6 none l/\(b6 none l)[(b6 none l).length-1]?=some x/\0<(b6 none l).length/\iA (l++[x])=(iA l).set ((b6 none l).length-1) (l.count x+1):=by
 have e:b6 none (l++[x])=b6 none l:=by
  rw[qq,uG,if_pos he,aio]
 have hl:(b6 none l).getLast?=some x:=by
  have:=Hl l none;rw[uG,uG]at this;rw[this,he]
 have h0:0<(b6 none l).length:=by
  cases hn:b6 none l with
  |nil=>rw[hn]at hl;cases hl
  |cons a b=>simp
 have hg:(b6 none l)[(b6 none l).length-1]?=some x:=by rw[<- List.getLast?_eq_getElem?];exact hl
 refine⟨e,hg,h0,?_⟩;unfold iA;rw[e];apply List.ext_getElem?;intro j;rw[aic];by_cases hj:j=(b6 none l).length-1
 .subst hj
  rw[ah_ (by rw[ah3];omega),hg];simp[List.count_append]
 .rw[ah' (Ne.symm hj),aic]
  cases hr:(b6 none l)[j]? with
  |none=>rfl
  |some r =>
   have PE:¬ x=r:=by
    intro q;have hn:=lS (adJ (OX h));have Wh:=(ahR.1 hr).1;have VW:=(ahR.1 hg).1;exact hj ((List.getElem_inj (h₀:=Wh) (h₁:=VW) hn).1 (by rw[(ahR.1 hr).2,(ahR.1 hg).2,q]))
   show some ((l++[x]).count r)=some (l.count r);rw[List.count_append,List.count_cons_of_ne PE];rfl
