/- Parts of the proof, joined. No condition. -/
import Derived.Test.YtfpbmfalamappaaGreatDoorKAA
import Derived.Test.YtfpbmfalamappaaGreatDoorKBC
import Derived.Test.YtfpbmfalamappaaGreatDoorKAJ
import Derived.Test.YtfpbmfalamappaaGreatDoorKAI
set_option linter.unusedSimpArgs false
set_option linter.unusedVariables false
namespace Go.Proofs.YtfpbmfalamappaaGreatDoor
open Go.RowKit Go.MapKept
set_option maxRecDepth 100000
def dD (it:Int->ByteArray) (l:List Val):ByteArray:=l.foldl (fun a v=>a++it v.kind++dK++it v.int++dK++it v.text.size++dK++v.text) ⟨#[]⟩
theorem II (it:Int->ByteArray) (l:List Val) (v:Val):dD it (l++[v])=dD it l++it v.kind++dK++it v.int++dK++it v.text.size++dK++v.text:=by unfold dD;rw [List.foldl_append];rfl
structure Qe (it:Int->ByteArray) (v:Val):Prop where
 kind:Pure Tryz.prog 89 [.one (.int .i64 v.kind)] (.val (.one (.str (it v.kind))))
 int:Pure Tryz.prog 89 [.one (.int .i64 v.int)] (.val (.one (.str (it v.int))))
 len:Pure Tryz.prog 89 [.one (.int .i64 v.text.size)] (.val (.one (.str (it v.text.size))))
 s1:(it v.kind).size<=30/\0<(it v.kind).size
 s2:(it v.int).size<=30
 s3:(it v.text.size).size<=30
 s4:v.text.size<=10000000000
theorem QX (it:Int->ByteArray) (l:List Val) (h : ∀ v∈l,Qe it v):(dD it l).size<=l.length*10000000100:=by
 have key : ∀ (l:List Val) (a:ByteArray),(∀ v∈l,Qe it v)->(l.foldl (fun a v=>a++it v.kind++dK++it v.int++dK++it v.text.size++dK++v.text) a).size<=a.size+l.length*10000000100:=by
  intro l
  induction l with
  | nil=>intro a _;simp
  | cons v l ih =>
   intro a h
   have hv:=h v (by simp)
   have:=hv.s1;have:=hv.s2;have:=hv.s3;have:=hv.s4
   rw [abX]
   have h1:=ih (a++it v.kind++dK++it v.int++dK++it v.text.size++dK++v.text) fun x hx=>h x (aby _ hx)
   have hc:dK.size=1:=rfl
   simp only [ByteArray.size_append,hc] at h1
   rw [abw]
   omega
 have:=key l ⟨#[]⟩ h
 have e:(⟨#[]⟩:ByteArray).size=0:=rfl
 rw [e,abR] at this
 exact this
def oK (it:Int->ByteArray) (l:List Val) (i:Nat):List Ob:=[dV (if i=0 then .c (.nul .ptr) else (.ep 0 (111+65536) 0 0)) (5+458752*i) (dD it (l.take i)) 0,dU (5+458752*i) (dD it (l.take i))]
set_option maxHeartbeats 4000000 in
theorem UI (it:Int->ByteArray) (l:List Val) (hl:l.length<=1000) (h : ∀ v∈l,Qe it v):Pure Tryz.prog 54 [.one (bO l)] (.val (.one (.str (dD it l)))):=by
 refine pa_ aN Tryz.func54 rfl rfl Tryz.ntmps54 (by simp) ?_
 simp only [argT,PV.av,abk,abo]
 obtain ⟨inf,hinf,hiz⟩ : ∃ inf,Tryz.prog.info? 111=some inf/\inf.zero=some (.agg #[.pointer none, .slice none 0 0]):=by
  have hh:(Tryz.prog.info? 111).bind (·.zero)=some (.agg #[.pointer none, .slice none 0 0]):=by kernel_rfl
  cases hi:Tryz.prog.info? 111 with
  | none=>rw [hi] at hh;cases hh
  | some j=>rw [hi] at hh;exact ⟨j,rfl,by simpa using hh⟩
 have hc:dK.size=1:=rfl
 have he0:(⟨#[]⟩:ByteArray).size=0:=rfl
 obtain ⟨n,hn⟩ : ∃ n,l.length=n:=⟨_,rfl⟩
 repeat' (first
  | refine st_nil ?_
  | (refine cZ rfl rfl rfl rfl rfl (rP (Eb:=5) (k:=1) hinf hiz (by decide) (by decide) (by decide)) ?_)
  | refine ay rfl rfl rfl rfl ph_ ?_
  | refine az rfl rfl rfl rfl ph_ ?_
  | refine sS_ rfl rfl rfl ph_ ?_
  | refine aC rfl rfl rfl rfl ph_ ?_
  | refine aj rfl rfl rfl ?_
  | refine sk0_ rfl rfl ?_
  | (refine aM rfl (fun hb=>?_) (fun hb=>?_)<;>(first|exact (fx_ hb).elim|rw [hb]))
  | refine aw_seq ?_
  | refine aw_region aN _ rfl ?_
  | refine aw_drawn2 aF _ rfl mixed (by decide +kernel) ?_
  | (refine ah rfl (fun hb=>?_) (fun hb=>?_)<;>(try exact (fx_ hb).elim))
  | refine aw_block ?_
  | refine aw_exit ?_
  | refine aw_ret ?_
  | refine aw_skip ?_)
 refine df (fun i:Nat=>[(0, .one (.c (bO l))),(3, .one (.ep 0 (111+65536) 0 0)),(6, .one (.c (bO l))),(7, .one (.c (.int .i64 n))),(8, .one (.c (.int .i64 i)))]) (fun i=>oK it l i) (fun i=>i<=n) (fun i=>n-i) 0 (by omega) (fun _ _=>abv _)
  (fm_ ⟨rfl,rfl,rfl,aT (by simp [hn]),rfl,trivial⟩ [] rfl ⟨trivial,(by show 0<2;omega),trivial,trivial,trivial,trivial⟩ ⟨dC trivial (by show 1<2;omega),bF _ _ _,trivial⟩) ?_
 intro i hi
 have hsz:=QX it (l.take i) fun v hv=>h v (List.mem_of_mem_take hv)
 rw [abY] at hsz
 by_cases hlt2:i<n
 ·obtain ⟨v,hv⟩:=gol_ (show i<l.length by omega)
  have hk:=h v (abe hv)
  have k1:=hk.kind;have k2:=hk.int;have k3:=hk.len
  have q1:=hk.s1;have q2:=hk.s2;have q3:=hk.s3;have q4:=hk.s4
  have hsn:=II it (l.take i) v
  rw [<- bS hv] at hsn
  obtain ⟨kd,nn,tx⟩:=v
  simp only at k1 k2 k3 q1 q2 q3 q4 hsn
  generalize it kd=b1 at k1 q1 hsn
  generalize it nn=b2 at k2 q2 hsn
  generalize it tx.size=b3 at k3 q3 hsn
  by_cases hi0:i=0
  ·subst hi0
   have e0:oK it l 0=[dV (.c (.nul .ptr)) 5 ⟨#[]⟩ 0,dU 5 ⟨#[]⟩]:=rfl
   rw [e0]
   have hs0:dD it (l.take 0)=⟨#[]⟩:=rfl
   rw [hs0] at hsn
   repeat' (first
    | refine st_nil ?_
    | refine ay rfl rfl rfl rfl ph_ ?_
    | (refine aW rfl rfl rfl rfl rfl rfl rfl rfl (bg hv) ?_ ?_; · exact ⟨by omega,rfl⟩)
    | refine az rfl rfl rfl rfl ph_ ?_
    | refine sS_ rfl rfl rfl ph_ ?_
    | refine aC rfl rfl rfl rfl ph_ ?_
    | refine aj rfl rfl rfl ?_
    | refine sk0_ rfl rfl ?_
    | refine aG rfl rfl rfl rfl k1 rfl ?_
    | refine aG rfl rfl rfl rfl k2 rfl ?_
    | refine aG rfl rfl rfl rfl k3 rfl ?_
    | (refine aM rfl (fun hb=>?_) (fun hb=>?_)<;>(first|exact (fx_ hb).elim|rw [hb]))
    | refine aw_seq ?_
    | refine aw_region aN _ rfl ?_
    | refine aw_drawn2 aF _ rfl mixed (by decide +kernel) ?_
    | (refine ah rfl (fun hb=>?_) (fun hb=>?_)<;>(try exact (fx_ hb).elim))
    | refine aw_block ?_
    | refine aw_exit ?_
    | refine aw_ret ?_
    | refine aw_skip ?_)
   refine dF [0,1] rfl rfl rfl rfl (zD (5) ((⟨#[]⟩:ByteArray)) b1 (by omega) (by (try simp only [ByteArray.size_append,hc,he0]);omega) (by omega)) rfl (NQ rfl rfl rfl trivial (fun y hy=>by rcases abq.1 hy with rfl|hy<;>first|(show 0<2;omega)|(rcases abq.1 hy with rfl|hy<;>first|exact True.intro|cases hy)|cases hy)) rfl (j2 (L':=[dV (.ep 0 (111+65536) 0 0) (5+65536) ((⟨#[]⟩:ByteArray)++b1) 0,dU (5+65536) ((⟨#[]⟩:ByteArray)++b1), .box [.c (.int .i64 kd), .c (.int .i64 nn), .c (.str tx)]]) rfl) ?_
   repeat' (first
    | refine st_nil ?_
    | refine ay rfl rfl rfl rfl ph_ ?_
    | (refine aW rfl rfl rfl rfl rfl rfl rfl rfl (bg hv) ?_ ?_; · exact ⟨by omega,rfl⟩)
    | refine az rfl rfl rfl rfl ph_ ?_
    | refine sS_ rfl rfl rfl ph_ ?_
    | refine aC rfl rfl rfl rfl ph_ ?_
    | refine aj rfl rfl rfl ?_
    | refine sk0_ rfl rfl ?_
    | refine aG rfl rfl rfl rfl k1 rfl ?_
    | refine aG rfl rfl rfl rfl k2 rfl ?_
    | refine aG rfl rfl rfl rfl k3 rfl ?_
    | (refine aM rfl (fun hb=>?_) (fun hb=>?_)<;>(first|exact (fx_ hb).elim|rw [hb]))
    | refine aw_seq ?_
    | refine aw_region aN _ rfl ?_
    | refine aw_drawn2 aF _ rfl mixed (by decide +kernel) ?_
    | (refine ah rfl (fun hb=>?_) (fun hb=>?_)<;>(try exact (fx_ hb).elim))
    | refine aw_block ?_
    | refine aw_exit ?_
    | refine aw_ret ?_
    | refine aw_skip ?_)
   refine dF [0,1] rfl rfl rfl rfl (ll (5+65536) ((⟨#[]⟩:ByteArray)++b1) 58 (by omega) (by (try simp only [ByteArray.size_append,hc,he0]);omega)) rfl (NQ rfl rfl rfl (by show 0<2;omega) (fun y hy=>by rcases abq.1 hy with rfl|hy<;>first|(show 0<2;omega)|(rcases abq.1 hy with rfl|hy<;>first|exact True.intro|cases hy)|cases hy)) rfl (j2 (L':=[dV (.ep 0 (111+65536) 0 0) (5+65536+65536) ((⟨#[]⟩:ByteArray)++b1++dK) 0,dU (5+65536+65536) ((⟨#[]⟩:ByteArray)++b1++dK), .box [.c (.int .i64 kd), .c (.int .i64 nn), .c (.str tx)]]) rfl) ?_
   repeat' (first
    | refine st_nil ?_
    | refine ay rfl rfl rfl rfl ph_ ?_
    | (refine aW rfl rfl rfl rfl rfl rfl rfl rfl (bg hv) ?_ ?_; · exact ⟨by omega,rfl⟩)
    | refine az rfl rfl rfl rfl ph_ ?_
    | refine sS_ rfl rfl rfl ph_ ?_
    | refine aC rfl rfl rfl rfl ph_ ?_
    | refine aj rfl rfl rfl ?_
    | refine sk0_ rfl rfl ?_
    | refine aG rfl rfl rfl rfl k1 rfl ?_
    | refine aG rfl rfl rfl rfl k2 rfl ?_
    | refine aG rfl rfl rfl rfl k3 rfl ?_
    | (refine aM rfl (fun hb=>?_) (fun hb=>?_)<;>(first|exact (fx_ hb).elim|rw [hb]))
    | refine aw_seq ?_
    | refine aw_region aN _ rfl ?_
    | refine aw_drawn2 aF _ rfl mixed (by decide +kernel) ?_
    | (refine ah rfl (fun hb=>?_) (fun hb=>?_)<;>(try exact (fx_ hb).elim))
    | refine aw_block ?_
    | refine aw_exit ?_
    | refine aw_ret ?_
    | refine aw_skip ?_)
   refine dF [0,1] rfl rfl rfl rfl (fe (5+65536+65536) ((⟨#[]⟩:ByteArray)++b1++dK) b2 (by omega) (by (try simp only [ByteArray.size_append,hc,he0]);omega) (by omega)) rfl (NQ rfl rfl rfl (by show 0<2;omega) (fun y hy=>by rcases abq.1 hy with rfl|hy<;>first|(show 0<2;omega)|(rcases abq.1 hy with rfl|hy<;>first|exact True.intro|cases hy)|cases hy)) rfl (j2 (L':=[dV (.ep 0 (111+65536) 0 0) (5+65536+65536+65536) ((⟨#[]⟩:ByteArray)++b1++dK++b2) 0,dU (5+65536+65536+65536) ((⟨#[]⟩:ByteArray)++b1++dK++b2), .box [.c (.int .i64 kd), .c (.int .i64 nn), .c (.str tx)]]) rfl) ?_
   repeat' (first
    | refine st_nil ?_
    | refine ay rfl rfl rfl rfl ph_ ?_
    | (refine aW rfl rfl rfl rfl rfl rfl rfl rfl (bg hv) ?_ ?_; · exact ⟨by omega,rfl⟩)
    | refine az rfl rfl rfl rfl ph_ ?_
    | refine sS_ rfl rfl rfl ph_ ?_
    | refine aC rfl rfl rfl rfl ph_ ?_
    | refine aj rfl rfl rfl ?_
    | refine sk0_ rfl rfl ?_
    | refine aG rfl rfl rfl rfl k1 rfl ?_
    | refine aG rfl rfl rfl rfl k2 rfl ?_
    | refine aG rfl rfl rfl rfl k3 rfl ?_
    | (refine aM rfl (fun hb=>?_) (fun hb=>?_)<;>(first|exact (fx_ hb).elim|rw [hb]))
    | refine aw_seq ?_
    | refine aw_region aN _ rfl ?_
    | refine aw_drawn2 aF _ rfl mixed (by decide +kernel) ?_
    | (refine ah rfl (fun hb=>?_) (fun hb=>?_)<;>(try exact (fx_ hb).elim))
    | refine aw_block ?_
    | refine aw_exit ?_
    | refine aw_ret ?_
    | refine aw_skip ?_)
   refine dF [0,1] rfl rfl rfl rfl (ll (5+65536+65536+65536) ((⟨#[]⟩:ByteArray)++b1++dK++b2) 58 (by omega) (by (try simp only [ByteArray.size_append,hc,he0]);omega)) rfl (NQ rfl rfl rfl (by show 0<2;omega) (fun y hy=>by rcases abq.1 hy with rfl|hy<;>first|(show 0<2;omega)|(rcases abq.1 hy with rfl|hy<;>first|exact True.intro|cases hy)|cases hy)) rfl (j2 (L':=[dV (.ep 0 (111+65536) 0 0) (5+65536+65536+65536+65536) ((⟨#[]⟩:ByteArray)++b1++dK++b2++dK) 0,dU (5+65536+65536+65536+65536) ((⟨#[]⟩:ByteArray)++b1++dK++b2++dK), .box [.c (.int .i64 kd), .c (.int .i64 nn), .c (.str tx)]]) rfl) ?_
   repeat' (first
    | refine st_nil ?_
    | refine ay rfl rfl rfl rfl ph_ ?_
    | (refine aW rfl rfl rfl rfl rfl rfl rfl rfl (bg hv) ?_ ?_; · exact ⟨by omega,rfl⟩)
    | refine az rfl rfl rfl rfl ph_ ?_
    | refine sS_ rfl rfl rfl ph_ ?_
    | refine aC rfl rfl rfl rfl ph_ ?_
    | refine aj rfl rfl rfl ?_
    | refine sk0_ rfl rfl ?_
    | refine aG rfl rfl rfl rfl k1 rfl ?_
    | refine aG rfl rfl rfl rfl k2 rfl ?_
    | refine aG rfl rfl rfl rfl k3 rfl ?_
    | (refine aM rfl (fun hb=>?_) (fun hb=>?_)<;>(first|exact (fx_ hb).elim|rw [hb]))
    | refine aw_seq ?_
    | refine aw_region aN _ rfl ?_
    | refine aw_drawn2 aF _ rfl mixed (by decide +kernel) ?_
    | (refine ah rfl (fun hb=>?_) (fun hb=>?_)<;>(try exact (fx_ hb).elim))
    | refine aw_block ?_
    | refine aw_exit ?_
    | refine aw_ret ?_
    | refine aw_skip ?_)
   refine dF [0,1] rfl rfl rfl rfl (fe (5+65536+65536+65536+65536) ((⟨#[]⟩:ByteArray)++b1++dK++b2++dK) b3 (by omega) (by (try simp only [ByteArray.size_append,hc,he0]);omega) (by omega)) rfl (NQ rfl rfl rfl (by show 0<2;omega) (fun y hy=>by rcases abq.1 hy with rfl|hy<;>first|(show 0<2;omega)|(rcases abq.1 hy with rfl|hy<;>first|exact True.intro|cases hy)|cases hy)) rfl (j2 (L':=[dV (.ep 0 (111+65536) 0 0) (5+65536+65536+65536+65536+65536) ((⟨#[]⟩:ByteArray)++b1++dK++b2++dK++b3) 0,dU (5+65536+65536+65536+65536+65536) ((⟨#[]⟩:ByteArray)++b1++dK++b2++dK++b3), .box [.c (.int .i64 kd), .c (.int .i64 nn), .c (.str tx)]]) rfl) ?_
   repeat' (first
    | refine st_nil ?_
    | refine ay rfl rfl rfl rfl ph_ ?_
    | (refine aW rfl rfl rfl rfl rfl rfl rfl rfl (bg hv) ?_ ?_; · exact ⟨by omega,rfl⟩)
    | refine az rfl rfl rfl rfl ph_ ?_
    | refine sS_ rfl rfl rfl ph_ ?_
    | refine aC rfl rfl rfl rfl ph_ ?_
    | refine aj rfl rfl rfl ?_
    | refine sk0_ rfl rfl ?_
    | refine aG rfl rfl rfl rfl k1 rfl ?_
    | refine aG rfl rfl rfl rfl k2 rfl ?_
    | refine aG rfl rfl rfl rfl k3 rfl ?_
    | (refine aM rfl (fun hb=>?_) (fun hb=>?_)<;>(first|exact (fx_ hb).elim|rw [hb]))
    | refine aw_seq ?_
    | refine aw_region aN _ rfl ?_
    | refine aw_drawn2 aF _ rfl mixed (by decide +kernel) ?_
    | (refine ah rfl (fun hb=>?_) (fun hb=>?_)<;>(try exact (fx_ hb).elim))
    | refine aw_block ?_
    | refine aw_exit ?_
    | refine aw_ret ?_
    | refine aw_skip ?_)
   refine dF [0,1] rfl rfl rfl rfl (ll (5+65536+65536+65536+65536+65536) ((⟨#[]⟩:ByteArray)++b1++dK++b2++dK++b3) 58 (by omega) (by (try simp only [ByteArray.size_append,hc,he0]);omega)) rfl (NQ rfl rfl rfl (by show 0<2;omega) (fun y hy=>by rcases abq.1 hy with rfl|hy<;>first|(show 0<2;omega)|(rcases abq.1 hy with rfl|hy<;>first|exact True.intro|cases hy)|cases hy)) rfl (j2 (L':=[dV (.ep 0 (111+65536) 0 0) (5+65536+65536+65536+65536+65536+65536) ((⟨#[]⟩:ByteArray)++b1++dK++b2++dK++b3++dK) 0,dU (5+65536+65536+65536+65536+65536+65536) ((⟨#[]⟩:ByteArray)++b1++dK++b2++dK++b3++dK), .box [.c (.int .i64 kd), .c (.int .i64 nn), .c (.str tx)]]) rfl) ?_
   repeat' (first
    | refine st_nil ?_
    | refine ay rfl rfl rfl rfl ph_ ?_
    | (refine aW rfl rfl rfl rfl rfl rfl rfl rfl (bg hv) ?_ ?_; · exact ⟨by omega,rfl⟩)
    | refine az rfl rfl rfl rfl ph_ ?_
    | refine sS_ rfl rfl rfl ph_ ?_
    | refine aC rfl rfl rfl rfl ph_ ?_
    | refine aj rfl rfl rfl ?_
    | refine sk0_ rfl rfl ?_
    | refine aG rfl rfl rfl rfl k1 rfl ?_
    | refine aG rfl rfl rfl rfl k2 rfl ?_
    | refine aG rfl rfl rfl rfl k3 rfl ?_
    | (refine aM rfl (fun hb=>?_) (fun hb=>?_)<;>(first|exact (fx_ hb).elim|rw [hb]))
    | refine aw_seq ?_
    | refine aw_region aN _ rfl ?_
    | refine aw_drawn2 aF _ rfl mixed (by decide +kernel) ?_
    | (refine ah rfl (fun hb=>?_) (fun hb=>?_)<;>(try exact (fx_ hb).elim))
    | refine aw_block ?_
    | refine aw_exit ?_
    | refine aw_ret ?_
    | refine aw_skip ?_)
   refine dF [0,1] rfl rfl rfl rfl (fe (5+65536+65536+65536+65536+65536+65536) ((⟨#[]⟩:ByteArray)++b1++dK++b2++dK++b3++dK) tx (by omega) (by (try simp only [ByteArray.size_append,hc,he0]);omega) (by omega)) rfl (NQ rfl rfl rfl (by show 0<2;omega) (fun y hy=>by rcases abq.1 hy with rfl|hy<;>first|(show 0<2;omega)|(rcases abq.1 hy with rfl|hy<;>first|exact True.intro|cases hy)|cases hy)) rfl (j2 (L':=[dV (.ep 0 (111+65536) 0 0) (5+65536+65536+65536+65536+65536+65536+65536) ((⟨#[]⟩:ByteArray)++b1++dK++b2++dK++b3++dK++tx) 0,dU (5+65536+65536+65536+65536+65536+65536+65536) ((⟨#[]⟩:ByteArray)++b1++dK++b2++dK++b3++dK++tx), .box [.c (.int .i64 kd), .c (.int .i64 nn), .c (.str tx)]]) rfl) ?_
   repeat' (first
    | refine st_nil ?_
    | refine ay rfl rfl rfl rfl ph_ ?_
    | (refine aW rfl rfl rfl rfl rfl rfl rfl rfl (bg hv) ?_ ?_; · exact ⟨by omega,rfl⟩)
    | refine az rfl rfl rfl rfl ph_ ?_
    | refine sS_ rfl rfl rfl ph_ ?_
    | refine aC rfl rfl rfl rfl ph_ ?_
    | refine aj rfl rfl rfl ?_
    | refine sk0_ rfl rfl ?_
    | refine aG rfl rfl rfl rfl k1 rfl ?_
    | refine aG rfl rfl rfl rfl k2 rfl ?_
    | refine aG rfl rfl rfl rfl k3 rfl ?_
    | (refine aM rfl (fun hb=>?_) (fun hb=>?_)<;>(first|exact (fx_ hb).elim|rw [hb]))
    | refine aw_seq ?_
    | refine aw_region aN _ rfl ?_
    | refine aw_drawn2 aF _ rfl mixed (by decide +kernel) ?_
    | (refine ah rfl (fun hb=>?_) (fun hb=>?_)<;>(try exact (fx_ hb).elim))
    | refine aw_block ?_
    | refine aw_exit ?_
    | refine aw_ret ?_
    | refine aw_skip ?_)
   have eL:oK it l (0+1)=[dV (.ep 0 (111+65536) 0 0) (5+65536+65536+65536+65536+65536+65536+65536) ((⟨#[]⟩:ByteArray)++b1++dK++b2++dK++b3++dK++tx) 0,dU (5+65536+65536+65536+65536+65536+65536+65536) ((⟨#[]⟩:ByteArray)++b1++dK++b2++dK++b3++dK++tx)]:=by unfold oK;rw [if_neg (by omega),hsn,show 5+458752*(0+1)=5+65536+65536+65536+65536+65536+65536+65536 by omega]
   exact ⟨0+1,by omega,by omega,fm_ ⟨rfl,rfl,rfl,rfl,aT (bu (by omega) (by omega)),trivial⟩ [.box [.c (.int .i64 kd), .c (.int .i64 nn), .c (.str tx)]] (by rw [eL];rfl) ⟨trivial,(by show 0<2;omega),trivial,trivial,trivial,trivial⟩ (by rw [eL];exact ⟨dC (by show 0<2;omega) (by show 1<2;omega),bF _ _ _,trivial⟩)⟩
  ·have e1:oK it l i=[dV (.ep 0 (111+65536) 0 0) (5+458752*i) (dD it (l.take i)) 0,dU (5+458752*i) (dD it (l.take i))]:=by unfold oK;rw [if_neg hi0]
   rw [e1]
   generalize dD it (l.take i)=s0 at hsz hsn
   have hu:(5+458752*i)%65536=5:=by omega
   generalize hue:5+458752*i=u0 at hu
   repeat' (first
    | refine st_nil ?_
    | refine ay rfl rfl rfl rfl ph_ ?_
    | (refine aW rfl rfl rfl rfl rfl rfl rfl rfl (bg hv) ?_ ?_; · exact ⟨by omega,rfl⟩)
    | refine az rfl rfl rfl rfl ph_ ?_
    | refine sS_ rfl rfl rfl ph_ ?_
    | refine aC rfl rfl rfl rfl ph_ ?_
    | refine aj rfl rfl rfl ?_
    | refine sk0_ rfl rfl ?_
    | refine aG rfl rfl rfl rfl k1 rfl ?_
    | refine aG rfl rfl rfl rfl k2 rfl ?_
    | refine aG rfl rfl rfl rfl k3 rfl ?_
    | (refine aM rfl (fun hb=>?_) (fun hb=>?_)<;>(first|exact (fx_ hb).elim|rw [hb]))
    | refine aw_seq ?_
    | refine aw_region aN _ rfl ?_
    | refine aw_drawn2 aF _ rfl mixed (by decide +kernel) ?_
    | (refine ah rfl (fun hb=>?_) (fun hb=>?_)<;>(try exact (fx_ hb).elim))
    | refine aw_block ?_
    | refine aw_exit ?_
    | refine aw_ret ?_
    | refine aw_skip ?_)
   refine dF [0,1] rfl rfl rfl rfl (fe (u0) (s0) b1 (by omega) (by (try simp only [ByteArray.size_append,hc,he0]);omega) (by omega)) rfl (NQ rfl rfl rfl (by show 0<2;omega) (fun y hy=>by rcases abq.1 hy with rfl|hy<;>first|(show 0<2;omega)|(rcases abq.1 hy with rfl|hy<;>first|exact True.intro|cases hy)|cases hy)) rfl (j2 (L':=[dV (.ep 0 (111+65536) 0 0) (u0+65536) (s0++b1) 0,dU (u0+65536) (s0++b1), .box [.c (.int .i64 kd), .c (.int .i64 nn), .c (.str tx)]]) rfl) ?_
   repeat' (first
    | refine st_nil ?_
    | refine ay rfl rfl rfl rfl ph_ ?_
    | (refine aW rfl rfl rfl rfl rfl rfl rfl rfl (bg hv) ?_ ?_; · exact ⟨by omega,rfl⟩)
    | refine az rfl rfl rfl rfl ph_ ?_
    | refine sS_ rfl rfl rfl ph_ ?_
    | refine aC rfl rfl rfl rfl ph_ ?_
    | refine aj rfl rfl rfl ?_
    | refine sk0_ rfl rfl ?_
    | refine aG rfl rfl rfl rfl k1 rfl ?_
    | refine aG rfl rfl rfl rfl k2 rfl ?_
    | refine aG rfl rfl rfl rfl k3 rfl ?_
    | (refine aM rfl (fun hb=>?_) (fun hb=>?_)<;>(first|exact (fx_ hb).elim|rw [hb]))
    | refine aw_seq ?_
    | refine aw_region aN _ rfl ?_
    | refine aw_drawn2 aF _ rfl mixed (by decide +kernel) ?_
    | (refine ah rfl (fun hb=>?_) (fun hb=>?_)<;>(try exact (fx_ hb).elim))
    | refine aw_block ?_
    | refine aw_exit ?_
    | refine aw_ret ?_
    | refine aw_skip ?_)
   refine dF [0,1] rfl rfl rfl rfl (ll (u0+65536) (s0++b1) 58 (by omega) (by (try simp only [ByteArray.size_append,hc,he0]);omega)) rfl (NQ rfl rfl rfl (by show 0<2;omega) (fun y hy=>by rcases abq.1 hy with rfl|hy<;>first|(show 0<2;omega)|(rcases abq.1 hy with rfl|hy<;>first|exact True.intro|cases hy)|cases hy)) rfl (j2 (L':=[dV (.ep 0 (111+65536) 0 0) (u0+65536+65536) (s0++b1++dK) 0,dU (u0+65536+65536) (s0++b1++dK), .box [.c (.int .i64 kd), .c (.int .i64 nn), .c (.str tx)]]) rfl) ?_
   repeat' (first
    | refine st_nil ?_
    | refine ay rfl rfl rfl rfl ph_ ?_
    | (refine aW rfl rfl rfl rfl rfl rfl rfl rfl (bg hv) ?_ ?_; · exact ⟨by omega,rfl⟩)
    | refine az rfl rfl rfl rfl ph_ ?_
    | refine sS_ rfl rfl rfl ph_ ?_
    | refine aC rfl rfl rfl rfl ph_ ?_
    | refine aj rfl rfl rfl ?_
    | refine sk0_ rfl rfl ?_
    | refine aG rfl rfl rfl rfl k1 rfl ?_
    | refine aG rfl rfl rfl rfl k2 rfl ?_
    | refine aG rfl rfl rfl rfl k3 rfl ?_
    | (refine aM rfl (fun hb=>?_) (fun hb=>?_)<;>(first|exact (fx_ hb).elim|rw [hb]))
    | refine aw_seq ?_
    | refine aw_region aN _ rfl ?_
    | refine aw_drawn2 aF _ rfl mixed (by decide +kernel) ?_
    | (refine ah rfl (fun hb=>?_) (fun hb=>?_)<;>(try exact (fx_ hb).elim))
    | refine aw_block ?_
    | refine aw_exit ?_
    | refine aw_ret ?_
    | refine aw_skip ?_)
   refine dF [0,1] rfl rfl rfl rfl (fe (u0+65536+65536) (s0++b1++dK) b2 (by omega) (by (try simp only [ByteArray.size_append,hc,he0]);omega) (by omega)) rfl (NQ rfl rfl rfl (by show 0<2;omega) (fun y hy=>by rcases abq.1 hy with rfl|hy<;>first|(show 0<2;omega)|(rcases abq.1 hy with rfl|hy<;>first|exact True.intro|cases hy)|cases hy)) rfl (j2 (L':=[dV (.ep 0 (111+65536) 0 0) (u0+65536+65536+65536) (s0++b1++dK++b2) 0,dU (u0+65536+65536+65536) (s0++b1++dK++b2), .box [.c (.int .i64 kd), .c (.int .i64 nn), .c (.str tx)]]) rfl) ?_
   repeat' (first
    | refine st_nil ?_
    | refine ay rfl rfl rfl rfl ph_ ?_
    | (refine aW rfl rfl rfl rfl rfl rfl rfl rfl (bg hv) ?_ ?_; · exact ⟨by omega,rfl⟩)
    | refine az rfl rfl rfl rfl ph_ ?_
    | refine sS_ rfl rfl rfl ph_ ?_
    | refine aC rfl rfl rfl rfl ph_ ?_
    | refine aj rfl rfl rfl ?_
    | refine sk0_ rfl rfl ?_
    | refine aG rfl rfl rfl rfl k1 rfl ?_
    | refine aG rfl rfl rfl rfl k2 rfl ?_
    | refine aG rfl rfl rfl rfl k3 rfl ?_
    | (refine aM rfl (fun hb=>?_) (fun hb=>?_)<;>(first|exact (fx_ hb).elim|rw [hb]))
    | refine aw_seq ?_
    | refine aw_region aN _ rfl ?_
    | refine aw_drawn2 aF _ rfl mixed (by decide +kernel) ?_
    | (refine ah rfl (fun hb=>?_) (fun hb=>?_)<;>(try exact (fx_ hb).elim))
    | refine aw_block ?_
    | refine aw_exit ?_
    | refine aw_ret ?_
    | refine aw_skip ?_)
   refine dF [0,1] rfl rfl rfl rfl (ll (u0+65536+65536+65536) (s0++b1++dK++b2) 58 (by omega) (by (try simp only [ByteArray.size_append,hc,he0]);omega)) rfl (NQ rfl rfl rfl (by show 0<2;omega) (fun y hy=>by rcases abq.1 hy with rfl|hy<;>first|(show 0<2;omega)|(rcases abq.1 hy with rfl|hy<;>first|exact True.intro|cases hy)|cases hy)) rfl (j2 (L':=[dV (.ep 0 (111+65536) 0 0) (u0+65536+65536+65536+65536) (s0++b1++dK++b2++dK) 0,dU (u0+65536+65536+65536+65536) (s0++b1++dK++b2++dK), .box [.c (.int .i64 kd), .c (.int .i64 nn), .c (.str tx)]]) rfl) ?_
   repeat' (first
    | refine st_nil ?_
    | refine ay rfl rfl rfl rfl ph_ ?_
    | (refine aW rfl rfl rfl rfl rfl rfl rfl rfl (bg hv) ?_ ?_; · exact ⟨by omega,rfl⟩)
    | refine az rfl rfl rfl rfl ph_ ?_
    | refine sS_ rfl rfl rfl ph_ ?_
    | refine aC rfl rfl rfl rfl ph_ ?_
    | refine aj rfl rfl rfl ?_
    | refine sk0_ rfl rfl ?_
    | refine aG rfl rfl rfl rfl k1 rfl ?_
    | refine aG rfl rfl rfl rfl k2 rfl ?_
    | refine aG rfl rfl rfl rfl k3 rfl ?_
    | (refine aM rfl (fun hb=>?_) (fun hb=>?_)<;>(first|exact (fx_ hb).elim|rw [hb]))
    | refine aw_seq ?_
    | refine aw_region aN _ rfl ?_
    | refine aw_drawn2 aF _ rfl mixed (by decide +kernel) ?_
    | (refine ah rfl (fun hb=>?_) (fun hb=>?_)<;>(try exact (fx_ hb).elim))
    | refine aw_block ?_
    | refine aw_exit ?_
    | refine aw_ret ?_
    | refine aw_skip ?_)
   refine dF [0,1] rfl rfl rfl rfl (fe (u0+65536+65536+65536+65536) (s0++b1++dK++b2++dK) b3 (by omega) (by (try simp only [ByteArray.size_append,hc,he0]);omega) (by omega)) rfl (NQ rfl rfl rfl (by show 0<2;omega) (fun y hy=>by rcases abq.1 hy with rfl|hy<;>first|(show 0<2;omega)|(rcases abq.1 hy with rfl|hy<;>first|exact True.intro|cases hy)|cases hy)) rfl (j2 (L':=[dV (.ep 0 (111+65536) 0 0) (u0+65536+65536+65536+65536+65536) (s0++b1++dK++b2++dK++b3) 0,dU (u0+65536+65536+65536+65536+65536) (s0++b1++dK++b2++dK++b3), .box [.c (.int .i64 kd), .c (.int .i64 nn), .c (.str tx)]]) rfl) ?_
   repeat' (first
    | refine st_nil ?_
    | refine ay rfl rfl rfl rfl ph_ ?_
    | (refine aW rfl rfl rfl rfl rfl rfl rfl rfl (bg hv) ?_ ?_; · exact ⟨by omega,rfl⟩)
    | refine az rfl rfl rfl rfl ph_ ?_
    | refine sS_ rfl rfl rfl ph_ ?_
    | refine aC rfl rfl rfl rfl ph_ ?_
    | refine aj rfl rfl rfl ?_
    | refine sk0_ rfl rfl ?_
    | refine aG rfl rfl rfl rfl k1 rfl ?_
    | refine aG rfl rfl rfl rfl k2 rfl ?_
    | refine aG rfl rfl rfl rfl k3 rfl ?_
    | (refine aM rfl (fun hb=>?_) (fun hb=>?_)<;>(first|exact (fx_ hb).elim|rw [hb]))
    | refine aw_seq ?_
    | refine aw_region aN _ rfl ?_
    | refine aw_drawn2 aF _ rfl mixed (by decide +kernel) ?_
    | (refine ah rfl (fun hb=>?_) (fun hb=>?_)<;>(try exact (fx_ hb).elim))
    | refine aw_block ?_
    | refine aw_exit ?_
    | refine aw_ret ?_
    | refine aw_skip ?_)
   refine dF [0,1] rfl rfl rfl rfl (ll (u0+65536+65536+65536+65536+65536) (s0++b1++dK++b2++dK++b3) 58 (by omega) (by (try simp only [ByteArray.size_append,hc,he0]);omega)) rfl (NQ rfl rfl rfl (by show 0<2;omega) (fun y hy=>by rcases abq.1 hy with rfl|hy<;>first|(show 0<2;omega)|(rcases abq.1 hy with rfl|hy<;>first|exact True.intro|cases hy)|cases hy)) rfl (j2 (L':=[dV (.ep 0 (111+65536) 0 0) (u0+65536+65536+65536+65536+65536+65536) (s0++b1++dK++b2++dK++b3++dK) 0,dU (u0+65536+65536+65536+65536+65536+65536) (s0++b1++dK++b2++dK++b3++dK), .box [.c (.int .i64 kd), .c (.int .i64 nn), .c (.str tx)]]) rfl) ?_
   repeat' (first
    | refine st_nil ?_
    | refine ay rfl rfl rfl rfl ph_ ?_
    | (refine aW rfl rfl rfl rfl rfl rfl rfl rfl (bg hv) ?_ ?_; · exact ⟨by omega,rfl⟩)
    | refine az rfl rfl rfl rfl ph_ ?_
    | refine sS_ rfl rfl rfl ph_ ?_
    | refine aC rfl rfl rfl rfl ph_ ?_
    | refine aj rfl rfl rfl ?_
    | refine sk0_ rfl rfl ?_
    | refine aG rfl rfl rfl rfl k1 rfl ?_
    | refine aG rfl rfl rfl rfl k2 rfl ?_
    | refine aG rfl rfl rfl rfl k3 rfl ?_
    | (refine aM rfl (fun hb=>?_) (fun hb=>?_)<;>(first|exact (fx_ hb).elim|rw [hb]))
    | refine aw_seq ?_
    | refine aw_region aN _ rfl ?_
    | refine aw_drawn2 aF _ rfl mixed (by decide +kernel) ?_
    | (refine ah rfl (fun hb=>?_) (fun hb=>?_)<;>(try exact (fx_ hb).elim))
    | refine aw_block ?_
    | refine aw_exit ?_
    | refine aw_ret ?_
    | refine aw_skip ?_)
   refine dF [0,1] rfl rfl rfl rfl (fe (u0+65536+65536+65536+65536+65536+65536) (s0++b1++dK++b2++dK++b3++dK) tx (by omega) (by (try simp only [ByteArray.size_append,hc,he0]);omega) (by omega)) rfl (NQ rfl rfl rfl (by show 0<2;omega) (fun y hy=>by rcases abq.1 hy with rfl|hy<;>first|(show 0<2;omega)|(rcases abq.1 hy with rfl|hy<;>first|exact True.intro|cases hy)|cases hy)) rfl (j2 (L':=[dV (.ep 0 (111+65536) 0 0) (u0+65536+65536+65536+65536+65536+65536+65536) (s0++b1++dK++b2++dK++b3++dK++tx) 0,dU (u0+65536+65536+65536+65536+65536+65536+65536) (s0++b1++dK++b2++dK++b3++dK++tx), .box [.c (.int .i64 kd), .c (.int .i64 nn), .c (.str tx)]]) rfl) ?_
   repeat' (first
    | refine st_nil ?_
    | refine ay rfl rfl rfl rfl ph_ ?_
    | (refine aW rfl rfl rfl rfl rfl rfl rfl rfl (bg hv) ?_ ?_; · exact ⟨by omega,rfl⟩)
    | refine az rfl rfl rfl rfl ph_ ?_
    | refine sS_ rfl rfl rfl ph_ ?_
    | refine aC rfl rfl rfl rfl ph_ ?_
    | refine aj rfl rfl rfl ?_
    | refine sk0_ rfl rfl ?_
    | refine aG rfl rfl rfl rfl k1 rfl ?_
    | refine aG rfl rfl rfl rfl k2 rfl ?_
    | refine aG rfl rfl rfl rfl k3 rfl ?_
    | (refine aM rfl (fun hb=>?_) (fun hb=>?_)<;>(first|exact (fx_ hb).elim|rw [hb]))
    | refine aw_seq ?_
    | refine aw_region aN _ rfl ?_
    | refine aw_drawn2 aF _ rfl mixed (by decide +kernel) ?_
    | (refine ah rfl (fun hb=>?_) (fun hb=>?_)<;>(try exact (fx_ hb).elim))
    | refine aw_block ?_
    | refine aw_exit ?_
    | refine aw_ret ?_
    | refine aw_skip ?_)
   have eL:oK it l (i+1)=[dV (.ep 0 (111+65536) 0 0) (u0+65536+65536+65536+65536+65536+65536+65536) (s0++b1++dK++b2++dK++b3++dK++tx) 0,dU (u0+65536+65536+65536+65536+65536+65536+65536) (s0++b1++dK++b2++dK++b3++dK++tx)]:=by unfold oK;rw [if_neg (by omega),hsn,show 5+458752*(i+1)=u0+65536+65536+65536+65536+65536+65536+65536 by omega]
   exact ⟨i+1,by omega,by omega,fm_ ⟨rfl,rfl,rfl,rfl,aT (bu (by omega) (by omega)),trivial⟩ [.box [.c (.int .i64 kd), .c (.int .i64 nn), .c (.str tx)]] (by rw [eL];rfl) ⟨trivial,(by show 0<2;omega),trivial,trivial,trivial,trivial⟩ (by rw [eL];exact ⟨dC (by show 0<2;omega) (by show 1<2;omega),bF _ _ _,trivial⟩)⟩
 ·have hi2:i=l.length:=by omega
  have htk:l.take i=l:=by rw [hi2,List.take_length]
  by_cases hi0:i=0
  ·subst hi0
   have hnil:l=[]:=abA hi2.symm
   subst hnil
   have e0:oK it [] 0=[dV (.c (.nul .ptr)) 5 ⟨#[]⟩ 0,dU 5 ⟨#[]⟩]:=rfl
   rw [e0]
   repeat' (first
    | refine st_nil ?_
    | refine ay rfl rfl rfl rfl ph_ ?_
    | refine az rfl rfl rfl rfl ph_ ?_
    | refine sS_ rfl rfl rfl ph_ ?_
    | refine aC rfl rfl rfl rfl ph_ ?_
    | refine aj rfl rfl rfl ?_
    | refine sk0_ rfl rfl ?_
    | (refine aM rfl (fun hb=>?_) (fun hb=>?_)<;>(first|exact (fx_ hb).elim|rw [hb]))
    | refine aw_seq ?_
    | refine aw_region aN _ rfl ?_
    | refine aw_drawn2 aF _ rfl mixed (by decide +kernel) ?_
    | (refine ah rfl (fun hb=>?_) (fun hb=>?_)<;>(try exact (fx_ hb).elim))
    | refine aw_block ?_
    | refine aw_exit ?_
    | refine aw_ret ?_
    | refine aw_skip ?_)
   refine dF [0,1] rfl rfl rfl rfl VN rfl (NQ rfl rfl rfl True.intro (fun y hy=>by rcases abq.1 hy with rfl|hy<;>first|(show 0<2;omega)|(rcases abq.1 hy with rfl|hy<;>first|exact True.intro|cases hy)|cases hy)) rfl (EN rfl (iH _ _ _) (L':=[dV (.c (.nul .ptr)) 5 ⟨#[]⟩ 0,dU 5 ⟨#[]⟩]) rfl) ?_
   repeat' (first
    | refine st_nil ?_
    | refine ay rfl rfl rfl rfl ph_ ?_
    | refine az rfl rfl rfl rfl ph_ ?_
    | refine sS_ rfl rfl rfl ph_ ?_
    | refine aC rfl rfl rfl rfl ph_ ?_
    | refine aj rfl rfl rfl ?_
    | refine sk0_ rfl rfl ?_
    | (refine aM rfl (fun hb=>?_) (fun hb=>?_)<;>(first|exact (fx_ hb).elim|rw [hb]))
    | refine aw_seq ?_
    | refine aw_region aN _ rfl ?_
    | refine aw_drawn2 aF _ rfl mixed (by decide +kernel) ?_
    | (refine ah rfl (fun hb=>?_) (fun hb=>?_)<;>(try exact (fx_ hb).elim))
    | refine aw_block ?_
    | refine aw_exit ?_
    | refine aw_ret ?_
    | refine aw_skip ?_)
   exact aO (aR rfl (by trivial) rfl)
  ·have e1:oK it l i=[dV (.ep 0 (111+65536) 0 0) (5+458752*i) (dD it l) 0,dU (5+458752*i) (dD it l)]:=by unfold oK;rw [if_neg hi0,htk]
   rw [e1]
   rw [htk] at hsz
   have hu:(5+458752*i)%65536=5:=by omega
   generalize 5+458752*i=u0 at hu
   have hpos:0<(dD it l).size:=by
    obtain ⟨v,hv⟩:=gol_ (show i-1<l.length by omega)
    have hsn:=II it (l.take (i-1)) v
    rw [<- bS hv,show i-1+1=i by omega,htk] at hsn
    have:=(h v (abe hv)).s1
    rw [hsn];simp only [ByteArray.size_append];omega
   generalize dD it l=s0 at hsz hpos
   repeat' (first
    | refine st_nil ?_
    | refine ay rfl rfl rfl rfl ph_ ?_
    | refine az rfl rfl rfl rfl ph_ ?_
    | refine sS_ rfl rfl rfl ph_ ?_
    | refine aC rfl rfl rfl rfl ph_ ?_
    | refine aj rfl rfl rfl ?_
    | refine sk0_ rfl rfl ?_
    | (refine aM rfl (fun hb=>?_) (fun hb=>?_)<;>(first|exact (fx_ hb).elim|rw [hb]))
    | refine aw_seq ?_
    | refine aw_region aN _ rfl ?_
    | refine aw_drawn2 aF _ rfl mixed (by decide +kernel) ?_
    | (refine ah rfl (fun hb=>?_) (fun hb=>?_)<;>(try exact (fx_ hb).elim))
    | refine aw_block ?_
    | refine aw_exit ?_
    | refine aw_ret ?_
    | refine aw_skip ?_)
   refine dF [0,1] rfl rfl rfl rfl (Wi u0 s0 hu hpos (by omega)) rfl (NQ rfl rfl rfl (by show 0<2;omega) (fun y hy=>by rcases abq.1 hy with rfl|hy<;>first|(show 0<2;omega)|(rcases abq.1 hy with rfl|hy<;>first|exact True.intro|cases hy)|cases hy)) rfl (EN rfl rfl (L':=[dV (.ep 0 (111+65536) 0 0) u0 s0 0, .dead]) rfl) ?_
   repeat' (first
    | refine st_nil ?_
    | refine ay rfl rfl rfl rfl ph_ ?_
    | refine az rfl rfl rfl rfl ph_ ?_
    | refine sS_ rfl rfl rfl ph_ ?_
    | refine aC rfl rfl rfl rfl ph_ ?_
    | refine aj rfl rfl rfl ?_
    | refine sk0_ rfl rfl ?_
    | (refine aM rfl (fun hb=>?_) (fun hb=>?_)<;>(first|exact (fx_ hb).elim|rw [hb]))
    | refine aw_seq ?_
    | refine aw_region aN _ rfl ?_
    | refine aw_drawn2 aF _ rfl mixed (by decide +kernel) ?_
    | (refine ah rfl (fun hb=>?_) (fun hb=>?_)<;>(try exact (fx_ hb).elim))
    | refine aw_block ?_
    | refine aw_exit ?_
    | refine aw_ret ?_
    | refine aw_skip ?_)
   exact aO (aR rfl (by trivial) rfl)
theorem SY {v:Val} (h:Uj v):Qe dG v:=by
 obtain ⟨⟨a,b⟩,⟨c,d⟩,e⟩:=h
 exact ⟨BX _ a b,BX _ c d,BX _ (by omega) (by omega),tQ _ a b,(tQ _ c d).1,(tQ _ (by omega) (by omega)).1,e⟩
theorem xE (l:List Val) (hl:l.length<=1000) (h : ∀ v∈l,Uj v):Pure Tryz.prog 54 [.one (bO l)] (.val (.one (.str (eX l)))):=UI dG l hl fun v hv=>SY (h v hv)
def YN:TI := { TV with dyn:=true }
theorem dP:TIok Tryz.prog YN:=⟨au.size,au.agg,au.elem,au.field,au.zero,au.bytes,au.kind,au.struct,au.zok,au.eqs⟩
def Zq:TI := { YN with soft:=true }
theorem jh:TIok Tryz.prog Zq:=⟨au.size,au.agg,au.elem,au.field,au.zero,au.bytes,au.kind,au.struct,au.zok,au.eqs⟩
set_option maxHeartbeats 8000000
instance vokDec (v : Val) : Decidable (Uj v) := by unfold Uj; infer_instance
def Ya (r:List Val):Bool:=decide (r.length<=1000)&&r.all fun v=>decide (Uj v)
def C_ (l:List (List Val)):Bool:=decide (l.length<=1000000)&&l.all Ya
theorem GI {l:List (List Val)} (h:C_ l=true):l.length<=1000000 /\ ∀ r∈l,r.length<=1000 /\ ∀ v∈r,Uj v:=by
 unfold C_ at h
 rw [abr] at h
 refine ⟨abD h.1,fun r hr=>?_⟩
 have h2:=abW.1 h.2 r hr
 unfold Ya at h2
 rw [abr] at h2
 exact ⟨abD h2.1,fun v hv=>abD (abW.1 h2.2 v hv)⟩
theorem TH {l:List (List Val)} (h:l.length<=1000000) (h2 : ∀ r∈l,r.length<=1000 /\ ∀ v∈r,Uj v):C_ l=true:=by
 unfold C_
 rw [abr]
 refine ⟨abb h,abW.2 fun r hr=>?_⟩
 unfold Ya
 rw [abr]
 exact ⟨abb (h2 r hr).1,abW.2 fun v hv=>abb ((h2 r hr).2 v hv)⟩
def gDistinctS (b:Bag):Option Bag:=bif C_ b.rows then mI b.kinds (dst b.rows).O else none
theorem v_ {n:Nat} {x y:AC} : (Ob.box [.c x, .c y]).below n:=by
 intro w hw
 rcases abq.1 hw with rfl|hw
 ·trivial
 rcases abq.1 hw with rfl|hw
 ·trivial
 ·cases hw
theorem uK {n:Nat} : (Ob.box [.emp, .emp]).below n:=by
 intro w hw
 rcases abq.1 hw with rfl|hw
 ·trivial
 rcases abq.1 hw with rfl|hw
 ·trivial
 ·cases hw
theorem gDistinctS_ok {b r:Bag} (H:gDistinctS b=some r):Pure Tryz.prog 38 [.agg (cBag b)] (.val (.agg (cBag r))):=by
 unfold gDistinctS at H
 obtain ⟨g,H⟩:=nP H
 obtain ⟨hl,hk⟩:=GI g
 have hbag:=mq H
 obtain ⟨kinds,l⟩:=b
 simp only at hl hk hbag
 obtain ⟨n,hn⟩ : ∃ n,l.length=n:=⟨_,rfl⟩
 refine pa_ dP Tryz.func38 rfl rfl Tryz.ntmps38 (by simp) ?_
 simp only [argT,PV.av,abk,abo]
 repeat' (first
  | refine st_nil ?_
  | refine ay rfl rfl rfl rfl ph_ ?_
  | refine az rfl rfl rfl rfl ph_ ?_
  | refine sS_ rfl rfl rfl ph_ ?_
  | refine aC rfl rfl rfl rfl ph_ ?_
  | refine aj rfl rfl rfl ?_
  | refine sk0_ rfl rfl ?_
  | (refine aM rfl (fun hb=>?_) (fun hb=>?_)<;>(first|exact (fx_ hb).elim|rw [hb]))
  | refine aw_seq ?_
  | refine aw_region dP _ rfl ?_
  | refine aw_drawn2 jh _ rfl mixed (by decide +kernel) ?_
  | (refine ah rfl (fun hb=>?_) (fun hb=>?_)<;>(try exact (fx_ hb).elim))
  | refine aw_block ?_
  | refine aw_exit ?_
  | refine aw_ret ?_
  | refine aw_skip ?_
  | (refine cZ rfl rfl rfl rfl rfl jZ ?_))
 refine dh 4 1 rfl ?_
 refine df (fun i:Nat=>[(1, .one (.ptr 0 0)),(2, .one (.ptr 1 0)),(3, .one (.mp 2)),(4, .one (.own ((dst (l.take i)).O.map fun r=>[bO r]) 3)),(10, .one (.c (bM l))),(11, .one (.c (.int .i64 n))),(12, .one (.c (.int .i64 i)))]) (fun i=>[.box [.c (bB kinds), .c (bM l)], .box [.emp, .emp], .map (qO AC.bool (dst (l.take i)).M), .spare (dst (l.take i)).O.length 1]) (fun i=>i<=n) (fun i=>n-i) 0 (by omega) (fun _ _=>abv _)
  (fm_ ⟨rfl,rfl,rfl,rfl,rfl,aT (by simp [hn]),rfl,trivial⟩ [] rfl ⟨by show 0<4;omega,by show 1<4;omega,by show 2<4;omega,by show 3<4;omega,trivial,trivial,trivial,trivial⟩ ⟨v_,uK,zk _ _ _,trivial,trivial⟩) ?_
 intro i hi
 by_cases hlt:i<n
 ·obtain ⟨r,hx⟩:=gol_ (show i<l.length by omega)
  have hsn:dst (l.take (i+1))=Hd (dst (l.take i)) r:=by rw [bS hx];exact TN _ _
  have hol:(dst (l.take i)).O.length<=i:=by have:=DK (l.take i);rw [abY] at this;omega
  have hlen:((dst (l.take i)).O.map fun r=>[bO r]).length=(dst (l.take i)).O.length:=abl _
  have hkr:=xE r (hk r (abe hx)).1 (hk r (abe hx)).2
  cases hg:o9 false (dst (l.take i)).M (eX r) with
  | true =>
   have hsn2:dst (l.take (i+1))=dst (l.take i):=by rw [hsn];unfold Hd;rw [hg];rfl
   repeat' (first
    | refine st_nil ?_
    | rw [hg]
    | refine ay rfl rfl rfl rfl ph_ ?_
    | (refine aW rfl rfl rfl rfl rfl rfl rfl rfl (bg hx) ?_ ?_; · exact ⟨by omega,rfl⟩)
    | refine az rfl rfl rfl rfl ph_ ?_
    | refine sS_ rfl rfl rfl ph_ ?_
    | refine aC rfl rfl rfl rfl ph_ ?_
    | refine aj rfl rfl rfl ?_
    | refine sk0_ rfl rfl ?_
    | refine aG rfl rfl rfl rfl hkr rfl ?_
    | (refine aM rfl (fun hb=>?_) (fun hb=>?_)<;>(first|exact (fx_ hb).elim|rw [hb]))
    | refine aw_seq ?_
    | refine aw_region dP _ rfl ?_
    | refine aw_drawn2 jh _ rfl mixed (by decide +kernel) ?_
    | (refine ah rfl (fun hb=>?_) (fun hb=>?_)<;>(try exact (fx_ hb).elim))
    | refine aw_block ?_
    | refine aw_exit ?_
    | refine aw_ret ?_
    | refine aw_skip ?_
    | (refine dB rfl rfl rfl rfl rfl (Nl AC.bool false (M:=(dst (l.take i)).M) dP rfl rfl rfl rfl rfl rfl) ?_))
   exact ⟨i+1,by omega,by omega,by rw [hsn2];exact fm_ ⟨rfl,rfl,rfl,rfl,rfl,rfl,aT (bu (by omega) (by omega)),trivial⟩ [] rfl ⟨by show 0<4;omega,by show 1<4;omega,by show 2<4;omega,by show 3<4;omega,trivial,trivial,trivial,trivial⟩ ⟨v_,uK,zk _ _ _,trivial,trivial⟩⟩
  | false =>
   have hsn2:dst (l.take (i+1))=⟨yN (dst (l.take i)).M (eX r) true,(dst (l.take i)).O++[r]⟩:=by rw [hsn];unfold Hd;rw [hg];rfl
   repeat' (first
    | refine st_nil ?_
    | rw [hg]
    | (refine ay rfl rfl rfl rfl ?_ ?_; · (repeat' (first|exact trivial|rfl|exact abj rfl|omega|(intro e he;simp at he;subst he;rfl)|exact hlen|(show (_+1)*24<=_;omega)|(show _+1<=_;omega)|apply And.intro)))
    | (refine aW rfl rfl rfl rfl rfl rfl rfl rfl (bg hx) ?_ ?_; · exact ⟨by omega,rfl⟩)
    | (refine az rfl rfl rfl rfl ?_ ?_; · (repeat' (first|exact trivial|rfl|exact abj rfl|omega|(intro e he;simp at he;subst he;rfl)|exact hlen|(show (_+1)*24<=_;omega)|(show _+1<=_;omega)|apply And.intro)))
    | (refine sS_ rfl rfl rfl ?_ ?_; · (repeat' (first|exact trivial|rfl|exact abj rfl|omega|(intro e he;simp at he;subst he;rfl)|exact hlen|(show (_+1)*24<=_;omega)|(show _+1<=_;omega)|apply And.intro)))
    | (refine aC rfl rfl rfl rfl ?_ ?_; · (repeat' (first|exact trivial|rfl|exact abj rfl|omega|(intro e he;simp at he;subst he;rfl)|exact hlen|(show (_+1)*24<=_;omega)|(show _+1<=_;omega)|apply And.intro)))
    | refine aj rfl rfl rfl ?_
    | refine sk0_ rfl rfl ?_
    | refine aG rfl rfl rfl rfl hkr rfl ?_
    | (refine aM rfl (fun hb=>?_) (fun hb=>?_)<;>(first|exact (fx_ hb).elim|rw [hb]))
    | refine aw_seq ?_
    | refine aw_region dP _ rfl ?_
    | refine aw_drawn2 jh _ rfl mixed (by decide +kernel) ?_
    | (refine ah rfl (fun hb=>?_) (fun hb=>?_)<;>(try exact (fx_ hb).elim))
    | refine aw_block ?_
    | refine aw_exit ?_
    | refine aw_ret ?_
    | refine aw_skip ?_
    | (refine dB rfl rfl rfl rfl rfl (Nl AC.bool false (M:=(dst (l.take i)).M) dP rfl rfl rfl rfl rfl rfl) ?_)
    | (refine uo rfl rfl rfl rfl (Vi AC.bool (n:=true) (M:=(dst (l.take i)).M) dP rfl rfl rfl rfl rfl rfl) ?_))
   exact ⟨i+1,by omega,by omega,by rw [hsn2];exact fm_ ⟨rfl,rfl,rfl,cB (by rw [abm];rfl),rfl,rfl,aT (bu (by omega) (by omega)),trivial⟩ [] (by simp only [abg];rfl) ⟨by show 0<4;omega,by show 1<4;omega,by show 2<4;omega,by show 3<4;omega,trivial,trivial,trivial,trivial⟩ ⟨v_,uK,zk _ _ _,trivial,trivial⟩⟩
 ·have htk:l.take i=l:=abP (by omega)
  rw [htk]
  repeat' (first
   | refine st_nil ?_
   | refine ay rfl rfl rfl rfl ph_ ?_
   | refine az rfl rfl rfl rfl ph_ ?_
   | refine sS_ rfl rfl rfl ph_ ?_
   | refine aC rfl rfl rfl rfl ph_ ?_
   | refine aj rfl rfl rfl ?_
   | refine sk0_ rfl rfl ?_
   | refine aG rfl rfl rfl rfl hbag rfl ?_
   | (refine aM rfl (fun hb=>?_) (fun hb=>?_)<;>(first|exact (fx_ hb).elim|rw [hb]))
   | refine aw_seq ?_
   | refine aw_region dP _ rfl ?_
   | refine aw_drawn2 jh _ rfl mixed (by decide +kernel) ?_
   | (refine ah rfl (fun hb=>?_) (fun hb=>?_)<;>(try exact (fx_ hb).elim))
   | refine aw_block ?_
   | refine aw_exit ?_
   | refine aw_ret ?_
   | refine aw_skip ?_)
  exact aO (aR rfl ⟨abp 2,trivial⟩ rfl)
set_option maxHeartbeats 8000000
def cK:Option (List Val)->List (List Val)->List (List Val)
 | _,[]=>[]
 | p,x::l=>if p=some x then cK (some x) l else x::cK (some x) l
theorem Aq (r:List Val) : ∀ (l:List (List Val)) (p:Option (List Val)),r∈cK p l->r∈l
 | [],p,h=>by cases h
 | x::l,p,h=>by
  unfold cK at h
  split at h
  ·exact aby _ (Aq r l _ h)
  ·rcases abq.1 h with rfl|h
   ·simp
   ·exact aby _ (Aq r l _ h)
theorem Kn (r:List Val) : ∀ (l:List (List Val)) (p:Option (List Val)),r∈l->r∈cK p l\/p=some r
 | [],p,h=>by cases h
 | x::l,p,h=>by
  unfold cK
  by_cases hp:p=some x
  ·rw [if_pos hp]
   rcases abq.1 h with rfl|h
   ·exact .inr hp
   ·rcases Kn r l (some x) h with h|h
    ·exact .inl h
    ·exact .inr (hp.trans h)
  ·rw [if_neg hp]
   rcases abq.1 h with rfl|h
   ·exact .inl (by simp)
   ·rcases Kn r l (some x) h with h|h
    ·exact .inl (aby _ h)
    ·injection h with h;subst h;exact .inl (by simp)
theorem BJ : ∀ (l:List (List Val)) (p:Option (List Val)),Asc bD l->(∀ q,p=some q -> ∀ x∈l,bD q x<=0)->yc (cK p l) /\ ∀ q,p=some q -> ∀ y∈cK p l,bD q y<0
 | [],p,_,_=>⟨List.Pairwise.nil,fun _ _ _ h=>by cases h⟩
 | x::l,p,ha,hp=>by
  have hc:=ab2.1 ha
  have ih:=BJ l (some x) hc.2 (fun q e y hy=>by injection e with e;subst e;exact hc.1 y hy)
  unfold cK
  by_cases e:p=some x
  ·rw [if_pos e,e]
   exact ih
  ·rw [if_neg e]
   refine ⟨ab2.2 ⟨ih.2 x rfl,ih.1⟩,fun q hq y hy=>?_⟩
   have hqx:=hp q hq x (by simp)
   have hlt:bD q x<0:=by
    by_cases h0:bD q x=0
    ·exact absurd (by rw [hq,tCr_.zero _ _ h0]) e
    ·omega
   rcases abq.1 hy with rfl|hy
   ·exact hlt
   ·exact tCr_.trans _ _ _ hlt (ih.2 x rfl y hy)
theorem oI (l:List (List Val)):yc (cK none (aI l)):=(BJ _ _ (eH l) (fun q e=>by cases e)).1
theorem FW (l:List (List Val)) (r:List Val):r∈cK none (aI l)↔r∈l:=by
 refine ⟨fun h=>(bn l).mem_iff.1 (Aq r _ _ h),fun h=>?_⟩
 rcases Kn r _ none ((bn l).mem_iff.2 h) with h|h
 ·exact h
 ·cases h
theorem NJ {l:List (List Val)} (h:l.Nodup) (r:List Val):l.count r=if r∈l then 1 else 0:=by
 by_cases hr:r∈l
 ·rw [if_pos hr]
  exact List.Nodup.count h |>.trans (if_pos hr)
 ·rw [if_neg hr]
  exact List.count_eq_zero.2 hr
theorem Aa (l:List (List Val)):aI (fF [] l)=cK none (aI l):=by
 refine D8 (eH _) ((oI l).imp fun h=>Int.le_of_lt h) fun r=>?_
 rw [fw,jF,NJ (pU (oI l))]
 simp [FW]
theorem ma (x:List Val) (l:List (List Val)):x∈fF [] l↔x∈l:=by
 have:=jF x l []
 constructor
 ·intro h
  have h1:=List.count_pos_iff.2 h
  rw [this] at h1
  by_cases hx:x∈l
  ·exact hx
  ·simp [hx] at h1
 ·intro h
  apply List.count_pos_iff.1
  rw [this]
  simp [h]
structure RK (l:List (List Val)):Prop where
 len:l.length<=300
 row : ∀ r∈l,r≠[]/\r.length<=1000 /\ ∀ v∈r,Uj v
theorem RK.of {l m:List (List Val)} (h:RK l) (h1:m.length<=300) (h2 : ∀ r∈m,r∈l):RK m:=⟨h1,fun r hr=>h.row r (h2 r hr)⟩
theorem RK.sort {l:List (List Val)} (h:RK l):RK (aI l):=h.of (by rw [(bn l).length_eq];exact h.len) fun r hr=>(bn l).mem_iff.1 hr
theorem RK.filter {l:List (List Val)} (h:RK l) (p:List Val->Bool):RK (l.filter p):=h.of (Nat.le_trans (List.length_filter_le _ _) h.len) fun r hr=>(List.mem_filter.1 hr).1
theorem RK.app {l m:List (List Val)} (h:RK l) (g:RK m) (hn:l.length+m.length<=300):RK (l++m):=⟨by rw [abg];exact hn,fun r hr=>(abC.1 hr).elim (h.row r) (g.row r)⟩
theorem RK.split {l:List (List Val)} (h:RK l) (n:List Val->Nat):RK (iy n l).1/\RK (iy n l).2:=by
 have:=Nz l n;have hl:=h.len
 exact ⟨h.of (by omega) fun r hr=>(LF r l n).1 hr,h.of (by omega) fun r hr=>(LF r l n).2 hr⟩
theorem RK.keys {l:List (List Val)} (h:RK l):C_ l=true:=TH (by have:=h.len;omega) fun r hr=>(h.row r hr).2
theorem RK.big {l:List (List Val)} (h:RK l) : ∀ r∈l,r.length<=1000000:=fun r hr=>by have:=(h.row r hr).2.1;omega
theorem ym.rk {n:Nat} {b:Bag} (h:ym n b) (hn:n<=300):RK b.rows:=⟨Nat.le_trans h.len hn,fun r hr=>by
 have h1:=h.row r hr;have h2:=h.pos;have h3:=h.kinds
 exact ⟨fun e=>by rw [e] at h1;simp at h1;omega,by omega,fun v hv=>(uF (h.val r hr v hv)).vok⟩⟩
theorem BO {kinds:List Int} {rows:List (List Val)} (hk:kinds.length<=1000000) (h:RK rows):mI kinds rows=some ⟨kinds,aI rows⟩:=M9 hk h.len fun r hr=>⟨(h.row r hr).1,by have:=(h.row r hr).2.1;omega⟩
theorem pI (a b:List Val) (ha:a.length<=1000000) (hb:b.length<=1000000):gU a b=some (decide (a=b)):=by
 unfold gU
 rw [qI a b (by omega) (by omega),aa8]
 congr 1
 by_cases h:a=b
 ·subst h
  rw [abb rfl,tCr_.refl];rfl
 ·rw [aba h,aba]
  intro h2;exact h (tCr_.zero _ _ h2)
theorem kW {kinds:List Int} {rows:List (List Val)} (hk:kinds.length<=1000000) (h:RK rows):gExactly ⟨kinds,rows⟩ ⟨kinds,rows⟩=some true:=yl _ hk (by have:=h.len;show rows.length<=_;omega) h.big
theorem lT {b:Bag} {e:Ex} (hk:b.kinds.length<=1000000) (h:RK b.rows) (he:gY fuel e):gFilterS b e=some ⟨b.kinds,aI (b.rows.filter (gm e))⟩:=by
 have hl:=h.len
 unfold gFilterS
 rw [eu (l:=b.rows) (fun x=>if gm e x then [x] else []) 5864062014805 ?_ ?_ (by unfold fuel;omega) [] (by rw [nT];have:=List.length_filter_le (gm e) b.rows;simp only [abF];omega)]
 ·rw [aa8,abd,nT]
  unfold pg
  dsimp only
  rw [BO hk (h.filter _)];rfl
 ·intro s i x hx hs
  have hi:=(aa9.1 hx).1
  unfold pW
  dsimp only
  rw [aY hx,aa',gn_ hx,aa8,Fq he,aa8,wrapN (by omega)]
  show (bif gm e x then _ else _)=_
  cases hc:gm e x with
  | false=>simp
  | true =>
   rw [hc] at hs
   rw [aa',abb (show s.length+1<=5864062014805 from hs)];rfl
 ·intro s
  unfold pW
  dsimp only
  rw [lF_,aa_]
theorem KN {b:Bag} {e:Ex} (h:RK b.rows) (he:gY fuel e):gFilter21 b e=some ⟨b.kinds,aI (b.rows.filter (gm e))⟩:=Kg h.len h.big he
theorem qm {b:Bag} (hk:b.kinds.length<=1000000) (h:RK b.rows):gDistinctS b=some ⟨b.kinds,aI (fF [] b.rows)⟩:=by
 unfold gDistinctS
 rw [h.keys,aa',Kz,BO hk (h.of ?_ fun r hr=>(ma r b.rows).1 hr)]
 have:=DK b.rows
 rw [Kz] at this
 have:=h.len;omega
theorem J9 (y:List Val) (p:Option (List Val)) (l:List (List Val)):((y::l).getLast?.or p)=(l.getLast?.or (some y)):=by
 cases l with
 | nil=>rfl
 | cons z l =>
  rw [List.getLast?_cons_cons]
  cases h:(z::l).getLast? with
  | none=>rw [List.getLast?_eq_none_iff] at h;cases h
  | some w=>rfl
theorem qM (y:List Val) (p:Option (List Val)) (l:List (List Val)):cK p (y::l)=if p=some y then cK (some y) l else y::cK (some y) l:=rfl
theorem uO (x:List Val) : ∀ (l:List (List Val)) (p:Option (List Val)),cK p (l++[x])=cK p l++(if (l.getLast?.or p)=some x then [] else [x])
 | [],p=>by
  show (if p=some x then cK (some x) [] else x::cK (some x) [])=_
  by_cases e:p=some x
  ·simp [e,cK]
  ·simp [e,cK]
 | y::l,p=>by
  rw [List.cons_append,J9,qM,qM]
  by_cases e:p=some y
  ·rw [if_pos e,if_pos e,uO x l (some y)]
  ·rw [if_neg e,if_neg e,uO x l (some y)]
   rfl
theorem zy (o:Option (List Val)):o.or none=o:=by cases o<;>rfl
set_option maxHeartbeats 8000000
noncomputable section
def gLawRows (a_b:Bag) (a_e:Ex) (a_l:(List Ex)):Option (Bool):=(gFew21 a_b (40:Int)).bind fun r_1=>bif (!r_1) then some (true) else
 (gSlight [a_e]).bind fun r_4=>bif (!r_4) then some (true) else
 (gSlight a_l).bind fun r_7=>bif (!r_7) then some (true) else
 (gPred21 a_e a_b.kinds).bind fun r_10=>bif (decide (r_10≠(0:Int))) then some (true) else
 (gProj21 a_b.kinds a_l).bind fun r_13=>bif (decide (r_13.2≠(0:Int))) then some (true) else
 bif (decide (((a_l.length:Nat):Int)=(0:Int))) then some (true) else
 bif (decide ((48:Int)<((a_l.length:Nat):Int))) then some (true) else
 (gFilterS a_b a_e).bind fun r_20=>(gFilter21 a_b a_e).bind fun r_21=>(gExactly r_20 r_21).bind fun r_22=>bif r_22 then (gProjectS a_b a_l).bind fun r_24=>(gProject21 a_b a_l).bind fun r_25=>(gExactly r_24 r_25).bind fun r_26=>bif r_26 then (gDistinctS a_b).bind fun r_28=>(gDistinct21 a_b).bind fun r_29=>(gExactly r_28 r_29).bind fun r_30=>bif r_30 then some (true) else
 some false else
 some false else
 some false
theorem gLawRows_ok {a_b:Bag} {a_e:Ex} {a_l:(List Ex)} {r:Bool} (H:gLawRows a_b a_e a_l=some r):Pure Tryz.prog 7 [.agg (cBag a_b), .agg (tE a_e), .one (.lst (a_l.map tE))] (.val (.one (.bool r))):=by
 unfold gLawRows at H
 rw [tE_eq a_e]
 refine po_ Tryz.func7 Tryz.ntmps7 ?_
 obtain ⟨r_1,c1,H⟩:=bd_ H
 replace c1:=gFew21_ok c1
 rcases cnd_ H with ⟨q_2,H⟩|⟨q_2,H⟩
 ·have hc_3:=awake_pure
  try simp only [abm,abk,abo,abd,tE_eq,tP_eq] at hc_3
  cases H
  exact go_
 obtain ⟨r_4,c2,H⟩:=bd_ H
 replace c2:=gSlight_ok c2
 try simp only [abm,abk,abo,abd,tE_eq,tP_eq] at c2
 rcases cnd_ H with ⟨q_5,H⟩|⟨q_5,H⟩
 ·have hc_6:=awake_pure
  try simp only [abm,abk,abo,abd,tE_eq,tP_eq] at hc_6
  cases H
  exact go_
 obtain ⟨r_7,c3,H⟩:=bd_ H
 replace c3:=gSlight_ok c3
 rcases cnd_ H with ⟨q_8,H⟩|⟨q_8,H⟩
 ·have hc_9:=awake_pure
  try simp only [abm,abk,abo,abd,tE_eq,tP_eq] at hc_9
  cases H
  exact go_
 obtain ⟨r_10,c4,H⟩:=bd_ H
 replace c4:=gPred21_ok c4
 try simp only [abm,abk,abo,abd,tE_eq,tP_eq] at c4
 rcases cnd_ H with ⟨q_11,H⟩|⟨q_11,H⟩
 ·have hc_12:=awake_pure
  try simp only [abm,abk,abo,abd,tE_eq,tP_eq] at hc_12
  cases H
  exact go_
 obtain ⟨r_13,c5,H⟩:=bd_ H
 replace c5:=gProj21_ok c5
 rcases cnd_ H with ⟨q_14,H⟩|⟨q_14,H⟩
 ·have hc_15:=awake_pure
  try simp only [abm,abk,abo,abd,tE_eq,tP_eq] at hc_15
  cases H
  exact go_
 rcases cnd_ H with ⟨q_16,H⟩|⟨q_16,H⟩
 ·have hc_17:=awake_pure
  try simp only [abm,abk,abo,abd,tE_eq,tP_eq] at hc_17
  cases H
  exact go_
 rcases cnd_ H with ⟨q_18,H⟩|⟨q_18,H⟩
 ·have hc_19:=awake_pure
  try simp only [abm,abk,abo,abd,tE_eq,tP_eq] at hc_19
  cases H
  exact go_
 obtain ⟨r_20,c6,H⟩:=bd_ H
 replace c6:=gFilterS_ok c6
 try simp only [abm,abk,abo,abd,tE_eq,tP_eq] at c6
 obtain ⟨r_21,c7,H⟩:=bd_ H
 replace c7:=gFilter21_ok c7
 try simp only [abm,abk,abo,abd,tE_eq,tP_eq] at c7
 obtain ⟨r_22,c8,H⟩:=bd_ H
 replace c8:=gExactly_ok c8
 rcases cnd_ H with ⟨q_23,H⟩|⟨q_23,H⟩
 ·obtain ⟨r_24,c9,H⟩:=bd_ H
  replace c9:=gProjectS_ok c9
  obtain ⟨r_25,c10,H⟩:=bd_ H
  replace c10:=gProject21_ok c10
  obtain ⟨r_26,c11,H⟩:=bd_ H
  replace c11:=gExactly_ok c11
  rcases cnd_ H with ⟨q_27,H⟩|⟨q_27,H⟩
  ·obtain ⟨r_28,c12,H⟩:=bd_ H
   replace c12:=gDistinctS_ok c12
   obtain ⟨r_29,c13,H⟩:=bd_ H
   replace c13:=gDistinct21_ok c13
   obtain ⟨r_30,c14,H⟩:=bd_ H
   replace c14:=gExactly_ok c14
   rcases cnd_ H with ⟨q_31,H⟩|⟨q_31,H⟩
   ·have hc_32:=awake_pure
    try simp only [abm,abk,abo,abd,tE_eq,tP_eq] at hc_32
    cases H
    exact go_
   cases H
   exact go_
  cases H
  exact go_
 cases H
 exact go_
end
theorem Gj {kinds:List Int} {l:List Ex} (hl:l.length<=100000) (he : ∀ e∈l,gY fuel e) : ∀ (n i:Nat) (s:List Int) (p:List Int × Int),s.length=i->i<=l.length->(ax (cO kinds l) n (s,(i:Int))).bind gM=some p->(ax (lm l kinds) n (s,(i:Int))).bind jQ=some p
 | 0,i,s,p,_,_,h=>by exact absurd h (by simp [ax])
 | n+1,i,s,p,hs,hi,h=>by
  rw [ax] at h ⊢
  by_cases hlt:i<l.length
  ·obtain ⟨x,hx⟩:=gol_ hlt
   have hc:=UT kinds (he x (abe hx))
   have e1:cO kinds l (s,(i:Int))=bif decide ((nV x kinds).2≠0) then some (.ret ([],(nV x kinds).2)) else bif decide ((nV x kinds).1=0) then some (.ret ([],7)) else some (.next (s++[(nV x kinds).1],((i+1:Nat):Int))):=by
    unfold cO
    dsimp only
    rw [aY hx,aa',gn_ hx,aa8,hc.1,aa8,abb (show s.length+1<=17592186044416 by omega),aa',wrapN (by omega)]
   have e2:lm l kinds (s,(i:Int))=bif decide ((nV x kinds).2≠0) then some (.ret ([],(nV x kinds).2)) else bif decide ((nV x kinds).1=0) then some (.ret ([],7)) else some (.next (s++[(nV x kinds).1],((i+1:Nat):Int))):=by
    unfold lm
    dsimp only
    rw [aY hx,aa',gn_ hx,aa8,hc.2,aa8,abb (show s.length+1<=17592186044416 by omega),aa',wrapN (by omega)]
   rw [e1] at h
   rw [e2]
   cases c1:decide ((nV x kinds).2≠0) with
   | true=>rw [c1] at h;exact h
   | false =>
    cases c2:decide ((nV x kinds).1=0) with
    | true=>rw [c1,c2] at h;exact h
    | false =>
     rw [c1,c2] at h
     exact Gj hl he n (i+1) _ p (by rw [abg,hs];rfl) (by omega) h
  ·have:i=l.length:=by omega
   subst this
   have e1:cO kinds l (s,((l.length:Nat):Int))=some (.exit (s,((l.length:Nat):Int))):=by
    unfold cO
    dsimp only
    rw [lF_,aa_]
   have e2:lm l kinds (s,((l.length:Nat):Int))=some (.exit (s,((l.length:Nat):Int))):=by
    unfold lm
    dsimp only
    rw [lF_,aa_]
   rw [e1] at h
   rw [e2]
   exact h
theorem Lt {kinds:List Int} {l:List Ex} (hl:l.length<=100000) (he : ∀ e∈l,gY fuel e) {p:List Int × Int} (h:gProj21 kinds l=some p):KP l kinds=some p:=Gj hl he fuel 0 [] p rfl (abv _) h
theorem Qp {l:List Ex} (h0:l≠[]) (hl:l.length<=48) (he : ∀ e∈l,gY fuel e) {rows:List (List Val)} (hr:rows.length<=300):RK (rows.map (NA l)):=by
 refine ⟨by rw [abl];exact hr,fun r hx=>?_⟩
 obtain ⟨y,_,rfl⟩:=abK.1 hx
 have hlen:(NA l y).length=l.length:=abl _
 refine ⟨fun e=>h0 (abA (by rw [<- hlen,e];rfl)),by omega,fun v hv=>?_⟩
 obtain ⟨e,hx,rfl⟩:=abK.1 hv
 exact (uF (val_ok (he e hx) y).2.2).vok
theorem Ns {l:List Ex} (hl:l.length<=48) (he : ∀ e∈l,gY fuel e) (x:List Val):ax (kg l x) fuel ([],(0:Int))=some (.inl (NA l x,((l.length:Nat):Int))):=by
 rw [eu (l:=l) (fun e=>[Im e x]) 4398046511104 ?_ ?_ (by unfold fuel;omega) [] (by rw [fo_];simp;omega)]
 ·rw [abd,fo_];rfl
 ·intro s i y hx hs
  have hi:=(aa9.1 hx).1
  unfold kg
  dsimp only
  rw [aY hx,aa',gn_ hx,aa8,(val_ok (he y (abe hx)) x).2.1,aa8,wrapN (by omega),abb (show s.length+1<=4398046511104 from hs),aa']
 ·intro s
  unfold kg
  dsimp only
  rw [lF_,aa_]
theorem Ki {b:Bag} {l:List Ex} (hn:b.rows.length<=300) (h0:l≠[]) (hl:l.length<=48) (he : ∀ e∈l,gY fuel e) (hp:gProj21 b.kinds l=some (Cy l b.kinds,0)):gProjectS b l=some ⟨Cy l b.kinds,aI (b.rows.map (NA l))⟩:=by
 unfold gProjectS
 rw [eu (l:=b.rows) (fun x=>[NA l x]) 5864062014805 ?_ ?_ (by unfold fuel;omega) [] (by rw [fo_];simp;omega)]
 ·rw [aa8,abd,fo_]
  unfold nu
  dsimp only
  rw [Lt (by omega) he hp,aa8,BO (by show (l.map _).length<=_;rw [abl];omega) (Qp h0 hl he hn)];rfl
 ·intro s i x hx hs
  have hi:=(aa9.1 hx).1
  unfold mX
  dsimp only
  rw [aY hx,aa',gn_ hx,aa8,Ns hl he x,aa8]
  unfold m_
  dsimp only
  rw [wrapN (by omega),abb (show s.length+1<=5864062014805 from hs),aa']
 ·intro s
  unfold mX
  dsimp only
  rw [lF_,aa_]
theorem pR : ∀ (l:List (List Val)) (p:Option (List Val)),(cK p l).length<=l.length
 | [],_=>abp _
 | y::l,p=>by
  rw [qM]
  have:=pR l (some y)
  split
  ·rw [abw];omega
  ·rw [abw,abw];omega
theorem vw {A:List (List Val)} (hl:A.length<=300) (hr : ∀ r∈A,r.length<=1000000) : ∀ (n i:Nat),i<=A.length->A.length-i<n->ax (fB A) n (cK none (A.take i),(i:Int))=some (.inl (cK none A,((A.length:Nat):Int)))
 | 0,i,_,h=>by omega
 | n+1,i,hi,hn=>by
  rw [ax]
  by_cases hlt:i<A.length
  ·obtain ⟨x,hx⟩:=gol_ hlt
   have hml:(cK none (A.take i)).length<=i:=by have:=pR (A.take i) none;rw [abY] at this;omega
   have hsn:=uO x (A.take i) none
   rw [<- bS hx,zy] at hsn
   have hb:fB A (cK none (A.take i),(i:Int))=some (.next (cK none (A.take (i+1)),((i+1:Nat):Int))):=by
    unfold fB
    dsimp only
    rw [aY hx,aa',gn_ hx,wrapN (by omega),hsn]
    match i,hlt,hx,hml with
    | 0,hlt,hx,hml =>
     rw [show decide (((0:Nat):Int)=0)=true from rfl,aa',aa8,abb (show (cK none (A.take 0)).length+1<=5864062014805 by omega),aa']
     simp
    | j+1,hlt,hx,hml =>
     obtain ⟨x0,hx0⟩:=gol_ (show j<A.length by omega)
     have hlast:(A.take (j+1)).getLast?=some x0:=by rw [bS hx0];simp
     rw [aba (show ¬ ((j+1:Nat):Int)=0 by omega),aa_,bu (show ((j+1:Nat):Int)-1=((j:Nat):Int) by omega) (by omega),gn_ hx0,aa8,aa8,pI x0 x (hr x0 (abe hx0)) (hr x (abe hx)),aa8,hlast]
     by_cases he:x0=x
     ·subst he;simp
     ·rw [aba he,if_neg (by simpa using he),Bool.not_false,aa',abb (show (cK none (A.take (j+1))).length+1<=5864062014805 by omega),aa']
   rw [hb]
   exact vw hl hr n (i+1) (by omega) (by omega)
  ·have:i=A.length:=by omega
   subst this
   have hb:fB A (cK none (A.take A.length),((A.length:Nat):Int))=some (.exit (cK none (A.take A.length),((A.length:Nat):Int))):=by
    unfold fB
    dsimp only
    rw [lF_,aa_]
   rw [hb,List.take_length]
theorem H7 {l:List (List Val)} (h:RK l):oP l=some (cK none (aI l)):=by
 have hl:=h.sort.len
 unfold oP
 rw [fO _ h.len h.big,aa8]
 have:=vw hl h.sort.big fuel 0 (abv _) (by unfold fuel;omega)
 rw [show (cK none ((aI l).take 0),((0:Nat):Int))=(([],(0:Int)):List (List Val) × Int) from rfl] at this
 rw [this];rfl
theorem FT {b:Bag} (h:RK b.rows):gDistinct21 b=some ⟨b.kinds,aI (fF [] b.rows)⟩:=by
 unfold gDistinct21
 rw [H7 h,Aa];rfl
theorem Gx {l:List (List Val)} (h:RK l):RK (fF [] l):=h.of (by have:=DK l;rw [Kz] at this;have:=h.len;omega) fun r hr=>(ma r l).1 hr
theorem gLawRows_true (b:Bag) (e:Ex) (l:List Ex):gLawRows b e l=some true:=by
 unfold gLawRows
 obtain ⟨c,hc,hc2⟩:=jK b 40 (by omega)
 rw [show (40:Int)=((40:Nat):Int) from rfl,hc,aa8]
 cases c with
 | false=>rfl
 | true =>
  have hb:=hc2 rfl
  rw [Bool.not_true,aa_]
  obtain ⟨c,hc,hc2⟩:=pM [e]
  rw [hc,aa8]
  cases c with
  | false=>rfl
  | true =>
   have he:=(hc2 rfl).2 e (by simp)
   rw [Bool.not_true,aa_]
   obtain ⟨c,hc,hc2⟩:=pM l
   rw [hc,aa8]
   cases c with
   | false=>rfl
   | true =>
    obtain ⟨hl2,hle⟩:=hc2 rfl
    rw [Bool.not_true,aa_]
    have h1:=hb.kinds;have h3:=hb.pos
    have hrk:=hb.rk (by omega)
    obtain ⟨n,hn⟩:=yD b.kinds he
    rw [hn,aa8]
    cases decide (n≠0) with
    | true=>rfl
    | false =>
     rw [aa_]
     by_cases hll:l.length<=48
     ·obtain ⟨p,hp,hp2⟩:=CF (kinds:=b.kinds) (l:=l) (by omega) hle
      rw [hp,aa8]
      by_cases hp0:p.2=0
      ·rw [aba (show ¬ p.2≠0 by omega),aa_]
       by_cases h0:l.length=0
       ·rw [abb (show ((l.length:Nat):Int)=0 by omega)];rfl
       ·rw [aba (show ¬ ((l.length:Nat):Int)=0 by omega),aa_,aba (show ¬ (48:Int)<((l.length:Nat):Int) by omega),aa_]
        have hl0:l≠[]:=fun e=>h0 (by rw [e];rfl)
        have hp3:gProj21 b.kinds l=some (Cy l b.kinds,0):=by rw [hp, <- hp2 hp0, <- hp0]
        have hlen:=hb.len
        rw [lT (by omega) hrk he,aa8,KN hrk he,aa8,kW (by omega) (hrk.filter _).sort,aa8,aa']
        rw [Ki (by omega) hl0 hll hle hp3,aa8,Ip (by omega) hll hle hp3,aa8,kW (by show (l.map _).length<=_;rw [abl];omega) (Qp hl0 hll hle (by omega)).sort,aa8,aa']
        rw [qm (by omega) hrk,aa8,FT hrk,aa8,kW (by omega) (Gx hrk).sort];rfl
      ·rw [abb hp0];rfl
     ·obtain ⟨p,hp,hp2⟩:=CF (kinds:=b.kinds) (l:=l) (by omega) hle
      rw [hp,aa8,aba (show ¬ ((l.length:Nat):Int)=0 by omega),abb (show (48:Int)<((l.length:Nat):Int) by omega)]
      cases decide (p.2≠0)<;>rfl
end Go.Proofs.YtfpbmfalamappaaGreatDoor
