/- Parts of the proof, joined. No condition. -/
import Derived.Test.YtlcceppoloaecaaGreatDoorKAA
import Derived.Test.YtlcceppoloaecaaGreatDoorKBX
import Derived.Test.YtlcceppoloaecaaGreatDoorKBW
import Derived.Test.YtlcceppoloaecaaGreatDoorKBY
import Derived.Test.YtlcceppoloaecaaGreatDoorKBT
import Derived.Test.YtlcceppoloaecaaGreatDoorKAI
import Derived.Test.YtlcceppoloaecaaGreatDoorKBS
import Derived.Test.YtlcceppoloaecaaGreatDoorKAH
set_option linter.unusedSimpArgs false
set_option linter.unusedVariables false
namespace Go.Proofs.YtlcceppoloaecaaGreatDoor
open Go.RowKit Go.MapKept
section
variable {σ:Type} (nxt:σ->Nat->List Val->aP->σ) (e:Ex)
def M8 (i:Nat) (x:aC):List aC->σ->σ
 | [],s=>s
 | y::b,s=>M8 i x b (bif nQ x.valid y.valid&&cT e x y then nxt s i (x.row++y.row) (vO x.valid y.valid) else s)
def Q6 (b:List aC):List aC->Nat->σ->σ
 | [],_,s=>s
 | x::a,i,s=>Q6 b a (i+1) (M8 nxt e i x b s)
theorem V7 (a b:List aC) (l m:List eF) (s:σ):xD nxt e a b (l++m) s=xD nxt e a b m (xD nxt e a b l s):=by unfold xD;rw [List.foldl_append]
theorem ac9 {a b0:List aC} {i:Nat} {x:aC} (hx:a[i]?=some x) : ∀ (b pre:List aC) (s:σ),b0=pre++b->xD nxt e a b0 (sH (fun y:aC=>nQ x.valid y.valid) (i:Int) b pre.length) s=M8 nxt e i x b s
 | [],pre,s,_=>rfl
 | y::b,pre,s,h0=>by
  have ih:=ac9 (b0:=b0) hx b (pre++[y])
  rw [ap8] at ih
  have hy:b0[pre.length]?=some y:=by rw [h0];simp
  unfold sH at ih ⊢
  rw [mZ,aqb,V7,M8]
  have hone:xD nxt e a b0 ((bif nQ x.valid y.valid then [((pre.length:Nat):Int)] else []).map fun j=>(⟨(i:Int),j⟩:eF)) s=bif nQ x.valid y.valid&&cT e x y then nxt s i (x.row++y.row) (vO x.valid y.valid) else s:=by
   cases ho:nQ x.valid y.valid with
   | false=>rfl
   | true =>
    show abY nxt s (ZF e a b0 ⟨(i:Int),((pre.length:Nat):Int)⟩)=_
    unfold ZF cT
    simp only [Int.toNat_natCast,hx,hy]
    cases lY e (x.row++y.row)<;>rfl
  rw [hone]
  exact ih _ (by rw [h0];simp)
theorem Vp {a0 b:List aC} : ∀ (a pre:List aC) (s:σ),a0=pre++a->xD nxt e a0 b (fG (fun x y:aC=>nQ x.valid y.valid) b a pre.length) s=Q6 nxt e b a pre.length s
 | [],pre,s,_=>rfl
 | x::a,pre,s,h0=>by
  have ih:=Vp (a0:=a0) (b:=b) a (pre++[x])
  rw [ap8] at ih
  have hx:a0[pre.length]?=some x:=by rw [h0];simp
  have h1:xD nxt e a0 b (sH (fun y:aC=>nQ x.valid y.valid) ((pre.length:Nat):Int) b 0) s=M8 nxt e pre.length x b s:=ac9 (b0:=b) nxt e hx b [] s rfl
  rw [fG,V7,Q6,h1]
  exact ih _ (by rw [h0];simp)
end
def adL (l:List aC) (_:Nat) (row:List Val) (p:aP):List aC:=l++[⟨row,p⟩]
theorem WL (e:Ex) (i:Nat) (x:aC) : ∀ (b:List aC) (s:List aC),M8 adL e i x b s=s++jnX e b x
 | [],s=>by simp [M8,jnX]
 | y::b,s=>by
  rw [M8,WL e i x b]
  show _=s++(jnY e x y++jnX e b x)
  unfold jnY
  cases nQ x.valid y.valid&&cT e x y with
  | false=>rfl
  | true=>show (s++[_])++_=_;rw [aqp];rfl
theorem Wj (e:Ex) (b:List aC) : ∀ (a:List aC) (i:Nat) (s:List aC),Q6 adL e b a i s=s++Ce e a b
 | [],i,s=>by simp [Q6,Ce]
 | x::a,i,s=>by
  rw [Q6,Wj e b a,WL,aqp];rfl
theorem aiy (e:Ex) (a b:List aC):xD adL e a b (fG (fun x y:aC=>nQ x.valid y.valid) b a 0) []=Ce e a b:=by
 have:=Vp (a0:=a) (b:=b) adL e a [] [] rfl
 rw [Wj] at this
 exact this
def uo (ps:List (List aP)) (i:Nat) (_:List Val) (p:aP):List (List aP):=ps.set i (ps.getD i []++[p])
theorem Io (e:Ex) (i:Nat) (x:aC) : ∀ (b:List aC) (ps:List (List aP)),i<ps.length->M8 uo e i x b ps=ps.set i (ps.getD i []++fE (cT e) b x)
 | [],ps,h=>by
  show ps=ps.set i (ps.getD i []++[])
  rw [aqy,aqR,ap9 h]
  show ps=ps.set i ps[i]
  rw [List.set_getElem_self]
 | y::b,ps,h=>by
  show M8 uo e i x b _=ps.set i (ps.getD i []++((bif nQ x.valid y.valid&&cT e x y then [vO x.valid y.valid] else [])++fE (cT e) b x))
  cases nQ x.valid y.valid&&cT e x y with
  | false=>exact Io e i x b ps h
  | true =>
   rw [ap2,Io e i x b _ (by unfold uo;simpa using h)]
   unfold uo
   rw [List.set_set,aqR,aqh h,ap2]
   show ps.set i ((ps.getD i []++[_])++_)=_
   rw [aqp]
theorem Yw (e:Ex) (b:List aC) : ∀ (a:List aC) (pre:List (List aP)),Q6 uo e b a pre.length (pre++List.replicate a.length [])=pre++a.map (fE (cT e) b)
 | [],pre=>by simp [Q6]
 | x::a,pre=>by
  rw [Q6,Io e _ x b _ (by simp)]
  have e1:(pre++List.replicate (x::a).length []).getD pre.length []=([]:List aP):=by
   rw [aqR,ap7 (aqe _),Nat.sub_self];rfl
  rw [e1,ap5,List.set_append_right _ _ (aqe _),Nat.sub_self,aqk,List.replicate_succ,List.set_cons_zero]
  have ih:=Yw e b a (pre++[fE (cT e) b x])
  rw [ap8,aqp] at ih
  show Q6 uo e b a (pre.length+1) _=_
  rw [show pre++fE (cT e) b x::List.replicate a.length []=pre++([fE (cT e) b x]++List.replicate a.length []) from rfl]
  refine ih.trans ?_
  simp
theorem aiK (e:Ex) (a b:List aC):xD uo e a b (fG (fun x y:aC=>nQ x.valid y.valid) b a 0) (List.replicate a.length [])=a.map (fE (cT e) b):=by
 have:=Vp (a0:=a) (b:=b) uo e a [] (List.replicate a.length []) rfl
 have h2:=Yw e b a []
 rw [ap5] at h2
 exact this.trans h2
theorem RN (l:List aP) (t:Int) (hl:l.length<=1000000):abm l t=some (iq l t):=by
 have key : ∀ (n i:Nat),i<=l.length->l.length-i<n->(az (mU l t) n (i:Int)).bind ol=some (iq (l.drop i) t):=by
  intro n
  induction n with
  | zero=>intro i _ h;omega
  | succ n ih =>
   intro i hi hn
   rw [az]
   by_cases hlt:i<l.length
   ·obtain ⟨x,hx⟩:=gol_ hlt
    have hd:l.drop i=x::l.drop (i+1):=by rw [aqv hlt,(ap0.1 hx).2]
    have hb:mU l t (i:Int)=bif (aD x&&KR x t) then some (.ret true) else some (.next ((i+1:Nat):Int)):=by
     unfold mU
     simp only
     rw [bf hx,ap2,gn_ hx,apZ,D9,apZ,wrapN (by omega)];rfl
    rw [hb,hd,rU]
    cases aD x&&KR x t with
    | true=>rfl
    | false =>
     show (az (mU l t) n ((i+1:Nat):Int)).bind ol=_
     rw [ih (i+1) (by omega) (by omega),Bool.false_or]
   ·have:i=l.length:=by omega
    subst this
    have hb:mU l t ((l.length:Nat):Int)=some (.exit ((l.length:Nat):Int)):=by
     unfold mU;simp only;rw [lF_];rfl
    rw [hb,aqU];rfl
 have:=key fuel 0 (aqj _) (by unfold fuel;omega)
 rw [List.drop_zero] at this
 exact this
def tlN (n:Int):List Int->List Int
 | []=>[n]
 | x::l=>if n<x then n::x::l else x::l
theorem XT (l:List Int) (hl:l.length<=1000000) : ∀ (n i:Nat) (out:List Int),i<=l.length->l.length-i<n->out.length+(l.length-i)<=4000000->az (ji l) n (out,(i:Int))=some (.inl (out++l.drop i,((l.length:Nat):Int)))
 | 0,i,out,_,h,_=>by omega
 | n+1,i,out,hi,hn,ho=>by
  rw [az]
  by_cases hlt:i<l.length
  ·obtain ⟨x,hx⟩:=gol_ hlt
   have hd:l.drop i=x::l.drop (i+1):=by rw [aqv hlt,(ap0.1 hx).2]
   have hb:ji l (out,(i:Int))=some (.next (out++[x],((i+1:Nat):Int))):=by
    unfold ji
    simp only
    rw [bf hx,ap2,gn_ hx,apZ,ap4 (by omega),ap2,wrapN (by omega)]
   rw [hb]
   show az (ji l) n (out++[x],_)=_
   rw [XT l hl n (i+1) (out++[x]) (by omega) (by omega) (by rw [ap8];simp;omega),hd,aqp];rfl
  ·have:i=l.length:=by omega
   subst this
   have hb:ji l (out,((l.length:Nat):Int))=some (.exit (out,((l.length:Nat):Int))):=by
    unfold ji;simp only;rw [lF_];rfl
   rw [hb,aqU,aqy]
theorem Yv (l:List Int) (n0:Int) (hl:l.length<=1000000) : ∀ (n i:Nat) (out:List Int),i<=l.length->l.length-i<n->out.length+(l.length-i)<=2000000 ->
  ∃ j out',az (rW l n0) n (out,(i:Int))=some (.inl (out',((j:Nat):Int)))/\j<=l.length/\out++wG n0 (l.drop i)=out'++tlN n0 (l.drop j)/\out'.length+(l.length-j)<=2000000
 | 0,i,out,_,h,_=>by omega
 | n+1,i,out,hi,hn,ho=>by
  rw [az]
  by_cases hlt:i<l.length
  ·obtain ⟨x,hx⟩:=gol_ hlt
   have hd:l.drop i=x::l.drop (i+1):=by rw [aqv hlt,(ap0.1 hx).2]
   have hb:rW l n0 (out,(i:Int))=bif decide (x<n0) then some (.next (out++[x],((i+1:Nat):Int))) else some (.exit (out,(i:Int))):=by
    unfold rW
    simp only
    rw [bf hx,ap2,gn_ hx,apZ,ap4 (show out.length+1<=17592186044416 by omega),ap2,wrapN (by omega)]
   rw [hb]
   by_cases hlx:x<n0
   ·rw [ap4 hlx,ap2]
    obtain ⟨j,out',h1,h2,h3,h4⟩:=Yv l n0 hl n (i+1) (out++[x]) (by omega) (by omega) (by rw [ap8];simp;omega)
    refine ⟨j,out',h1,h2,?_,h4⟩
    rw [<- h3,hd,wG,if_pos hlx,aqp];rfl
   ·rw [ap3 hlx,ap1]
    refine ⟨i,out,rfl,hi,?_,ho⟩
    rw [hd,wG,if_neg hlx,tlN]
  ·have:i=l.length:=by omega
   subst this
   have hb:rW l n0 (out,((l.length:Nat):Int))=some (.exit (out,((l.length:Nat):Int))):=by
    unfold rW;simp only;rw [lF_];rfl
   rw [hb]
   exact ⟨l.length,out,rfl,aqe _,by rw [aqU];rfl,ho⟩
theorem Wh (l:List Int) (n:Int) (hl:l.length<=1000000):RS l n=some (wG n l):=by
 obtain ⟨j,out,h1,h2,h3,h4⟩:=Yv l n hl fuel 0 [] (aqj _) (by unfold fuel;omega) (by simp;omega)
 rw [List.drop_zero,ap5] at h3
 have hc : ∀ o:List Int,o.length+(l.length-j)<=4000000->az (ji l) fuel (o,((j:Nat):Int))=some (.inl (o++l.drop j,((l.length:Nat):Int))):=fun o ho=>XT l hl fuel j o h2 (by unfold fuel;omega) ho
 unfold RS
 rw [show ((0:Int))=((0:Nat):Int) from rfl,h1,apZ]
 show uj l n (.inl (out,((j:Nat):Int)))=_
 unfold uj
 simp only
 have hg:decide (out.length+1<=17592186044416)=true:=ap4 (by omega)
 by_cases hj:j=l.length
 ·rw [ap4 (show ((j:Nat):Int)=((l.length:Nat):Int) by omega),ap2,hg,ap2,hc (out++[n]) (by rw [ap8];simp;omega),apZ,h3,hj,aqU]
  show some _=some _
  rw [aqy];rfl
 ·have hlt:j<l.length:=by omega
  obtain ⟨x,hx⟩:=gol_ hlt
  have hd:l.drop j=x::l.drop (j+1):=by rw [aqv hlt,(ap0.1 hx).2]
  rw [ap3 (show ¬ ((j:Nat):Int)=((l.length:Nat):Int) by omega),ap1,gn_ hx,apZ,hg]
  rw [show F6 l=ji l from rfl,show Ga l=ji l from rfl,h3,hd,tlN]
  by_cases hnx:n<x
  ·rw [ap4 hnx,ap2,ap2,if_pos hnx,hc (out++[n]) (by rw [ap8];simp;omega),apZ]
   show some _=some _
   rw [hd,aqp];rfl
  ·rw [ap3 hnx,ap1,if_neg hnx,hc out (by omega),apZ]
   show some _=some _
   rw [hd]
theorem agZ (l:List aP) (hl:l.length<=100000):ahY l=some (I8 l []):=by
 have key : ∀ (n i:Nat) (out:List Int),i<=l.length->l.length-i<n->out.length+2*(l.length-i)<=900000->(az (tC l) n (out,(i:Int))).bind Ht=some (I8 (l.drop i) out):=by
  intro n
  induction n with
  | zero=>intro i out _ h _;omega
  | succ n ih =>
   intro i out hi hn ho
   rw [az]
   by_cases hlt:i<l.length
   ·obtain ⟨x,hx⟩:=gol_ hlt
    have hd:l.drop i=x::l.drop (i+1):=by rw [aqv hlt,(ap0.1 hx).2]
    have h1:=Af x.lo out
    have h2:=Af x.hi (wG x.lo out)
    have hb:tC l (out,(i:Int))=some (.next (bif aD x then wG x.hi (wG x.lo out) else out,((i+1:Nat):Int))):=by
     unfold tC
     simp only
     rw [bf hx,ap2,gn_ hx,apZ,show dX x=YJ x from rfl,lm,apZ,wrapN (by omega)]
     cases aD x with
     | false=>rfl
     | true=>rw [ap2,ap2,Wh _ _ (by omega),apZ,Wh _ _ (by omega),apZ]
    rw [hb,hd,I8]
    exact ih (i+1) _ (by omega) (by omega) (by cases aD x<;>simp<;>omega)
   ·have:i=l.length:=by omega
    subst this
    have hb:tC l (out,((l.length:Nat):Int))=some (.exit (out,((l.length:Nat):Int))):=by
     unfold tC;simp only;rw [lF_];rfl
    rw [hb,aqU];rfl
 have:=key fuel 0 [] (aqj _) (by unfold fuel;omega) (by simp;omega)
 rw [List.drop_zero] at this
 exact this
set_option maxRecDepth 100000
def BC (kind:Int) (x y:Bool):Bool:=(Pf kind x y).getD false
theorem aeK (kind:Int) (x y:Bool):Pf kind x y=some (BC kind x y):=by
 unfold BC Pf
 cases decide (kind=1)<;>cases decide (kind=2)<;>cases decide (kind=3)<;>cases x<;>cases y<;>rfl
theorem abv (x y:Bool):BC 3 x y=(x && !y):=by cases x<;>cases y<;>rfl
theorem aaS (w:Bool->Bool->Bool) (a b:List aP) {p:List Int} {i:Nat} {x y:Int} (hx:p[i]?=some x) (hy:p[i+1]?=some y) (out:List aP):lI w a b (p.drop i) out=lI w a b (p.drop (i+1)) (if w (iq a x) (iq b x) then yo out x y else out):=by
 obtain ⟨h1,h2⟩:=ap0.1 hx
 obtain ⟨h3,h4⟩:=ap0.1 hy
 rw [aqv h1,h2,aqv h3,h4,lI]
theorem afL (w:Bool->Bool->Bool) (a b:List aP) {p:List Int} {i:Nat} (h:p.length<=i+1) (out:List aP):lI w a b (p.drop i) out=out:=by
 have:(p.drop i).length<=1:=by rw [List.length_drop];omega
 match hq:p.drop i,this with
 | [],_=>rfl
 | [_],_=>rfl
def CT (kind:Int) (a b:List aP) (p:List Int) (s:Nat × List aP):Tm:=[(0, .one (.c (.int .i64 kind))),(1, .one (.c (YN a))),(2, .one (.c (YN b))),(8, .one (.c (.lst (p.map fun x=>[AC.int .i64 x])))),(9, .one (.own (s.2.map bv) 1)),(10, .one (.c (.int .i64 s.1)))]
theorem O3 (kind:Int) (a b:List aP) (p:List Int) (s:Nat × List aP):mh 2 (CT kind a b p s):=⟨trivial,trivial,trivial,trivial,(by show 1<2;omega),trivial,trivial⟩
set_option maxHeartbeats 4000000 in
theorem ad7 (kind:Int) (a b:List aP) (ha:a.length<=10000) (hb:b.length<=10000):Pure Tryz.prog 102 [.one (.int .i64 kind), .one (YN a), .one (YN b)] (.val (.one (.lst ((lI (BC kind) a b (p8 a b) []).map bv)))):=by
 have hpts:=ahd (agZ (⟨0,1099511627776⟩::(a++b)) (by simp;omega))
 rw [show I8 (⟨0,1099511627776⟩::(a++b)) []=p8 a b from rfl,ap',aqb] at hpts
 have hca:=fun t=>Ti (RN a t (by omega))
 have hcb:=fun t=>Ti (RN b t (by omega))
 have hwt:=fun x y=>afl (aeK kind x y)
 have hpl:(p8 a b).length<=100000:=by have:=Wz (⟨0,1099511627776⟩::(a++b)) [];unfold p8;simp at this ⊢;omega
 have hasc:(p8 a b).Pairwise (· < ·):=Px _ List.Pairwise.nil
 have hrg : ∀ x∈p8 a b,0<=x/\x<=1099511627776:=fun x hx=>by
  rcases (Ps _ _ x).1 hx with h|⟨p,_,hp,h⟩
  ·cases h
  ·have:=lh hp;omega
 generalize p8 a b=p at hpts hpl hasc hrg ⊢
 have hlt2 : ∀ (i:Nat) x y,p[i]?=some x->p[i+1]?=some y->x<y:=fun i x y h1 h2=>by
  obtain ⟨q1,q2⟩:=ap0.1 h1
  obtain ⟨q3,q4⟩:=ap0.1 h2
  have:=List.pairwise_iff_getElem.1 hasc i (i+1) q1 q3 (by omega)
  omega
 generalize hR:lI (BC kind) a b p []=R
 refine pa_ Gb Tryz.func102 rfl rfl Tryz.ntmps102 (by simp) ?_
 simp only [argT,PV.av,ap',aqd]
 repeat' (first
  | refine st_nil ?_
  | (refine aM rfl rfl rfl rfl ?_ ?_; · (repeat' (first|exact trivial|rfl|exact ap_ rfl|omega|exact aF (by intro _;rfl) _|(intro e he;simp at he;subst he;rfl)|(intro e he;obtain ⟨q,_,rfl⟩:=aqz.1 he;rfl)|exact aqa .. | (simp only [aqa,ap8,aqk,aqu]<;>omega)|apply And.intro)))
  | (refine aN rfl rfl rfl rfl ?_ ?_; · (repeat' (first|exact trivial|rfl|exact ap_ rfl|omega|exact aF (by intro _;rfl) _|(intro e he;simp at he;subst he;rfl)|(intro e he;obtain ⟨q,_,rfl⟩:=aqz.1 he;rfl)|exact aqa .. | (simp only [aqa,ap8,aqk,aqu]<;>omega)|apply And.intro)))
  | (refine sS_ rfl rfl rfl ?_ ?_; · (repeat' (first|exact trivial|rfl|exact ap_ rfl|omega|exact aF (by intro _;rfl) _|(intro e he;simp at he;subst he;rfl)|(intro e he;obtain ⟨q,_,rfl⟩:=aqz.1 he;rfl)|exact aqa .. | (simp only [aqa,ap8,aqk,aqu]<;>omega)|apply And.intro)))
  | (refine aO rfl rfl rfl rfl ?_ ?_; · (repeat' (first|exact trivial|rfl|exact ap_ rfl|omega|exact aF (by intro _;rfl) _|(intro e he;simp at he;subst he;rfl)|(intro e he;obtain ⟨q,_,rfl⟩:=aqz.1 he;rfl)|exact aqa .. | (simp only [aqa,ap8,aqk,aqu]<;>omega)|apply And.intro)))
  | refine aH rfl rfl rfl ?_
  | refine sk0_ rfl rfl ?_
  | refine aZ rfl rfl rfl rfl hpts rfl ?_
  | (refine aV rfl (fun hb=>?_) (fun hb=>?_)<;>(first|exact (fx_ hb).elim|rw [hb]))
  | refine aw_seq ?_
  | refine aw_region Gb _ rfl ?_
  | refine aw_drawn2 GX _ rfl mixed (by decide +kernel) ?_
  | (refine aG rfl (fun hb=>?_) (fun hb=>?_)<;>(try exact (fx_ hb).elim))
  | refine aw_block ?_
  | refine aw_exit ?_
  | refine aw_ret ?_
  | refine aw_skip ?_)
 refine dC 9 2 rfl ?_
 refine eH (CT kind a b p) (fun s=>[.spare (1+a.length+b.length) 2, .spare s.2.length 2]) (fun s=>1<=s.1/\s.1<=p.length+1/\lI (BC kind) a b (p.drop (s.1-1)) s.2=R/\s.2.length<=s.1 /\ ∀ x,p[s.1-1]?=some x -> ∀ q∈s.2,q.hi<=x) (fun s=>p.length+1-s.1) (1,[]) ⟨aqe _,by simp,by rw [Nat.sub_self,List.drop_zero];exact hR,by simp,fun x _ q hq=>by cases hq⟩ (fun _ _=>aqj _)
  (fm_ ⟨rfl,rfl,rfl,rfl,rfl,rfl,trivial⟩ [] (by simp) (O3 _ _ _ _ _) ⟨trivial,trivial,trivial⟩) ?_
 rintro ⟨i,out⟩ ⟨h1,h2,h3,h4,h5⟩
 dsimp only at h1 h2 h3 h4 h5
 obtain ⟨i,rfl⟩ : ∃ j,i=j+1:=⟨i-1,by omega⟩
 rw [Nat.add_sub_cancel] at h3 h5
 unfold CT
 dsimp only
 by_cases hlt:i+1<p.length
 ·obtain ⟨y,hy⟩:=gol_ hlt
  obtain ⟨x,hx⟩:=gol_ (l:=p) (i:=i) (by omega)
  have hxy:=hlt2 i x y hx hy
  have hG:decide (((i+1:Nat):Int)<((p.length:Nat):Int))=true:=ap4 (by omega)
  have hw1:IntKind.i64.wrap (((i+1:Nat):Int)-1)=((i:Nat):Int):=bF (by omega) (by omega)
  have hcax:=hca x
  have hcbx:=hcb x
  have hwx:=hwt (iq a x) (iq b x)
  have hjn:=aaG out ⟨x,y⟩ (by omega)
  have hadd:=agv (h5 x hx) hxy
  have hrx:=hrg x (ap6 hx)
  have hry:=hrg y (ap6 hy)
  have h5y : ∀ q∈yo out x y,q.hi<=y:=fun q hq=>by
   rw [<- hadd] at hq
   rcases Cs out with ho|⟨m,r,ho⟩
   ·rw [ho,Pd] at hq
    rw [aqF.1 hq];exact Int.le_refl _
   ·have hm:=h5 x hx
    rw [ho] at hq hm
    have hr:=hm r (by simp)
    rw [CW] at hq
    split at hq
    ·rcases aqr.1 hq with hq|hq
     ·have:=hm q (by simp [hq]);omega
     ·rw [aqF.1 hq];show PW r.hi y<=y;rw [L_];omega
    ·rcases aqr.1 hq with hq|hq
     ·have:=hm q hq;omega
     ·rw [aqF.1 hq];exact Int.le_refl _
  have hlen:=af6 out ⟨x,y⟩
  rw [aaS _ a b hx hy] at h3
  rw [hadd] at hjn hlen
  cases hk:BC kind (iq a x) (iq b x) with
  | false =>
   rw [hk] at hwx h3
   rw [if_neg (by simp)] at h3
   repeat' (first
    | refine st_nil ?_
    | rw [aqa]
    | rw [hG]
    | rw [hw1]
    | (refine aM rfl rfl rfl rfl ?_ ?_; · (repeat' (first|exact trivial|rfl|exact ap_ rfl|omega|exact aF (by intro _;rfl) _|(intro e he;simp at he;subst he;rfl)|(intro e he;obtain ⟨q,_,rfl⟩:=aqz.1 he;rfl)|exact aqa .. | (simp only [aqa,ap8,aqk,aqu]<;>omega)|apply And.intro)))
    | (refine dm rfl rfl rfl rfl rfl rfl rfl rfl (cZ hx) ?_ ?_; · exact ⟨by omega,rfl⟩)
    | (refine dm rfl rfl rfl rfl rfl rfl rfl rfl (cZ hy) ?_ ?_; · exact ⟨by omega,rfl⟩)
    | (refine aN rfl rfl rfl rfl ?_ ?_; · (repeat' (first|exact trivial|rfl|exact ap_ rfl|omega|exact aF (by intro _;rfl) _|(intro e he;simp at he;subst he;rfl)|(intro e he;obtain ⟨q,_,rfl⟩:=aqz.1 he;rfl)|exact aqa .. | (simp only [aqa,ap8,aqk,aqu]<;>omega)|apply And.intro)))
    | (refine sS_ rfl rfl rfl ?_ ?_; · (repeat' (first|exact trivial|rfl|exact ap_ rfl|omega|exact aF (by intro _;rfl) _|(intro e he;simp at he;subst he;rfl)|(intro e he;obtain ⟨q,_,rfl⟩:=aqz.1 he;rfl)|exact aqa .. | (simp only [aqa,ap8,aqk,aqu]<;>omega)|apply And.intro)))
    | (refine aO rfl rfl rfl rfl ?_ ?_; · (repeat' (first|exact trivial|rfl|exact ap_ rfl|omega|exact aF (by intro _;rfl) _|(intro e he;simp at he;subst he;rfl)|(intro e he;obtain ⟨q,_,rfl⟩:=aqz.1 he;rfl)|exact aqa .. | (simp only [aqa,ap8,aqk,aqu]<;>omega)|apply And.intro)))
    | refine aH rfl rfl rfl ?_
    | refine sk0_ rfl rfl ?_
    | refine aZ rfl rfl rfl rfl hcax rfl ?_
    | refine aZ rfl rfl rfl rfl hcbx rfl ?_
    | refine aZ rfl rfl rfl rfl hwx rfl ?_
    | (refine aV rfl (fun hb=>?_) (fun hb=>?_)<;>(first|exact (fx_ hb).elim|rw [hb]))
    | refine aw_seq ?_
    | refine aw_region Gb _ rfl ?_
    | refine aw_drawn2 GX _ rfl mixed (by decide +kernel) ?_
    | (refine aG rfl (fun hb=>?_) (fun hb=>?_)<;>(try exact (fx_ hb).elim))
    | refine aw_block ?_
    | refine aw_exit ?_
    | refine aw_ret ?_
    | refine aw_skip ?_)
   exact ⟨(i+2,out),⟨by show 1<=i+2;omega,by show i+2<=_;omega,h3,by show out.length<=i+2;omega,fun z hz q hq=>by
    have hz:p[i+1]?=some z:=hz
    rw [hy] at hz;injection hz with hz;subst hz
    have:=h5 x hx q hq;omega⟩,by show p.length+1-(i+2)<p.length+1-(i+1);omega,fm_ ⟨rfl,rfl,rfl,rfl,rfl,bB (show IntKind.i64.wrap (((i+1:Nat):Int)+1)=((i+2:Nat):Int) from bF (by omega) (by omega)),trivial⟩ [] rfl (O3 _ _ _ _ _) ⟨trivial,trivial,trivial⟩⟩
  | true =>
   rw [hk] at hwx h3
   rw [if_pos rfl] at h3
   repeat' (first
    | refine st_nil ?_
    | rw [aqa]
    | rw [hG]
    | rw [hw1]
    | (refine ajh rfl rfl rfl rfl (by rw [aqa];rfl) hjn ?_)
    | (refine ahh 1 2 [(0, .one (.c (.int .i64 kind))),(1, .one (.c (YN a))),(2, .one (.c (YN b))),(8, .one (.c (.lst (p.map fun x=>[AC.int .i64 x])))),(9, .one (.own ((yo out x y).map bv) 1)),(10, .one (.c (.int .i64 ((i+1:Nat):Int))))] (aqj _) (by omega) rfl (by intro z hz;simp at hz;subst hz;trivial) (by intro z hz;simp only [aqf,List.not_mem_nil,or_false] at hz;rcases hz with rfl|rfl|rfl|rfl|rfl|rfl;exact .inl ⟨rfl,trivial⟩;exact .inl ⟨rfl,trivial⟩;exact .inl ⟨rfl,trivial⟩;exact .inl ⟨rfl,trivial⟩;exact .inr ⟨_,rfl,rfl⟩;exact .inl ⟨rfl,trivial⟩) ?_)
    | (refine aM rfl rfl rfl rfl ?_ ?_; · (repeat' (first|exact trivial|rfl|exact ap_ rfl|omega|exact aF (by intro _;rfl) _|(intro e he;simp at he;subst he;rfl)|(intro e he;obtain ⟨q,_,rfl⟩:=aqz.1 he;rfl)|exact aqa .. | (simp only [aqa,ap8,aqk,aqu]<;>omega)|apply And.intro)))
    | (refine dm rfl rfl rfl rfl rfl rfl rfl rfl (cZ hx) ?_ ?_; · exact ⟨by omega,rfl⟩)
    | (refine dm rfl rfl rfl rfl rfl rfl rfl rfl (cZ hy) ?_ ?_; · exact ⟨by omega,rfl⟩)
    | (refine aN rfl rfl rfl rfl ?_ ?_; · (repeat' (first|exact trivial|rfl|exact ap_ rfl|omega|exact aF (by intro _;rfl) _|(intro e he;simp at he;subst he;rfl)|(intro e he;obtain ⟨q,_,rfl⟩:=aqz.1 he;rfl)|exact aqa .. | (simp only [aqa,ap8,aqk,aqu]<;>omega)|apply And.intro)))
    | (refine sS_ rfl rfl rfl ?_ ?_; · (repeat' (first|exact trivial|rfl|exact ap_ rfl|omega|exact aF (by intro _;rfl) _|(intro e he;simp at he;subst he;rfl)|(intro e he;obtain ⟨q,_,rfl⟩:=aqz.1 he;rfl)|exact aqa .. | (simp only [aqa,ap8,aqk,aqu]<;>omega)|apply And.intro)))
    | (refine aO rfl rfl rfl rfl ?_ ?_; · (repeat' (first|exact trivial|rfl|exact ap_ rfl|omega|exact aF (by intro _;rfl) _|(intro e he;simp at he;subst he;rfl)|(intro e he;obtain ⟨q,_,rfl⟩:=aqz.1 he;rfl)|exact aqa .. | (simp only [aqa,ap8,aqk,aqu]<;>omega)|apply And.intro)))
    | refine aH rfl rfl rfl ?_
    | refine sk0_ rfl rfl ?_
    | refine aZ rfl rfl rfl rfl hcax rfl ?_
    | refine aZ rfl rfl rfl rfl hcbx rfl ?_
    | refine aZ rfl rfl rfl rfl hwx rfl ?_
    | (refine aV rfl (fun hb=>?_) (fun hb=>?_)<;>(first|exact (fx_ hb).elim|rw [hb]))
    | refine aw_seq ?_
    | refine aw_region Gb _ rfl ?_
    | refine aw_drawn2 GX _ rfl mixed (by decide +kernel) ?_
    | (refine aG rfl (fun hb=>?_) (fun hb=>?_)<;>(try exact (fx_ hb).elim))
    | refine aw_block ?_
    | refine aw_exit ?_
    | refine aw_ret ?_
    | refine aw_skip ?_)
   exact ⟨(i+2,yo out x y),⟨by show 1<=i+2;omega,by show i+2<=_;omega,h3,by show (yo out x y).length<=i+2;omega,fun z hz q hq=>by
    have hz:p[i+1]?=some z:=hz
    rw [hy] at hz;injection hz with hz;subst hz
    exact h5y q hq⟩,by show p.length+1-(i+2)<p.length+1-(i+1);omega,fm_ ⟨rfl,rfl,rfl,rfl,rfl,bB (show IntKind.i64.wrap (((i+1:Nat):Int)+1)=((i+2:Nat):Int) from bF (by omega) (by omega)),trivial⟩ [] (by simp) (O3 _ _ _ _ _) ⟨trivial,trivial,trivial⟩⟩
 ·have hG:decide (((i+1:Nat):Int)<((p.length:Nat):Int))=false:=ap3 (by omega)
  rw [afL _ a b (by omega)] at h3
  subst h3
  repeat' (first
   | refine st_nil ?_
   | rw [aqa]
   | rw [hG]
   | rw [hw1]
   | (refine aM rfl rfl rfl rfl ?_ ?_; · (repeat' (first|exact trivial|rfl|exact ap_ rfl|omega|exact aF (by intro _;rfl) _|(intro e he;simp at he;subst he;rfl)|(intro e he;obtain ⟨q,_,rfl⟩:=aqz.1 he;rfl)|exact aqa .. | (simp only [aqa,ap8,aqk,aqu]<;>omega)|apply And.intro)))
   | (refine aN rfl rfl rfl rfl ?_ ?_; · (repeat' (first|exact trivial|rfl|exact ap_ rfl|omega|exact aF (by intro _;rfl) _|(intro e he;simp at he;subst he;rfl)|(intro e he;obtain ⟨q,_,rfl⟩:=aqz.1 he;rfl)|exact aqa .. | (simp only [aqa,ap8,aqk,aqu]<;>omega)|apply And.intro)))
   | (refine sS_ rfl rfl rfl ?_ ?_; · (repeat' (first|exact trivial|rfl|exact ap_ rfl|omega|exact aF (by intro _;rfl) _|(intro e he;simp at he;subst he;rfl)|(intro e he;obtain ⟨q,_,rfl⟩:=aqz.1 he;rfl)|exact aqa .. | (simp only [aqa,ap8,aqk,aqu]<;>omega)|apply And.intro)))
   | (refine aO rfl rfl rfl rfl ?_ ?_; · (repeat' (first|exact trivial|rfl|exact ap_ rfl|omega|exact aF (by intro _;rfl) _|(intro e he;simp at he;subst he;rfl)|(intro e he;obtain ⟨q,_,rfl⟩:=aqz.1 he;rfl)|exact aqa .. | (simp only [aqa,ap8,aqk,aqu]<;>omega)|apply And.intro)))
   | refine aH rfl rfl rfl ?_
   | refine sk0_ rfl rfl ?_
   | (refine aV rfl (fun hb=>?_) (fun hb=>?_)<;>(first|exact (fx_ hb).elim|rw [hb]))
   | refine aw_seq ?_
   | refine aw_region Gb _ rfl ?_
   | refine aw_drawn2 GX _ rfl mixed (by decide +kernel) ?_
   | (refine aG rfl (fun hb=>?_) (fun hb=>?_)<;>(try exact (fx_ hb).elim))
   | refine aw_block ?_
   | refine aw_exit ?_
   | refine aw_ret ?_
   | refine aw_skip ?_)
  refine ⟨.inr rfl,?_⟩
  first|exact ⟨trivial,rfl⟩|exact ⟨⟨trivial,trivial⟩,rfl⟩|(refine ⟨?_,rfl⟩;repeat' (first|exact trivial|rfl|apply And.intro))
noncomputable def I_ (kind:Int) (a b:List aP):Option (List aP):=bif decide (a.length<=10000)&&decide (b.length<=10000) then some (lI (BC kind) a b (p8 a b) []) else none
theorem Su {kind:Int} {a b r:List aP} (H:I_ kind a b=some r):Pure Tryz.prog 102 [.one (.int .i64 kind), .one (.lst (a.map bv)), .one (.lst (b.map bv))] (.val (.one (.lst (r.map bv)))):=by
 unfold I_ at H
 obtain ⟨g,H⟩:=lJ H
 obtain rfl:=aqw H
 rw [aqg] at g
 exact ad7 kind a b (aqs g.1) (aqs g.2)
end Go.Proofs.YtlcceppoloaecaaGreatDoor
