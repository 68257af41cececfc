/- Parts. No condition. -/
import Derived.Test.YtlcceppoloaecaaGreatDoorXBG
set_option maxHeartbeats 8000000
set_option maxRecDepth 100000
set_option linter.unusedSimpArgs false
set_option linter.unusedVariables false
namespace Go.Proofs.YtlcceppoloaecaaGreatDoor
open Go.RowKit Go.MapKept
theorem bM {α β ρ:Type}{l:List α}{body:(List β×Int)->Option (Step (List β×Int) ρ)}(g:α->List β)(N:Nat)(h1:∀ (s:List β) (i:Nat) x,l[i]?=some x->s.length+(g x).length<=N->body (s,(i:Int))=some (.next (s++g x,((i+1:Nat):Int))))(h2:∀ s:List β,body (s,((l.length:Nat):Int))=some (.exit (s,((l.length:Nat):Int))))(hl:l.length<fuel)(s:List β)(hN:s.length+(l.flatMap g).length<=N) :
  ao body fuel (s,(0:Int))=some (.inl (s++l.flatMap g,((l.length:Nat):Int))):=by
 have key:∀ (n i:Nat) (s:List β),i<=l.length->l.length-i<n->s.length+((l.drop i).flatMap g).length<=N->ao body n (s,(i:Int))=some (.inl (s++(l.drop i).flatMap g,((l.length:Nat):Int))):=by
  intro n
  induction n with
  |zero=>intro i s _ h _;omega
  |succ n ih =>
   intro i s hi hn hs;rw[ao];by_cases OZ:i<l.length
   ·obtain⟨x,hx⟩:=gol_ OZ
    have e1:=(aq6.1 hx).2;rw[arG OZ,e1,arN]at hs ⊢;rw[ard]at hs;rw[h1 s i x hx m0];show ao body n _=_;rw[ih (i+1) (s++g x) m0 m0 (by rw[ard];omega),arA]
   ·have:i=l.length:=m0
    subst this;rw[h2,asb];simp
 have:=key fuel 0 s (aru _) m0 (by simpa using hN);simpa using this
def rP (l:List (List Val)):Prop:=l.Pairwise fun a b=>bL a b<0
theorem y7:∀ {a b:List (List Val)},rP a->rP b->(∀ x,x∈a↔x∈b)->a=b
 |[],[],_,_,_=>rfl
 |[],y::b,_,_,h=>by have:=(h y).2 m5;cases this
 |x::a,[],_,_,h=>by have:=(h x).1 m5;cases this
 |x::a,y::b,ha,hb,h=>by
  have ha:=ase.1 ha;have hb:=ase.1 hb;have irr:∀ z,¬ bL z z<0:=fun z=>by rw[tCr_.refl];omega
  have R5:x=y:=by
   rcases arp.1 ((h x).1 m5)with e|e
   ·exact e
   ·rcases arp.1 ((h y).2 m5)with e2|e2
    ·exact e2.symm
    ·exact absurd (tCr_.trans _ _ _ (ha.1 y e2) (hb.1 x e)) (irr x)
  subst R5;rw[y7 ha.2 hb.2 fun z=>?_];constructor
  ·intro hz
   rcases arp.1 ((h z).1 (arx _ hz))with rfl|e
   ·exact absurd (ha.1 z hz) (irr z)
   ·exact e
  ·intro hz
   rcases arp.1 ((h z).2 (arx _ hz))with rfl|e
   ·exact absurd (hb.1 z hz) (irr z)
   ·exact e
instance decRow (a b : List Val) : Decidable (a = b) := if h : bL a b = 0 then .isTrue (tCr_.zero _ _ h) else .isFalse fun e => h (by rw [e]; exact tCr_.refl _)
def bn (l:List ap)(r:List Val):List ax:=(l.filter fun f=>aw f.valid&&decide (f.row=r)).map (·.valid)
def dJ (l:List ap)(R:List (List Val)):Prop:=rP R /\ ∀ x,x∈R ↔ ∃ f∈l,aw f.valid=true/\f.row=x
def dz (l:List ap)(R:List (List Val)):List ap:=R.flatMap fun r=>(bK (bn l r)).map fun p=>⟨r,p⟩
theorem dJ.ext {l:List ap}{R S:List (List Val)}(h:dJ l R)(k:dJ l S):R=S:=y7 h.1 k.1 fun x=>(h.2 x).trans (k.2 x).symm
theorem l6 (l:List ap)(f:ap)(r:List Val):bn (l++[f]) r=bn l r++(if aw f.valid&&decide (f.row=r)then [f.valid]else []):=by
 unfold bn;rw[List.filter_append,ark];congr 1;by_cases h:(aw f.valid&&decide (f.row=r))=true
 ·simp[h]
 ·simp[h]
theorem Dp {s:ByteArray}:∀ {G:List bD} {i:Nat},eH s G=some i ->∃ g,G[i]?=some g/\cL g.f.row=s
 |[],_,h=>by simp[eH]at h
 |g::r,i,h=>by
  unfold eH at h;split at h
  ·rename_i e;injection h with h;subst h;exact⟨g,rfl,e.symm⟩
  ·cases hr:eH s r with
   |none=>rw[hr]at h;cases h
   |some j =>
    rw[hr]at h;injection h with h;subst h
    obtain⟨g',h1,h2⟩:=Dp hr;exact⟨g',by simpa using h1,h2⟩
theorem Cc {s:ByteArray}:∀ {G:List bD},eH s G=none ->∀ g∈G,cL g.f.row≠s
 |[],_,g,hg=>by cases hg
 |x::r,h,g,hg=>by
  unfold eH at h;split at h
  ·cases h
  ·rename_i e
   cases hr:eH s r with
   |none =>
    rcases arp.1 hg with rfl|hg
    ·exact fun q=>e q.symm
    ·exact Cc hr g hg
   |some j=>rw[hr]at h;cases h
structure GInv (l:List ap)(G:List bD):Prop where
 nd:G.Pairwise fun g h=>g.f.row≠h.f.row
 ps:∀ g∈G,g.ps=bn l g.f.row
 mem:∀ g∈G,∃ f∈l,aw f.valid=true/\f.row=g.f.row
 all:∀ f∈l,aw f.valid=true ->∃ g∈G,g.f.row=f.row
theorem GInv.step {l:List ap}{G:List bD}(h:GInv l G)(f:ap):GInv (l++[f]) (fx G f):=by
 unfold fx
 cases hv:aw f.valid with
 |false =>
  rw[aq7];refine⟨h.nd,fun g hg=>?_,fun g hg=>?_,fun f' RQ QU=>?_⟩
  ·rw[l6,hv];simpa using h.ps g hg
  ·obtain⟨f',h1,h2⟩:=h.mem g hg;exact⟨f',List.mem_append_left _ h1,h2⟩
  ·rcases arB.1 RQ with RQ|RQ
   ·exact h.all f' RQ QU
   ·rw[arQ.1 RQ]at QU;rw[hv]at QU;cases QU
 |true =>
  rw[aq8]
  cases hf:eH (cL f.row) G with
  |none =>
   have Ph:∀ g∈G,g.f.row≠f.row:=fun g hg e=>Cc hf g hg (by rw[e])
   have hemp:bn l f.row=[]:=by
    unfold bn;rw[List.map_eq_nil_iff,List.filter_eq_nil_iff];intro f' RQ hc;rw[arq]at hc;obtain⟨g,hg,e⟩:=h.all f' RQ hc.1;exact Ph g hg (e.trans (arC hc.2))
   refine⟨List.pairwise_append.2 ⟨h.nd,List.pairwise_singleton _ _,fun g hg g' Q3=>by rw[arQ.1 Q3];exact Ph g hg⟩,fun g hg=>?_,fun g hg=>?_,fun f' RQ QU=>?_⟩
   ·rcases arB.1 hg with hg|hg
    ·rw[l6,hv,show decide (f.row=g.f.row)=false from aq9 fun e=>Ph g hg e.symm]
     simpa using h.ps g hg
    ·rw[arQ.1 hg,l6,hv,hemp];simp
   ·rcases arB.1 hg with hg|hg
    ·obtain⟨f',h1,h2⟩:=h.mem g hg;exact⟨f',List.mem_append_left _ h1,h2⟩
    ·rw[arQ.1 hg];exact⟨f,m5,hv,rfl⟩
   ·rcases arB.1 RQ with RQ|RQ
    ·obtain⟨g,hg,e⟩:=h.all f' RQ QU;exact⟨g,List.mem_append_left _ hg,e⟩
    ·rw[arQ.1 RQ];exact⟨⟨f,[f.valid]⟩,m5,rfl⟩
  |some i =>
   obtain⟨g0,Tn,hk⟩:=Dp hf;have RB:g0.f.row=f.row:=key_inj hk;dsimp only;rw[Tn];dsimp only;have Tz:=(aq6.1 Tn).1;have Zu:(G.set i ⟨g0.f,g0.ps++[f.valid]⟩).map (·.f.row)=G.map (·.f.row):=by
    rw[List.map_set];refine List.ext_getElem? fun j=>?_
    rw[List.getElem?_set];split
    ·rename_i e;subst e
     rw[arj,if_pos Tz,arw,Tn];rfl
    ·rfl
   have Yw:(G.set i ⟨g0.f,g0.ps++[f.valid]⟩).Pairwise fun g h=>g.f.row≠h.f.row:=by
    have h1:(G.map (·.f.row)).Pairwise (· ≠ ·):=List.pairwise_map.2 h.nd;rw[<- Zu]at h1;exact List.pairwise_map.1 h1
   have WW:∀ g∈G.set i ⟨g0.f,g0.ps++[f.valid]⟩,(g∈G/\g.f.row≠f.row)\/g=⟨g0.f,g0.ps++[f.valid]⟩:=by
    intro g hg;obtain⟨j,hj⟩:=List.getElem?_of_mem hg;rw[List.getElem?_set]at hj;split at hj
    ·rename_i e
     injection hj with hj
     exact .inr hj.symm
    ·rename_i e
     refine .inl ⟨arb hj,fun q=>?_⟩;have WI:=(aq6.1 hj).1;have e1:=(aq6.1 hj).2;have e2:=(aq6.1 Tn).2;rcases Nat.lt_or_gt_of_ne e with OZ|OZ
     ·have:=List.pairwise_iff_getElem.1 h.nd i j Tz WI OZ
      rw[e1,e2]at this;exact this (RB.trans q.symm)
     ·have:=List.pairwise_iff_getElem.1 h.nd j i WI Tz OZ
      rw[e1,e2]at this;exact this (q.trans RB.symm)
   have Zv:=arb Tn;refine⟨Yw,fun g hg=>?_,fun g hg=>?_,fun f' RQ QU=>?_⟩
   ·rcases WW g hg with⟨hg,Ph⟩|rfl
    ·rw[l6,hv,show decide (f.row=g.f.row)=false from aq9 fun e=>Ph e.symm]
     simpa using h.ps g hg
    ·show g0.ps++[f.valid]=bn (l++[f]) g0.f.row
     rw[l6,hv,show decide (f.row=g0.f.row)=true from aq_ RB.symm,<- h.ps g0 Zv];rfl
   ·rcases WW g hg with⟨hg,_⟩|rfl
    ·obtain⟨f',h1,h2⟩:=h.mem g hg;exact⟨f',List.mem_append_left _ h1,h2⟩
    ·exact⟨f,m5,hv,RB.symm⟩
   ·have hex:∃ g∈G,g.f.row=f'.row:=by
     rcases arB.1 RQ with RQ|RQ
     ·exact h.all f' RQ QU
     ·rw[arQ.1 RQ];exact⟨g0,Zv,RB⟩
    obtain⟨g,hg,e⟩:=hex;have:g.f.row∈(G.set i ⟨g0.f,g0.ps++[f.valid]⟩).map (·.f.row):=by rw[Zu];exact List.mem_map_of_mem hg
    obtain⟨g',Q3,e'⟩:=arK.1 this;exact⟨g',Q3,e'.trans e⟩
theorem abS (l:List ap):GInv l (dp l):=by
 have:∀ (l l0:List ap) (G:List bD),GInv l0 G->GInv (l0++l) (l.foldl fx G):=by
  intro l
  induction l with
  |nil=>intro l0 G h;simpa using h
  |cons f l ih =>
   intro l0 G h;have:=ih (l0++[f]) _ (h.step f);rw[arA]at this;exact this
 have:=this l [] [] ⟨List.Pairwise.nil,fun g hg=>(by cases hg),fun g hg=>(by cases hg),fun f hf=>(by cases hf)⟩;simpa[dp]using this
theorem uC (a b d:List Val)(h1:bL a b<=0)(h2:bL b d<=0):bL a d<=0:=by
 rcases Int.lt_or_eq_of_le h1 with h1|h1
 ·rcases Int.lt_or_eq_of_le h2 with h2|h2
  ·exact Int.le_of_lt (tCr_.trans _ _ _ h1 h2)
  ·rw[<- tCr_.zero _ _ h2];exact Int.le_of_lt h1
 ·rw[tCr_.zero _ _ h1];exact h2
theorem aiO (a b:List Val)(h:¬ bL a b<0):bL b a<=0:=by
 have:=(tCr_.anti a b);omega
theorem BQ (l:List ap):∃ R,dJ l R/\l8 l=R.map fun r=>⟨r,bn l r⟩:=by
 have hi:=abS l;have hp:=pH fy ((dp l).map fun g=>(⟨g.f.row,g.ps⟩:ac));have ha:=GV (c:=fy) (fun a b d=>uC a.row b.row d.row) (fun a b=>aiO a.row b.row) ((dp l).map fun g=>(⟨g.f.row,g.ps⟩:ac));have hn:(l8 l).Pairwise fun a b=>a.row≠b.row:=by
  have h1:((dp l).map fun g=>(⟨g.f.row,g.ps⟩:ac)).Pairwise fun a b=>a.row≠b.row:=List.pairwise_map.2 hi.nd
  exact(List.Perm.pairwise_iff (fun {a b} h=>Ne.symm h) hp).2 h1
 have Qp:∀ s∈l8 l,s.periods=bn l s.row /\ ∃ f∈l,aw f.valid=true/\f.row=s.row:=by
  intro s hs;obtain⟨g,hg,rfl⟩:=arK.1 (hp.mem_iff.1 hs);exact⟨hi.ps g hg,hi.mem g hg⟩
 refine⟨(l8 l).map (·.row),⟨?_,fun x=>?_⟩,?_⟩
 ·refine List.pairwise_map.2 ?_
  refine(List.Pairwise.and ha hn).imp ?_;rintro a b ⟨h1,h2⟩;rcases Int.lt_or_eq_of_le h1 with h|h
  ·exact h
  ·exact absurd (tCr_.zero _ _ h) h2
 ·constructor
  ·intro hx
   obtain⟨s,hs,rfl⟩:=arK.1 hx;exact(Qp s hs).2
  ·rintro⟨f,hf,hv,rfl⟩
   obtain⟨g,hg,e⟩:=hi.all f hf hv;exact arK.2 ⟨⟨g.f.row,g.ps⟩,hp.mem_iff.2 (arK.2 ⟨g,hg,rfl⟩),e⟩
 ·rw[List.map_map]
  refine(List.map_id (l8 l)).symm.trans (List.map_congr_left fun s hs=>?_);have:=(Qp s hs).1;obtain⟨r,ps⟩:=s;show(⟨r,ps⟩:ac)=⟨r,bn l r⟩;rw[<- this]
theorem fo_ {α β:Type}(f:α->β):∀ l:List α,(l.flatMap fun x=>[f x])=l.map f
 |[]=>rfl
 |x::l=>by rw[arN,fo_ f l];rfl
theorem LS (ps:List ax)(hn:ps.length<=100000):sD ps=some (wj (ones ps)):=by
 unfold sD;rw[bM (l:=ps) (fun p=>[(⟨p,1⟩:yV)]) 5864062014805 ?_ ?_ (by unfold fuel;omega) [] (by rw[fo_];simp;omega)]
 ·rw[aq5,fo_,ara]
  show(ajC (ones ps)).bind _=_;unfold ajC;rw[show decide ((ones ps).length<=100000)=true from aq_ (by simpa[ones]using hn)];rfl
 ·intro s i x hx hs
  have hi:=(aq6.1 hx).1;unfold nj;dsimp only;rw[aL hx,aq8,gn_ hx];simp only[aq5];rw[show decide (s.length+1<=5864062014805)=true from aq_ (by simpa using hs),aq8,wrapN m0]
 ·intro s
  unfold nj;dsimp only;rw[lF_,aq7]
theorem I5 (ps:List ax):(bK ps).length<=600*(1+2*ps.length):=by
 unfold bK yg;rw[arj,(St.yS _).2.length_eq];have h1:=St.HT ((wj (ones ps)).map toS) 600;have h2:St.gN ((wj (ones ps)).map toS)=St.oJ ((wj (ones ps)).map toS) 600:=rfl;rw[h2];have h3:((wj (ones ps)).map toS).length<=1+2*ps.length:=by
  rw[arj];unfold wj;rw[arj];have:=St.adP ((ones ps).map toC);simpa[ones]using this
 exact Nat.le_trans h1 (Nat.mul_le_mul_left _ h3)
theorem aiE (ps:List ax)(hn:ps.length<=300)(hv:∀ p∈ps,aw p=true):M4 ps=some (bK ps):=by
 unfold M4;by_cases h1:ps.length=1
 ·rw[show decide (((ps.length:Nat):Int)=1)=true from aq_ m0,aq8]
  match ps,h1 with
  |[p],_=>rw[aez p (hv p m5)]
 ·rw[show decide (((ps.length:Nat):Int)=1)=false from aq9 m0,aq7,LS ps m0,aq5]
  unfold acX;rw[if_pos (NL ps hn)];rfl
theorem Ih (l:List ap)(r:List Val):(bn l r).length<=l.length:=by unfold bn;rw[arj];exact List.length_filter_le _ _
theorem zO (l:List ap)(r:List Val):∀ p∈bn l r,aw p=true:=by
 intro p hp;obtain⟨f,hf,rfl⟩:=arK.1 hp;have:=(List.mem_filter.1 hf).2;rw[arq]at this;exact this.1
def GI (s:ac):List ap:=(bK s.periods).map fun p=>⟨s.row,p⟩
theorem adX (l:List ap)(h:bp l):∃ R,dJ l R/\qq l=some (dz l R):=by
 obtain⟨R,hR,hr⟩:=BQ l;refine⟨R,hR,?_⟩;have Qp:∀ s∈l8 l,s.periods.length<=300/\(∀ p∈s.periods,aw p=true)/\s.row.length<=1000:=by
  intro s hs;rw[hr]at hs;obtain⟨r,hrR,rfl⟩:=arK.1 hs;obtain⟨f,hf,_,e⟩:=(hR.2 r).1 hrR;refine⟨Nat.le_trans (Ih l r) h.1,zO l r,?_⟩;show r.length<=1000;rw[<- e];exact(h.2 f hf).1
 have hlen:(l8 l).length<=300:=by
  have h1:=(pH fy ((dp l).map fun g=>(⟨g.f.row,g.ps⟩:ac))).length_eq;have h2:=v6 l;have h3:=h.1;show(lF fy _).length<=300;rw[h1,arj];omega
 have hg:∀ s∈l8 l,(GI s).length<=360600:=by
  intro s hs;unfold GI;rw[arj];have h1:=I5 s.periods;have h2:=(Qp s hs).1;omega
 have Vg:((l8 l).flatMap GI).length<=300*360600:=by
  have:∀ (L:List ac),(∀ s∈L,(GI s).length<=360600)->(L.flatMap GI).length<=L.length*360600:=by
   intro L
   induction L with
   |nil=>intro _;simp
   |cons s L ih =>
    intro hL;have h1:=ih fun x hx=>hL x (arx _ hx)
    have h2:=hL s m5;rw[arN,ard,arv];omega
  exact Nat.le_trans (this _ hg) (arM _ hlen)
 have hb:dz l R=(l8 l).flatMap GI:=by
  rw[hr,List.flatMap_map];rfl
 unfold qq ya;have e1:wn l=some (l8 l):=by unfold wn;rw[if_pos h]
 rw[e1,aq5];generalize l8 l=X at Qp hlen hg Vg hb ⊢;rw[bM (l:=X) GI 3518437208883 ?_ ?_ (by unfold fuel;omega) [] (by simp only[arE];omega)]
 ·simp only[aq5,lA,ara,hb]
 ·intro s i x hx hs
  have hi:=(aq6.1 hx).1;obtain⟨m1,m2,m3⟩:=Qp x (arb hx);unfold pd;dsimp only;rw[aL hx,aq8,gn_ hx];simp only[aq5];rw[aiE x.periods m0 m2,aq5];have Wz:(GI x).length=(bK x.periods).length:=by unfold GI;rw[arj]
  have hgx:=hg x (arb hx);rw[bM (l:=bK x.periods) (fun p=>[(⟨x.row,p⟩:ap)]) 3518437208883 ?_ ?_ (by unfold fuel;omega) s (by rw[fo_,arj];omega)]
  ·rw[aq5,fo_]
   show some (Step.next (s++GI x,_))=_;rw[wrapN m0]
  ·intro s' j y hy WX
   have hj:=(aq6.1 hy).1;unfold oM;dsimp only;rw[aL hy,aq8,gn_ hy];simp only[aq5];rw[show decide (x.row.length<=4398046511104)=true from aq_ m0,aq8,show decide (s'.length+1<=3518437208883)=true from aq_ (by simpa using WX),aq8,wrapN m0]
  ·intro s'
   unfold oM;dsimp only;rw[lF_,aq7]
 ·intro s
  unfold pd;dsimp only;rw[lF_,aq7]
theorem mM (p:ax):dn p=some (aw p):=by
 unfold dn aw
 cases h1:decide (0<=p.lo)<;>cases h2:decide (p.lo<p.hi)<;>cases h3:decide (p.hi<=1099511627776)<;>simp_all
theorem aao (l:List ap)(hn:l.length<=1000000000)(hr:∀ f∈l,f.row.length<=1000000):gL l l=some true:=by
 unfold gL;rw[show decide (((l.length:Nat):Int)≠((l.length:Nat):Int))=false from aq9 fun h=>h rfl,aq7];have loop:∀ (n i:Nat),i<=l.length->l.length-i<n->ao (iF l l) n (i:Int)=some (.inl ((l.length:Nat):Int)):=by
  intro n
  induction n with
  |zero=>intro i _ h;omega
  |succ n ih =>
   intro i hi h;rw[ao];by_cases OZ:i<l.length
   ·obtain⟨x,hx⟩:=gol_ OZ
    have hxr:=hr x (arb hx);have e:iF l l (i:Int)=some (.next (((i+1:Nat):Nat):Int)):=by
     unfold iF;dsimp only;rw[aL hx,aq8,gn_ hx];simp only[aq5];rw[show b8 [.c (.int .i64 x.valid.lo),.c (.int .i64 x.valid.hi)] [.c (.int .i64 x.valid.lo),.c (.int .i64 x.valid.hi)]=true by simp[b8],kg x.row x.row m0 m0];simp only[Bool.not_true,aq7,aq5];rw[tCr_.refl,show decide ((0:Int)≠0)=false from rfl,aq7,wrapN m0]
    rw[e];exact ih (i+1) m0 m0
   ·have:i=l.length:=m0
    subst this;have e:iF l l ((l.length:Nat):Int)=some (.exit ((l.length:Nat):Int)):=by
     unfold iF;dsimp only;rw[lF_,aq7]
    rw[e]
 have:=loop fuel 0 (aru _) (by unfold fuel;omega);rw[show ao (iF l l) fuel (0:Int)=_ from this];rfl
def bI:Val:=⟨0,0,ByteArray.empty⟩
theorem kq:ko=some bI:=rfl
theorem bS:dB=some bI:=rfl
def vF (v:Val):Bool:=(dq v).getD false
theorem iu (v:Val):dq v=some (vF v):=by
 obtain⟨r,hr⟩:=B8 v;unfold vF;rw[hr];rfl
theorem wb (v:Val):pT v=some (vF v):=(show pT v=dq v from rfl).trans (iu v)
def B6 (v:Val):Val:=bif vF v then v else bI
theorem Dy (v:Val):uk v=some (B6 v):=by
 unfold uk B6;rw[wb,aq5,kq]
 cases vF v<;>rfl
theorem DK (v:Val):qz v=some (B6 v):=by
 unfold qz B6;rw[iu,aq5,bS]
 cases vF v<;>rfl
theorem kG:vF bI=true:=by
 have e:(ByteArray.empty.toList==(⟨#[]⟩:ByteArray).toList)=true:=by rw[ByteArray.toList_eq,ByteArray.toList_eq];rfl
 unfold vF dq bI;dsimp only;rw[e];rfl
theorem nM (v:Val):vF (B6 v)=true:=by
 unfold B6
 cases h:vF v with
 |true=>exact h
 |false=>exact kG
def kI (b:Bool):Val:=bif b then⟨3,1,ByteArray.empty⟩else⟨3,0,ByteArray.empty⟩
theorem I4 (b:Bool):rG b=some (kI b):=by cases b<;>rfl
theorem tw (b:Bool):pY b=some (kI b):=by cases b<;>rfl
theorem AM (b:Bool):vF (kI b)=true:=by
 have e:(ByteArray.empty.toList==(⟨#[]⟩:ByteArray).toList)=true:=by rw[ByteArray.toList_eq,ByteArray.toList_eq];rfl
 unfold vF dq kI
 cases b<;>(dsimp only[cond_true,cond_false];rw[e];rfl)
theorem jW (n:Int):nh n=some (B6 ⟨1,n,ByteArray.empty⟩):=by unfold nh;rw[Dy];rfl
theorem jc (n:Int):nq n=some (B6 ⟨1,n,ByteArray.empty⟩):=by unfold nq;rw[DK];rfl
theorem afM (s:ByteArray):yU s=some (B6 ⟨2,0,s⟩):=by unfold yU;rw[Dy];rfl
theorem af4 (s:ByteArray):Dv s=some (B6 ⟨2,0,s⟩):=by unfold Dv;rw[DK];rfl
def T3 (t:Int):Prop:=t=0\/t=1\/t=2
theorem vS (v:Val):∃ t,jL v=some t/\fD v=some t/\T3 t:=by
 have e:jL v=fD v:=rfl;have h:∃ t,fD v=some t/\T3 t:=by
  unfold fD;rw[tw,tw];simp only[aq5]
  cases b8 [.c (.int .i64 v.kind),.c (.int .i64 v.int),.c (.str v.text)] [.c (.int .i64 (kI true).kind),.c (.int .i64 (kI true).int),.c (.str (kI true).text)]with
  |true=>exact⟨2,rfl,.inr (.inr rfl)⟩
  |false =>
   rw[aq7]
   cases b8 [.c (.int .i64 v.kind),.c (.int .i64 v.int),.c (.str v.text)] [.c (.int .i64 (kI false).kind),.c (.int .i64 (kI false).int),.c (.str (kI false).text)]with
   |true=>exact⟨0,rfl,.inl rfl⟩
   |false=>exact⟨1,rfl,.inr (.inl rfl)⟩
 obtain⟨t,h1,h2⟩:=h;exact⟨t,e.trans h1,h1,h2⟩
def tF_ (v:Val):Int:=(fD v).getD 1
theorem iv (v:Val):jL v=some (tF_ v):=by obtain⟨t,h1,h2,_⟩:=vS v;unfold tF_;rw[h1,h2];rfl
theorem lV (v:Val):fD v=some (tF_ v):=by obtain⟨t,h1,h2,_⟩:=vS v;unfold tF_;rw[h2];rfl
theorem gF (v:Val):T3 (tF_ v):=by obtain⟨t,h1,h2,h3⟩:=vS v;unfold tF_;rw[h2];exact h3
def E9 (a:Int):Int:=if a=2 then 0 else if a=0 then 2 else 1
def Gj (a b:Int):Int:=if a=0\/b=0 then 0 else if a=2/\b=2 then 2 else 1
def or3 (a b:Int):Int:=if a=2\/b=2 then 2 else if a=0/\b=0 then 0 else 1
theorem qR (a:Int):T3 (E9 a):=by unfold E9;split;exact .inl rfl;split;exact .inr (.inr rfl);exact .inr (.inl rfl)
theorem Jn (a b:Int):T3 (Gj a b):=by unfold Gj;split;exact .inl rfl;split;exact .inr (.inr rfl);exact .inr (.inl rfl)
theorem abp (a b:Int):T3 (or3 a b):=by unfold or3;split;exact .inr (.inr rfl);split;exact .inl rfl;exact .inr (.inl rfl)
theorem tH {a:Int}(h:T3 a):Gp a=some (E9 a):=by rcases h with rfl|rfl|rfl<;>rfl
theorem xl {a:Int}(h:T3 a):Dm a=some (E9 a):=by rcases h with rfl|rfl|rfl<;>rfl
theorem FB {a:Int}(h:T3 a):nt a=some a:=by rcases h with rfl|rfl|rfl<;>rfl
theorem Ii {a b:Int}(ha:T3 a)(hb:T3 b):yh [a,b]=some (mnI (mnI 2 a) b):=by
 unfold yh;rw[b6 (l:=[a,b]) (mk:=fun t i=>(t,i)) (f:=fun t x=>(nt x).bind fun r=>some (.inl (mnI t r))) ?_ ?_ (by unfold fuel;simp) 2]
 ·simp only[cB,FB ha,FB hb,aq5]
  rfl
 ·intro s i x hx
  have hi:=(aq6.1 hx).1;unfold tn;dsimp only;rw[aL hx,aq8,gn_ hx,wrapN (by simp at hi;omega)];simp only[aq5]
  cases nt x<;>rfl
 ·intro s
  unfold tn;dsimp only;rw[lF_,aq7]
theorem ake {a b:Int}(ha:T3 a)(hb:T3 b):acw a b=some (Gj a b):=by
 unfold acw;rw[Ii ha hb];rcases ha with rfl|rfl|rfl<;>rcases hb with rfl|rfl|rfl<;>rfl
theorem ahK {a b:Int}(ha:T3 a)(hb:T3 b):CJ a b=some (Gj a b):=by
 rcases ha with rfl|rfl|rfl<;>rcases hb with rfl|rfl|rfl<;>rfl
theorem am4 {a b:Int}(ha:T3 a)(hb:T3 b):EY a b=some (or3 a b):=by
 unfold EY;rw[tH ha,tH hb];simp only[aq5];rw[Ii (qR a) (qR b)];rcases ha with rfl|rfl|rfl<;>rcases hb with rfl|rfl|rfl<;>rfl
theorem al2 {a b:Int}(ha:T3 a)(hb:T3 b):acD a b=some (or3 a b):=by
 rcases ha with rfl|rfl|rfl<;>rcases hb with rfl|rfl|rfl<;>rfl
def wh (t:Int):Val:=if t=2 then kI true else if t=0 then kI false else bI
theorem jd {t:Int}(h:T3 t):xt t=some (wh t):=by rcases h with rfl|rfl|rfl<;>rfl
theorem mX {t:Int}(h:T3 t):AG t=some (wh t):=by rcases h with rfl|rfl|rfl<;>rfl
theorem qO (t:Int):vF (wh t)=true:=by
 unfold wh;split
 ·exact AM _
 ·split
  ·exact AM _
  ·exact kG
def ab_ (a b:Val)(is:Bool):Int:=if a.kind=0\/a.kind≠b.kind then 1 else bif is then 2 else 0
theorem aej (a b:Val)(is:Bool):T3 (ab_ a b is):=by
 unfold ab_;split
 ·exact .inr (.inl rfl)
 ·cases is
  ·exact .inl rfl
  ·exact .inr (.inr rfl)
theorem uT (a b:Val)(is:Bool):qI a b is=some (ab_ a b is):=by
 unfold qI ab_;by_cases h1:a.kind=0
 ·simp[h1]
 ·by_cases h2:a.kind=b.kind
  ·have hb:¬ b.kind=0:=by rw[<- h2];exact h1
   simp only[h2,aq9 hb,aq7,ne_eq,not_true_eq_false,decide_false,or_false];rw[if_neg hb]
   cases is<;>rfl
  ·simp only[aq9 h1,aq7,ne_eq,h2,not_false_eq_true,decide_true,aq8,or_true,if_true]
theorem Fv (a b:Val)(is:Bool):tN a b is=some (ab_ a b is):=(show tN a b is=qI a b is from rfl).trans (uT a b is)
def eqF (a b:Val):Int:=ab_ a b (decide (rK a b=0))
def ltF (a b:Val):Int:=ab_ a b (decide (rK a b<0))
theorem akb (a b:Val):agm a b=some (eqF a b):=by unfold agm;rw[xk,aq5,uT];rfl
theorem alp (a b:Val):afL a b=some (eqF a b):=by unfold afL;rw[FX,aq5,Fv];rfl
theorem afB (a b:Val):rW a b=some (ltF a b):=by unfold rW;rw[xk,aq5,uT];rfl
theorem agS (a b:Val):tc a b=some (ltF a b):=by unfold tc;rw[FX,aq5,Fv];rfl
def q_ (op:Int)(a b:Val):Int:=if op=7 then eqF a b else if op=8 then E9 (eqF a b)else if op=9 then ltF a b else if op=11 then ltF b a else if op=10 then E9 (ltF b a)else E9 (ltF a b)
theorem aci (a b:Val):T3 (eqF a b):=aej _ _ _
theorem zp (a b:Val):T3 (ltF a b):=aej _ _ _
theorem g_ (op:Int)(a b:Val):T3 (q_ op a b):=by
 unfold q_;split
 ·exact aci _ _
 split
 ·exact qR _
 split
 ·exact zp _ _
 split
 ·exact zp _ _
 split
 ·exact qR _
 ·exact qR _
theorem ez (op:Int)(a b:Val):j8 op a b=some (q_ op a b):=by
 unfold j8 q_;simp only[akb,afB,aq5,tH (aci a b),tH (zp a b),tH (zp b a)];by_cases h1:op=7
 ·simp[h1]
 by_cases h2:op=8
 ·simp[h2]
 by_cases h3:op=9
 ·simp[h3]
 by_cases h4:op=11
 ·simp[h4]
 by_cases h5:op=10
 ·simp[h5]
 simp[h1,h2,h3,h4,h5]
theorem gH (op:Int)(a b:Val):fm op a b=some (q_ op a b):=by
 unfold fm q_;simp only[alp,agS,aq5,xl (aci a b),xl (zp a b),xl (zp b a)];by_cases h1:op=7
 ·simp[h1]
 by_cases h2:op=8
 ·simp[h2]
 by_cases h3:op=9
 ·simp[h3]
 by_cases h4:op=11
 ·simp[h4]
 by_cases h5:op=10
 ·simp[h5]
 simp[h1,h2,h3,h4,h5]
def cQ (p q:ax):Int :=
 if p.hi<q.lo then 0 else if p.hi=q.lo then 1 else if q.hi<p.lo then 12 else if q.hi=p.lo then 11 else if p.lo=q.lo/\p.hi=q.hi then 6
 else if p.lo=q.lo then(if p.hi<q.hi then 3 else 9)else if p.hi=q.hi then(if q.lo<p.lo then 5 else 7)
 else if p.lo<q.lo/\q.hi<p.hi then 8 else if q.lo<p.lo/\p.hi<q.hi then 4 else if p.lo<q.lo then 2 else 10
theorem da (p q:ax):b8 [.c (.int .i64 p.lo),.c (.int .i64 p.hi)] [.c (.int .i64 q.lo),.c (.int .i64 q.hi)]=decide (p.lo=q.lo/\p.hi=q.hi):=by
 simp[b8]
theorem aes (p q:ax):agj p q=some (if aw p=true/\aw q=true then(cQ p q,true)else(0,false)):=by
 unfold agj;rw[i_,i_];simp only[aq5]
 cases hp:aw p with
 |false=>simp
 |true =>
  cases hq:aw q with
  |false=>simp
  |true =>
   simp only[Bool.not_true,aq7,and_self,if_true,da];unfold cQ;by_cases h1:p.hi<q.lo
   ·simp only[Bool.cond_decide,eq_true h1,if_true,if_false,and_true,true_and,and_false,false_and,and_self]
   by_cases h2:p.hi=q.lo
   ·simp only[Bool.cond_decide,eq_true h2,eq_false h1,if_true,if_false,and_true,true_and,and_false,false_and,and_self]
   by_cases h3:q.hi<p.lo
   ·simp only[Bool.cond_decide,eq_true h3,eq_false h1,eq_false h2,if_true,if_false,and_true,true_and,and_false,false_and,and_self]
   by_cases h4:q.hi=p.lo
   ·simp only[Bool.cond_decide,eq_true h4,eq_false h1,eq_false h2,eq_false h3,if_true,if_false,and_true,true_and,and_false,false_and,and_self]
   by_cases h5:p.lo=q.lo
   ·by_cases h6:p.hi=q.hi
    ·simp only[Bool.cond_decide,eq_true h5,eq_true h6,eq_false h1,eq_false h2,eq_false h3,eq_false h4,if_true,if_false,and_true,true_and,and_false,false_and,and_self]
    ·by_cases h7:p.hi<q.hi
     ·simp only[Bool.cond_decide,eq_true h5,eq_true h7,eq_false h1,eq_false h2,eq_false h3,eq_false h4,eq_false h6,if_true,if_false,and_true,true_and,and_false,false_and,and_self]
     ·simp only[Bool.cond_decide,eq_true h5,eq_false h1,eq_false h2,eq_false h3,eq_false h4,eq_false h6,eq_false h7,if_true,if_false,and_true,true_and,and_false,false_and,and_self]
   ·by_cases h6:p.hi=q.hi
    ·by_cases h7:q.lo<p.lo
     ·simp only[Bool.cond_decide,eq_true h6,eq_true h7,eq_false h1,eq_false h2,eq_false h3,eq_false h4,eq_false h5,if_true,if_false,and_true,true_and,and_false,false_and,and_self]
     ·simp only[Bool.cond_decide,eq_true h6,eq_false h1,eq_false h2,eq_false h3,eq_false h4,eq_false h5,eq_false h7,if_true,if_false,and_true,true_and,and_false,false_and,and_self]
    ·by_cases h7:p.lo<q.lo
     ·by_cases h8:q.hi<p.hi
      ·simp only[Bool.cond_decide,eq_true h7,eq_true h8,eq_false h1,eq_false h2,eq_false h3,eq_false h4,eq_false h5,eq_false h6,if_true,if_false,and_true,true_and,and_false,false_and,and_self]
      ·by_cases h9:q.lo<p.lo
       ·omega
       ·simp only[Bool.cond_decide,eq_true h7,eq_false h1,eq_false h2,eq_false h3,eq_false h4,eq_false h5,eq_false h6,eq_false h8,eq_false h9,if_true,if_false,and_true,true_and,and_false,false_and,and_self]
     ·by_cases h8:q.lo<p.lo
      ·by_cases h9:p.hi<q.hi
       ·simp only[Bool.cond_decide,eq_true h8,eq_true h9,eq_false h1,eq_false h2,eq_false h3,eq_false h4,eq_false h5,eq_false h6,eq_false h7,if_true,if_false,and_true,true_and,and_false,false_and,and_self]
       ·simp only[Bool.cond_decide,eq_true h8,eq_false h1,eq_false h2,eq_false h3,eq_false h4,eq_false h5,eq_false h6,eq_false h7,eq_false h9,if_true,if_false,and_true,true_and,and_false,false_and,and_self]
      ·omega
theorem il {p:ax}(h:aw p=true):0<=p.lo/\p.lo<p.hi/\p.hi<=1099511627776:=by
 unfold aw at h;simp only[arq,decide_eq_true_eq]at h;omega
theorem aiX {p q:ax}(hp:0<=p.lo/\p.lo<p.hi)(hq:0<=q.lo/\q.lo<q.hi):cQ p q=0↔p.hi<q.lo:=by
 unfold cQ
 repeat' split
 all_goals (constructor<;>intro h<;>omega)
theorem anH (p q:ax):gW 0 p q=some (decide (p.hi<q.lo)):=by
 unfold gW;simp only[Int.reduceEq,sl9,da]<;>rfl
theorem ajf {p q:ax}(hp:0<=p.lo/\p.lo<p.hi)(hq:0<=q.lo/\q.lo<q.hi):cQ p q=1↔p.hi=q.lo:=by
 unfold cQ
 repeat' split
 all_goals (constructor<;>intro h<;>omega)
theorem amy (p q:ax):gW 1 p q=some (decide (p.hi=q.lo)):=by
 unfold gW;simp only[Int.reduceEq,sl9,da]<;>rfl
theorem ahC {p q:ax}(hp:0<=p.lo/\p.lo<p.hi)(hq:0<=q.lo/\q.lo<q.hi):cQ p q=2↔p.lo<q.lo/\q.lo<p.hi/\p.hi<q.hi:=by
 unfold cQ
 repeat' split
 all_goals (constructor<;>intro h<;>omega)
theorem amQ (p q:ax):gW 2 p q=some (decide (p.lo<q.lo/\q.lo<p.hi/\p.hi<q.hi)):=by
 unfold gW;simp only[Int.reduceEq,sl9,da];by_cases h0:p.lo<q.lo<;>by_cases h1:q.lo<p.hi<;>simp[h0,h1]
theorem ajx {p q:ax}(hp:0<=p.lo/\p.lo<p.hi)(hq:0<=q.lo/\q.lo<q.hi):cQ p q=3↔p.lo=q.lo/\p.hi<q.hi:=by
 unfold cQ
 repeat' split
 all_goals (constructor<;>intro h<;>omega)
theorem am3 (p q:ax):gW 3 p q=some (decide (p.lo=q.lo/\p.hi<q.hi)):=by
 unfold gW;simp only[Int.reduceEq,sl9,da];by_cases h0:p.lo=q.lo<;>simp[h0]
theorem aiB {p q:ax}(hp:0<=p.lo/\p.lo<p.hi)(hq:0<=q.lo/\q.lo<q.hi):cQ p q=4↔q.lo<p.lo/\p.hi<q.hi:=by
 unfold cQ
 repeat' split
 all_goals (constructor<;>intro h<;>omega)
theorem anz (p q:ax):gW 4 p q=some (decide (q.lo<p.lo/\p.hi<q.hi)):=by
 unfold gW;simp only[Int.reduceEq,sl9,da];by_cases h0:q.lo<p.lo<;>simp[h0]
theorem ag0 {p q:ax}(hp:0<=p.lo/\p.lo<p.hi)(hq:0<=q.lo/\q.lo<q.hi):cQ p q=5↔p.hi=q.hi/\q.lo<p.lo:=by
 unfold cQ
 repeat' split
 all_goals (constructor<;>intro h<;>omega)
theorem ant (p q:ax):gW 5 p q=some (decide (p.hi=q.hi/\q.lo<p.lo)):=by
 unfold gW;simp only[Int.reduceEq,sl9,da];by_cases h0:p.hi=q.hi<;>simp[h0]
theorem ajJ {p q:ax}(hp:0<=p.lo/\p.lo<p.hi)(hq:0<=q.lo/\q.lo<q.hi):cQ p q=6↔p.lo=q.lo/\p.hi=q.hi:=by
 unfold cQ
 repeat' split
 all_goals (constructor<;>intro h<;>omega)
theorem anL (p q:ax):gW 6 p q=some (decide (p.lo=q.lo/\p.hi=q.hi)):=by
 unfold gW;simp only[Int.reduceEq,sl9,da]<;>rfl
theorem ahj {p q:ax}(hp:0<=p.lo/\p.lo<p.hi)(hq:0<=q.lo/\q.lo<q.hi):cQ p q=7↔p.hi=q.hi/\p.lo<q.lo:=by
 unfold cQ
 repeat' split
 all_goals (constructor<;>intro h<;>omega)
theorem anP (p q:ax):gW 7 p q=some (decide (p.hi=q.hi/\p.lo<q.lo)):=by
 unfold gW;simp only[Int.reduceEq,sl9,da];by_cases h0:p.hi=q.hi<;>simp[h0]
theorem aiT {p q:ax}(hp:0<=p.lo/\p.lo<p.hi)(hq:0<=q.lo/\q.lo<q.hi):cQ p q=8↔p.lo<q.lo/\q.hi<p.hi:=by
 unfold cQ
 repeat' split
 all_goals (constructor<;>intro h<;>omega)
theorem ano (p q:ax):gW 8 p q=some (decide (p.lo<q.lo/\q.hi<p.hi)):=by
 unfold gW;simp only[Int.reduceEq,sl9,da];by_cases h0:p.lo<q.lo<;>simp[h0]
theorem ai8 {p q:ax}(hp:0<=p.lo/\p.lo<p.hi)(hq:0<=q.lo/\q.lo<q.hi):cQ p q=9↔p.lo=q.lo/\q.hi<p.hi:=by
 unfold cQ
 repeat' split
 all_goals (constructor<;>intro h<;>omega)
theorem anA (p q:ax):gW 9 p q=some (decide (p.lo=q.lo/\q.hi<p.hi)):=by
 unfold gW;simp only[Int.reduceEq,sl9,da];by_cases h0:p.lo=q.lo<;>simp[h0]
theorem aeY {p q:ax}(hp:0<=p.lo/\p.lo<p.hi)(hq:0<=q.lo/\q.lo<q.hi):cQ p q=10↔q.lo<p.lo/\p.lo<q.hi/\q.hi<p.hi:=by
 unfold cQ
 repeat' split
 all_goals (constructor<;>intro h<;>omega)
theorem al4 (p q:ax):gW 10 p q=some (decide (q.lo<p.lo/\p.lo<q.hi/\q.hi<p.hi)):=by
 unfold gW;simp only[Int.reduceEq,sl9,da];by_cases h0:q.lo<p.lo<;>by_cases h1:p.lo<q.hi<;>simp[h0,h1]
theorem aeP {p q:ax}(hp:0<=p.lo/\p.lo<p.hi)(hq:0<=q.lo/\q.lo<q.hi):cQ p q=11↔q.hi=p.lo:=by
 unfold cQ
 repeat' split
 all_goals (constructor<;>intro h<;>omega)
theorem akT (p q:ax):gW 11 p q=some (decide (q.hi=p.lo)):=by
 unfold gW;simp only[Int.reduceEq,sl9,da]<;>rfl
theorem agA {p q:ax}(hp:0<=p.lo/\p.lo<p.hi)(hq:0<=q.lo/\q.lo<q.hi):cQ p q=12↔q.hi<p.lo:=by
 unfold cQ
 repeat' split
 all_goals (constructor<;>intro h<;>omega)
theorem akg (p q:ax):gW 12 p q=some (decide (q.hi<p.lo)):=by
 unfold gW;simp only[Int.reduceEq,sl9,da]<;>rfl
theorem vC (p q:ax):0<=cQ p q/\cQ p q<13:=by
 unfold cQ
 repeat' split
 all_goals omega
theorem aiw {rel:Int}(h:¬ (0<=rel/\rel<13))(p q:ax):gW rel p q=some false:=by
 unfold gW;rw[aq9 (show ¬ rel=0 by omega),aq7];rw[aq9 (show ¬ rel=1 by omega),aq7];rw[aq9 (show ¬ rel=2 by omega),aq7];rw[aq9 (show ¬ rel=3 by omega),aq7];rw[aq9 (show ¬ rel=4 by omega),aq7];rw[aq9 (show ¬ rel=5 by omega),aq7];rw[aq9 (show ¬ rel=6 by omega),aq7];rw[aq9 (show ¬ rel=7 by omega),aq7];rw[aq9 (show ¬ rel=8 by omega),aq7];rw[aq9 (show ¬ rel=9 by omega),aq7];rw[aq9 (show ¬ rel=10 by omega),aq7];rw[aq9 (show ¬ rel=11 by omega),aq7];rw[aq9 (show ¬ rel=12 by omega),aq7]
theorem ahe {p q:ax}(hp:aw p=true)(hq:aw q=true)(rel:Int):gW rel p q=some (decide (cQ p q=rel)):=by
 obtain⟨p1,p2,p3⟩:=il hp;obtain⟨q1,q2,q3⟩:=il hq;by_cases hr:0<=rel/\rel<13
 ·have:rel=0\/rel=1\/rel=2\/rel=3\/rel=4\/rel=5\/rel=6\/rel=7\/rel=8\/rel=9\/rel=10\/rel=11\/rel=12:=m0
  rcases this with rfl|rfl|rfl|rfl|rfl|rfl|rfl|rfl|rfl|rfl|rfl|rfl|rfl
  ·rw[anH];congr 1;rw[decide_eq_decide,aiX ⟨p1,p2⟩ ⟨q1,q2⟩]
  ·rw[amy];congr 1;rw[decide_eq_decide,ajf ⟨p1,p2⟩ ⟨q1,q2⟩]
  ·rw[amQ];congr 1;rw[decide_eq_decide,ahC ⟨p1,p2⟩ ⟨q1,q2⟩]
  ·rw[am3];congr 1;rw[decide_eq_decide,ajx ⟨p1,p2⟩ ⟨q1,q2⟩]
  ·rw[anz];congr 1;rw[decide_eq_decide,aiB ⟨p1,p2⟩ ⟨q1,q2⟩]
  ·rw[ant];congr 1;rw[decide_eq_decide,ag0 ⟨p1,p2⟩ ⟨q1,q2⟩]
  ·rw[anL];congr 1;rw[decide_eq_decide,ajJ ⟨p1,p2⟩ ⟨q1,q2⟩]
  ·rw[anP];congr 1;rw[decide_eq_decide,ahj ⟨p1,p2⟩ ⟨q1,q2⟩]
  ·rw[ano];congr 1;rw[decide_eq_decide,aiT ⟨p1,p2⟩ ⟨q1,q2⟩]
  ·rw[anA];congr 1;rw[decide_eq_decide,ai8 ⟨p1,p2⟩ ⟨q1,q2⟩]
  ·rw[al4];congr 1;rw[decide_eq_decide,aeY ⟨p1,p2⟩ ⟨q1,q2⟩]
  ·rw[akT];congr 1;rw[decide_eq_decide,aeP ⟨p1,p2⟩ ⟨q1,q2⟩]
  ·rw[akg];congr 1;rw[decide_eq_decide,agA ⟨p1,p2⟩ ⟨q1,q2⟩]
 ·rw[aiw hr,aq9]
  have:=vC p q;omega
theorem vw (rel:Int)(p q:ax):pZ rel p q=some (aw p&&(aw q&&decide (cQ p q=rel))):=by
 unfold pZ;rw[mM,mM];simp only[aq5]
 cases hp:aw p with
 |false=>rfl
 |true =>
  cases hq:aw q with
  |false=>rfl
  |true=>rw[ahe hp hq];rfl
theorem Oj (p q:ax)(h:aw p=true/\aw q=true):∀ (n i:Nat),(i:Int)<=cQ p q->13-i<n->ao (oW p q) n (i:Int)=some (.inr (cQ p q,true))
 |0,i,_,h2=>by omega
 |n+1,i,h1,h2=>by
  have hr:=vC p q;rw[ao];unfold oW;dsimp only;rw[aq_ (show(i:Int)<13 by omega),aq8,vw,aq5,h.1,h.2,wrapN m0];by_cases e:cQ p q=i
  ·rw[e];simp
  ·simp only[arI,aq9 e,aq7]
   exact Oj p q h n (i+1) m0 m0
theorem OC (p q:ax)(h:¬ (aw p=true/\aw q=true)):∀ (n i:Nat),i<=13->13-i<n->ao (oW p q) n (i:Int)=some (.inl ((13:Nat):Int))
 |0,i,_,h2=>by omega
 |n+1,i,h1,h2=>by
  rw[ao];unfold oW;dsimp only;by_cases hi:i=13
  ·subst hi;rfl
  ·rw[aq_ (show(i:Int)<13 by omega),aq8,vw,aq5,wrapN m0]
   have:(aw p&&(aw q&&decide (cQ p q=i)))=false:=by
    cases hp:aw p<;>cases hq:aw q<;>simp_all
   rw[this,aq7];exact OC p q h n (i+1) m0 m0
theorem ag6 (p q:ax):LN p q=some (if aw p=true/\aw q=true then(cQ p q,true)else(0,false)):=by
 unfold LN;by_cases h:aw p=true/\aw q=true
 ·have:=Oj p q h fuel 0 (vC p q).1 (by unfold fuel;omega)
  rw[show((0:Nat):Int)=0 from rfl]at this;rw[this,if_pos h];rfl
 ·have:=OC p q h fuel 0 m0 (by unfold fuel;omega)
  rw[show((0:Nat):Int)=0 from rfl]at this;rw[this,if_neg h];rfl
def AD (p:ax)(t:Int):Bool:=decide (p.lo<=t)&&decide (t<p.hi)
def dW (l:List ax)(t:Int):Bool:=l.any fun p=>aw p&&AD p t
def cg:List ax->Prop
 |[]=>True
 |p::l=>aw p=true/\(∀ q∈l,p.hi<q.lo)/\cg l
theorem cg.val:∀ {l:List ax},cg l ->∀ p∈l,aw p=true
 |[],_,p,hp=>by cases hp
 |q::l,h,p,hp=>by
  rcases arp.1 hp with rfl|hp
  ·exact h.1
  ·exact h.2.2.val p hp
theorem jU (t:Int):dW [] t=false:=rfl
theorem mb (p:ax)(l:List ax)(t:Int):dW (p::l) t=((aw p&&AD p t)||dW l t):=by unfold dW;rw[List.any_cons]
theorem qZ (l m:List ax)(t:Int):dW (l++m) t=(dW l t||dW m t):=by unfold dW;rw[List.any_append]
theorem fB (p:ax)(t:Int):AD p t=true↔p.lo<=t/\t<p.hi:=by unfold AD;rw[arq,decide_eq_true_eq,decide_eq_true_eq]
theorem db (l:List ax)(t:Int):dW l t=true ↔ ∃ p∈l,aw p=true/\p.lo<=t/\t<p.hi:=by
 unfold dW;rw[List.any_eq_true];constructor
 ·rintro⟨p,hp,h⟩
  rw[arq,fB]at h;exact⟨p,hp,h⟩
 ·rintro⟨p,hp,h⟩
  exact⟨p,hp,by rw[arq,fB];exact h⟩
theorem gJ {p:ax}(h:aw p=true):0<=p.lo/\p.lo<p.hi/\p.hi<=1099511627776:=by
 simp only[aw,arq,decide_eq_true_eq]at h;exact⟨h.1.1,h.1.2,h.2⟩
theorem C3 {p:ax}{l:List ax}(h:cg (p::l))(t:Int)(ht:dW (p::l) t=true):p.lo<=t:=by
 obtain⟨q,hq,hv,h1,h2⟩:=(db _ _).1 ht;rcases arp.1 hq with rfl|hq
 ·exact h1
 ·have:=h.2.1 q hq
  have:=gJ h.1;omega
theorem tf {p:ax}{l:List ax}(h:cg (p::l))(t:Int)(h1:p.lo<=t)(h2:t<p.hi):dW (p::l) t=true :=
 (db _ _).2 ⟨p,arX .., h.1,h1,h2⟩
theorem N0 {p:ax}{l:List ax}(h:cg (p::l)):dW (p::l) p.hi=false:=by
 rw[Bool.eq_false_iff];intro ht;obtain⟨q,hq,hv,h1,h2⟩:=(db _ _).1 ht;rcases arp.1 hq with rfl|hq
 ·omega
 ·have:=h.2.1 q hq
  omega
theorem zb {p:ax}{l:List ax}(h:cg (p::l))(t:Int):dW l t=(decide (p.hi<=t)&&dW (p::l) t):=by
 rw[Bool.eq_iff_iff,arq,decide_eq_true_eq];constructor
 ·intro ht
  obtain⟨q,hq,hv,h1,h2⟩:=(db _ _).1 ht;have:=h.2.1 q hq;exact⟨m0,(db _ _).2 ⟨q,arx _ hq,hv,h1,h2⟩⟩
 ·rintro⟨h0,ht⟩
  obtain⟨q,hq,hv,h1,h2⟩:=(db _ _).1 ht;rcases arp.1 hq with rfl|hq
  ·omega
  ·exact(db _ _).2 ⟨q,hq,hv,h1,h2⟩
theorem ng:∀ {l m:List ax},cg l->cg m->(∀ t,dW l t=dW m t)->l=m
 |[],[],_,_,_=>rfl
 |[],q::m,_,hm,h=>by
  have:=h q.lo;rw[jU,tf hm q.lo (Int.le_refl _) (gJ hm.1).2.1]at this
  cases this
 |p::l,[],hl,_,h=>by
  have:=h p.lo;rw[jU,tf hl p.lo (Int.le_refl _) (gJ hl.1).2.1]at this
  cases this
 |p::l,q::m,hl,hm,h=>by
  have a1:=(gJ hl.1).2.1;have a2:=(gJ hm.1).2.1;have e1:p.lo=q.lo:=by
   have h1:=C3 hm p.lo (by rw[<- h];exact tf hl _ (Int.le_refl _) a1);have h2:=C3 hl q.lo (by rw[h];exact tf hm _ (Int.le_refl _) a2);omega
  have e2:p.hi=q.hi:=by
   rcases Int.lt_trichotomy p.hi q.hi with h1|h1|h1
   ·have h3:=h p.hi
    rw[N0 hl,tf hm p.hi m0 h1]at h3
    cases h3
   ·exact h1
   ·have h3:=h q.hi
    rw[N0 hm,tf hl q.hi m0 h1]at h3
    cases h3
  obtain⟨a,b⟩:=p;obtain⟨c,d⟩:=q;simp only at e1 e2;subst e1 e2;rw[ng hl.2.2 hm.2.2 fun t=>by rw[zb hl,zb hm,h]]
theorem tY:∀ {l:List ax} {p:ax},cg l->aw p=true->(∀ q∈l,q.hi<p.lo)->cg (l++[p])
 |[],p,_,hp,_=>⟨hp,fun q hq=>(by cases hq),t7⟩
 |q::l,p,h,hp,hq=>by
  refine⟨h.1,fun r hr=>?_,tY h.2.2 hp fun r hr=>hq r (arx _ hr)⟩;rcases arB.1 hr with hr|hr
  ·exact h.2.1 r hr
  ·rw[arQ]at hr;subst hr;exact hq q (arX ..)
theorem zl:∀ {l:List ax} {p:ax},cg (l++[p])->cg l/\aw p=true /\ ∀ q∈l,q.hi<p.lo
 |[],p,h=>⟨t7,h.1,fun q hq=>by cases hq⟩
 |q::l,p,h=>by
  obtain⟨h1,h2,h3⟩:=zl (l:=l) h.2.2;refine⟨⟨h.1,fun r hr=>h.2.1 r (List.mem_append_left _ hr),h1⟩,h2,fun r hr=>?_⟩;rcases arp.1 hr with rfl|hr
  ·exact h.2.1 p m5
  ·exact h3 r hr
theorem ae8 {l:List ax}{a b c:Int}(h:cg (l++[⟨a,b⟩]))(hbc:b<=c)(hc:c<=1099511627776):cg (l++[⟨a,c⟩]):=by
 obtain⟨h1,h2,h3⟩:=zl h;have:=gJ h2;simp only at this;exact tY h1 (by simp only[aw,arq,decide_eq_true_eq];omega) h3
def q8 (l:List ax)(a b:Int):List ax:=match l.getLast? with
 |some p=>if p.hi=a then l.dropLast++[⟨p.lo,b⟩]else l++[⟨a,b⟩]
 |none=>l++[⟨a,b⟩]
theorem jM {l:List ax}{a b:Int}(h:cg l)(ha:∀ p∈l,p.hi<=a)(h0:0<=a)(hab:a<b)(hb:b<=1099511627776) :
  cg (q8 l a b)/\(∀ p∈q8 l a b,p.hi<=b) /\ ∀ t,dW (q8 l a b) t=(dW l t||(decide (a<=t)&&decide (t<b))):=by
 have hp:aw ⟨a,b⟩=true:=by simp only[aw,arq,decide_eq_true_eq];omega
 have Um:∀ t,dW (l++[⟨a,b⟩]) t=(dW l t||(decide (a<=t)&&decide (t<b))):=fun t=>by
  rw[qZ,mb,jU,Bool.or_false,hp,arI];rfl
 have hle:∀ p∈l++[(⟨a,b⟩:ax)],p.hi<=b:=fun p hq=>by
  rcases arB.1 hq with hq|hq
  ·have:=ha p hq;omega
  ·rw[arQ]at hq;subst hq;exact Int.le_refl _
 unfold q8
 cases hg:l.getLast? with
 |none =>
  rw[List.getLast?_eq_none_iff]at hg;subst hg;exact⟨tY trivial hp (fun q hq=>by cases hq),hle,Um⟩
 |some p =>
  have hl:l=l.dropLast++[p]:=by
   have h1:l≠[]:=fun e=>by rw[e]at hg;cases hg
   have h2:=List.dropLast_concat_getLast h1;rw[List.getLast?_eq_some_getLast h1]at hg;injection hg with hg
   rw[<- h2,hg];simp
  have WY:∀ q∈l.dropLast,q.hi<p.lo:=by
   rw[hl]at h;exact(zl h).2.2
  have hpm:p∈l:=by rw[hl];simp
  have Qj:=h.val p hpm;by_cases he:p.hi=a
  ·simp only[if_pos he]
   have hs:cg (l.dropLast++[⟨p.lo,b⟩]):=by
    rw[hl]at h;exact ae8 (b:=p.hi) h m0 hb
   refine⟨hs,fun q hq=>?_,fun t=>?_⟩
   ·rcases arB.1 hq with hq|hq
    ·have:=WY q hq;have:=gJ Qj;omega
    ·rw[arQ]at hq;subst hq;exact Int.le_refl _
   ·have e:dW l t=(dW l.dropLast t||(AD p t)):=by
     conv=>lhs;rw[hl]
     rw[qZ,mb,jU,Bool.or_false,Qj,arI]
    have Tf:aw ⟨p.lo,b⟩=true:=hs.val _ m5;rw[e,qZ,mb,jU,Bool.or_false,Tf,arI,Bool.or_assoc];congr 1;have:=gJ Qj;rw[Bool.eq_iff_iff,Bool.or_eq_true,fB,fB,arq,decide_eq_true_eq,decide_eq_true_eq];simp only;omega
  ·simp only[if_neg he]
   refine⟨tY h hp fun q hq=>?_,hle,Um⟩;rw[hl]at hq;have hp2:=ha p hpm;rcases arB.1 hq with hq|hq
   ·have:=WY q hq;have:=gJ Qj;simp only;omega
   ·rw[arQ]at hq;subst hq;simp only;omega
abbrev E3:=Int×Int×Int
def ru:List ax->Bool->List E3
 |[],_=>[]
 |p::l,f=>(bif aw p then(bif f then [(p.lo,1,0),(p.hi,-1,0)]else [(p.lo,0,1),(p.hi,0,-1)])else [])++ru l f
def rH (a b:List ax):List E3:=ru a true++ru b false
def ed (f:E3->Int):List E3->Int->Int
 |[],_=>0
 |e::l,t=>(if e.1<=t then f e else 0)+ed f l t
theorem fN (f:E3->Int)(t:Int):∀ l m:List E3,ed f (l++m) t=ed f l t+ed f m t
 |[],m=>by simp[ed]
 |e::l,m=>by rw[List.cons_append,ed,ed,fN f t l m];omega
theorem Hz (f:E3->Int)(t:Int){l m:List E3}(h:l.Perm m):ed f l t=ed f m t:=by
 induction h with
 |nil=>rfl
 |cons e _ ih=>rw[ed,ed,ih]
 |swap e e' l=>simp only[ed];omega
 |trans _ _ h1 h2=>exact h1.trans h2
def Af (l:List ax)(t:Int):Int:=((l.countP fun p=>aw p&&AD p t:Nat):Int)
theorem Ir (l:List ax)(t:Int):decide (0<Af l t)=dW l t:=by
 unfold Af dW;rw[Bool.eq_iff_iff,decide_eq_true_eq,List.any_eq_true];rw[show(0:Int)<((l.countP fun p=>aw p&&AD p t:Nat):Int)↔0<l.countP (fun p=>aw p&&AD p t)by omega,List.countP_pos_iff]
theorem C9 (t:Int):∀ l:List ax,ed (fun e=>e.2.1) (ru l true) t=Af l t/\ed (fun e=>e.2.2) (ru l true) t=0
 |[]=>⟨rfl,rfl⟩
 |p::l=>by
  obtain⟨h1,h2⟩:=C9 t l;rw[ru,fN,fN,h1,h2];unfold Af;rw[List.countP_cons]
  cases hp:aw p with
  |false=>simp[ed]
  |true =>
   have:=gJ hp;simp only[aq8,ed,arI];have e:AD p t=true↔p.lo<=t/\t<p.hi:=fB p t;by_cases h3:p.lo<=t<;>by_cases h4:p.hi<=t
   ·rw[if_pos h3,if_pos h4,if_neg (by rw[e];omega)];constructor<;>simp
   ·rw[if_pos h3,if_neg h4,if_pos (by rw[e];omega)];constructor<;>simp;omega
   ·omega
   ·rw[if_neg h3,if_neg h4,if_neg (by rw[e];omega)];constructor<;>simp
theorem EI (t:Int):∀ l:List ax,ed (fun e=>e.2.2) (ru l false) t=Af l t/\ed (fun e=>e.2.1) (ru l false) t=0
 |[]=>⟨rfl,rfl⟩
 |p::l=>by
  obtain⟨h1,h2⟩:=EI t l;rw[ru,fN,fN,h1,h2];unfold Af;rw[List.countP_cons]
  cases hp:aw p with
  |false=>simp[ed]
  |true =>
   have:=gJ hp;simp only[aq8,aq7,ed,arI];have e:AD p t=true↔p.lo<=t/\t<p.hi:=fB p t;by_cases h3:p.lo<=t<;>by_cases h4:p.hi<=t
   ·rw[if_pos h3,if_pos h4,if_neg (by rw[e];omega)];constructor<;>simp
   ·rw[if_pos h3,if_neg h4,if_pos (by rw[e];omega)];constructor<;>simp;omega
   ·omega
   ·rw[if_neg h3,if_neg h4,if_neg (by rw[e];omega)];constructor<;>simp
theorem Lp (a b:List ax)(t:Int):ed (fun e=>e.2.1) (rH a b) t=Af a t/\ed (fun e=>e.2.2) (rH a b) t=Af b t:=by
 unfold rH;rw[fN,fN,(C9 t a).1,(C9 t a).2,(EI t b).1,(EI t b).2];omega
theorem yD:∀ (l:List ax) (f:Bool),∀ e∈ru l f,0<=e.1/\e.1<=1099511627776 /\ -1<=e.2.1/\e.2.1<=1 /\ -1<=e.2.2/\e.2.2<=1
 |[],_,e,h=>by cases h
 |p::l,f,e,h=>by
  rw[ru,arB]at h;rcases h with h|h
  ·cases hp:aw p with
   |false=>rw[hp]at h;cases h
   |true =>
    have:=gJ hp;rw[hp,aq8]at h
    cases f<;>simp at h<;>rcases h with rfl|rfl<;>simp<;>omega
  ·exact yD l f e h
theorem Jl:∀ (l:List ax) (f:Bool),(ru l f).length<=2*l.length
 |[],_=>aro _
 |p::l,f=>by
  have:=Jl l f;rw[ru,ard,arv]
  cases aw p<;>cases f<;>simp<;>omega
theorem qd (a b:List ax):∀ e∈rH a b,0<=e.1/\e.1<=1099511627776 /\ -1<=e.2.1/\e.2.1<=1 /\ -1<=e.2.2/\e.2.2<=1:=fun e h=>by
 rcases arB.1 h with h|h
 ·exact yD a true e h
 ·exact yD b false e h
theorem OI (a b:List ax):(rH a b).length<=2*a.length+2*b.length:=by
 have h1:=Jl a true;have h2:=Jl b false;unfold rH;rw[ard];omega
def kV (at_:Int):List E3->Int->Int->List E3×Int×Int
 |[],na,nb=>([],na,nb)
 |e::l,na,nb=>if e.1=at_ then kV at_ l (na+e.2.1) (nb+e.2.2)else(e::l,na,nb)
def kN:List E3->Int
 |[]=>1099511627776
 |e::_=>e.1
def mL (l:List E3):Prop:=l.Pairwise fun x y=>x.1<=y.1
theorem BC (at_:Int):∀ (l:List E3) (na nb:Int),mL l->(∀ e∈l,at_<=e.1) ->∃ l' Vz VA,kV at_ l na nb=(l',Vz,VA)/\mL l'/\(∀ e∈l',at_<e.1/\e∈l)/\l'.length<=l.length /\
  (∀ t,at_<=t->na+ed (fun e=>e.2.1) l t=Vz+ed (fun e=>e.2.1) l' t/\nb+ed (fun e=>e.2.2) l t=VA+ed (fun e=>e.2.2) l' t)
 |[],na,nb,_,_=>⟨[],na,nb,rfl,List.Pairwise.nil,fun e h=>(by cases h),aro _,fun t _=>⟨rfl,rfl⟩⟩
 |e::l,na,nb,hs,hm=>by
  have WX:=ase.1 hs;rw[kV];by_cases he:e.1=at_
  ·rw[if_pos he]
   obtain⟨l',Vz,VA,h1,h2,h3,h4,h5⟩:=BC at_ l (na+e.2.1) (nb+e.2.2) WX.2 fun x hx=>hm x (arx _ hx)
   refine⟨l',Vz,VA,h1,h2,fun x hx=>⟨(h3 x hx).1,arx _ (h3 x hx).2⟩,by simp;omega,fun t ht=>?_⟩;obtain⟨q1,q2⟩:=h5 t ht;simp only[ed];rw[if_pos m0,if_pos m0];omega
  ·rw[if_neg he]
   have h0:=hm e (arX ..);refine⟨e::l,na,nb,rfl,hs,fun x hx=>⟨?_,hx⟩,aro _,fun t _=>⟨rfl,rfl⟩⟩;rcases arp.1 hx with rfl|hx
   ·omega
   ·have:=WX.1 x hx;omega
theorem yd (f:E3->Int)(t:Int):∀ l:List E3,(∀ e∈l,t<e.1)->ed f l t=0
 |[],_=>rfl
 |e::l,h=>by
  rw[ed,if_neg (by have:=h e (arX ..);omega),yd f t l fun x hx=>h x (arx _ hx)];rfl
def ig (Pm:Bool->Bool->Bool):Nat->List E3->Int->Int->Int->List ax->List ax
 |0,_,_,_,_,out=>out
 |n+1,l,at_,na,nb,out=>if at_<1099511627776 then
   let r:=kV at_ l na nb
   ig Pm n r.1 (kN r.1) r.2.1 r.2.2 (if Pm (decide (0<r.2.1)) (decide (0<r.2.2))then q8 out at_ (kN r.1)else out)
  else out
structure IA (Pm:Bool->Bool->Bool)(E l:List E3)(at_ na nb:Int)(out:List ax):Prop where
 srt:mL l
 low:∀ e∈l,at_<=e.1/\e.1<=1099511627776
 zero:0<=at_/\at_<=1099511627776
 cnt:∀ t,at_<=t->ed (fun e=>e.2.1) E t=na+ed (fun e=>e.2.1) l t/\ed (fun e=>e.2.2) E t=nb+ed (fun e=>e.2.2) l t
 span:cg out
 last:∀ p∈out,p.hi<=at_
 ins:∀ t,dW out t=((decide (0<=t)&&decide (t<at_))&&Pm (decide (0<ed (fun e=>e.2.1) E t)) (decide (0<ed (fun e=>e.2.2) E t)))
theorem IA.step {Pm:Bool->Bool->Bool}{E l:List E3}{at_ na nb:Int}{out:List ax}(h:IA Pm E l at_ na nb out)(ha:at_<1099511627776) :
  IA Pm E (kV at_ l na nb).1 (kN (kV at_ l na nb).1) (kV at_ l na nb).2.1 (kV at_ l na nb).2.2 (if Pm (decide (0<(kV at_ l na nb).2.1)) (decide (0<(kV at_ l na nb).2.2))then q8 out at_ (kN (kV at_ l na nb).1)else out) /\
  at_<kN (kV at_ l na nb).1:=by
 obtain⟨l',Vz,VA,h1,h2,h3,h4,h5⟩:=BC at_ l na nb h.srt fun e he=>(h.low e he).1
 rw[h1];simp only;have hn:at_<kN l'/\kN l'<=1099511627776 /\ ∀ e∈l',kN l'<=e.1:=by
  cases l' with
  |nil=>exact⟨ha,Int.le_refl _,fun e he=>by cases he⟩
  |cons e l' =>
   have h6:=h3 e (arX ..);refine⟨h6.1,(h.low e h6.2).2,fun x hx=>?_⟩;rcases arp.1 hx with rfl|hx
   ·exact Int.le_refl _
   ·exact(ase.1 h2).1 x hx
 obtain⟨n1,n2,n3⟩:=hn;generalize kN l'=nx at n1 n2 n3 ⊢;have hz:=h.zero;have hc:∀ t,at_<=t->ed (fun e=>e.2.1) E t=Vz+ed (fun e=>e.2.1) l' t/\ed (fun e=>e.2.2) E t=VA+ed (fun e=>e.2.2) l' t:=fun t ht=>by
  have q1:=h.cnt t ht;have q2:=h5 t ht;omega
 have hk:∀ t,at_<=t->t<nx->Pm (decide (0<ed (fun e=>e.2.1) E t)) (decide (0<ed (fun e=>e.2.2) E t))=Pm (decide (0<Vz)) (decide (0<VA)):=fun t h1 h2=>by
  have q:=hc t h1;rw[yd _ t l' fun e he=>by have:=n3 e he;omega,yd _ t l' fun e he=>by have:=n3 e he;omega,Int.add_zero,Int.add_zero]at q;rw[q.1,q.2]
 refine⟨⟨h2,fun e he=>⟨n3 e he,(h.low e (h3 e he).2).2⟩,m0,fun t ht=>hc t m0,?_,?_,?_⟩,n1⟩
 ·split
  ·exact(jM h.span h.last hz.1 n1 n2).1
  ·exact h.span
 ·split
  ·exact(jM h.span h.last hz.1 n1 n2).2.1
  ·exact fun p hp=>by have:=h.last p hp;omega
 ·intro t
  by_cases OZ:t<at_
  ·have e1:(decide (at_<=t)&&decide (t<nx))=false:=by simp;omega
   have e2:dW (if Pm (decide (0<Vz)) (decide (0<VA))then q8 out at_ nx else out) t=dW out t:=by
    split
    ·rw[(jM h.span h.last hz.1 n1 n2).2.2,e1,Bool.or_false]
    ·rfl
   rw[e2,h.ins t,aq_ OZ,aq_ (show t<nx by omega)]
  ·have e0:dW out t=false:=by rw[h.ins t,aq9 OZ,Bool.and_false,Bool.false_and]
   by_cases Qa:t<nx
   ·rw[hk t m0 Qa,aq_ (show 0<=t by omega),aq_ Qa,arI,arI]
    cases Rh:Pm (decide (0<Vz)) (decide (0<VA))with
    |true=>rw[if_pos rfl,(jM h.span h.last hz.1 n1 n2).2.2,e0,aq_ (show at_<=t by omega),aq_ Qa];rfl
    |false=>rw[if_neg m5,e0]
   ·rw[aq9 Qa,Bool.and_false,Bool.false_and]
    split
    ·rw[(jM h.span h.last hz.1 n1 n2).2.2,e0,aq9 Qa,Bool.and_false];rfl
    ·exact e0
def yc (n:Nat)(l:List E3)(at_:Int):Prop:=at_<1099511627776->l.length+(if at_=kN l then 1 else 2)<=n
theorem aeF (at_:Int){l:List E3}{na nb:Int}(hs:mL l)(hm:∀ e∈l,at_<=e.1):(kV at_ l na nb).1.length<=l.length/\(at_=kN l->at_<1099511627776->(kV at_ l na nb).1.length<l.length):=by
 obtain⟨l',Vz,VA,h1,h2,h3,h4,h5⟩:=BC at_ l na nb hs hm;refine⟨by rw[h1];exact h4,fun he hf=>?_⟩
 cases l with
 |nil=>exact absurd (show at_=1099511627776 from he) m0
 |cons e l =>
  have QB:e.1=at_:=he.symm;rw[kV,if_pos QB];obtain⟨l2,a2,b2,q1,_,_,q4,_⟩:=BC at_ l (na+e.2.1) (nb+e.2.2) (ase.1 hs).2 fun x hx=>hm x (arx _ hx)
  rw[q1];simp;omega
theorem yc.step {n:Nat}{l:List E3}{at_ na nb:Int}(h:yc (n+1) l at_)(hs:mL l)(hm:∀ e∈l,at_<=e.1)(ha:at_<1099511627776):yc n (kV at_ l na nb).1 (kN (kV at_ l na nb).1):=by
 intro _;rw[if_pos rfl];have h1:=aeF at_ (na:=na) (nb:=nb) hs hm;have h2:=h ha;by_cases he:at_=kN l
 ·rw[if_pos he]at h2
  have:=h1.2 he ha;omega
 ·rw[if_neg he]at h2
  have:=h1.1;omega
theorem aev (Pm:Bool->Bool->Bool)(E:List E3):∀ (n:Nat) (l:List E3) (at_ na nb:Int) (out:List ax),IA Pm E l at_ na nb out->yc n l at_ ->
  cg (ig Pm n l at_ na nb out) /\ ∀ t,dW (ig Pm n l at_ na nb out) t=((decide (0<=t)&&decide (t<1099511627776))&&Pm (decide (0<ed (fun e=>e.2.1) E t)) (decide (0<ed (fun e=>e.2.2) E t))):=by
 intro n
 induction n with
 |zero =>
  intro l at_ na nb out h hn;have:at_=1099511627776:=by
   have:=h.zero;have h2:=hn;unfold yc at h2;by_cases ha:at_<1099511627776
   ·have:=h2 ha
    split at this<;>omega
   ·omega
  subst this;exact⟨h.span,h.ins⟩
 |succ n ih =>
  intro l at_ na nb out h hn;rw[ig];by_cases ha:at_<1099511627776
  ·rw[if_pos ha]
   exact ih _ _ _ _ _ (h.step ha).1 (hn.step h.srt (fun e he=>(h.low e he).1) ha)
  ·rw[if_neg ha]
   have:at_=1099511627776:=by have:=h.zero;omega
   subst this;exact⟨h.span,h.ins⟩
theorem NK (Pm:Bool->Bool->Bool){E:List E3}(hs:mL E)(hr:∀ e∈E,0<=e.1/\e.1<=1099511627776):IA Pm E E 0 0 0 [] :=
 ⟨hs,hr,m0,fun t _=>⟨(Int.zero_add _).symm,(Int.zero_add _).symm⟩,t7,fun p hp=>(by cases hp),fun t=>by
  have:(decide (0<=t)&&decide (t<0))=false:=by
   by_cases h:t<0
   ·rw[aq9 (show ¬ 0<=t by omega),Bool.false_and]
   ·rw[aq9 h,Bool.and_false]
  rw[this,Bool.false_and,jU]⟩
theorem Du (Pm:Bool->Bool->Bool){a b:List ax}{E:List E3}(hp:E.Perm (rH a b))(hs:mL E){n:Nat}(hn:E.length+2<=n) :
  cg (ig Pm n E 0 0 0 []) /\ ∀ t,dW (ig Pm n E 0 0 0 []) t=((decide (0<=t)&&decide (t<1099511627776))&&Pm (dW a t) (dW b t)):=by
 have hr:∀ e∈E,0<=e.1/\e.1<=1099511627776:=fun e he=>by
  have:=qd a b e (hp.mem_iff.1 he);exact⟨this.1,this.2.1⟩
 obtain⟨h1,h2⟩:=aev Pm E n E 0 0 0 [] (NK Pm hs hr) (fun _=>by split<;>omega);refine⟨h1,fun t=>?_⟩;rw[h2 t,Hz _ t hp,Hz _ t hp,(Lp a b t).1,(Lp a b t).2,Ir,Ir]
open Go.RowKit Go.Shelf Go.Lib Go.Sort
def agk:Type :={ e:E3 // 0<=e.1/\e.1<=1099511627776 }
instance : Inhabited agk := ⟨⟨(0, 0, 0), by decide⟩⟩
def al6:Flat agk:=⟨3,fun e=>[e.1.1,e.1.2.1,e.1.2.2],fun _=>rfl,m0⟩
theorem ani:SWO (ltOf fun x y:agk=>x.1.1-y.1.1) where
 irrefl x:=by simp[ltOf]
 trans x y z h1 h2:=by simp[ltOf]at *;omega
 ntrans x y z h1 h2:=by simp[ltOf]at *;omega
theorem aiL:Ot Tryz.prog al6 213 [] (fun x => .agg (al6.enc x).toArray) (fun x y=>x.1.1-y.1.1):=by
 intro R W cb _ hs _ x y;obtain rfl:=ahs hs;obtain⟨⟨x,a,b⟩,O0,P2⟩:=x;obtain⟨⟨y,c,d⟩,hy1,XY⟩:=y;simp only at O0 P2 hy1 XY;show Calls Tryz.prog 213 #[.agg #[.int .i64 x,.int .i64 a,.int .i64 b],.agg #[.int .i64 y,.int .i64 c,.int .i64 d]] W _
 go_enter Tryz.func213,Tryz.ntmps213
 go_wp2
 go_ret
 exact⟨rfl,0,_,by rw[alloc_eq_grow,alloc_eq_grow,grow_grow];rfl⟩
instance : Inhabited cA := ⟨⟨0, 0⟩⟩
def gI (k:Int):List SV:=[.c (.int .i64 k)]
def LV (p:cA):List SV:=[.c (.int .i64 p.a),.c (.int .i64 p.b)]
theorem GY {n:Nat}:∀ {o:List Int},(∀ k∈o,0<=k/\k<(n:Int)) ->∃ d:List (afg n),d.map (·.1)=o
 |[],_=>⟨[],rfl⟩
 |k::o,h=>by
  obtain⟨d,e⟩:=GY (o:=o) fun t ht=>h t (arx _ ht)
  have hk:=h k (arX ..);exact⟨⟨k,hk.1,.inl hk.2⟩::d,congrArg (k :: ·) e⟩
theorem H7 {n:Nat}(d:List (afg n)):d.map (ama n).tr=(d.map (·.1)).map gI:=by
 rw[List.map_map];rfl
theorem ML {b:List ap}(hb:b.length<=1000){o:List Int}(hr:∀ k∈o,0<=k/\k<(b.length:Int))(v m:Nat)(hm:o.length=m)(hm2:m<=1000000) :
  ∃ o':List Int,o'.Perm o/\o'.Pairwise (fun x y =>¬ pF b y<pF b x)/\RTz 39 [.row v (o.map gI) 1] [.one (.sl 0 v 0 m),.one (.c (.fn 40 [.ref [.lst (b.map aH)]]))] [.row v (o'.map gI) 1] (.tup []):=by
 obtain⟨d,rfl⟩:=GY hr;have hO:=ao8 (α:=afg b.length) fun x=>pF b x.1
 have hd:d≠[]->0<b.length:=fun h=>by
  cases d with
  |nil=>exact absurd rfl h
  |cons x d=>have:=hr x.1 m5;omega
 have O4:=agr (P:=Tryz.prog) (F:=ama b.length) rfl Tryz.sortInt (fun x y=>Lib.compareInt (pF b x.1) (pF b y.1)) hO 40 [.ref [.lst (b.map aH)]] (pre:=[]) (d:=d) (post:=[])
  (enters_of Tryz.func40 k7 rfl) (fun h=>ae9 (hd h) hb) ⟨_,Tryz.func39,k7,k7⟩ v 0 m rfl (by rw[<- hm];simp) m0
 refine⟨(bH (fun x y=>Lib.compareInt (pF b x.1) (pF b y.1)) d).map (·.1),(kZ hO d).map _,?_,?_⟩
 ·rw[List.pairwise_map]
  refine(sZ hO d).imp fun {x y} h OZ=>h ?_
  have:=ltC (fun z:afg b.length=>pF b z.1) y x;unfold ltOf at this;rw[decide_eq_decide]at this;exact this.2 OZ
 ·simp only[ara,arJ]at O4
  rw[H7,H7]at O4;exact O4
theorem abR (pre d:List cA)(v lo n:Nat)(Pj:pre.length=lo)(hn:d.length=n)(Py:n<=1000000) :
  ∃ d':List cA,d'.Perm d/\d'.Pairwise (fun x y =>¬ y.b<x.b)/\RTz 42 [.row v ((pre++d).map LV) 2] [.one (.sl 0 v lo n),.one (.c (.fn 43 []))] [.row v ((pre++d').map LV) 2] (.tup []):=by
 have hO:=ao8 (α:=cA) fun x=>x.b
 have O4:=Hg (P:=Tryz.prog) (F:=anK) Tryz.sortPair Tryz.isAgg63 Tryz.sizeOf63 (fun x y=>Lib.compareInt x.b y.b) hO 43 [] (pre:=pre) (d:=d) (post:=[])
  (enters_of Tryz.func43 k7 rfl) (fun _=>ajn) ⟨_,Tryz.func42,k7,k7⟩ v lo n Pj hn m0
 refine⟨bH (fun x y=>Lib.compareInt x.b y.b) d,kZ hO d,?_,?_⟩
 ·refine(sZ hO d).imp fun {x y} h OZ=>h ?_
  have:=ltC (fun z:cA=>z.b) y x;unfold ltOf at this;rw[decide_eq_decide]at this;exact this.2 OZ
 ·rw[arJ,arJ]at O4
  exact O4
open Go.RowKit Go.MapKept Go.Shelf Go.Lib Go.Sort
def MB (l:List ax):AC := .lst (l.map aO)
def Gi (e:E3):List SV:=[.c (.int .i64 e.1),.c (.int .i64 e.2.1),.c (.int .i64 e.2.2)]
def cEd (e:E3):List AC:=[.int .i64 e.1,.int .i64 e.2.1,.int .i64 e.2.2]
theorem LO:∀ {o:List E3},(∀ e∈o,0<=e.1/\e.1<=1099511627776) ->∃ d:List agk,d.map (·.1)=o
 |[],_=>⟨[],rfl⟩
 |k::o,h=>by
  obtain⟨d,e⟩:=LO (o:=o) fun t ht=>h t (arx _ ht)
  have hk:=h k (arX ..);exact⟨⟨k,hk.1,hk.2⟩::d,congrArg (k :: ·) e⟩
theorem NR (d:List agk):d.map al6.tr=(d.map (·.1)).map Gi:=by
 rw[List.map_map];rfl
theorem ab4 {o:List E3}(hr:∀ e∈o,0<=e.1/\e.1<=1099511627776)(v m:Nat)(hm:o.length=m)(hm2:m<=1000000) :
  ∃ o':List E3,o'.Perm o/\mL o'/\RTz 212 [.row v (o.map Gi) 3] [.one (.sl 0 v 0 m),.one (.c (.fn 213 []))] [.row v (o'.map Gi) 3] (.tup []):=by
 obtain⟨d,rfl⟩:=LO hr;have O4:=Hg (P:=Tryz.prog) (F:=al6) Tryz.sortEdge Tryz.isAgg162 Tryz.sizeOf162 (fun x y=>x.1.1-y.1.1) ani 213 [] (pre:=[]) (d:=d) (post:=[])
  (enters_of Tryz.func213 k7 rfl) (fun _=>aiL) ⟨_,Tryz.func212,k7,k7⟩ v 0 m rfl (by rw[<- hm];simp) m0
 refine⟨(bH (fun x y:agk=>x.1.1-y.1.1) d).map (·.1),(kZ ani d).map _,?_,?_⟩
 ·unfold mL
  rw[List.pairwise_map];refine(sZ ani d).imp fun {x y} h=>?_
  omega
 ·simp only[ara,arJ]at O4
  rw[NR,NR]at O4;exact O4
def vE (n:Nat):Nat:=162+65536+65536*n
theorem ajt (l:List E3):ee (l.map Gi)=some (l.map cEd):=by
 have:=je (l.map cEd);rw[List.map_map]at this;exact this
theorem ij (n v k:Nat)(l:List E3):(Ob.row v (l.map Gi) k).below n:=by
 intro e he x hx;obtain⟨y,_,rfl⟩:=arK.1 he;simp[Gi]at hx;rcases hx with rfl|rfl|rfl<;>trivial
theorem LA (σ:List Nat)(v:Nat)(l:List E3):(Ob.row v (l.map Gi) 3).ren σ=Ob.row v (l.map Gi) 3:=by
 simp only[Ob.ren,List.map_map];rfl
theorem rfE {L:List Ob}{v:Nat}{l:List E3}{id:Nat}{x:AV}{xs:List AV}(h0:L[id]?=some (Ob.row v (l.map Gi) 3))(hx:∀ y∈x::xs,y.below 1):gg [id] [Ob.row v (l.map Gi) 3] (x::xs) L:=by
 refine⟨rfl,m5,fun i y hy=>?_,bw ⟨ij _ _ _ _,t7⟩,hx⟩
 match i,hy with
 |0,hy=>simp at hy;subst hy;rw[LA];exact h0
 |i+1,hy=>simp at hy
theorem jE {L L':List Ob}{v:Nat}{l:List E3}{id:Nat}(h:L.set id (Ob.row v (l.map Gi) 3)=L'):joinL [id] L [Ob.row v (l.map Gi) 3]=L':=by
 subst h;simp[joinL,join,dr,ce,ft,LA]
theorem FF (p:ax)(f:Bool):∀ l:List ax,ru (l++[p]) f=ru l f++(bif aw p then(bif f then [(p.lo,1,0),(p.hi,-1,0)]else [(p.lo,0,1),(p.hi,0,-1)])else [])
 |[]=>by simp[ru]
 |q::l=>by
  rw[List.cons_append,ru,FF p f l,ru,arA]
def nE (l:List ax):Nat:=l.countP aw
theorem adf (l:List ax)(p:ax):nE (l++[p])=nE l+(bif aw p then 1 else 0):=by
 unfold nE;rw[List.countP_append,List.countP_cons,List.countP_nil]
 cases aw p<;>simp
theorem zq (f:Bool):∀ l:List ax,(ru l f).length=2*nE l
 |[]=>rfl
 |p::l=>by
  have:=zq f l;unfold nE at this ⊢;rw[ru,ard,this,List.countP_cons]
  cases aw p<;>cases f<;>simp<;>omega
theorem adU (l:List ax):nE l<=l.length:=List.countP_le_length
def ET1 (a b:List ax)(m i:Nat):Tm:=[(1,.one (.c (MB b))),(5,.one (.sl 0 (vE m) 0 (2*m))),(10,.one (.c (MB a))),(11,.one (.c (.int .i64 a.length))),(12,.one (.c (.int .i64 i)))]
theorem yC (a b:List ax)(m i:Nat):gK 1 (ET1 a b m i):=⟨t7,(by show 0<1;omega),t7,t7,t7,t7⟩
def ET2 (b:List ax)(m i:Nat):Tm:=[(5,.one (.sl 0 (vE m) 0 (2*m))),(28,.one (.c (MB b))),(29,.one (.c (.int .i64 b.length))),(30,.one (.c (.int .i64 i)))]
theorem yp (b:List ax)(m i:Nat):gK 1 (ET2 b m i):=⟨(by show 0<1;omega),t7,t7,t7,t7⟩
theorem D7 (a b:List ax)(ha:a.length<=1000)(hb:b.length<=1000):∃ E,E.Perm (rH a b)/\mL E/\PTz 156 [.one (MB a),.one (MB b)] (.val (.one (.lst (E.map cEd)))):=by
 have hlen:(rH a b).length=2*(nE a+nE b):=by unfold rH;rw[ard,zq,zq];omega
 have hna:=adU a;have R9:=adU b;obtain⟨E,hEp,hEs,Ug⟩:=ab4 (o:=rH a b) (fun e he=>⟨(qd a b e he).1,(qd a b e he).2.1⟩) (vE (nE a+nE b)) (2*(nE a+nE b)) hlen m0;refine⟨E,hEp,hEs,?_⟩;refine pa_ am Tryz.func156 rfl rfl Tryz.ntmps156 m5 ?_;simp only[argT,PV.av,ari,arn]
 repeat' (first|refine gw_ am tabS_ok ?_|refine gi_ (fun hb=>?_) (fun hb=>?_)|fail)
 refine tU 5 (vE 0) 3 rfl (by unfold vE;omega) ?_;refine cz (fun i:Nat=>ET1 a b (nE (a.take i)) i) (fun i=>[.row (vE (nE (a.take i))) ((ru (a.take i) true).map Gi) 3]) (fun i=>i<=a.length) (fun i=>a.length-i) 0 m0 (fun _ _=>aru _)
  (fm_ ⟨rfl,rfl,rfl,aU m5,rfl,t7⟩ [] rfl (yC _ _ _ _) ⟨ij _ _ _ _,t7⟩) ?_
 intro i hi;by_cases OZ:i<a.length
 ·obtain⟨x,hx⟩:=gol_ OZ
  have Qj:=gPV_ok (i_ x);have RA:nE (a.take (i+1))=nE (a.take i)+(bif aw x then 1 else 0):=by rw[bR hx,adf]
  have TS:ru (a.take (i+1)) true=ru (a.take i) true++(bif aw x then [(x.lo,1,0),(x.hi,-1,0)]else []):=by rw[bR hx,FF];rfl
  have Vv:=zq true (a.take i);have hle:nE (a.take i)<=1000:=by have:=adU (a.take i);rw[ar3]at this;omega
  unfold ET1;generalize nE (a.take i)=m at RA Vv hle ⊢;generalize ru (a.take i) true=E0 at TS Vv ⊢
  cases hv:aw x with
  |true =>
   rw[hv]at Qj RA TS;rw[aq8]at RA TS;have QJ:vE (m+1)=vE m+65536:=by unfold vE;omega
   have hm:(E0.map Gi).length=2*m:=by rw[arj,Vv]
   repeat' (first|(refine ci rfl rfl rfl rfl rfl (eh am (k:=3) (by_:=24) (xs:=[Gi (x.lo,1,0),Gi (x.hi,-1,0)]) rfl rfl rfl rfl ⟨rfl,_,rfl,by intro e he;simp at he;rcases he with rfl|rfl<;>rfl⟩ rfl (by unfold vE;omega) rfl rfl rfl m9 hm (by simp only[arv,arE];omega) (by simp only[arv,arE];omega)) ?_)|(refine bB rfl rfl rfl rfl rfl rfl rfl rfl (bv hx) ?_ ?_;· exact⟨m0,rfl⟩)|refine aN rfl rfl rfl rfl Qj rfl ?_|refine gw_ am tabS_ok ?_|refine gi_ (fun hb=>?_) (fun hb=>?_)|fail)
   exact⟨i+1,m0,m0,fm_ ⟨rfl,(by rw[RA,QJ];rfl),rfl,rfl,aU (a7 m0 m0),t7⟩ [_] (by rw[RA,QJ,TS,ark];rfl) (yC _ _ _ _) ⟨ij _ _ _ _,t7⟩⟩
  |false =>
   rw[hv]at Qj RA TS;rw[aq7,Nat.add_zero]at RA;rw[aq7,arJ]at TS
   repeat' (first|(refine bB rfl rfl rfl rfl rfl rfl rfl rfl (bv hx) ?_ ?_;· exact⟨m0,rfl⟩)|refine aN rfl rfl rfl rfl Qj rfl ?_|refine gw_ am tabS_ok ?_|refine gi_ (fun hb=>?_) (fun hb=>?_)|fail)
   exact⟨i+1,m0,m0,fm_ ⟨rfl,(by rw[RA];rfl),rfl,rfl,aU (a7 m0 m0),t7⟩ [_] (by rw[RA,TS];rfl) (yC _ _ _ _) ⟨ij _ _ _ _,t7⟩⟩
 ·have Qo:i=a.length:=m0
  subst Qo;rw[List.take_length];unfold ET1
  repeat' (first|refine gw_ am tabS_ok ?_|refine gi_ (fun hb=>?_) (fun hb=>?_)|fail)
  refine cz (fun i:Nat=>ET2 b (nE a+nE (b.take i)) i) (fun i=>[.row (vE (nE a+nE (b.take i))) ((ru a true++ru (b.take i) false).map Gi) 3]) (fun i=>i<=b.length) (fun i=>b.length-i) 0 m0 (fun _ _=>aru _)
   (fm_ ⟨rfl,rfl,aU m5,rfl,t7⟩ [] (by simp[ru,nE]) (yp _ _ _) ⟨ij _ _ _ _,t7⟩) ?_
  intro i hi;by_cases OZ:i<b.length
  ·obtain⟨x,hx⟩:=gol_ OZ
   have Qj:=gPV_ok (i_ x);have RA:nE a+nE (b.take (i+1))=nE a+nE (b.take i)+(bif aw x then 1 else 0):=by rw[bR hx,adf,Nat.add_assoc]
   have TS:ru a true++ru (b.take (i+1)) false=ru a true++ru (b.take i) false++(bif aw x then [(x.lo,0,1),(x.hi,0,-1)]else []):=by rw[bR hx,FF,arA];rfl
   have Vv:(ru a true++ru (b.take i) false).length=2*(nE a+nE (b.take i)):=by rw[ard,zq,zq];omega
   have hle:nE a+nE (b.take i)<=2000:=by have:=adU (b.take i);rw[ar3]at this;omega
   unfold ET2;generalize nE a+nE (b.take i)=m at RA Vv hle ⊢;generalize ru a true++ru (b.take i) false=E0 at TS Vv ⊢
   cases hv:aw x with
   |true =>
    rw[hv]at Qj RA TS;rw[aq8]at RA TS;have QJ:vE (m+1)=vE m+65536:=by unfold vE;omega
    have hm:(E0.map Gi).length=2*m:=by rw[arj,Vv]
    repeat' (first|(refine ci rfl rfl rfl rfl rfl (eh am (k:=3) (by_:=24) (xs:=[Gi (x.lo,0,1),Gi (x.hi,0,-1)]) rfl rfl rfl rfl ⟨rfl,_,rfl,by intro e he;simp at he;rcases he with rfl|rfl<;>rfl⟩ rfl (by unfold vE;omega) rfl rfl rfl m9 hm (by simp only[arv,arE];omega) (by simp only[arv,arE];omega)) ?_)|(refine bB rfl rfl rfl rfl rfl rfl rfl rfl (bv hx) ?_ ?_;· exact⟨m0,rfl⟩)|refine aN rfl rfl rfl rfl Qj rfl ?_|refine gw_ am tabS_ok ?_|refine gi_ (fun hb=>?_) (fun hb=>?_)|fail)
    exact⟨i+1,m0,m0,fm_ ⟨(by rw[RA,QJ];rfl),rfl,rfl,aU (a7 m0 m0),t7⟩ [_] (by rw[RA,QJ,TS,ark];rfl) (yp _ _ _) ⟨ij _ _ _ _,t7⟩⟩
   |false =>
    rw[hv]at Qj RA TS;rw[aq7,Nat.add_zero]at RA;rw[aq7,arJ]at TS
    repeat' (first|(refine bB rfl rfl rfl rfl rfl rfl rfl rfl (bv hx) ?_ ?_;· exact⟨m0,rfl⟩)|refine aN rfl rfl rfl rfl Qj rfl ?_|refine gw_ am tabS_ok ?_|refine gi_ (fun hb=>?_) (fun hb=>?_)|fail)
    exact⟨i+1,m0,m0,fm_ ⟨(by rw[RA];rfl),rfl,rfl,aU (a7 m0 m0),t7⟩ [_] (by rw[RA,TS];rfl) (yp _ _ _) ⟨ij _ _ _ _,t7⟩⟩
  ·have Qo:i=b.length:=m0
   subst Qo;rw[List.take_length];unfold ET2;have Uw:ru a true++ru b false=rH a b:=rfl;rw[Uw]
   repeat' (first|(refine cK [0] rfl rfl rfl rfl Ug rfl (rfE rfl (bY ⟨(by show 0<1;omega),t7,t7⟩)) rfl (jE rfl) ?_)|(refine jK 0 5 (cs:=E.map cEd) rfl (ajt _) rfl (by rw[arj,hEp.length_eq,hlen]) ?_)|refine gw_ am tabS_ok ?_|refine gi_ (fun hb=>?_) (fun hb=>?_)|fail)
   refine⟨.inr rfl,?_⟩
   first|exact⟨t7,rfl⟩|exact⟨⟨t7,t7⟩,rfl⟩|(refine⟨?_,rfl⟩;repeat' (first|exact t7|rfl|apply And.intro))
