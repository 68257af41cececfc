/- Parts of the proof, joined. No condition. -/
import Derived.Test.YtlcceppoloaecaaGreatDoorKAA
import Derived.Test.YtlcceppoloaecaaGreatDoorKBJ
import Derived.Test.YtlcceppoloaecaaGreatDoorKBQ
import Derived.Test.YtlcceppoloaecaaGreatDoorKBR
import Derived.Test.YtlcceppoloaecaaGreatDoorKBG
set_option linter.unusedSimpArgs false
set_option linter.unusedVariables false
namespace Go.Proofs.YtlcceppoloaecaaGreatDoor
open Go.RowKit Go.MapKept
theorem d9 {α β ρ:Type} {l:List α} {body:(List β × Int)->Option (Step (List β × Int) ρ)} (g:α->List β) (N:Nat) (h1 : ∀ (s:List β) (i:Nat) x,l[i]?=some x->s.length+(g x).length<=N->body (s,(i:Int))=some (.next (s++g x,((i+1:Nat):Int)))) (h2 : ∀ s:List β,body (s,((l.length:Nat):Int))=some (.exit (s,((l.length:Nat):Int)))) (hl:l.length<fuel) (s:List β) (hN:s.length+(l.flatMap g).length<=N) :
  az body fuel (s,(0:Int))=some (.inl (s++l.flatMap g,((l.length:Nat):Int))):=by
 have key : ∀ (n i:Nat) (s:List β),i<=l.length->l.length-i<n->s.length+((l.drop i).flatMap g).length<=N->az body n (s,(i:Int))=some (.inl (s++(l.drop i).flatMap g,((l.length:Nat):Int))):=by
  intro n
  induction n with
  | zero=>intro i s _ h _;omega
  | succ n ih =>
   intro i s hi hn hs
   rw [az]
   by_cases hlt:i<l.length
   ·obtain ⟨x,hx⟩:=gol_ hlt
    have e1:=(ap0.1 hx).2
    rw [aqv hlt,e1,aqC] at hs ⊢
    rw [ap8] at hs
    rw [h1 s i x hx (by omega)]
    show az body n _=_
    rw [ih (i+1) (s++g x) (by omega) (by omega) (by rw [ap8];omega),aqp]
   ·have:i=l.length:=by omega
    subst this
    rw [h2,aqU]
    simp
 have:=key fuel 0 s (aqj _) (by omega) (by simpa using hN)
 simpa using this
def Tj (l:List (List Val)):Prop:=l.Pairwise fun a b=>cO a b<0
theorem Iw : ∀ {a b:List (List Val)}, Tj a->Tj b->(∀ x,x∈a↔x∈b)->a=b
 | [],[],_,_,_=>rfl
 | [],y::b,_,_,h=>by have:=(h y).2 (by simp);cases this
 | x::a,[],_,_,h=>by have:=(h x).1 (by simp);cases this
 | x::a,y::b,ha,hb,h=>by
  have ha:=aqV.1 ha
  have hb:=aqV.1 hb
  have irr : ∀ z, ¬ cO z z<0:=fun z=>by rw [tCr_.refl];omega
  have hxy:x=y:=by
   rcases aqf.1 ((h x).1 (by simp)) with e|e
   ·exact e
   ·rcases aqf.1 ((h y).2 (by simp)) with e2|e2
    ·exact e2.symm
    ·exact absurd (tCr_.trans _ _ _ (ha.1 y e2) (hb.1 x e)) (irr x)
  subst hxy
  rw [Iw ha.2 hb.2 fun z=>?_]
  constructor
  ·intro hz
   rcases aqf.1 ((h z).1 (aqm _ hz)) with rfl|e
   ·exact absurd (ha.1 z hz) (irr z)
   ·exact e
  ·intro hz
   rcases aqf.1 ((h z).2 (aqm _ hz)) with rfl|e
   ·exact absurd (hb.1 z hz) (irr z)
   ·exact e
instance decRow (a b : List Val) : Decidable (a = b) := if h : cO a b = 0 then .isTrue (tCr_.zero _ _ h) else .isFalse fun e => h (by rw [e]; exact tCr_.refl _)
def bO (l:List aC) (r:List Val):List aP:=(l.filter fun f=>aD f.valid&&decide (f.row=r)).map (·.valid)
def gQ (l:List aC) (R:List (List Val)):Prop:=Tj R /\ ∀ x,x∈R ↔ ∃ f∈l,aD f.valid=true/\f.row=x
def gM (l:List aC) (R:List (List Val)):List aC:=R.flatMap fun r=>(cK (bO l r)).map fun p=>⟨r,p⟩
theorem gQ.ext {l:List aC} {R S:List (List Val)} (h:gQ l R) (k:gQ l S):R=S:=Iw h.1 k.1 fun x=>(h.2 x).trans (k.2 x).symm
theorem tq (l:List aC) (f:aC) (r:List Val):bO (l++[f]) r=bO l r++(if aD f.valid&&decide (f.row=r) then [f.valid] else []):=by
 unfold bO
 rw [List.filter_append,aqb]
 congr 1
 by_cases h:(aD f.valid&&decide (f.row=r))=true
 ·simp [h]
 ·simp [h]
theorem OO {s:ByteArray} : ∀ {G:List bV} {i:Nat}, iQ s G=some i -> ∃ g,G[i]?=some g/\eQ g.f.row=s
 | [],_,h=>by simp [iQ] at h
 | g::r,i,h=>by
  unfold iQ at h
  split at h
  ·rename_i e;injection h with h;subst h;exact ⟨g,rfl,e.symm⟩
  ·cases hr:iQ s r with
   | none=>rw [hr] at h;cases h
   | some j =>
    rw [hr] at h;injection h with h;subst h
    obtain ⟨g',h1,h2⟩:=OO hr
    exact ⟨g',by simpa using h1,h2⟩
theorem M9 {s:ByteArray} : ∀ {G:List bV}, iQ s G=none -> ∀ g∈G,eQ g.f.row≠s
 | [],_,g,hg=>by cases hg
 | x::r,h,g,hg=>by
  unfold iQ at h
  split at h
  ·cases h
  ·rename_i e
   cases hr:iQ s r with
   | none =>
    rcases aqf.1 hg with rfl|hg
    ·exact fun q=>e q.symm
    ·exact M9 hr g hg
   | some j=>rw [hr] at h;cases h
structure GInv (l:List aC) (G:List bV):Prop where
 nd:G.Pairwise fun g h=>g.f.row≠h.f.row
 ps : ∀ g∈G,g.ps=bO l g.f.row
 mem : ∀ g∈G, ∃ f∈l,aD f.valid=true/\f.row=g.f.row
 all : ∀ f∈l,aD f.valid=true -> ∃ g∈G,g.f.row=f.row
theorem GInv.step {l:List aC} {G:List bV} (h:GInv l G) (f:aC):GInv (l++[f]) (jK G f):=by
 unfold jK
 cases hv:aD f.valid with
 | false =>
  rw [ap1]
  refine ⟨h.nd,fun g hg=>?_,fun g hg=>?_,fun f' hf' hv'=>?_⟩
  ·rw [tq,hv];simpa using h.ps g hg
  ·obtain ⟨f',h1,h2⟩:=h.mem g hg;exact ⟨f',List.mem_append_left _ h1,h2⟩
  ·rcases aqr.1 hf' with hf'|hf'
   ·exact h.all f' hf' hv'
   ·rw [aqF.1 hf'] at hv';rw [hv] at hv';cases hv'
 | true =>
  rw [ap2]
  cases hf:iQ (eQ f.row) G with
  | none =>
   have hne : ∀ g∈G,g.f.row≠f.row:=fun g hg e=>M9 hf g hg (by rw [e])
   have hemp:bO l f.row=[]:=by
    unfold bO
    rw [List.map_eq_nil_iff,List.filter_eq_nil_iff]
    intro f' hf' hc
    rw [aqg] at hc
    obtain ⟨g,hg,e⟩:=h.all f' hf' hc.1
    exact hne g hg (e.trans (aqs hc.2))
   refine ⟨List.pairwise_append.2 ⟨h.nd,List.pairwise_singleton _ _,fun g hg g' hg'=>by rw [aqF.1 hg'];exact hne g hg⟩,fun g hg=>?_,fun g hg=>?_,fun f' hf' hv'=>?_⟩
   ·rcases aqr.1 hg with hg|hg
    ·rw [tq,hv,show decide (f.row=g.f.row)=false from ap3 fun e=>hne g hg e.symm]
     simpa using h.ps g hg
    ·rw [aqF.1 hg,tq,hv,hemp];simp
   ·rcases aqr.1 hg with hg|hg
    ·obtain ⟨f',h1,h2⟩:=h.mem g hg;exact ⟨f',List.mem_append_left _ h1,h2⟩
    ·rw [aqF.1 hg];exact ⟨f,by simp,hv,rfl⟩
   ·rcases aqr.1 hf' with hf'|hf'
    ·obtain ⟨g,hg,e⟩:=h.all f' hf' hv';exact ⟨g,List.mem_append_left _ hg,e⟩
    ·rw [aqF.1 hf'];exact ⟨⟨f,[f.valid]⟩,by simp,rfl⟩
  | some i =>
   obtain ⟨g0,hg0,hk⟩:=OO hf
   have hrow:g0.f.row=f.row:=key_inj hk
   dsimp only
   rw [hg0]
   dsimp only
   have hil:=(ap0.1 hg0).1
   have hmap:(G.set i ⟨g0.f,g0.ps++[f.valid]⟩).map (·.f.row)=G.map (·.f.row):=by
    rw [List.map_set]
    refine List.ext_getElem? fun j=>?_
    rw [List.getElem?_set]
    split
    ·rename_i e;subst e
     rw [aqa,if_pos hil,aql,hg0];rfl
    ·rfl
   have hnd:(G.set i ⟨g0.f,g0.ps++[f.valid]⟩).Pairwise fun g h=>g.f.row≠h.f.row:=by
    have h1:(G.map (·.f.row)).Pairwise (· ≠ ·):=List.pairwise_map.2 h.nd
    rw [<- hmap] at h1
    exact List.pairwise_map.1 h1
   have hmemG : ∀ g∈G.set i ⟨g0.f,g0.ps++[f.valid]⟩,(g∈G/\g.f.row≠f.row)\/g=⟨g0.f,g0.ps++[f.valid]⟩:=by
    intro g hg
    obtain ⟨j,hj⟩:=List.getElem?_of_mem hg
    rw [List.getElem?_set] at hj
    split at hj
    ·rename_i e
     injection hj with hj
     exact .inr hj.symm
    ·rename_i e
     refine .inl ⟨ap6 hj,fun q=>?_⟩
     have hjl:=(ap0.1 hj).1
     have e1:=(ap0.1 hj).2
     have e2:=(ap0.1 hg0).2
     rcases Nat.lt_or_gt_of_ne e with hlt|hlt
     ·have:=List.pairwise_iff_getElem.1 h.nd i j hil hjl hlt
      rw [e1,e2] at this;exact this (hrow.trans q.symm)
     ·have:=List.pairwise_iff_getElem.1 h.nd j i hjl hil hlt
      rw [e1,e2] at this;exact this (q.trans hrow.symm)
   have hg0m:=ap6 hg0
   refine ⟨hnd,fun g hg=>?_,fun g hg=>?_,fun f' hf' hv'=>?_⟩
   ·rcases hmemG g hg with ⟨hg,hne⟩|rfl
    ·rw [tq,hv,show decide (f.row=g.f.row)=false from ap3 fun e=>hne e.symm]
     simpa using h.ps g hg
    ·show g0.ps++[f.valid]=bO (l++[f]) g0.f.row
     rw [tq,hv,show decide (f.row=g0.f.row)=true from ap4 hrow.symm, <- h.ps g0 hg0m];rfl
   ·rcases hmemG g hg with ⟨hg,_⟩|rfl
    ·obtain ⟨f',h1,h2⟩:=h.mem g hg;exact ⟨f',List.mem_append_left _ h1,h2⟩
    ·exact ⟨f,by simp,hv,hrow.symm⟩
   ·have hex : ∃ g∈G,g.f.row=f'.row:=by
     rcases aqr.1 hf' with hf'|hf'
     ·exact h.all f' hf' hv'
     ·rw [aqF.1 hf'];exact ⟨g0,hg0m,hrow⟩
    obtain ⟨g,hg,e⟩:=hex
    have:g.f.row∈(G.set i ⟨g0.f,g0.ps++[f.valid]⟩).map (·.f.row):=by rw [hmap];exact List.mem_map_of_mem hg
    obtain ⟨g',hg',e'⟩:=aqz.1 this
    exact ⟨g',hg',e'.trans e⟩
theorem Zo (l:List aC):GInv l (fK l):=by
 have : ∀ (l l0:List aC) (G:List bV),GInv l0 G->GInv (l0++l) (l.foldl jK G):=by
  intro l
  induction l with
  | nil=>intro l0 G h;simpa using h
  | cons f l ih =>
   intro l0 G h
   have:=ih (l0++[f]) _ (h.step f)
   rw [aqp] at this
   exact this
 have:=this l [] [] ⟨List.Pairwise.nil,fun g hg=>(by cases hg),fun g hg=>(by cases hg),fun f hf=>(by cases hf)⟩
 simpa [fK] using this
theorem DW (a b d:List Val) (h1:cO a b<=0) (h2:cO b d<=0):cO a d<=0:=by
 rcases Int.lt_or_eq_of_le h1 with h1|h1
 ·rcases Int.lt_or_eq_of_le h2 with h2|h2
  ·exact Int.le_of_lt (tCr_.trans _ _ _ h1 h2)
  ·rw [<- tCr_.zero _ _ h2];exact Int.le_of_lt h1
 ·rw [tCr_.zero _ _ h1];exact h2
theorem aiN (a b:List Val) (h : ¬ cO a b<0):cO b a<=0:=by
 have:=(tCr_.anti a b);omega
theorem Qg (l:List aC) : ∃ R,gQ l R/\tK l=R.map fun r=>⟨r,bO l r⟩:=by
 have hi:=Zo l
 have hp:=zH jO ((fK l).map fun g=>(⟨g.f.row,g.ps⟩:aa))
 have ha:=Tz (c:=jO) (fun a b d=>DW a.row b.row d.row) (fun a b=>aiN a.row b.row) ((fK l).map fun g=>(⟨g.f.row,g.ps⟩:aa))
 have hn:(tK l).Pairwise fun a b=>a.row≠b.row:=by
  have h1:((fK l).map fun g=>(⟨g.f.row,g.ps⟩:aa)).Pairwise fun a b=>a.row≠b.row:=List.pairwise_map.2 hi.nd
  exact (List.Perm.pairwise_iff (fun {a b} h=>Ne.symm h) hp).2 h1
 have hmem : ∀ s∈tK l,s.periods=bO l s.row /\ ∃ f∈l,aD f.valid=true/\f.row=s.row:=by
  intro s hs
  obtain ⟨g,hg,rfl⟩:=aqz.1 (hp.mem_iff.1 hs)
  exact ⟨hi.ps g hg,hi.mem g hg⟩
 refine ⟨(tK l).map (·.row),⟨?_,fun x=>?_⟩,?_⟩
 ·refine List.pairwise_map.2 ?_
  refine (List.Pairwise.and ha hn).imp ?_
  rintro a b ⟨h1,h2⟩
  rcases Int.lt_or_eq_of_le h1 with h|h
  ·exact h
  ·exact absurd (tCr_.zero _ _ h) h2
 ·constructor
  ·intro hx
   obtain ⟨s,hs,rfl⟩:=aqz.1 hx
   exact (hmem s hs).2
  ·rintro ⟨f,hf,hv,rfl⟩
   obtain ⟨g,hg,e⟩:=hi.all f hf hv
   exact aqz.2 ⟨⟨g.f.row,g.ps⟩,hp.mem_iff.2 (aqz.2 ⟨g,hg,rfl⟩),e⟩
 ·rw [List.map_map]
  refine (List.map_id (tK l)).symm.trans (List.map_congr_left fun s hs=>?_)
  have:=(hmem s hs).1
  obtain ⟨r,ps⟩:=s
  show (⟨r,ps⟩:aa)=⟨r,bO l r⟩
  rw [<- this]
theorem fo_ {α β:Type} (f:α->β) : ∀ l:List α,(l.flatMap fun x=>[f x])=l.map f
 | []=>rfl
 | x::l=>by rw [aqC,fo_ f l];rfl
theorem YD (ps:List aP) (hn:ps.length<=100000):Bv ps=some (DL (ones ps)):=by
 unfold Bv
 rw [d9 (l:=ps) (fun p=>[(⟨p,1⟩:J3)]) 5864062014805 ?_ ?_ (by unfold fuel;omega) [] (by rw [fo_];simp;omega)]
 ·rw [apZ,fo_,ap5]
  show (afQ (ones ps)).bind _=_
  unfold afQ
  rw [show decide ((ones ps).length<=100000)=true from ap4 (by simpa [ones] using hn)]
  rfl
 ·intro s i x hx hs
  have hi:=(ap0.1 hx).1
  unfold uK
  dsimp only
  rw [bf hx,ap2,gn_ hx]
  simp only [apZ]
  rw [show decide (s.length+1<=5864062014805)=true from ap4 (by simpa using hs),ap2,wrapN (by omega)]
 ·intro s
  unfold uK
  dsimp only
  rw [lF_,ap1]
theorem SL (ps:List aP):(cK ps).length<=600*(1+2*ps.length):=by
 unfold cK Jr
 rw [aqa,(St.JG _).2.length_eq]
 have h1:=St.Cm ((DL (ones ps)).map toS) 600
 have h2:St.nC ((DL (ones ps)).map toS)=St.mJ ((DL (ones ps)).map toS) 600:=rfl
 rw [h2]
 have h3:((DL (ones ps)).map toS).length<=1+2*ps.length:=by
  rw [aqa]
  unfold DL
  rw [aqa]
  have:=St.abV ((ones ps).map toC)
  simpa [ones] using this
 exact Nat.le_trans h1 (Nat.mul_le_mul_left _ h3)
theorem aht (ps:List aP) (hn:ps.length<=300) (hv : ∀ p∈ps,aD p=true):YY ps=some (cK ps):=by
 unfold YY
 by_cases h1:ps.length=1
 ·rw [show decide (((ps.length:Nat):Int)=1)=true from ap4 (by omega),ap2]
  match ps,h1 with
  | [p],_=>rw [afs p (hv p (by simp))]
 ·rw [show decide (((ps.length:Nat):Int)=1)=false from ap3 (by omega),ap1,YD ps (by omega),apZ]
  unfold ab2
  rw [if_pos (GI ps hn)]
  rfl
theorem Tt (l:List aC) (r:List Val):(bO l r).length<=l.length:=by unfold bO;rw [aqa];exact List.length_filter_le _ _
theorem Kg (l:List aC) (r:List Val) : ∀ p∈bO l r,aD p=true:=by
 intro p hp
 obtain ⟨f,hf,rfl⟩:=aqz.1 hp
 have:=(List.mem_filter.1 hf).2
 rw [aqg] at this
 exact this.1
def Q4 (s:aa):List aC:=(cK s.periods).map fun p=>⟨s.row,p⟩
theorem acA (l:List aC) (h:bU l) : ∃ R,gQ l R/\ya l=some (gM l R):=by
 obtain ⟨R,hR,hr⟩:=Qg l
 refine ⟨R,hR,?_⟩
 have hmem : ∀ s∈tK l,s.periods.length<=300/\(∀ p∈s.periods,aD p=true)/\s.row.length<=1000:=by
  intro s hs
  rw [hr] at hs
  obtain ⟨r,hrR,rfl⟩:=aqz.1 hs
  obtain ⟨f,hf,_,e⟩:=(hR.2 r).1 hrR
  refine ⟨Nat.le_trans (Tt l r) h.1,Kg l r,?_⟩
  show r.length<=1000
  rw [<- e];exact (h.2 f hf).1
 have hlen:(tK l).length<=300:=by
  have h1:=(zH jO ((fK l).map fun g=>(⟨g.f.row,g.ps⟩:aa))).length_eq
  have h2:=Ew l
  have h3:=h.1
  show (sN jO _).length<=300
  rw [h1,aqa];omega
 have hg : ∀ s∈tK l,(Q4 s).length<=360600:=by
  intro s hs
  unfold Q4
  rw [aqa]
  have h1:=SL s.periods
  have h2:=(hmem s hs).1
  omega
 have htot:((tK l).flatMap Q4).length<=300*360600:=by
  have : ∀ (L:List aa),(∀ s∈L,(Q4 s).length<=360600)->(L.flatMap Q4).length<=L.length*360600:=by
   intro L
   induction L with
   | nil=>intro _;simp
   | cons s L ih =>
    intro hL
    have h1:=ih fun x hx=>hL x (aqm _ hx)
    have h2:=hL s (by simp)
    rw [aqC,ap8,aqk];omega
  exact Nat.le_trans (this _ hg) (aqB _ hlen)
 have hb:gM l R=(tK l).flatMap Q4:=by
  rw [hr,List.flatMap_map];rfl
 unfold ya Iz
 have e1:HV l=some (tK l):=by unfold HV;rw [if_pos h]
 rw [e1,apZ]
 generalize tK l=X at hmem hlen hg htot hb ⊢
 rw [d9 (l:=X) Q4 3518437208883 ?_ ?_ (by unfold fuel;omega) [] (by simp only [aqu];omega)]
 ·simp only [apZ,qZ,ap5,hb]
 ·intro s i x hx hs
  have hi:=(ap0.1 hx).1
  obtain ⟨m1,m2,m3⟩:=hmem x (ap6 hx)
  unfold vX
  dsimp only
  rw [bf hx,ap2,gn_ hx]
  simp only [apZ]
  rw [aht x.periods (by omega) m2,apZ]
  have hgl:(Q4 x).length=(cK x.periods).length:=by unfold Q4;rw [aqa]
  have hgx:=hg x (ap6 hx)
  rw [d9 (l:=cK x.periods) (fun p=>[(⟨x.row,p⟩:aC)]) 3518437208883 ?_ ?_ (by unfold fuel;omega) s (by rw [fo_,aqa];omega)]
  ·rw [apZ,fo_]
   show some (Step.next (s++Q4 x,_))=_
   rw [wrapN (by omega)]
  ·intro s' j y hy hs'
   have hj:=(ap0.1 hy).1
   unfold xq
   dsimp only
   rw [bf hy,ap2,gn_ hy]
   simp only [apZ]
   rw [show decide (x.row.length<=4398046511104)=true from ap4 (by omega),ap2,show decide (s'.length+1<=3518437208883)=true from ap4 (by simpa using hs'),ap2,wrapN (by omega)]
  ·intro s'
   unfold xq
   dsimp only
   rw [lF_,ap1]
 ·intro s
  unfold vX
  dsimp only
  rw [lF_,ap1]
set_option maxRecDepth 100000
def Z8 (l:List aC):Prop:=l.Pairwise fun a b=>cO a.row b.row<=0
def leF (x y:aC):Bool:=leV x.row y.row
theorem uC (x y:aC):leF x y=true↔cO x.row y.row<=0:=qR x.row y.row
theorem qQ {a b:List aC} (ha:a.length<=1000000) (hb:b.length<=1000000) (hra : ∀ r∈a,r.row.length<=1000000) (hrb : ∀ r∈b,r.row.length<=1000000) : ∀ (n i k:Nat) (out:List aC),i<=a.length->k<=b.length->out.length=i+k->(a.length-i)+(b.length-k)<n->(az (dY a b) n (out,(i:Int),(k:Int))).bind qG=some (out++List.merge (a.drop i) (b.drop k) leF)
 | 0,_,_,_,_,_,_,h=>by omega
 | n+1,i,k,out,h1,h2,ho,hn=>by
  have hg:decide (out.length+1<=3518437208883)=true:=ap4 (by omega)
  rw [az]
  by_cases hlt:i<a.length
  ·obtain ⟨x,hx⟩:=gol_ hlt
   have ex:=(ap0.1 hx).2
   have hne:decide ((i:Int)=((a.length:Nat):Int))=false:=ap3 (by omega)
   have ihA:=qQ ha hb hra hrb n (i+1) k (out++[x]) (by omega) (by omega) (by simp;omega) (by omega)
   by_cases hlb:k<b.length
   ·obtain ⟨y,hy⟩:=gol_ hlb
    have ey:=(ap0.1 hy).2
    have ihB:=qQ ha hb hra hrb n i (k+1) (out++[y]) (by omega) (by omega) (by simp;omega) (by omega)
    have eb:dY a b (out,(i:Int),(k:Int))=bif decide (cO y.row x.row<0) then some (.next (out++[y],(i:Int),((k+1:Nat):Int))) else some (.next (out++[x],((i+1:Nat):Int),(k:Int))):=by
     unfold dY
     dsimp only
     rw [bf hx,ap2,hne,ap1,bf hy,ap2,gn_ hy,gn_ hx]
     simp only [apZ]
     rw [pY y.row x.row (by have:=hrb y (ap6 hy);omega) (by have:=hra x (ap6 hx);omega),wrapN (by omega),wrapN (by omega),hg]
     rfl
    rw [eb,aqv hlt,aqv hlb,ex,ey,List.cons_merge_cons]
    rw [aqv hlb,ey] at ihA
    rw [aqv hlt,ex] at ihB
    by_cases hc:cO y.row x.row<0
    ·rw [show decide (cO y.row x.row<0)=true from ap4 hc,ap2,if_neg (by unfold leF leV;simp [hc])]
     dsimp only
     rw [ihB];simp
    ·rw [show decide (cO y.row x.row<0)=false from ap3 hc,ap1,if_pos (by unfold leF leV;simp [hc])]
     dsimp only
     rw [ihA];simp
   ·have hk:k=b.length:=by omega
    have eb:dY a b (out,(i:Int),(k:Int))=some (.next (out++[x],((i+1:Nat):Int),(k:Int))):=by
     unfold dY
     dsimp only
     rw [bf hx,ap2,hne,ap1,hk,lF_,ap1,gn_ hx]
     simp only [apZ]
     rw [wrapN (by omega),hg]
     rfl
    rw [eb]
    dsimp only
    rw [ihA,aqv hlt,ex,hk,aqU,List.merge_right,List.merge_right]
    simp
  ·have hi:i=a.length:=by omega
   subst hi
   by_cases hlb:k<b.length
   ·obtain ⟨y,hy⟩:=gol_ hlb
    have ey:=(ap0.1 hy).2
    have ihB:=qQ ha hb hra hrb n a.length (k+1) (out++[y]) (by omega) (by omega) (by simp;omega) (by omega)
    have eb:dY a b (out,((a.length:Nat):Int),(k:Int))=some (.next (out++[y],((a.length:Nat):Int),((k+1:Nat):Int))):=by
     unfold dY
     dsimp only
     rw [lF_,ap1,bf hy,ap2,show decide (((a.length:Nat):Int)=((a.length:Nat):Int))=true from ap4 rfl,ap2,gn_ hy]
     simp only [apZ]
     rw [wrapN (by omega),hg]
     rfl
    rw [eb]
    dsimp only
    rw [ihB,aqv hlb,ey,aqU,List.nil_merge,List.nil_merge]
    simp
   ·have hk:k=b.length:=by omega
    subst hk
    have eb:dY a b (out,((a.length:Nat):Int),((b.length:Nat):Int))=some (.exit (out,((a.length:Nat):Int),((b.length:Nat):Int))):=by
     unfold dY
     dsimp only
     rw [lF_,ap1,lF_,ap1]
    rw [eb,aqU,aqU,List.nil_merge,aqy]
    rfl
theorem UC {a b:List aC} (ha:a.length<=1000000) (hb:b.length<=1000000) (hra : ∀ r∈a,r.row.length<=1000000) (hrb : ∀ r∈b,r.row.length<=1000000):xh a b=some (List.merge a b leF):=by
 unfold xh
 have:=qQ ha hb hra hrb fuel 0 0 [] (aqj _) (aqj _) rfl (by unfold fuel;omega)
 rw [show (((0:Nat):Int))=0 from rfl] at this
 rw [this];simp
theorem abj {a b:List aC} (ha:Z8 a) (hb:Z8 b):Z8 (List.merge a b leF):=by
 have:=List.pairwise_merge (le:=leF) (fun x y z h1 h2=>(uC x z).2 (DW _ _ _ ((uC x y).1 h1) ((uC y z).1 h2))) (fun x y=>by
  rw [Bool.or_eq_true,uC,uC];exact tCr_.total x.row y.row) a b (ha.imp fun h=>(uC _ _).2 h) (hb.imp fun h=>(uC _ _).2 h)
 exact this.imp fun h=>(uC _ _).1 h
theorem Xk : ∀ (n:Nat) (l:List aC),l.length<=n->l.length<=1000000->(∀ r∈l,r.row.length<=1000000) -> ∃ r,Bn (n+1) l=some r/\Z8 r/\r.Perm l:=by
 intro n
 induction n with
 | zero =>
  intro l h _ _
  have:l=[]:=by cases l with|nil=>rfl|cons _ _=>simp at h
  subst this
  exact ⟨[],rfl,List.Pairwise.nil,List.Perm.refl _⟩
 | succ n ih =>
  intro l h hl hr
  match l,h,hl,hr with
  | [],_,_,_=>exact ⟨[],rfl,List.Pairwise.nil,List.Perm.refl _⟩
  | [x],_,_,hr=>exact ⟨[x],rfl,by simp [Z8],List.Perm.refl _⟩
  | x::y::t,h,hl,hr =>
   generalize hL:x::y::t=l at h hl hr
   have h2:2<=l.length:=by rw [<- hL];simp
   have hm:IntKind.i64.wrap (((l.length:Nat):Int).tdiv (2:Int))=((l.length/2:Nat):Int):=by
    rw [show ((l.length:Nat):Int).tdiv 2=((l.length/2:Nat):Int) from rfl]
    exact bF (by omega) (by omega)
   have s1:l6 l 0 ((l.length/2:Nat):Int)=some (l.take (l.length/2)):=by
    unfold l6
    rw [if_pos (by omega),Int.toNat_natCast];rfl
   have s2:l6 l ((l.length/2:Nat):Int) ((l.length:Nat):Int)=some (l.drop (l.length/2)):=by
    unfold l6
    rw [if_pos (by omega),Int.toNat_natCast,Int.toNat_natCast,List.take_length]
   obtain ⟨r1,e1,a1,p1⟩:=ih (l.take (l.length/2)) (by simp;omega) (by simp;omega) fun r hr'=>hr r (aqW hr')
   obtain ⟨r2,e2,a2,p2⟩:=ih (l.drop (l.length/2)) (by simp;omega) (by simp;omega) fun r hr'=>hr r (List.mem_of_mem_drop hr')
   refine ⟨List.merge r1 r2 leF,?_,abj a1 a2,?_⟩
   ·show wX (Bn (n+1)) l=_
    unfold wX
    rw [show decide (((l.length:Nat):Int)<2)=false from ap3 (by omega),ap1,show decide ((2:Int)≠0)=true from rfl,ap2,hm,s1]
    simp only [apZ]
    rw [e1,apZ,s2,apZ,e2,apZ]
    rw [UC (by rw [p1.length_eq];simp;omega) (by rw [p2.length_eq];simp;omega) (fun r hr'=>hr r (aqW (p1.mem_iff.1 hr'))) (fun r hr'=>hr r (List.mem_of_mem_drop (p2.mem_iff.1 hr')))]
    rfl
   ·refine (List.merge_perm_append leF).trans ((p1.append p2).trans ?_)
    rw [aqK]
theorem tL (p:aP):dX p=some (aD p):=by
 unfold dX aD
 cases h1:decide (0<=p.lo)<;>cases h2:decide (p.lo<p.hi)<;>cases h3:decide (p.hi<=1099511627776)<;>simp_all
theorem Us (x:List Val) (h:x.length<=1000000):ni x x=some true:=by
 unfold ni
 rw [pY x x (by omega) (by omega),apZ,tCr_.refl];rfl
theorem OM (r:List Val) (hr:r.length<=1000000) (k:Nat) (hk:k<=300):oL (List.replicate k r)=some (if k=0 then [] else [r]):=by
 unfold oL
 have hp:=fD (List.replicate k r)
 have hs:lc (List.replicate k r)=List.replicate k r:=by
  refine List.eq_replicate_iff.2 ⟨by rw [hp.length_eq];simp,fun b hb=>?_⟩
  exact (List.mem_replicate.1 (hp.mem_iff.1 hb)).2
 rw [Jv _ (by simpa using hk) (fun x hx=>by rw [(List.mem_replicate.1 hx).2];exact hr),apZ,hs]
 have hlen:(List.replicate k r).length=k:=by simp
 have get : ∀ i,i<k->(List.replicate k r)[i]?=some r:=fun i hi=>by rw [List.getElem?_replicate];simp [hi]
 have loop : ∀ (n i:Nat),1<=i->i<=k->k-i<n->az (dh (List.replicate k r)) n ([r],(i:Int))=some (.inl ([r],(k:Int))):=by
  intro n
  induction n with
  | zero=>intro i _ _ h;omega
  | succ n ih =>
   intro i h1 h2 hn
   rw [az]
   by_cases hlt:i<k
   ·have hx:=get i hlt
    have e:dh (List.replicate k r) ([r],(i:Int))=some (.next ([r],((i+1:Nat):Int))):=by
     unfold dh
     dsimp only
     rw [bf hx,ap2,show decide ((i:Int)=0)=false from ap3 (by omega),ap1,show IntKind.i64.wrap ((i:Int)-1)=((i-1:Nat):Int) from bF (by omega) (by omega),gn_ (get (i-1) (by omega)),gn_ hx]
     simp only [apZ]
     rw [Us r hr]
     simp only [apZ,Bool.not_true,ap1]
     rw [wrapN (by omega)]
    rw [e]
    exact ih (i+1) (by omega) (by omega) (by omega)
   ·have:i=k:=by omega
    subst this
    have e:dh (List.replicate i r) ([r],(i:Int))=some (.exit ([r],(i:Int))):=by
     unfold dh
     dsimp only
     rw [show decide ((i:Int)<(((List.replicate i r).length:Nat):Int))=false from ap3 (by simp),ap1]
    rw [e]
 by_cases h0:k=0
 ·subst h0
  rw [if_pos rfl]
  have e:dh (List.replicate 0 r) ([],0)=some (.exit ([],0)):=by
   unfold dh
   rfl
  show (az (dh (List.replicate 0 r)) (4611686018427387903+1) ([],0)).bind lD=_
  rw [az,e]
  rfl
 ·rw [if_neg h0]
  have hx:=get 0 (by omega)
  have e:dh (List.replicate k r) ([],0)=some (.next ([r],((1:Nat):Int))):=by
   have hg:=gn_ hx
   unfold dh
   dsimp only
   rw [show decide ((0:Int)<(((List.replicate k r).length:Nat):Int))=true from ap4 (by simp;omega),ap2,show decide ((0:Int)=0)=true from rfl,ap2]
   rw [show aT (List.replicate k r) 0=some r from hg]
   rfl
  show (az (dh (List.replicate k r)) (4611686018427387903+1) ([],0)).bind lD=_
  rw [az,e]
  dsimp only
  rw [loop 4611686018427387903 1 (by omega) (by omega) (by omega)]
  rfl
theorem Xt (s:List aC) (r:List Val) (hr:r.length<=1000000) (hs : ∀ f∈s,f.row=r) (hn:s.length<=300):Hz s=some (if s.any fun f=>aD f.valid then [r] else []):=by
 unfold Hz
 have hfm : ∀ l:List aC,(∀ f∈l,f.row=r)->(l.flatMap fun f=>if aD f.valid then [f.row] else [])=List.replicate (l.countP fun f=>aD f.valid) r:=by
  intro l
  induction l with
  | nil=>intro _;rfl
  | cons f l ih =>
   intro h
   rw [aqC,ih fun x hx=>h x (aqm _ hx),List.countP_cons,h f (by simp)]
   by_cases hv:aD f.valid=true
   ·rw [if_pos hv,if_pos hv,List.replicate_succ];rfl
   ·rw [if_neg hv,if_neg hv];rfl
 have hc:s.countP (fun f=>aD f.valid)<=s.length:=List.countP_le_length
 rw [d9 (l:=s) (fun f=>if aD f.valid then [f.row] else []) 5864062014805 ?_ ?_ (by unfold fuel;omega) [] (by rw [hfm s hs];simp;omega)]
 ·rw [apZ,hfm s hs,ap5]
  show (oL _).bind _=_
  rw [OM r hr _ (by omega),apZ]
  by_cases ha:(s.any fun f=>aD f.valid)=true
  ·rw [if_pos ha,if_neg]
   intro e
   obtain ⟨f,hf,hv⟩:=List.any_eq_true.1 ha
   have:=(List.countP_pos_iff (p:=fun f:aC=>aD f.valid)).2 ⟨f,hf,hv⟩
   omega
  ·rw [if_neg ha,if_pos]
   rw [List.countP_eq_zero]
   intro f hf hv
   exact ha (List.any_eq_true.2 ⟨f,hf,hv⟩)
 ·intro o i x hx ho
  have hi:=(ap0.1 hx).1
  unfold yu
  dsimp only
  rw [bf hx,ap2,gn_ hx]
  simp only [apZ]
  rw [tL,apZ]
  by_cases hv:aD x.valid=true
  ·rw [if_pos hv] at ho ⊢
   rw [hv,ap2,show decide (o.length+1<=5864062014805)=true from ap4 (by simpa using ho),ap2,wrapN (by omega)]
  ·rw [if_neg hv]
   rw [Bool.not_eq_true] at hv
   rw [hv,ap1,wrapN (by omega),aqy]
 ·intro o
  unfold yu
  dsimp only
  rw [lF_,ap1]
def fI (l:List aC) (r:List Val):List aP:=(l.filter fun f=>decide (f.row=r)).map (·.valid)
theorem Uk (s:List aC) (r:List Val) (hr:r.length<=1000000) (hs : ∀ f∈s,f.row.length<=1000000) (hn:s.length<=1000):wC s r=some (DL (ones (fI s r))):=by
 unfold wC
 have hfm : ∀ l:List aC,(l.flatMap fun f=>if f.row=r then [(⟨f.valid,1⟩:J3)] else [])=ones (fI l r):=by
  intro l
  induction l with
  | nil=>rfl
  | cons f l ih =>
   rw [aqC,ih]
   unfold fI ones
   by_cases e:f.row=r
   ·rw [if_pos e,List.filter_cons_of_pos (by simpa using e)];rfl
   ·rw [if_neg e,List.filter_cons_of_neg (by simpa using e)];rfl
 have hl:(fI s r).length<=s.length:=by unfold fI;rw [aqa];exact List.length_filter_le _ _
 have hl2:(ones (fI s r)).length=(fI s r).length:=by unfold ones;simp
 rw [d9 (l:=s) (fun f=>if f.row=r then [(⟨f.valid,1⟩:J3)] else []) 5864062014805 ?_ ?_ (by unfold fuel;omega) [] (by rw [hfm];simp;omega)]
 ·rw [apZ,hfm,ap5]
  show (ahr _).bind _=_
  unfold ahr
  rw [show decide ((ones (fI s r)).length<=100000)=true from ap4 (by omega)]
  rfl
 ·intro o i x hx ho
  have hi:=(ap0.1 hx).1
  unfold qN
  dsimp only
  rw [bf hx,ap2,gn_ hx]
  simp only [apZ]
  rw [pY x.row r (by have:=hs x (ap6 hx);omega) (by omega),apZ]
  by_cases e:x.row=r
  ·rw [if_pos e] at ho ⊢
   rw [show decide (cO x.row r=0)=true from ap4 (by rw [e];exact tCr_.refl r),ap2,show decide (o.length+1<=5864062014805)=true from ap4 (by simpa using ho),ap2,wrapN (by omega)]
  ·rw [if_neg e,show decide (cO x.row r=0)=false from ap3 fun q=>e (tCr_.zero _ _ q),ap1,wrapN (by omega),aqy]
 ·intro o
  unfold qN
  dsimp only
  rw [lF_,ap1]
theorem EF (r:List Val) (ps:List aP) (hn:ps.length<=1000000):qC r ps=some (ps.map fun p=>⟨r,p⟩):=by
 unfold qC
 rw [d9 (l:=ps) (fun p=>[(⟨r,p⟩:aC)]) 3518437208883 ?_ ?_ (by unfold fuel;omega) [] (by rw [fo_];simp;omega)]
 ·rw [apZ,fo_,ap5];rfl
 ·intro o i x hx ho
  have hi:=(ap0.1 hx).1
  unfold yh
  dsimp only
  rw [bf hx,ap2,gn_ hx]
  simp only [apZ]
  rw [show decide (o.length+1<=3518437208883)=true from ap4 (by simpa using ho),ap2,wrapN (by omega)]
 ·intro o
  unfold yh
  dsimp only
  rw [lF_,ap1]
theorem Rz (r:List Val) : ∀ l:List aC, ∃ s t,l=s++t/\(∀ f∈s,f.row=r)/\(∀ f u,t=f::u->f.row≠r)
 | []=>⟨[],[],rfl,(fun _ h=>by cases h),(fun _ _ h=>by cases h)⟩
 | f::l=>by
  by_cases e:f.row=r
  ·obtain ⟨s,t,h1,h2,h3⟩:=Rz r l
   refine ⟨f::s,t,by rw [h1];rfl,fun g hg=>?_,h3⟩
   rcases aqf.1 hg with rfl|hg
   ·exact e
   ·exact h2 g hg
  ·exact ⟨[],f::l,rfl,(fun _ h=>by cases h),(fun g u h=>by injection h with h1 h2;subst h1;exact e)⟩
theorem agb {α:Type} (P s t:List α):l6 (P++s++t) ((P.length:Nat):Int) (((P.length+s.length:Nat):Nat):Int)=some s:=by
 unfold l6
 rw [if_pos (by simp;omega),Int.toNat_natCast,Int.toNat_natCast]
 congr 1
 have e:(P++s++t).take (P.length+s.length)=P++s:=by
  rw [List.take_append_of_le_length (by simp)]
  rw [aqE (by simp)]
 rw [e,List.drop_left]
theorem ZT (s t:List aC) (r:List Val):fI (s++t) r=fI s r++fI t r:=by unfold fI;rw [List.filter_append,aqb]
theorem Kn {l:List aC} {r:List Val} (h : ∀ f∈l,f.row≠r):fI l r=[]:=by
 unfold fI
 rw [List.map_eq_nil_iff,List.filter_eq_nil_iff]
 intro f hf e
 exact h f hf (aqs e)
def amh (l:List aC) (G:List dx):Prop:=gQ l (G.map (·.row)) /\ ∀ g∈G,g.steps=DL (ones (fI l g.row))
theorem run_end (P s t:List aC) (r:List Val) (f0:aC) (hf0:f0.row=r) (hrl : ∀ f∈P++s++t,f.row.length<=1000000) (hn:(P++s++t).length<=300) (hs : ∀ f∈s,f.row=r) (hs0:s[0]?=some f0) (ht : ∀ f u,t=f::u->f.row≠r) :
  ∀ (n j:Nat),j<=s.length->s.length-j<n->az (iX (P++s++t) ((P.length:Nat):Int)) n (((P.length+j:Nat):Nat):Int)=some (.inl (((P.length+s.length:Nat):Nat):Int)):=by
 have hi:(P++s++t)[P.length]?=some f0:=by
  rw [aqp,ap7 (aqe _),Nat.sub_self,aqc (by have:=(ap0.1 hs0).1;omega)]
  exact hs0
 have hnl:P.length+s.length<=300:=by simp only [ap8] at hn;omega
 intro n
 induction n with
 | zero=>intro j _ h;omega
 | succ n ih =>
  intro j hj hn2
  rw [az]
  by_cases hlt:j<s.length
  ·obtain ⟨x,hx⟩:=gol_ hlt
   have hx2:(P++s++t)[P.length+j]?=some x:=by
    rw [aqp,ap7 (by omega),show P.length+j-P.length=j by omega,aqc hlt]
    exact hx
   have hxm:=ap6 hx2
   have him:=ap6 hi
   have e:iX (P++s++t) ((P.length:Nat):Int) (((P.length+j:Nat):Nat):Int)=some (.next (((P.length+(j+1):Nat):Nat):Int)):=by
    unfold iX
    dsimp only
    rw [bf hx2,ap2,gn_ hx2,gn_ hi]
    simp only [apZ]
    rw [pY x.row f0.row (by have:=hrl x hxm;omega) (by have:=hrl f0 him;omega),apZ]
    rw [hs x (ap6 hx),hf0,tCr_.refl]
    rw [show decide ((0:Int)=0)=true from rfl,ap2,wrapN (by omega)]
    rfl
   rw [e]
   exact ih (j+1) (by omega) (by omega)
  ·have hje:j=s.length:=by omega
   subst hje
   have e:iX (P++s++t) ((P.length:Nat):Int) (((P.length+s.length:Nat):Nat):Int)=some (.exit (((P.length+s.length:Nat):Nat):Int)):=by
    unfold iX
    dsimp only
    cases t with
    | nil =>
     rw [show decide ((((P.length+s.length:Nat):Nat):Int)<(((P++s++([]:List aC)).length:Nat):Int))=false from ap3 (by simp),ap1]
    | cons y u =>
     have hy:(P++s++y::u)[P.length+s.length]?=some y:=by
      rw [ap7 (by simp),ap8,Nat.sub_self];rfl
     rw [bf hy,ap2,gn_ hy,gn_ hi]
     simp only [apZ]
     rw [pY y.row f0.row (by have:=hrl y (ap6 hy);omega) (by have:=hrl f0 (ap6 hi);omega),apZ]
     rw [show decide (cO y.row f0.row=0)=false from ap3 fun q=>ht y u rfl ((tCr_.zero _ _ q).trans hf0),ap1]
   rw [e]
theorem adG (all:List aC) (hrl : ∀ f∈all,f.row.length<=1000000) (hn:all.length<=300) (ha:Z8 all) :
  ∀ (n:Nat) (P t:List aC) (out:List dx),all=P++t->t.length<n->out.length<=P.length -> ∃ G,amh t G/\az (gW all) n (out,((P.length:Nat):Int))=some (.inl (out++G,((all.length:Nat):Int))):=by
 intro n
 induction n with
 | zero=>intro P t out _ h;omega
 | succ n ih =>
  intro P t out hall htn hout
  rw [az]
  match t,hall,htn with
  | [],hall,_ =>
   refine ⟨[],⟨⟨List.Pairwise.nil,fun x=>?_⟩,fun g hg=>by cases hg⟩,?_⟩
   ·constructor
    ·intro h;cases h
    ·rintro ⟨f,hf,_⟩;cases hf
   ·have e:gW all (out,((P.length:Nat):Int))=some (.exit (out,((P.length:Nat):Int))):=by
     unfold gW
     dsimp only
     rw [show decide (((P.length:Nat):Int)<((all.length:Nat):Int))=false from ap3 (by rw [hall];simp),ap1]
    rw [e,hall];simp
  | f0::t0,hall,htn =>
   obtain ⟨s,u,hsu,hs,hu⟩:=Rz f0.row (f0::t0)
   have hs0:s[0]?=some f0:=by
    cases s with
    | nil=>exact absurd rfl (hu f0 t0 (by rw [hsu];rfl))
    | cons y s'=>rw [List.cons_append] at hsu;injection hsu with h1 _;rw [h1];rfl
   have hsl:0<s.length:=(ap0.1 hs0).1
   have hall2:all=P++s++u:=by rw [hall,hsu,aqp]
   have hlen:=congrArg List.length hall2
   simp only [ap8] at hlen
   have hu2:u.length+s.length=(f0::t0).length:=by rw [hsu];simp;omega
   have hrun:=run_end P s u f0.row f0 rfl (by rw [<- hall2];exact hrl) (by rw [<- hall2];exact hn) hs hs0 hu fuel 0 (aqj _) (by unfold fuel;omega)
   rw [<- hall2,Nat.add_zero] at hrun
   have hr0:f0.row.length<=1000000:=hrl f0 (by rw [hall];simp)
   have hrs : ∀ f∈s,f.row.length<=1000000:=fun f hf=>hrl f (by rw [hall2];simp [hf])
   have hrows:=Xt s f0.row hr0 hs (by omega)
   have hcnt:=Uk s f0.row hr0 hrs (by omega)

   have hgt : ∀ f∈u,cO f0.row f.row<0:=by
    intro f hf
    have h1:Z8 u:=by rw [hall2] at ha;exact (List.pairwise_append.1 ha).2.1
    have h2 : ∀ a∈P++s, ∀ b∈u,cO a.row b.row<=0:=by rw [hall2] at ha;exact (List.pairwise_append.1 ha).2.2
    have hf0s:f0∈P++s:=List.mem_append_right _ (ap6 hs0)
    cases u with
    | nil=>cases hf
    | cons y v =>
     have hy0:=h2 f0 hf0s y (by simp)
     have hyn:cO f0.row y.row≠0:=fun q=>hu y v rfl (tCr_.zero _ _ q).symm
     have hlt:cO f0.row y.row<0:=by omega
     rcases aqf.1 hf with rfl|hf
     ·exact hlt
     ·have hyf:=(aqV.1 h1).1 f hf
      rcases Int.lt_or_eq_of_le hyf with h|h
      ·exact tCr_.trans _ _ _ hlt h
      ·rw [<- tCr_.zero _ _ h];exact hlt
   have hne : ∀ f∈u,f.row≠f0.row:=fun f hf e=>by have:=hgt f hf;rw [e,tCr_.refl] at this;omega
   obtain ⟨o1,ho1⟩ : ∃ o1:List dx,o1=if s.any (fun f=>aD f.valid) then [⟨f0.row,DL (ones (fI s f0.row))⟩] else []:=⟨_,rfl⟩
   have ho1l:o1.length<=1:=by rw [ho1];split<;>simp
   obtain ⟨G,hG,hL⟩:=ih (P++s) u (out++o1) hall2 (by simp at htn;simp at hu2;omega) (by simp;omega)
   have hi0:all[P.length]?=some f0:=by
    rw [hall,ap7 (aqe _),Nat.sub_self];rfl
   have e:gW all (out,((P.length:Nat):Int))=some (.next (out++o1,(((P++s).length:Nat):Int))):=by
    unfold gW
    dsimp only
    rw [bf hi0,ap2,hrun,apZ]
    show (l6 all ((P.length:Nat):Int) (((P.length+s.length:Nat):Nat):Int)).bind _=_
    rw [show l6 all ((P.length:Nat):Int) (((P.length+s.length:Nat):Nat):Int)=some s by rw [hall2];exact agb P s u,apZ,hrows,apZ]
    by_cases hv:(s.any fun f=>aD f.valid)=true
    ·rw [if_pos hv] at ho1 ⊢
     rw [d9 (l:=[f0.row]) (fun r=>[(⟨r,DL (ones (fI s f0.row))⟩:dx)]) 2932031007402 ?_ ?_ (by unfold fuel;simp) out (by simp;omega)]
     ·rw [apZ,ho1,ap8];rfl
     ·intro o i x hx ho
      have hi:=(ap0.1 hx).1
      have hi1:i=0:=by simpa using hi
      subst hi1
      simp at hx;subst hx
      unfold kR
      dsimp only
      rw [show decide (((0:Nat):Int)<((([f0.row]:List (List Val)).length:Nat):Int))=true from rfl,ap2,show aT [f0.row] ((0:Nat):Int)=some f0.row from rfl,apZ,hcnt,apZ]
      rw [show decide (o.length+1<=2932031007402)=true from ap4 (by simpa using ho),ap2,wrapN (by omega)]
     ·intro o
      unfold kR
      dsimp only
      rw [lF_,ap1]
    ·rw [if_neg hv] at ho1 ⊢
     rw [d9 (l:=([]:List (List Val))) (fun r=>([]:List dx)) 2932031007402 ?_ ?_ (by unfold fuel;simp) out (by simp;omega)]
     ·rw [apZ,ho1,ap8];simp [kM]
     ·intro o i x hx;simp at hx
     ·intro o
      unfold kR
      dsimp only
      rw [lF_,ap1]
   refine ⟨o1++G,⟨⟨?_,fun x=>?_⟩,fun g hg=>?_⟩,?_⟩
   ·rw [aqb]
    refine List.pairwise_append.2 ⟨by rw [ho1];split<;>simp,hG.1.1,fun a ha2 b hb=>?_⟩
    obtain ⟨f,hf,_,e⟩:=(hG.1.2 b).1 hb
    have:a=f0.row:=by rw [ho1] at ha2;split at ha2<;>simp at ha2;exact ha2
    rw [this, <- e];exact hgt f hf
   ·rw [aqb,aqr,hG.1.2 x,hsu]
    constructor
    ·rintro (h|⟨f,hf,h⟩)
     ·rw [ho1] at h
      split at h
      ·rename_i hv
       simp at h
       obtain ⟨f,hf,hv⟩:=List.any_eq_true.1 hv
       exact ⟨f,List.mem_append_left _ hf,hv,by rw [h];exact hs f hf⟩
      ·simp at h
     ·exact ⟨f,List.mem_append_right _ hf,h⟩
    ·rintro ⟨f,hf,hv,e⟩
     rcases aqr.1 hf with hf|hf
     ·left
      rw [ho1,if_pos (List.any_eq_true.2 ⟨f,hf,hv⟩)]
      simp [<- e,hs f hf]
     ·exact .inr ⟨f,hf,hv,e⟩
   ·rw [hsu,ZT]
    rcases aqr.1 hg with hg|hg
    ·have hgr:g=⟨f0.row,DL (ones (fI s f0.row))⟩:=by rw [ho1] at hg;split at hg<;>simp at hg;exact hg
     rw [hgr]
     rw [Kn hne,aqy]
    ·have hgm:g.row∈G.map (·.row):=List.mem_map_of_mem hg
     obtain ⟨f,hf,_,e⟩:=(hG.1.2 g.row).1 hgm
     rw [Kn (l:=s) (fun f' hf' q=>hne f hf (by rw [e, <- q];exact (hs f' hf'))),ap5]
     exact hG.2 g hg
   ·rw [e]
    dsimp only
    rw [hL,aqp]
theorem adp (l all:List aC) (h:all.Perm l) (r:List Val):cK (fI all r)=cK (bO l r):=by
 refine Z4 ?_
 have e1:(fI all r).filter (fun p=>St.a_ (toP p))=bO all r:=by
  unfold fI bO
  rw [List.filter_map,List.filter_filter]
  congr 1
 have e2:(bO l r).filter (fun p=>St.a_ (toP p))=bO l r:=List.filter_eq_self.2 fun p hp=>Kg l r p hp
 rw [e1,e2]
 unfold bO
 exact (h.filter _).map _
theorem Y7 (l:List aC) (hn:l.length<=300) (hr : ∀ f∈l,f.row.length<=1000000) : ∃ R,gQ l R/\tJ l=some (gM l R)/\(gM l R).length<=108180000:=by
 obtain ⟨all,e1,a1,p1⟩:=Xk 639 l (by omega) (by omega) hr
 have hal:all.length=l.length:=p1.length_eq
 obtain ⟨G,hG,hL⟩:=adG all (fun f hf=>hr f (p1.mem_iff.1 hf)) (by omega) a1 fuel [] all [] rfl (by unfold fuel;omega) (aqe _)
 have hgr:wo l=some G:=by
  unfold wo
  rw [e1,apZ]
  have:az (gW all) fuel ([],(0:Int))=some (.inl ([]++G,((all.length:Nat):Int))):=hL
  rw [this,apZ,ap5];rfl
 have hR:gQ l (G.map (·.row)):=by
  refine ⟨hG.1.1,fun x=>(hG.1.2 x).trans ?_⟩
  constructor
  ·rintro ⟨f,hf,h⟩;exact ⟨f,p1.mem_iff.1 hf,h⟩
  ·rintro ⟨f,hf,h⟩;exact ⟨f,p1.mem_iff.2 hf,h⟩
 refine ⟨G.map (·.row),hR,?_⟩
 have hpl : ∀ r,(fI all r).length<=300:=fun r=>by
  have:(fI all r).length<=all.length:=by unfold fI;rw [aqa];exact List.length_filter_le _ _
  omega
 have hlev : ∀ g∈G,WC g.steps=some (cK (bO l g.row)):=by
  intro g hg
  rw [hG.2 g hg, <- adp l all p1]
  unfold WC
  rw [if_pos (GI _ (by have:=hpl g.row;omega))]
  rfl
 have hll : ∀ g∈G,(cK (bO l g.row)).length<=360600:=fun g hg=>by
  have h1:=SL (bO l g.row)
  have h2:=Tt l g.row
  omega
 have hGl:G.length<=300:=by

  have h1 : ∀ (R:List (List Val)) (L:List (List Val)),R.Nodup->(∀ x∈R,x∈L)->R.length<=L.length:=by
   intro R
   induction R with
   | nil=>intro L _ _;simp
   | cons x R ih =>
    intro L hnd hm
    have hx:=hm x (by simp)
    have hnd2:=List.nodup_cons.1 hnd
    have h2:=ih (L.erase x) hnd2.2 fun y hy=>by
     have hne:y≠x:=fun e=>hnd2.1 (e▸hy)
     exact (List.mem_erase_of_ne hne).2 (hm y (aqm _ hy))
    have h3:=List.length_erase_of_mem hx
    have h4:0<L.length:=List.length_pos_of_mem hx
    rw [aqk];omega
  have h2:(G.map (·.row)).Nodup:=by
   refine List.Pairwise.imp ?_ hR.1
   intro a b h e
   rw [e,tCr_.refl] at h;omega
  have h3:=h1 (G.map (·.row)) (l.map (·.row)) h2 fun x hx=>by
   obtain ⟨f,hf,_,e⟩:=(hR.2 x).1 hx
   exact aqz.2 ⟨f,hf,e⟩
  simp at h3
  omega
 have hfl : ∀ L:List dx,(∀ g∈L,(cK (bO l g.row)).length<=360600)->(L.flatMap fun g=>(cK (bO l g.row)).map fun p=>(⟨g.row,p⟩:aC)).length<=L.length*360600:=by
  intro L
  induction L with
  | nil=>intro _;simp
  | cons g L ih =>
   intro hL
   have h1:=ih fun x hx=>hL x (aqm _ hx)
   have h2:=hL g (by simp)
   rw [aqC,ap8,aqa,aqk];omega
 have htot:=Nat.le_trans (hfl G hll) (aqB 360600 hGl)
 refine ⟨?_,by unfold gM;rw [List.flatMap_map];exact htot⟩
 unfold tJ
 rw [hgr,apZ]
 rw [d9 (l:=G) (fun g=>(cK (bO l g.row)).map fun p=>(⟨g.row,p⟩:aC)) 3518437208883 ?_ ?_ (by unfold fuel;omega) [] (by simp only [aqu];omega)]
 ·rw [apZ,ap5]
  show some _=some _
  unfold gM
  rw [List.flatMap_map]
 ·intro s i x hx hs
  have hi:=(ap0.1 hx).1
  have hxm:=ap6 hx
  have h2:=hll x hxm
  unfold GR
  dsimp only
  rw [bf hx,ap2,gn_ hx]
  simp only [apZ]
  rw [hlev x hxm,apZ,EF x.row _ (by omega),apZ]
  rw [show decide (s.length+((cK (bO l x.row)).map fun p=>(⟨x.row,p⟩:aC)).length<=3518437208883)=true from ap4 hs,ap2,wrapN (by omega)]
 ·intro s
  unfold GR
  dsimp only
  rw [lF_,ap1]
theorem D9 (p:aP) (t:Int):mE p t=some (aD p&&(decide (p.lo<=t)&&decide (t<p.hi))):=by
 unfold mE
 rw [tL,apZ]
 cases aD p<;>cases decide (p.lo<=t)<;>rfl
theorem Xi (l:List aC) (hn:l.length<=1000000000) (hr : ∀ f∈l,f.row.length<=1000000):Cc l l=some true:=by
 unfold Cc
 rw [show decide (((l.length:Nat):Int)≠((l.length:Nat):Int))=false from ap3 fun h=>h rfl,ap1]
 have loop : ∀ (n i:Nat),i<=l.length->l.length-i<n->az (mP l l) n (i:Int)=some (.inl ((l.length:Nat):Int)):=by
  intro n
  induction n with
  | zero=>intro i _ h;omega
  | succ n ih =>
   intro i hi h
   rw [az]
   by_cases hlt:i<l.length
   ·obtain ⟨x,hx⟩:=gol_ hlt
    have hxr:=hr x (ap6 hx)
    have e:mP l l (i:Int)=some (.next (((i+1:Nat):Nat):Int)):=by
     unfold mP
     dsimp only
     rw [bf hx,ap2,gn_ hx]
     simp only [apZ]
     rw [show dU [.c (.int .i64 x.valid.lo), .c (.int .i64 x.valid.hi)] [.c (.int .i64 x.valid.lo), .c (.int .i64 x.valid.hi)]=true by simp [dU],pY x.row x.row (by omega) (by omega)]
     simp only [Bool.not_true,ap1,apZ]
     rw [tCr_.refl,show decide ((0:Int)≠0)=false from rfl,ap1,wrapN (by omega)]
    rw [e]
    exact ih (i+1) (by omega) (by omega)
   ·have:i=l.length:=by omega
    subst this
    have e:mP l l ((l.length:Nat):Int)=some (.exit ((l.length:Nat):Int)):=by
     unfold mP
     dsimp only
     rw [lF_,ap1]
    rw [e]
 have:=loop fuel 0 (aqj _) (by unfold fuel;omega)
 rw [show az (mP l l) fuel (0:Int)=_ from this]
 rfl
def dH:Val:=⟨0,0,ByteArray.empty⟩
theorem pq:pI=some dH:=rfl
theorem dB:gp=some dH:=rfl
def vF (v:Val):Bool:=(fH v).getD false
theorem mi (v:Val):fH v=some (vF v):=by
 obtain ⟨r,hr⟩:=Ms v
 unfold vF
 rw [hr];rfl
theorem EX (v:Val):xZ v=some (vF v):=(show xZ v=fH v from rfl).trans (mi v)
def VW (v:Val):Val:=bif vF v then v else dH
theorem M6 (v:Val):Dh v=some (VW v):=by
 unfold Dh VW
 rw [EX,apZ,pq]
 cases vF v<;>rfl
theorem Qj (v:Val):yC v=some (VW v):=by
 unfold yC VW
 rw [mi,apZ,dB]
 cases vF v<;>rfl
theorem qd:vF dH=true:=by
 have e:(ByteArray.empty.toList==(⟨#[]⟩:ByteArray).toList)=true:=by rw [ByteArray.toList_eq,ByteArray.toList_eq];rfl
 unfold vF fH dH
 dsimp only
 rw [e];rfl
theorem vK (v:Val):vF (VW v)=true:=by
 unfold VW
 cases h:vF v with
 | true=>exact h
 | false=>exact qd
def qx (b:Bool):Val:=bif b then ⟨3,1,ByteArray.empty⟩ else ⟨3,0,ByteArray.empty⟩
theorem R9 (b:Bool):Ba b=some (qx b):=by cases b<;>rfl
theorem CG (b:Bool):xY b=some (qx b):=by cases b<;>rfl
theorem Lb (b:Bool):vF (qx b)=true:=by
 have e:(ByteArray.empty.toList==(⟨#[]⟩:ByteArray).toList)=true:=by rw [ByteArray.toList_eq,ByteArray.toList_eq];rfl
 unfold vF fH qx
 cases b<;>(dsimp only [cond_true,cond_false];rw [e];rfl)
theorem pX (n:Int):uA n=some (VW ⟨1,n,ByteArray.empty⟩):=by unfold uA;rw [M6];rfl
theorem nH (n:Int):uD n=some (VW ⟨1,n,ByteArray.empty⟩):=by unfold uD;rw [Qj];rfl
theorem afm (s:ByteArray):JC s=some (VW ⟨2,0,s⟩):=by unfold JC;rw [M6];rfl
theorem adH (s:ByteArray):Po s=some (VW ⟨2,0,s⟩):=by unfold Po;rw [Qj];rfl
def T3 (t:Int):Prop:=t=0\/t=1\/t=2
theorem EZ (v:Val) : ∃ t,oO v=some t/\jR v=some t/\T3 t:=by
 have e:oO v=jR v:=rfl
 have h : ∃ t,jR v=some t/\T3 t:=by
  unfold jR
  rw [CG,CG]
  simp only [apZ]
  cases dU [.c (.int .i64 v.kind), .c (.int .i64 v.int), .c (.str v.text)] [.c (.int .i64 (qx true).kind), .c (.int .i64 (qx true).int), .c (.str (qx true).text)] with
  | true=>exact ⟨2,rfl, .inr (.inr rfl)⟩
  | false =>
   rw [ap1]
   cases dU [.c (.int .i64 v.kind), .c (.int .i64 v.int), .c (.str v.text)] [.c (.int .i64 (qx false).kind), .c (.int .i64 (qx false).int), .c (.str (qx false).text)] with
   | true=>exact ⟨0,rfl, .inl rfl⟩
   | false=>exact ⟨1,rfl, .inr (.inl rfl)⟩
 obtain ⟨t,h1,h2⟩:=h
 exact ⟨t,e.trans h1,h1,h2⟩
def tF_ (v:Val):Int:=(jR v).getD 1
theorem l7 (v:Val):oO v=some (tF_ v):=by obtain ⟨t,h1,h2,_⟩:=EZ v;unfold tF_;rw [h1,h2];rfl
theorem sS (v:Val):jR v=some (tF_ v):=by obtain ⟨t,h1,h2,_⟩:=EZ v;unfold tF_;rw [h2];rfl
theorem kQ (v:Val):T3 (tF_ v):=by obtain ⟨t,h1,h2,h3⟩:=EZ v;unfold tF_;rw [h2];exact h3
def Og (a:Int):Int:=if a=2 then 0 else if a=0 then 2 else 1
def QV (a b:Int):Int:=if a=0\/b=0 then 0 else if a=2/\b=2 then 2 else 1
def or3 (a b:Int):Int:=if a=2\/b=2 then 2 else if a=0/\b=0 then 0 else 1
theorem yz (a:Int):T3 (Og a):=by unfold Og;split;exact .inl rfl;split;exact .inr (.inr rfl);exact .inr (.inl rfl)
theorem VP (a b:Int):T3 (QV a b):=by unfold QV;split;exact .inl rfl;split;exact .inr (.inr rfl);exact .inr (.inl rfl)
theorem aaD (a b:Int):T3 (or3 a b):=by unfold or3;split;exact .inr (.inr rfl);split;exact .inl rfl;exact .inr (.inl rfl)
theorem Ci {a:Int} (h:T3 a):QJ a=some (Og a):=by rcases h with rfl|rfl|rfl<;>rfl
theorem Hm {a:Int} (h:T3 a):O7 a=some (Og a):=by rcases h with rfl|rfl|rfl<;>rfl
theorem OL {a:Int} (h:T3 a):uw a=some a:=by rcases h with rfl|rfl|rfl<;>rfl
theorem Q9 {a b:Int} (ha:T3 a) (hb:T3 b):Jl [a,b]=some (mnI (mnI 2 a) b):=by
 unfold Jl
 rw [dI (l:=[a,b]) (mk:=fun t i=>(t,i)) (f:=fun t x=>(uw x).bind fun r=>some (.inl (mnI t r))) ?_ ?_ (by unfold fuel;simp) 2]
 ·simp only [d_,OL ha,OL hb,apZ]
  rfl
 ·intro s i x hx
  have hi:=(ap0.1 hx).1
  unfold Cn
  dsimp only
  rw [bf hx,ap2,gn_ hx,wrapN (by simp at hi;omega)]
  simp only [apZ]
  cases uw x<;>rfl
 ·intro s
  unfold Cn
  dsimp only
  rw [lF_,ap1]
theorem ajN {a b:Int} (ha:T3 a) (hb:T3 b):abC a b=some (QV a b):=by
 unfold abC
 rw [Q9 ha hb]
 rcases ha with rfl|rfl|rfl<;>rcases hb with rfl|rfl|rfl<;>rfl
theorem agh {a b:Int} (ha:T3 a) (hb:T3 b):Nr a b=some (QV a b):=by
 rcases ha with rfl|rfl|rfl<;>rcases hb with rfl|rfl|rfl<;>rfl
theorem ama {a b:Int} (ha:T3 a) (hb:T3 b):Qq a b=some (or3 a b):=by
 unfold Qq
 rw [Ci ha,Ci hb]
 simp only [apZ]
 rw [Q9 (yz a) (yz b)]
 rcases ha with rfl|rfl|rfl<;>rcases hb with rfl|rfl|rfl<;>rfl
theorem ajF {a b:Int} (ha:T3 a) (hb:T3 b):Zn a b=some (or3 a b):=by
 rcases ha with rfl|rfl|rfl<;>rcases hb with rfl|rfl|rfl<;>rfl
def FB (t:Int):Val:=if t=2 then qx true else if t=0 then qx false else dH
theorem nk {t:Int} (h:T3 t):Hg t=some (FB t):=by rcases h with rfl|rfl|rfl<;>rfl
theorem uW {t:Int} (h:T3 t):K5 t=some (FB t):=by rcases h with rfl|rfl|rfl<;>rfl
theorem zh (t:Int):vF (FB t)=true:=by
 unfold FB
 split
 ·exact Lb _
 ·split
  ·exact Lb _
  ·exact qd
def aas (a b:Val) (is:Bool):Int:=if a.kind=0\/a.kind≠b.kind then 1 else bif is then 2 else 0
theorem acb (a b:Val) (is:Bool):T3 (aas a b is):=by
 unfold aas
 split
 ·exact .inr (.inl rfl)
 ·cases is
  ·exact .inl rfl
  ·exact .inr (.inr rfl)
theorem Er (a b:Val) (is:Bool):zf a b is=some (aas a b is):=by
 unfold zf aas
 by_cases h1:a.kind=0
 ·simp [h1]
 ·by_cases h2:a.kind=b.kind
  ·have hb : ¬ b.kind=0:=by rw [<- h2];exact h1
   simp only [h2,ap3 hb,ap1,ne_eq,not_true_eq_false,decide_false,or_false]
   rw [if_neg hb]
   cases is<;>rfl
  ·simp only [ap3 h1,ap1,ne_eq,h2,not_false_eq_true,decide_true,ap2,or_true,if_true]
theorem Ox (a b:Val) (is:Bool):Dc a b is=some (aas a b is):=(show Dc a b is=zf a b is from rfl).trans (Er a b is)
def eqF (a b:Val):Int:=aas a b (decide (Ac a b=0))
def ltF (a b:Val):Int:=aas a b (decide (Ac a b<0))
theorem aiU (a b:Val):aej a b=some (eqF a b):=by unfold aej;rw [GZ,apZ,Er];rfl
theorem aj9 (a b:Val):afi a b=some (eqF a b):=by unfold afi;rw [P6,apZ,Ox];rfl
theorem ae4 (a b:Val):BS a b=some (ltF a b):=by unfold BS;rw [GZ,apZ,Er];rfl
theorem ae1 (a b:Val):AR a b=some (ltF a b):=by unfold AR;rw [P6,apZ,Ox];rfl
def yA (op:Int) (a b:Val):Int:=if op=7 then eqF a b else if op=8 then Og (eqF a b) else if op=9 then ltF a b else if op=11 then ltF b a else if op=10 then Og (ltF b a) else Og (ltF a b)
theorem aak (a b:Val):T3 (eqF a b):=acb _ _ _
theorem Iy (a b:Val):T3 (ltF a b):=acb _ _ _
theorem lU (op:Int) (a b:Val):T3 (yA op a b):=by
 unfold yA
 split
 ·exact aak _ _
 split
 ·exact yz _
 split
 ·exact Iy _ _
 split
 ·exact Iy _ _
 split
 ·exact yz _
 ·exact yz _
theorem iF (op:Int) (a b:Val):pE op a b=some (yA op a b):=by
 unfold pE yA
 simp only [aiU,ae4,apZ,Ci (aak a b),Ci (Iy a b),Ci (Iy b a)]
 by_cases h1:op=7
 ·simp [h1]
 by_cases h2:op=8
 ·simp [h2]
 by_cases h3:op=9
 ·simp [h3]
 by_cases h4:op=11
 ·simp [h4]
 by_cases h5:op=10
 ·simp [h5]
 simp [h1,h2,h3,h4,h5]
theorem kI (op:Int) (a b:Val):jC op a b=some (yA op a b):=by
 unfold jC yA
 simp only [aj9,ae1,apZ,Hm (aak a b),Hm (Iy a b),Hm (Iy b a)]
 by_cases h1:op=7
 ·simp [h1]
 by_cases h2:op=8
 ·simp [h2]
 by_cases h3:op=9
 ·simp [h3]
 by_cases h4:op=11
 ·simp [h4]
 by_cases h5:op=10
 ·simp [h5]
 simp [h1,h2,h3,h4,h5]
def eX (p q:aP):Int :=
 if p.hi<q.lo then 0 else if p.hi=q.lo then 1 else if q.hi<p.lo then 12 else if q.hi=p.lo then 11 else if p.lo=q.lo/\p.hi=q.hi then 6
 else if p.lo=q.lo then (if p.hi<q.hi then 3 else 9) else if p.hi=q.hi then (if q.lo<p.lo then 5 else 7)
 else if p.lo<q.lo/\q.hi<p.hi then 8 else if q.lo<p.lo/\p.hi<q.hi then 4 else if p.lo<q.lo then 2 else 10
theorem fq (p q:aP):dU [.c (.int .i64 p.lo), .c (.int .i64 p.hi)] [.c (.int .i64 q.lo), .c (.int .i64 q.hi)]=decide (p.lo=q.lo/\p.hi=q.hi):=by
 simp [dU]
theorem ab4 (p q:aP):afp p q=some (if aD p=true/\aD q=true then (eX p q,true) else (0,false)):=by
 unfold afp
 rw [lm,lm]
 simp only [apZ]
 cases hp:aD p with
 | false=>simp
 | true =>
  cases hq:aD q with
  | false=>simp
  | true =>
   simp only [Bool.not_true,ap1,and_self,if_true,fq]
   unfold eX
   by_cases h1:p.hi<q.lo
   ·simp only [Bool.cond_decide,eq_true h1,if_true,if_false,and_true,true_and,and_false,false_and,and_self]
   by_cases h2:p.hi=q.lo
   ·simp only [Bool.cond_decide,eq_true h2,eq_false h1,if_true,if_false,and_true,true_and,and_false,false_and,and_self]
   by_cases h3:q.hi<p.lo
   ·simp only [Bool.cond_decide,eq_true h3,eq_false h1,eq_false h2,if_true,if_false,and_true,true_and,and_false,false_and,and_self]
   by_cases h4:q.hi=p.lo
   ·simp only [Bool.cond_decide,eq_true h4,eq_false h1,eq_false h2,eq_false h3,if_true,if_false,and_true,true_and,and_false,false_and,and_self]
   by_cases h5:p.lo=q.lo
   ·by_cases h6:p.hi=q.hi
    ·simp only [Bool.cond_decide,eq_true h5,eq_true h6,eq_false h1,eq_false h2,eq_false h3,eq_false h4,if_true,if_false,and_true,true_and,and_false,false_and,and_self]
    ·by_cases h7:p.hi<q.hi
     ·simp only [Bool.cond_decide,eq_true h5,eq_true h7,eq_false h1,eq_false h2,eq_false h3,eq_false h4,eq_false h6,if_true,if_false,and_true,true_and,and_false,false_and,and_self]
     ·simp only [Bool.cond_decide,eq_true h5,eq_false h1,eq_false h2,eq_false h3,eq_false h4,eq_false h6,eq_false h7,if_true,if_false,and_true,true_and,and_false,false_and,and_self]
   ·by_cases h6:p.hi=q.hi
    ·by_cases h7:q.lo<p.lo
     ·simp only [Bool.cond_decide,eq_true h6,eq_true h7,eq_false h1,eq_false h2,eq_false h3,eq_false h4,eq_false h5,if_true,if_false,and_true,true_and,and_false,false_and,and_self]
     ·simp only [Bool.cond_decide,eq_true h6,eq_false h1,eq_false h2,eq_false h3,eq_false h4,eq_false h5,eq_false h7,if_true,if_false,and_true,true_and,and_false,false_and,and_self]
    ·by_cases h7:p.lo<q.lo
     ·by_cases h8:q.hi<p.hi
      ·simp only [Bool.cond_decide,eq_true h7,eq_true h8,eq_false h1,eq_false h2,eq_false h3,eq_false h4,eq_false h5,eq_false h6,if_true,if_false,and_true,true_and,and_false,false_and,and_self]
      ·by_cases h9:q.lo<p.lo
       ·omega
       ·simp only [Bool.cond_decide,eq_true h7,eq_false h1,eq_false h2,eq_false h3,eq_false h4,eq_false h5,eq_false h6,eq_false h8,eq_false h9,if_true,if_false,and_true,true_and,and_false,false_and,and_self]
     ·by_cases h8:q.lo<p.lo
      ·by_cases h9:p.hi<q.hi
       ·simp only [Bool.cond_decide,eq_true h8,eq_true h9,eq_false h1,eq_false h2,eq_false h3,eq_false h4,eq_false h5,eq_false h6,eq_false h7,if_true,if_false,and_true,true_and,and_false,false_and,and_self]
       ·simp only [Bool.cond_decide,eq_true h8,eq_false h1,eq_false h2,eq_false h3,eq_false h4,eq_false h5,eq_false h6,eq_false h7,eq_false h9,if_true,if_false,and_true,true_and,and_false,false_and,and_self]
      ·omega
theorem ma {p:aP} (h:aD p=true):0<=p.lo/\p.lo<p.hi/\p.hi<=1099511627776:=by
 unfold aD at h
 simp only [aqg,decide_eq_true_eq] at h
 omega
theorem agr {p q:aP} (hp:0<=p.lo/\p.lo<p.hi) (hq:0<=q.lo/\q.lo<q.hi):eX p q=0↔p.hi<q.lo:=by
 unfold eX
 repeat' split
 all_goals (constructor<;>intro h<;>omega)
theorem alH (p q:aP):lG 0 p q=some (decide (p.hi<q.lo)):=by
 unfold lG
 simp only [Int.reduceEq,decide_false,decide_true,ap2,ap1,fq]<;>rfl
theorem ahM {p q:aP} (hp:0<=p.lo/\p.lo<p.hi) (hq:0<=q.lo/\q.lo<q.hi):eX p q=1↔p.hi=q.lo:=by
 unfold eX
 repeat' split
 all_goals (constructor<;>intro h<;>omega)
theorem amG (p q:aP):lG 1 p q=some (decide (p.hi=q.lo)):=by
 unfold lG
 simp only [Int.reduceEq,decide_false,decide_true,ap2,ap1,fq]<;>rfl
theorem afY {p q:aP} (hp:0<=p.lo/\p.lo<p.hi) (hq:0<=q.lo/\q.lo<q.hi):eX p q=2↔p.lo<q.lo/\q.lo<p.hi/\p.hi<q.hi:=by
 unfold eX
 repeat' split
 all_goals (constructor<;>intro h<;>omega)
theorem amC (p q:aP):lG 2 p q=some (decide (p.lo<q.lo/\q.lo<p.hi/\p.hi<q.hi)):=by
 unfold lG
 simp only [Int.reduceEq,decide_false,decide_true,ap2,ap1,fq]
 by_cases h0:p.lo<q.lo<;>by_cases h1:q.lo<p.hi<;>simp [h0,h1]
theorem aiQ {p q:aP} (hp:0<=p.lo/\p.lo<p.hi) (hq:0<=q.lo/\q.lo<q.hi):eX p q=3↔p.lo=q.lo/\p.hi<q.hi:=by
 unfold eX
 repeat' split
 all_goals (constructor<;>intro h<;>omega)
theorem amA (p q:aP):lG 3 p q=some (decide (p.lo=q.lo/\p.hi<q.hi)):=by
 unfold lG
 simp only [Int.reduceEq,decide_false,decide_true,ap2,ap1,fq]
 by_cases h0:p.lo=q.lo<;>simp [h0]
theorem ag1 {p q:aP} (hp:0<=p.lo/\p.lo<p.hi) (hq:0<=q.lo/\q.lo<q.hi):eX p q=4↔q.lo<p.lo/\p.hi<q.hi:=by
 unfold eX
 repeat' split
 all_goals (constructor<;>intro h<;>omega)
theorem amI (p q:aP):lG 4 p q=some (decide (q.lo<p.lo/\p.hi<q.hi)):=by
 unfold lG
 simp only [Int.reduceEq,decide_false,decide_true,ap2,ap1,fq]
 by_cases h0:q.lo<p.lo<;>simp [h0]
theorem aiI {p q:aP} (hp:0<=p.lo/\p.lo<p.hi) (hq:0<=q.lo/\q.lo<q.hi):eX p q=5↔p.hi=q.hi/\q.lo<p.lo:=by
 unfold eX
 repeat' split
 all_goals (constructor<;>intro h<;>omega)
theorem amw (p q:aP):lG 5 p q=some (decide (p.hi=q.hi/\q.lo<p.lo)):=by
 unfold lG
 simp only [Int.reduceEq,decide_false,decide_true,ap2,ap1,fq]
 by_cases h0:p.hi=q.hi<;>simp [h0]
theorem ait {p q:aP} (hp:0<=p.lo/\p.lo<p.hi) (hq:0<=q.lo/\q.lo<q.hi):eX p q=6↔p.lo=q.lo/\p.hi=q.hi:=by
 unfold eX
 repeat' split
 all_goals (constructor<;>intro h<;>omega)
theorem amm (p q:aP):lG 6 p q=some (decide (p.lo=q.lo/\p.hi=q.hi)):=by
 unfold lG
 simp only [Int.reduceEq,decide_false,decide_true,ap2,ap1,fq]<;>rfl
theorem ahX {p q:aP} (hp:0<=p.lo/\p.lo<p.hi) (hq:0<=q.lo/\q.lo<q.hi):eX p q=7↔p.hi=q.hi/\p.lo<q.lo:=by
 unfold eX
 repeat' split
 all_goals (constructor<;>intro h<;>omega)
theorem alR (p q:aP):lG 7 p q=some (decide (p.hi=q.hi/\p.lo<q.lo)):=by
 unfold lG
 simp only [Int.reduceEq,decide_false,decide_true,ap2,ap1,fq]
 by_cases h0:p.hi=q.hi<;>simp [h0]
theorem ahm {p q:aP} (hp:0<=p.lo/\p.lo<p.hi) (hq:0<=q.lo/\q.lo<q.hi):eX p q=8↔p.lo<q.lo/\q.hi<p.hi:=by
 unfold eX
 repeat' split
 all_goals (constructor<;>intro h<;>omega)
theorem alC (p q:aP):lG 8 p q=some (decide (p.lo<q.lo/\q.hi<p.hi)):=by
 unfold lG
 simp only [Int.reduceEq,decide_false,decide_true,ap2,ap1,fq]
 by_cases h0:p.lo<q.lo<;>simp [h0]
theorem ahH {p q:aP} (hp:0<=p.lo/\p.lo<p.hi) (hq:0<=q.lo/\q.lo<q.hi):eX p q=9↔p.lo=q.lo/\q.hi<p.hi:=by
 unfold eX
 repeat' split
 all_goals (constructor<;>intro h<;>omega)
theorem amH (p q:aP):lG 9 p q=some (decide (p.lo=q.lo/\q.hi<p.hi)):=by
 unfold lG
 simp only [Int.reduceEq,decide_false,decide_true,ap2,ap1,fq]
 by_cases h0:p.lo=q.lo<;>simp [h0]
theorem ae8 {p q:aP} (hp:0<=p.lo/\p.lo<p.hi) (hq:0<=q.lo/\q.lo<q.hi):eX p q=10↔q.lo<p.lo/\p.lo<q.hi/\q.hi<p.hi:=by
 unfold eX
 repeat' split
 all_goals (constructor<;>intro h<;>omega)
theorem akL (p q:aP):lG 10 p q=some (decide (q.lo<p.lo/\p.lo<q.hi/\q.hi<p.hi)):=by
 unfold lG
 simp only [Int.reduceEq,decide_false,decide_true,ap2,ap1,fq]
 by_cases h0:q.lo<p.lo<;>by_cases h1:p.lo<q.hi<;>simp [h0,h1]
theorem adK {p q:aP} (hp:0<=p.lo/\p.lo<p.hi) (hq:0<=q.lo/\q.lo<q.hi):eX p q=11↔q.hi=p.lo:=by
 unfold eX
 repeat' split
 all_goals (constructor<;>intro h<;>omega)
theorem aji (p q:aP):lG 11 p q=some (decide (q.hi=p.lo)):=by
 unfold lG
 simp only [Int.reduceEq,decide_false,decide_true,ap2,ap1,fq]<;>rfl
theorem afc {p q:aP} (hp:0<=p.lo/\p.lo<p.hi) (hq:0<=q.lo/\q.lo<q.hi):eX p q=12↔q.hi<p.lo:=by
 unfold eX
 repeat' split
 all_goals (constructor<;>intro h<;>omega)
theorem aky (p q:aP):lG 12 p q=some (decide (q.hi<p.lo)):=by
 unfold lG
 simp only [Int.reduceEq,decide_false,decide_true,ap2,ap1,fq]<;>rfl
theorem Fv (p q:aP):0<=eX p q/\eX p q<13:=by
 unfold eX
 repeat' split
 all_goals omega
theorem ahe {rel:Int} (h : ¬ (0<=rel/\rel<13)) (p q:aP):lG rel p q=some false:=by
 unfold lG
 rw [ap3 (show ¬ rel=0 by omega),ap1]
 rw [ap3 (show ¬ rel=1 by omega),ap1]
 rw [ap3 (show ¬ rel=2 by omega),ap1]
 rw [ap3 (show ¬ rel=3 by omega),ap1]
 rw [ap3 (show ¬ rel=4 by omega),ap1]
 rw [ap3 (show ¬ rel=5 by omega),ap1]
 rw [ap3 (show ¬ rel=6 by omega),ap1]
 rw [ap3 (show ¬ rel=7 by omega),ap1]
 rw [ap3 (show ¬ rel=8 by omega),ap1]
 rw [ap3 (show ¬ rel=9 by omega),ap1]
 rw [ap3 (show ¬ rel=10 by omega),ap1]
 rw [ap3 (show ¬ rel=11 by omega),ap1]
 rw [ap3 (show ¬ rel=12 by omega),ap1]
theorem ah3 {p q:aP} (hp:aD p=true) (hq:aD q=true) (rel:Int):lG rel p q=some (decide (eX p q=rel)):=by
 obtain ⟨p1,p2,p3⟩:=ma hp
 obtain ⟨q1,q2,q3⟩:=ma hq
 by_cases hr:0<=rel/\rel<13
 ·have:rel=0\/rel=1\/rel=2\/rel=3\/rel=4\/rel=5\/rel=6\/rel=7\/rel=8\/rel=9\/rel=10\/rel=11\/rel=12:=by omega
  rcases this with rfl|rfl|rfl|rfl|rfl|rfl|rfl|rfl|rfl|rfl|rfl|rfl|rfl
  ·rw [alH];congr 1;rw [decide_eq_decide,agr ⟨p1,p2⟩ ⟨q1,q2⟩]
  ·rw [amG];congr 1;rw [decide_eq_decide,ahM ⟨p1,p2⟩ ⟨q1,q2⟩]
  ·rw [amC];congr 1;rw [decide_eq_decide,afY ⟨p1,p2⟩ ⟨q1,q2⟩]
  ·rw [amA];congr 1;rw [decide_eq_decide,aiQ ⟨p1,p2⟩ ⟨q1,q2⟩]
  ·rw [amI];congr 1;rw [decide_eq_decide,ag1 ⟨p1,p2⟩ ⟨q1,q2⟩]
  ·rw [amw];congr 1;rw [decide_eq_decide,aiI ⟨p1,p2⟩ ⟨q1,q2⟩]
  ·rw [amm];congr 1;rw [decide_eq_decide,ait ⟨p1,p2⟩ ⟨q1,q2⟩]
  ·rw [alR];congr 1;rw [decide_eq_decide,ahX ⟨p1,p2⟩ ⟨q1,q2⟩]
  ·rw [alC];congr 1;rw [decide_eq_decide,ahm ⟨p1,p2⟩ ⟨q1,q2⟩]
  ·rw [amH];congr 1;rw [decide_eq_decide,ahH ⟨p1,p2⟩ ⟨q1,q2⟩]
  ·rw [akL];congr 1;rw [decide_eq_decide,ae8 ⟨p1,p2⟩ ⟨q1,q2⟩]
  ·rw [aji];congr 1;rw [decide_eq_decide,adK ⟨p1,p2⟩ ⟨q1,q2⟩]
  ·rw [aky];congr 1;rw [decide_eq_decide,afc ⟨p1,p2⟩ ⟨q1,q2⟩]
 ·rw [ahe hr,ap3]
  have:=Fv p q
  omega
theorem EC (rel:Int) (p q:aP):zt rel p q=some (aD p&&(aD q&&decide (eX p q=rel))):=by
 unfold zt
 rw [tL,tL]
 simp only [apZ]
 cases hp:aD p with
 | false=>rfl
 | true =>
  cases hq:aD q with
  | false=>rfl
  | true=>rw [ah3 hp hq];rfl
theorem X7 (p q:aP) (h:aD p=true/\aD q=true) : ∀ (n i:Nat),(i:Int)<=eX p q->13-i<n->az (wN p q) n (i:Int)=some (.inr (eX p q,true))
 | 0,i,_,h2=>by omega
 | n+1,i,h1,h2=>by
  have hr:=Fv p q
  rw [az]
  unfold wN
  dsimp only
  rw [ap4 (show (i:Int)<13 by omega),ap2,EC,apZ,h.1,h.2,wrapN (by omega)]
  by_cases e:eX p q=i
  ·rw [e];simp
  ·simp only [aqx,ap3 e,ap1]
   exact X7 p q h n (i+1) (by omega) (by omega)
theorem XH (p q:aP) (h : ¬ (aD p=true/\aD q=true)) : ∀ (n i:Nat),i<=13->13-i<n->az (wN p q) n (i:Int)=some (.inl ((13:Nat):Int))
 | 0,i,_,h2=>by omega
 | n+1,i,h1,h2=>by
  rw [az]
  unfold wN
  dsimp only
  by_cases hi:i=13
  ·subst hi;rfl
  ·rw [ap4 (show (i:Int)<13 by omega),ap2,EC,apZ,wrapN (by omega)]
   have:(aD p&&(aD q&&decide (eX p q=i)))=false:=by
    cases hp:aD p<;>cases hq:aD q<;>simp_all
   rw [this,ap1]
   exact XH p q h n (i+1) (by omega) (by omega)
theorem ag_ (p q:aP):XK p q=some (if aD p=true/\aD q=true then (eX p q,true) else (0,false)):=by
 unfold XK
 by_cases h:aD p=true/\aD q=true
 ·have:=X7 p q h fuel 0 (Fv p q).1 (by unfold fuel;omega)
  rw [show ((0:Nat):Int)=0 from rfl] at this
  rw [this,if_pos h];rfl
 ·have:=XH p q h fuel 0 (by omega) (by unfold fuel;omega)
  rw [show ((0:Nat):Int)=0 from rfl] at this
  rw [this,if_neg h];rfl
def KR (p:aP) (t:Int):Bool:=decide (p.lo<=t)&&decide (t<p.hi)
def iq (l:List aP) (t:Int):Bool:=l.any fun p=>aD p&&KR p t
def dN:List aP->Prop
 | []=>True
 | p::l=>aD p=true/\(∀ q∈l,p.hi<q.lo)/\dN l
theorem dN.val : ∀ {l:List aP}, dN l -> ∀ p∈l,aD p=true
 | [],_,p,hp=>by cases hp
 | q::l,h,p,hp=>by
  rcases aqf.1 hp with rfl|hp
  ·exact h.1
  ·exact h.2.2.val p hp
theorem oW (t:Int):iq [] t=false:=rfl
theorem rU (p:aP) (l:List aP) (t:Int):iq (p::l) t=((aD p&&KR p t)||iq l t):=by unfold iq;rw [List.any_cons]
theorem zn (l m:List aP) (t:Int):iq (l++m) t=(iq l t||iq m t):=by unfold iq;rw [List.any_append]
theorem jM (p:aP) (t:Int):KR p t=true↔p.lo<=t/\t<p.hi:=by unfold KR;rw [aqg,decide_eq_true_eq,decide_eq_true_eq]
theorem fw (l:List aP) (t:Int):iq l t=true ↔ ∃ p∈l,aD p=true/\p.lo<=t/\t<p.hi:=by
 unfold iq
 rw [List.any_eq_true]
 constructor
 ·rintro ⟨p,hp,h⟩
  rw [aqg,jM] at h
  exact ⟨p,hp,h⟩
 ·rintro ⟨p,hp,h⟩
  exact ⟨p,hp,by rw [aqg,jM];exact h⟩
theorem lh {p:aP} (h:aD p=true):0<=p.lo/\p.lo<p.hi/\p.hi<=1099511627776:=by
 simp only [aD,aqg,decide_eq_true_eq] at h
 exact ⟨h.1.1,h.1.2,h.2⟩
theorem PS {p:aP} {l:List aP} (h:dN (p::l)) (t:Int) (ht:iq (p::l) t=true):p.lo<=t:=by
 obtain ⟨q,hq,hv,h1,h2⟩:=(fw _ _).1 ht
 rcases aqf.1 hq with rfl|hq
 ·exact h1
 ·have:=h.2.1 q hq
  have:=lh h.1
  omega
theorem CE {p:aP} {l:List aP} (h:dN (p::l)) (t:Int) (h1:p.lo<=t) (h2:t<p.hi):iq (p::l) t=true :=
 (fw _ _).2 ⟨p,aqM .., h.1,h1,h2⟩
theorem Xr {p:aP} {l:List aP} (h:dN (p::l)):iq (p::l) p.hi=false:=by
 rw [Bool.eq_false_iff]
 intro ht
 obtain ⟨q,hq,hv,h1,h2⟩:=(fw _ _).1 ht
 rcases aqf.1 hq with rfl|hq
 ·omega
 ·have:=h.2.1 q hq
  omega
theorem IM {p:aP} {l:List aP} (h:dN (p::l)) (t:Int):iq l t=(decide (p.hi<=t)&&iq (p::l) t):=by
 rw [Bool.eq_iff_iff,aqg,decide_eq_true_eq]
 constructor
 ·intro ht
  obtain ⟨q,hq,hv,h1,h2⟩:=(fw _ _).1 ht
  have:=h.2.1 q hq
  exact ⟨by omega,(fw _ _).2 ⟨q,aqm _ hq,hv,h1,h2⟩⟩
 ·rintro ⟨h0,ht⟩
  obtain ⟨q,hq,hv,h1,h2⟩:=(fw _ _).1 ht
  rcases aqf.1 hq with rfl|hq
  ·omega
  ·exact (fw _ _).2 ⟨q,hq,hv,h1,h2⟩
theorem uH : ∀ {l m:List aP}, dN l->dN m->(∀ t,iq l t=iq m t)->l=m
 | [],[],_,_,_=>rfl
 | [],q::m,_,hm,h=>by
  have:=h q.lo
  rw [oW,CE hm q.lo (Int.le_refl _) (lh hm.1).2.1] at this
  cases this
 | p::l,[],hl,_,h=>by
  have:=h p.lo
  rw [oW,CE hl p.lo (Int.le_refl _) (lh hl.1).2.1] at this
  cases this
 | p::l,q::m,hl,hm,h=>by
  have a1:=(lh hl.1).2.1
  have a2:=(lh hm.1).2.1
  have e1:p.lo=q.lo:=by
   have h1:=PS hm p.lo (by rw [<- h];exact CE hl _ (Int.le_refl _) a1)
   have h2:=PS hl q.lo (by rw [h];exact CE hm _ (Int.le_refl _) a2)
   omega
  have e2:p.hi=q.hi:=by
   rcases Int.lt_trichotomy p.hi q.hi with h1|h1|h1
   ·have h3:=h p.hi
    rw [Xr hl,CE hm p.hi (by omega) h1] at h3
    cases h3
   ·exact h1
   ·have h3:=h q.hi
    rw [Xr hm,CE hl q.hi (by omega) h1] at h3
    cases h3
  obtain ⟨a,b⟩:=p
  obtain ⟨c,d⟩:=q
  simp only at e1 e2
  subst e1 e2
  rw [uH hl.2.2 hm.2.2 fun t=>by rw [IM hl,IM hm,h]]
theorem Ck : ∀ {l:List aP} {p:aP}, dN l->aD p=true->(∀ q∈l,q.hi<p.lo)->dN (l++[p])
 | [],p,_,hp,_=>⟨hp,fun q hq=>(by cases hq),trivial⟩
 | q::l,p,h,hp,hq=>by
  refine ⟨h.1,fun r hr=>?_,Ck h.2.2 hp fun r hr=>hq r (aqm _ hr)⟩
  rcases aqr.1 hr with hr|hr
  ·exact h.2.1 r hr
  ·rw [aqF] at hr;subst hr;exact hq q (aqM ..)
theorem JD : ∀ {l:List aP} {p:aP}, dN (l++[p])->dN l/\aD p=true /\ ∀ q∈l,q.hi<p.lo
 | [],p,h=>⟨trivial,h.1,fun q hq=>by cases hq⟩
 | q::l,p,h=>by
  obtain ⟨h1,h2,h3⟩:=JD (l:=l) h.2.2
  refine ⟨⟨h.1,fun r hr=>h.2.1 r (List.mem_append_left _ hr),h1⟩,h2,fun r hr=>?_⟩
  rcases aqf.1 hr with rfl|hr
  ·exact h.2.1 p (by simp)
  ·exact h3 r hr
theorem aeA {l:List aP} {a b c:Int} (h:dN (l++[⟨a,b⟩])) (hbc:b<=c) (hc:c<=1099511627776):dN (l++[⟨a,c⟩]):=by
 obtain ⟨h1,h2,h3⟩:=JD h
 have:=lh h2
 simp only at this
 exact Ck h1 (by simp only [aD,aqg,decide_eq_true_eq];omega) h3
def yo (l:List aP) (a b:Int):List aP:=match l.getLast? with
 | some p=>if p.hi=a then l.dropLast++[⟨p.lo,b⟩] else l++[⟨a,b⟩]
 | none=>l++[⟨a,b⟩]
theorem o6 {l:List aP} {a b:Int} (h:dN l) (ha : ∀ p∈l,p.hi<=a) (h0:0<=a) (hab:a<b) (hb:b<=1099511627776) :
  dN (yo l a b)/\(∀ p∈yo l a b,p.hi<=b) /\ ∀ t,iq (yo l a b) t=(iq l t||(decide (a<=t)&&decide (t<b))):=by
 have hp:aD ⟨a,b⟩=true:=by simp only [aD,aqg,decide_eq_true_eq];omega
 have hnew : ∀ t,iq (l++[⟨a,b⟩]) t=(iq l t||(decide (a<=t)&&decide (t<b))):=fun t=>by
  rw [zn,rU,oW,Bool.or_false,hp,aqx];rfl
 have hle : ∀ p∈l++[(⟨a,b⟩:aP)],p.hi<=b:=fun p hq=>by
  rcases aqr.1 hq with hq|hq
  ·have:=ha p hq;omega
  ·rw [aqF] at hq;subst hq;exact Int.le_refl _
 unfold yo
 cases hg:l.getLast? with
 | none =>
  rw [List.getLast?_eq_none_iff] at hg
  subst hg
  exact ⟨Ck trivial hp (fun q hq=>by cases hq),hle,hnew⟩
 | some p =>
  have hl:l=l.dropLast++[p]:=by
   have h1:l≠[]:=fun e=>by rw [e] at hg;cases hg
   have h2:=List.dropLast_concat_getLast h1
   rw [List.getLast?_eq_some_getLast h1] at hg
   injection hg with hg
   rw [<- h2,hg]
   simp
  have hlast : ∀ q∈l.dropLast,q.hi<p.lo:=by
   rw [hl] at h
   exact (JD h).2.2
  have hpm:p∈l:=by rw [hl];simp
  have hpv:=h.val p hpm
  by_cases he:p.hi=a
  ·simp only [if_pos he]
   have hs:dN (l.dropLast++[⟨p.lo,b⟩]):=by
    rw [hl] at h
    exact aeA (b:=p.hi) h (by omega) hb
   refine ⟨hs,fun q hq=>?_,fun t=>?_⟩
   ·rcases aqr.1 hq with hq|hq
    ·have:=hlast q hq;have:=lh hpv;omega
    ·rw [aqF] at hq;subst hq;exact Int.le_refl _
   ·have e:iq l t=(iq l.dropLast t||(KR p t)):=by
     conv=>lhs;rw [hl]
     rw [zn,rU,oW,Bool.or_false,hpv,aqx]
    have hv2:aD ⟨p.lo,b⟩=true:=hs.val _ (by simp)
    rw [e,zn,rU,oW,Bool.or_false,hv2,aqx,Bool.or_assoc]
    congr 1
    have:=lh hpv
    rw [Bool.eq_iff_iff,Bool.or_eq_true,jM,jM,aqg,decide_eq_true_eq,decide_eq_true_eq]
    simp only
    omega
  ·simp only [if_neg he]
   refine ⟨Ck h hp fun q hq=>?_,hle,hnew⟩
   rw [hl] at hq
   have hp2:=ha p hpm
   rcases aqr.1 hq with hq|hq
   ·have:=hlast q hq;have:=lh hpv;simp only;omega
   ·rw [aqF] at hq;subst hq;simp only;omega
end Go.Proofs.YtlcceppoloaecaaGreatDoor
