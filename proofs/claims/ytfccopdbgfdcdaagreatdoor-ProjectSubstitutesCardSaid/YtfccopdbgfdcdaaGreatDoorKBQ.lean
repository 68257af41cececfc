/- Parts of the proof, joined. No condition. -/
import Derived.Test.YtfccopdbgfdcdaaGreatDoorKAA
import Derived.Test.YtfccopdbgfdcdaaGreatDoorKBP
import Derived.Test.YtfccopdbgfdcdaaGreatDoorKBN
import Derived.Test.YtfccopdbgfdcdaaGreatDoorKBO
import Derived.Test.YtfccopdbgfdcdaaGreatDoorKBI
set_option linter.unusedSimpArgs false
set_option linter.unusedVariables false
namespace Go.Proofs.YtfccopdbgfdcdaaGreatDoor
open Go.RowKit Go.MapKept
set_option maxRecDepth 100000
theorem Kj (r:List Val) : ∀ l:List aG, ∃ s t,l=s++t/\(∀ f∈s,f.row=r)/\(∀ f u,t=f::u->f.row≠r)
 | []=>⟨[],[],rfl,(fun _ h=>by cases h),(fun _ _ h=>by cases h)⟩
 | f::l=>by
  by_cases e:f.row=r
  ·obtain ⟨s,t,h1,h2,h3⟩:=Kj r l
   refine ⟨f::s,t,by rw [h1];rfl,fun g hg=>?_,h3⟩
   rcases adZ.1 hg with rfl|hg
   ·exact e
   ·exact h2 g hg
  ·exact ⟨[],f::l,rfl,(fun _ h=>by cases h),(fun g u h=>by injection h with h1 h2;subst h1;exact e)⟩
theorem Yq {α:Type} (P s t:List α):jI (P++s++t) ((P.length:Nat):Int) (((P.length+s.length:Nat):Nat):Int)=some s:=by
 unfold jI
 rw [if_pos (by simp;omega),Int.toNat_natCast,Int.toNat_natCast]
 congr 1
 have e:(P++s++t).take (P.length+s.length)=P++s:=by
  rw [List.take_append_of_le_length (by simp)]
  rw [ael (by simp)]
 rw [e,List.drop_left]
theorem Ri (s t:List aG) (r:List Val):dR (s++t) r=dR s r++dR t r:=by unfold dR;rw [List.filter_append,adV]
theorem EB {l:List aG} {r:List Val} (h : ∀ f∈l,f.row≠r):dR l r=[]:=by
 unfold dR
 rw [List.map_eq_nil_iff,List.filter_eq_nil_iff]
 intro f hf e
 exact h f hf (aea e)
def aaN (l:List aG) (G:List bT):Prop:=eZ l (G.map (·.row)) /\ ∀ g∈G,g.steps=zL (ones (dR l g.row))
theorem run_end (P s t:List aG) (r:List Val) (f0:aG) (hf0:f0.row=r) (hrl : ∀ f∈P++s++t,f.row.length<=1000000) (hn:(P++s++t).length<=63) (hs : ∀ f∈s,f.row=r) (hs0:s[0]?=some f0) (ht : ∀ f u,t=f::u->f.row≠r) :
  ∀ (n j:Nat),j<=s.length->s.length-j<n->az (gM (P++s++t) ((P.length:Nat):Int)) n (((P.length+j:Nat):Nat):Int)=some (.inl (((P.length+s.length:Nat):Nat):Int)):=by
 have hi:(P++s++t)[P.length]?=some f0:=by
  rw [ad_,adP (adY _),Nat.sub_self,adW (by have:=(adI.1 hs0).1;omega)]
  exact hs0
 have hnl:P.length+s.length<=63:=by simp only [adQ] at hn;omega
 intro n
 induction n with
 | zero=>intro j _ h;omega
 | succ n ih =>
  intro j hj hn2
  rw [az]
  by_cases hlt:j<s.length
  ·obtain ⟨x,hx⟩:=gol_ hlt
   have hx2:(P++s++t)[P.length+j]?=some x:=by
    rw [ad_,adP (by omega),show P.length+j-P.length=j by omega,adW hlt]
    exact hx
   have hxm:=adO hx2
   have him:=adO hi
   have e:gM (P++s++t) ((P.length:Nat):Int) (((P.length+j:Nat):Nat):Int)=some (.next (((P.length+(j+1):Nat):Nat):Int)):=by
    unfold gM
    dsimp only
    rw [aI hx2,adK,gn_ hx2,gn_ hi]
    simp only [adH]
    rw [mr x.row f0.row (by have:=hrl x hxm;omega) (by have:=hrl f0 him;omega),adH]
    rw [hs x (adO hx),hf0,tCr_.refl]
    rw [show decide ((0:Int)=0)=true from rfl,adK,wrapN (by omega)]
    rfl
   rw [e]
   exact ih (j+1) (by omega) (by omega)
  ·have hje:j=s.length:=by omega
   subst hje
   have e:gM (P++s++t) ((P.length:Nat):Int) (((P.length+s.length:Nat):Nat):Int)=some (.exit (((P.length+s.length:Nat):Nat):Int)):=by
    unfold gM
    dsimp only
    cases t with
    | nil =>
     rw [show decide ((((P.length+s.length:Nat):Nat):Int)<(((P++s++([]:List aG)).length:Nat):Int))=false from adL (by simp),adJ]
    | cons y u =>
     have hy:(P++s++y::u)[P.length+s.length]?=some y:=by
      rw [adP (by simp),adQ,Nat.sub_self];rfl
     rw [aI hy,adK,gn_ hy,gn_ hi]
     simp only [adH]
     rw [mr y.row f0.row (by have:=hrl y (adO hy);omega) (by have:=hrl f0 (adO hi);omega),adH]
     rw [show decide (cu y.row f0.row=0)=false from adL fun q=>ht y u rfl ((tCr_.zero _ _ q).trans hf0),adJ]
   rw [e]
theorem UK (all:List aG) (hrl : ∀ f∈all,f.row.length<=1000000) (hn:all.length<=63) (ha:RD all) :
  ∀ (n:Nat) (P t:List aG) (out:List bT),all=P++t->t.length<n->out.length<=P.length -> ∃ G,aaN t G/\az (fF all) n (out,((P.length:Nat):Int))=some (.inl (out++G,((all.length:Nat):Int))):=by
 intro n
 induction n with
 | zero=>intro P t out _ h;omega
 | succ n ih =>
  intro P t out hall htn hout
  rw [az]
  match t,hall,htn with
  | [],hall,_ =>
   refine ⟨[],⟨⟨List.Pairwise.nil,fun x=>?_⟩,fun g hg=>by cases hg⟩,?_⟩
   ·constructor
    ·intro h;cases h
    ·rintro ⟨f,hf,_⟩;cases hf
   ·have e:fF all (out,((P.length:Nat):Int))=some (.exit (out,((P.length:Nat):Int))):=by
     unfold fF
     dsimp only
     rw [show decide (((P.length:Nat):Int)<((all.length:Nat):Int))=false from adL (by rw [hall];simp),adJ]
    rw [e,hall];simp
  | f0::t0,hall,htn =>
   obtain ⟨s,u,hsu,hs,hu⟩:=Kj f0.row (f0::t0)
   have hs0:s[0]?=some f0:=by
    cases s with
    | nil=>exact absurd rfl (hu f0 t0 (by rw [hsu];rfl))
    | cons y s'=>rw [List.cons_append] at hsu;injection hsu with h1 _;rw [h1];rfl
   have hsl:0<s.length:=(adI.1 hs0).1
   have hall2:all=P++s++u:=by rw [hall,hsu,ad_]
   have hlen:=congrArg List.length hall2
   simp only [adQ] at hlen
   have hu2:u.length+s.length=(f0::t0).length:=by rw [hsu];simp;omega
   have hrun:=run_end P s u f0.row f0 rfl (by rw [<- hall2];exact hrl) (by rw [<- hall2];exact hn) hs hs0 hu fuel 0 (ad4 _) (by unfold fuel;omega)
   rw [<- hall2,Nat.add_zero] at hrun
   have hr0:f0.row.length<=1000000:=hrl f0 (by rw [hall];simp)
   have hrs : ∀ f∈s,f.row.length<=1000000:=fun f hf=>hrl f (by rw [hall2];simp [hf])
   have hrows:=OT s f0.row hr0 hs (by omega)
   have hcnt:=Nz s f0.row hr0 hrs (by omega)

   have hgt : ∀ f∈u,cu f0.row f.row<0:=by
    intro f hf
    have h1:RD u:=by rw [hall2] at ha;exact (List.pairwise_append.1 ha).2.1
    have h2 : ∀ a∈P++s, ∀ b∈u,cu a.row b.row<=0:=by rw [hall2] at ha;exact (List.pairwise_append.1 ha).2.2
    have hf0s:f0∈P++s:=List.mem_append_right _ (adO hs0)
    cases u with
    | nil=>cases hf
    | cons y v =>
     have hy0:=h2 f0 hf0s y (by simp)
     have hyn:cu f0.row y.row≠0:=fun q=>hu y v rfl (tCr_.zero _ _ q).symm
     have hlt:cu f0.row y.row<0:=by omega
     rcases adZ.1 hf with rfl|hf
     ·exact hlt
     ·have hyf:=(aeC.1 h1).1 f hf
      rcases Int.lt_or_eq_of_le hyf with h|h
      ·exact tCr_.trans _ _ _ hlt h
      ·rw [<- tCr_.zero _ _ h];exact hlt
   have hne : ∀ f∈u,f.row≠f0.row:=fun f hf e=>by have:=hgt f hf;rw [e,tCr_.refl] at this;omega
   obtain ⟨o1,ho1⟩ : ∃ o1:List bT,o1=if s.any (fun f=>aM f.valid) then [⟨f0.row,zL (ones (dR s f0.row))⟩] else []:=⟨_,rfl⟩
   have ho1l:o1.length<=1:=by rw [ho1];split<;>simp
   obtain ⟨G,hG,hL⟩:=ih (P++s) u (out++o1) hall2 (by simp at htn;simp at hu2;omega) (by simp;omega)
   have hi0:all[P.length]?=some f0:=by
    rw [hall,adP (adY _),Nat.sub_self];rfl
   have e:fF all (out,((P.length:Nat):Int))=some (.next (out++o1,(((P++s).length:Nat):Int))):=by
    unfold fF
    dsimp only
    rw [aI hi0,adK,hrun,adH]
    show (jI all ((P.length:Nat):Int) (((P.length+s.length:Nat):Nat):Int)).bind _=_
    rw [show jI all ((P.length:Nat):Int) (((P.length+s.length:Nat):Nat):Int)=some s by rw [hall2];exact Yq P s u,adH,hrows,adH]
    by_cases hv:(s.any fun f=>aM f.valid)=true
    ·rw [if_pos hv] at ho1 ⊢
     rw [bJ (l:=[f0.row]) (fun r=>[(⟨r,zL (ones (dR s f0.row))⟩:bT)]) 2932031007402 ?_ ?_ (by unfold fuel;simp) out (by simp;omega)]
     ·rw [adH,ho1,adQ];rfl
     ·intro o i x hx ho
      have hi:=(adI.1 hx).1
      have hi1:i=0:=by simpa using hi
      subst hi1
      simp at hx;subst hx
      unfold iQ
      dsimp only
      rw [show decide (((0:Nat):Int)<((([f0.row]:List (List Val)).length:Nat):Int))=true from rfl,adK,show aA [f0.row] ((0:Nat):Int)=some f0.row from rfl,adH,hcnt,adH]
      rw [show decide (o.length+1<=2932031007402)=true from adM (by simpa using ho),adK,wrapN (by omega)]
     ·intro o
      unfold iQ
      dsimp only
      rw [lF_,adJ]
    ·rw [if_neg hv] at ho1 ⊢
     rw [bJ (l:=([]:List (List Val))) (fun r=>([]:List bT)) 2932031007402 ?_ ?_ (by unfold fuel;simp) out (by simp;omega)]
     ·rw [adH,ho1,adQ];simp [iV]
     ·intro o i x hx;simp at hx
     ·intro o
      unfold iQ
      dsimp only
      rw [lF_,adJ]
   refine ⟨o1++G,⟨⟨?_,fun x=>?_⟩,fun g hg=>?_⟩,?_⟩
   ·rw [adV]
    refine List.pairwise_append.2 ⟨by rw [ho1];split<;>simp,hG.1.1,fun a ha2 b hb=>?_⟩
    obtain ⟨f,hf,_,e⟩:=(hG.1.2 b).1 hb
    have:a=f0.row:=by rw [ho1] at ha2;split at ha2<;>simp at ha2;exact ha2
    rw [this, <- e];exact hgt f hf
   ·rw [adV,ad',hG.1.2 x,hsu]
    constructor
    ·rintro (h|⟨f,hf,h⟩)
     ·rw [ho1] at h
      split at h
      ·rename_i hv
       simp at h
       obtain ⟨f,hf,hv⟩:=List.any_eq_true.1 hv
       exact ⟨f,List.mem_append_left _ hf,hv,by rw [h];exact hs f hf⟩
      ·simp at h
     ·exact ⟨f,List.mem_append_right _ hf,h⟩
    ·rintro ⟨f,hf,hv,e⟩
     rcases ad'.1 hf with hf|hf
     ·left
      rw [ho1,if_pos (List.any_eq_true.2 ⟨f,hf,hv⟩)]
      simp [<- e,hs f hf]
     ·exact .inr ⟨f,hf,hv,e⟩
   ·rw [hsu,Ri]
    rcases ad'.1 hg with hg|hg
    ·have hgr:g=⟨f0.row,zL (ones (dR s f0.row))⟩:=by rw [ho1] at hg;split at hg<;>simp at hg;exact hg
     rw [hgr]
     rw [EB hne,aeg]
    ·have hgm:g.row∈G.map (·.row):=List.mem_map_of_mem hg
     obtain ⟨f,hf,_,e⟩:=(hG.1.2 g.row).1 hgm
     rw [EB (l:=s) (fun f' hf' q=>hne f hf (by rw [e, <- q];exact (hs f' hf'))),adN]
     exact hG.2 g hg
   ·rw [e]
    dsimp only
    rw [hL,ad_]
theorem U5 (l all:List aG) (h:all.Perm l) (r:List Val):bO (dR all r)=bO (bn l r):=by
 refine Rk ?_
 have e1:(dR all r).filter (fun p=>St.aH (toP p))=bn all r:=by
  unfold dR bn
  rw [List.filter_map,List.filter_filter]
  congr 1
 have e2:(bn l r).filter (fun p=>St.aH (toP p))=bn l r:=List.filter_eq_self.2 fun p hp=>EA l r p hp
 rw [e1,e2]
 unfold bn
 exact (h.filter _).map _
theorem O8 (l:List aG) (hn:l.length<=63) (hr : ∀ f∈l,f.row.length<=1000000) : ∃ R,eZ l R/\qL l=some (eQ l R)/\(eQ l R).length<=4800600:=by
 obtain ⟨all,e1,a1,p1⟩:=OW 639 l (by omega) (by omega) hr
 have hal:all.length=l.length:=p1.length_eq
 obtain ⟨G,hG,hL⟩:=UK all (fun f hf=>hr f (p1.mem_iff.1 hf)) (by omega) a1 fuel [] all [] rfl (by unfold fuel;omega) (adY _)
 have hgr:rZ l=some G:=by
  unfold rZ
  rw [e1,adH]
  have:az (fF all) fuel ([],(0:Int))=some (.inl ([]++G,((all.length:Nat):Int))):=hL
  rw [this,adH,adN];rfl
 have hR:eZ l (G.map (·.row)):=by
  refine ⟨hG.1.1,fun x=>(hG.1.2 x).trans ?_⟩
  constructor
  ·rintro ⟨f,hf,h⟩;exact ⟨f,p1.mem_iff.1 hf,h⟩
  ·rintro ⟨f,hf,h⟩;exact ⟨f,p1.mem_iff.2 hf,h⟩
 refine ⟨G.map (·.row),hR,?_⟩
 have hpl : ∀ r,(dR all r).length<=63:=fun r=>by
  have:(dR all r).length<=all.length:=by unfold dR;rw [adU];exact List.length_filter_le _ _
  omega
 have hlev : ∀ g∈G,PG g.steps=some (bO (bn l g.row)):=by
  intro g hg
  rw [hG.2 g hg, <- U5 l all p1]
  unfold PG
  rw [if_pos (Br _ (by have:=hpl g.row;omega))]
  rfl
 have hll : ∀ g∈G,(bO (bn l g.row)).length<=76200:=fun g hg=>by
  have h1:=J6 (bn l g.row)
  have h2:=Lh l g.row
  omega
 have hGl:G.length<=63:=by

  have h1 : ∀ (R:List (List Val)) (L:List (List Val)),R.Nodup->(∀ x∈R,x∈L)->R.length<=L.length:=by
   intro R
   induction R with
   | nil=>intro L _ _;simp
   | cons x R ih =>
    intro L hnd hm
    have hx:=hm x (by simp)
    have hnd2:=List.nodup_cons.1 hnd
    have h2:=ih (L.erase x) hnd2.2 fun y hy=>by
     have hne:y≠x:=fun e=>hnd2.1 (e▸hy)
     exact (List.mem_erase_of_ne hne).2 (hm y (ad7 _ hy))
    have h3:=List.length_erase_of_mem hx
    have h4:0<L.length:=List.length_pos_of_mem hx
    rw [ad5];omega
  have h2:(G.map (·.row)).Nodup:=by
   refine List.Pairwise.imp ?_ hR.1
   intro a b h e
   rw [e,tCr_.refl] at h;omega
  have h3:=h1 (G.map (·.row)) (l.map (·.row)) h2 fun x hx=>by
   obtain ⟨f,hf,_,e⟩:=(hR.2 x).1 hx
   exact aeh.2 ⟨f,hf,e⟩
  simp at h3
  omega
 have hfl : ∀ L:List bT,(∀ g∈L,(bO (bn l g.row)).length<=76200)->(L.flatMap fun g=>(bO (bn l g.row)).map fun p=>(⟨g.row,p⟩:aG)).length<=L.length*76200:=by
  intro L
  induction L with
  | nil=>intro _;simp
  | cons g L ih =>
   intro hL
   have h1:=ih fun x hx=>hL x (ad7 _ hx)
   have h2:=hL g (by simp)
   rw [aej,adQ,adU,ad5];omega
 have htot:=Nat.le_trans (hfl G hll) (aei 76200 hGl)
 refine ⟨?_,by unfold eQ;rw [List.flatMap_map];exact htot⟩
 unfold qL
 rw [hgr,adH]
 rw [bJ (l:=G) (fun g=>(bO (bn l g.row)).map fun p=>(⟨g.row,p⟩:aG)) 3518437208883 ?_ ?_ (by unfold fuel;omega) [] (by simp only [aec];omega)]
 ·rw [adH,adN]
  show some _=some _
  unfold eQ
  rw [List.flatMap_map]
 ·intro s i x hx hs
  have hi:=(adI.1 hx).1
  have hxm:=adO hx
  have h2:=hll x hxm
  unfold Cy
  dsimp only
  rw [aI hx,adK,gn_ hx]
  simp only [adH]
  rw [hlev x hxm,adH,RB x.row _ (by omega),adH]
  rw [show decide (s.length+((bO (bn l x.row)).map fun p=>(⟨x.row,p⟩:aG)).length<=3518437208883)=true from adM hs,adK,wrapN (by omega)]
 ·intro s
  unfold Cy
  dsimp only
  rw [lF_,adJ]
theorem Jz (p:aW) (t:Int):lq p t=some (aM p&&(decide (p.lo<=t)&&decide (t<p.hi))):=by
 unfold lq
 rw [kU,adH]
 cases aM p<;>cases decide (p.lo<=t)<;>rfl
theorem PW (l:List aG) (hn:l.length<=1000000000) (hr : ∀ f∈l,f.row.length<=1000000):xu l l=some true:=by
 unfold xu
 rw [show decide (((l.length:Nat):Int)≠((l.length:Nat):Int))=false from adL fun h=>h rfl,adJ]
 have loop : ∀ (n i:Nat),i<=l.length->l.length-i<n->az (jQ l l) n (i:Int)=some (.inl ((l.length:Nat):Int)):=by
  intro n
  induction n with
  | zero=>intro i _ h;omega
  | succ n ih =>
   intro i hi h
   rw [az]
   by_cases hlt:i<l.length
   ·obtain ⟨x,hx⟩:=gol_ hlt
    have hxr:=hr x (adO hx)
    have e:jQ l l (i:Int)=some (.next (((i+1:Nat):Nat):Int)):=by
     unfold jQ
     dsimp only
     rw [aI hx,adK,gn_ hx]
     simp only [adH]
     rw [show dw [.c (.int .i64 x.valid.lo), .c (.int .i64 x.valid.hi)] [.c (.int .i64 x.valid.lo), .c (.int .i64 x.valid.hi)]=true by simp [dw],mr x.row x.row (by omega) (by omega)]
     simp only [Bool.not_true,adJ,adH]
     rw [tCr_.refl,show decide ((0:Int)≠0)=false from rfl,adJ,wrapN (by omega)]
    rw [e]
    exact ih (i+1) (by omega) (by omega)
   ·have:i=l.length:=by omega
    subst this
    have e:jQ l l ((l.length:Nat):Int)=some (.exit ((l.length:Nat):Int)):=by
     unfold jQ
     dsimp only
     rw [lF_,adJ]
    rw [e]
 have:=loop fuel 0 (ad4 _) (by unfold fuel;omega)
 rw [show az (jQ l l) fuel (0:Int)=_ from this]
 rfl
def jr:Val:=⟨0,0,ByteArray.empty⟩
theorem mo:ma=some jr:=rfl
theorem bV:eX=some jr:=rfl
def vF (v:Val):Bool:=(dQ v).getD false
theorem jG (v:Val):dQ v=some (vF v):=by
 obtain ⟨r,hr⟩:=Iu v
 unfold vF
 rw [hr];rfl
theorem Al (v:Val):uF v=some (vF v):=(show uF v=dQ v from rfl).trans (jG v)
def Jk (v:Val):Val:=bif vF v then v else jr
theorem G9 (v:Val):yA v=some (Jk v):=by
 unfold yA Jk
 rw [Al,adH,mo]
 cases vF v<;>rfl
theorem Hr (v:Val):ui v=some (Jk v):=by
 unfold ui Jk
 rw [jG,adH,bV]
 cases vF v<;>rfl
theorem mX:vF jr=true:=by
 have e:(ByteArray.empty.toList==(⟨#[]⟩:ByteArray).toList)=true:=by rw [ByteArray.toList_eq,ByteArray.toList_eq];rfl
 unfold vF dQ jr
 dsimp only
 rw [e];rfl
theorem rG (v:Val):vF (Jk v)=true:=by
 unfold Jk
 cases h:vF v with
 | true=>exact h
 | false=>exact mX
def nu (b:Bool):Val:=bif b then ⟨3,1,ByteArray.empty⟩ else ⟨3,0,ByteArray.empty⟩
theorem J7 (b:Bool):wY b=some (nu b):=by cases b<;>rfl
theorem yX (b:Bool):vC b=some (nu b):=by cases b<;>rfl
theorem Fb (b:Bool):vF (nu b)=true:=by
 have e:(ByteArray.empty.toList==(⟨#[]⟩:ByteArray).toList)=true:=by rw [ByteArray.toList_eq,ByteArray.toList_eq];rfl
 unfold vF dQ nu
 cases b<;>(dsimp only [cond_true,cond_false];rw [e];rfl)
theorem mQ (n:Int):qi n=some (Jk ⟨1,n,ByteArray.empty⟩):=by unfold qi;rw [G9];rfl
theorem kH (n:Int):qo n=some (Jk ⟨1,n,ByteArray.empty⟩):=by unfold qo;rw [Hr];rfl
theorem Ur (s:ByteArray):C_ s=some (Jk ⟨2,0,s⟩):=by unfold C_;rw [G9];rfl
theorem VM (s:ByteArray):Hg s=some (Jk ⟨2,0,s⟩):=by unfold Hg;rw [Hr];rfl
def T3 (t:Int):Prop:=t=0\/t=1\/t=2
theorem Ae (v:Val) : ∃ t,lY v=some t/\ik v=some t/\T3 t:=by
 have e:lY v=ik v:=rfl
 have h : ∃ t,ik v=some t/\T3 t:=by
  unfold ik
  rw [yX,yX]
  simp only [adH]
  cases dw [.c (.int .i64 v.kind), .c (.int .i64 v.int), .c (.str v.text)] [.c (.int .i64 (nu true).kind), .c (.int .i64 (nu true).int), .c (.str (nu true).text)] with
  | true=>exact ⟨2,rfl, .inr (.inr rfl)⟩
  | false =>
   rw [adJ]
   cases dw [.c (.int .i64 v.kind), .c (.int .i64 v.int), .c (.str v.text)] [.c (.int .i64 (nu false).kind), .c (.int .i64 (nu false).int), .c (.str (nu false).text)] with
   | true=>exact ⟨0,rfl, .inl rfl⟩
   | false=>exact ⟨1,rfl, .inr (.inl rfl)⟩
 obtain ⟨t,h1,h2⟩:=h
 exact ⟨t,e.trans h1,h1,h2⟩
def tF_ (v:Val):Int:=(ik v).getD 1
theorem jF (v:Val):lY v=some (tF_ v):=by obtain ⟨t,h1,h2,_⟩:=Ae v;unfold tF_;rw [h1,h2];rfl
theorem pX (v:Val):ik v=some (tF_ v):=by obtain ⟨t,h1,h2,_⟩:=Ae v;unfold tF_;rw [h2];rfl
theorem jc (v:Val):T3 (tF_ v):=by obtain ⟨t,h1,h2,h3⟩:=Ae v;unfold tF_;rw [h2];exact h3
def Gw (a:Int):Int:=if a=2 then 0 else if a=0 then 2 else 1
def JS (a b:Int):Int:=if a=0\/b=0 then 0 else if a=2/\b=2 then 2 else 1
def YG (a b:Int):Int:=if a=2\/b=2 then 2 else if a=0/\b=0 then 0 else 1
theorem vO (a:Int):T3 (Gw a):=by unfold Gw;split;exact .inl rfl;split;exact .inr (.inr rfl);exact .inr (.inl rfl)
theorem M5 (a b:Int):T3 (JS a b):=by unfold JS;split;exact .inl rfl;split;exact .inr (.inr rfl);exact .inr (.inl rfl)
theorem RU (a b:Int):T3 (YG a b):=by unfold YG;split;exact .inr (.inr rfl);split;exact .inl rfl;exact .inr (.inl rfl)
theorem yH {a:Int} (h:T3 a):JJ a=some (Gw a):=by rcases h with rfl|rfl|rfl<;>rfl
theorem Cr {a:Int} (h:T3 a):Ic a=some (Gw a):=by rcases h with rfl|rfl|rfl<;>rfl
theorem FP {a:Int} (h:T3 a):qH a=some a:=by rcases h with rfl|rfl|rfl<;>rfl
theorem J_ {a b:Int} (ha:T3 a) (hb:T3 b):DR [a,b]=some (LB (LB 2 a) b):=by
 unfold DR
 rw [bW (l:=[a,b]) (mk:=fun t i=>(t,i)) (f:=fun t x=>(qH x).bind fun r=>some (.inl (LB t r))) ?_ ?_ (by unfold fuel;simp) 2]
 ·simp only [dh,FP ha,FP hb,adH]
  rfl
 ·intro s i x hx
  have hi:=(adI.1 hx).1
  unfold yu
  dsimp only
  rw [aI hx,adK,gn_ hx,wrapN (by simp at hi;omega)]
  simp only [adH]
  cases qH x<;>rfl
 ·intro s
  unfold yu
  dsimp only
  rw [lF_,adJ]
theorem Zm {a b:Int} (ha:T3 a) (hb:T3 b):QS a b=some (JS a b):=by
 unfold QS
 rw [J_ ha hb]
 rcases ha with rfl|rfl|rfl<;>rcases hb with rfl|rfl|rfl<;>rfl
theorem Yy {a b:Int} (ha:T3 a) (hb:T3 b):IE a b=some (JS a b):=by
 rcases ha with rfl|rfl|rfl<;>rcases hb with rfl|rfl|rfl<;>rfl
theorem abm {a b:Int} (ha:T3 a) (hb:T3 b):IM a b=some (YG a b):=by
 unfold IM
 rw [yH ha,yH hb]
 simp only [adH]
 rw [J_ (vO a) (vO b)]
 rcases ha with rfl|rfl|rfl<;>rcases hb with rfl|rfl|rfl<;>rfl
theorem Zp {a b:Int} (ha:T3 a) (hb:T3 b):QA a b=some (YG a b):=by
 rcases ha with rfl|rfl|rfl<;>rcases hb with rfl|rfl|rfl<;>rfl
def Bo (t:Int):Val:=if t=2 then nu true else if t=0 then nu false else jr
theorem kz {t:Int} (h:T3 t):Cf t=some (Bo t):=by rcases h with rfl|rfl|rfl<;>rfl
theorem qI {t:Int} (h:T3 t):ER t=some (Bo t):=by rcases h with rfl|rfl|rfl<;>rfl
theorem uM (t:Int):vF (Bo t)=true:=by
 unfold Bo
 split
 ·exact Fb _
 ·split
  ·exact Fb _
  ·exact mX
def Rb (a b:Val) (is:Bool):Int:=if a.kind=0\/a.kind≠b.kind then 1 else bif is then 2 else 0
theorem Tn (a b:Val) (is:Bool):T3 (Rb a b is):=by
 unfold Rb
 split
 ·exact .inr (.inl rfl)
 ·cases is
  ·exact .inl rfl
  ·exact .inr (.inr rfl)
theorem Bh (a b:Val) (is:Bool):uU a b is=some (Rb a b is):=by
 unfold uU Rb
 by_cases h1:a.kind=0
 ·simp [h1]
 ·by_cases h2:a.kind=b.kind
  ·have hb : ¬ b.kind=0:=by rw [<- h2];exact h1
   simp only [h2,adL hb,adJ,ne_eq,not_true_eq_false,decide_false,or_false]
   rw [if_neg hb]
   cases is<;>rfl
  ·simp only [adL h1,adJ,ne_eq,h2,not_false_eq_true,decide_true,adK,or_true,if_true]
theorem FR (a b:Val) (is:Bool):ym a b is=some (Rb a b is):=(show ym a b is=uU a b is from rfl).trans (Bh a b is)
def eqF (a b:Val):Int:=Rb a b (decide (xI a b=0))
def ltF (a b:Val):Int:=Rb a b (decide (xI a b<0))
theorem ZT (a b:Val):U9 a b=some (eqF a b):=by unfold U9;rw [Cv,adH,Bh];rfl
theorem Zl (a b:Val):Uh a b=some (eqF a b):=by unfold Uh;rw [Gz,adH,FR];rfl
theorem Um (a b:Val):wR a b=some (ltF a b):=by unfold wR;rw [Cv,adH,Bh];rfl
theorem Uj (a b:Val):wL a b=some (ltF a b):=by unfold wL;rw [Gz,adH,FR];rfl
def um (op:Int) (a b:Val):Int:=if op=7 then eqF a b else if op=8 then Gw (eqF a b) else if op=9 then ltF a b else if op=11 then ltF b a else if op=10 then Gw (ltF b a) else Gw (ltF a b)
theorem Rt (a b:Val):T3 (eqF a b):=Tn _ _ _
theorem Ea (a b:Val):T3 (ltF a b):=Tn _ _ _
theorem jB (op:Int) (a b:Val):T3 (um op a b):=by
 unfold um
 split
 ·exact Rt _ _
 split
 ·exact vO _
 split
 ·exact Ea _ _
 split
 ·exact Ea _ _
 split
 ·exact vO _
 ·exact vO _
theorem fZ (op:Int) (a b:Val):mG op a b=some (um op a b):=by
 unfold mG um
 simp only [ZT,Um,adH,yH (Rt a b),yH (Ea a b),yH (Ea b a)]
 by_cases h1:op=7
 ·simp [h1]
 by_cases h2:op=8
 ·simp [h2]
 by_cases h3:op=9
 ·simp [h3]
 by_cases h4:op=11
 ·simp [h4]
 by_cases h5:op=10
 ·simp [h5]
 simp [h1,h2,h3,h4,h5]
theorem iT (op:Int) (a b:Val):g_ op a b=some (um op a b):=by
 unfold g_ um
 simp only [Zl,Uj,adH,Cr (Rt a b),Cr (Ea a b),Cr (Ea b a)]
 by_cases h1:op=7
 ·simp [h1]
 by_cases h2:op=8
 ·simp [h2]
 by_cases h3:op=9
 ·simp [h3]
 by_cases h4:op=11
 ·simp [h4]
 by_cases h5:op=10
 ·simp [h5]
 simp [h1,h2,h3,h4,h5]
def dM (p q:aW):Int :=
 if p.hi<q.lo then 0 else if p.hi=q.lo then 1 else if q.hi<p.lo then 12 else if q.hi=p.lo then 11 else if p.lo=q.lo/\p.hi=q.hi then 6
 else if p.lo=q.lo then (if p.hi<q.hi then 3 else 9) else if p.hi=q.hi then (if q.lo<p.lo then 5 else 7)
 else if p.lo<q.lo/\q.hi<p.hi then 8 else if q.lo<p.lo/\p.hi<q.hi then 4 else if p.lo<q.lo then 2 else 10
theorem dI (p q:aW):dw [.c (.int .i64 p.lo), .c (.int .i64 p.hi)] [.c (.int .i64 q.lo), .c (.int .i64 q.hi)]=decide (p.lo=q.lo/\p.hi=q.hi):=by
 simp [dw]
theorem Tp (p q:aW):Ug p q=some (if aM p=true/\aM q=true then (dM p q,true) else (0,false)):=by
 unfold Ug
 rw [IY,IY]
 simp only [adH]
 cases hp:aM p with
 | false=>simp
 | true =>
  cases hq:aM q with
  | false=>simp
  | true =>
   simp only [Bool.not_true,adJ,and_self,if_true,dI]
   unfold dM
   by_cases h1:p.hi<q.lo
   ·simp only [Bool.cond_decide,eq_true h1,if_true,if_false,and_true,true_and,and_false,false_and,and_self]
   by_cases h2:p.hi=q.lo
   ·simp only [Bool.cond_decide,eq_true h2,eq_false h1,if_true,if_false,and_true,true_and,and_false,false_and,and_self]
   by_cases h3:q.hi<p.lo
   ·simp only [Bool.cond_decide,eq_true h3,eq_false h1,eq_false h2,if_true,if_false,and_true,true_and,and_false,false_and,and_self]
   by_cases h4:q.hi=p.lo
   ·simp only [Bool.cond_decide,eq_true h4,eq_false h1,eq_false h2,eq_false h3,if_true,if_false,and_true,true_and,and_false,false_and,and_self]
   by_cases h5:p.lo=q.lo
   ·by_cases h6:p.hi=q.hi
    ·simp only [Bool.cond_decide,eq_true h5,eq_true h6,eq_false h1,eq_false h2,eq_false h3,eq_false h4,if_true,if_false,and_true,true_and,and_false,false_and,and_self]
    ·by_cases h7:p.hi<q.hi
     ·simp only [Bool.cond_decide,eq_true h5,eq_true h7,eq_false h1,eq_false h2,eq_false h3,eq_false h4,eq_false h6,if_true,if_false,and_true,true_and,and_false,false_and,and_self]
     ·simp only [Bool.cond_decide,eq_true h5,eq_false h1,eq_false h2,eq_false h3,eq_false h4,eq_false h6,eq_false h7,if_true,if_false,and_true,true_and,and_false,false_and,and_self]
   ·by_cases h6:p.hi=q.hi
    ·by_cases h7:q.lo<p.lo
     ·simp only [Bool.cond_decide,eq_true h6,eq_true h7,eq_false h1,eq_false h2,eq_false h3,eq_false h4,eq_false h5,if_true,if_false,and_true,true_and,and_false,false_and,and_self]
     ·simp only [Bool.cond_decide,eq_true h6,eq_false h1,eq_false h2,eq_false h3,eq_false h4,eq_false h5,eq_false h7,if_true,if_false,and_true,true_and,and_false,false_and,and_self]
    ·by_cases h7:p.lo<q.lo
     ·by_cases h8:q.hi<p.hi
      ·simp only [Bool.cond_decide,eq_true h7,eq_true h8,eq_false h1,eq_false h2,eq_false h3,eq_false h4,eq_false h5,eq_false h6,if_true,if_false,and_true,true_and,and_false,false_and,and_self]
      ·by_cases h9:q.lo<p.lo
       ·omega
       ·simp only [Bool.cond_decide,eq_true h7,eq_false h1,eq_false h2,eq_false h3,eq_false h4,eq_false h5,eq_false h6,eq_false h8,eq_false h9,if_true,if_false,and_true,true_and,and_false,false_and,and_self]
     ·by_cases h8:q.lo<p.lo
      ·by_cases h9:p.hi<q.hi
       ·simp only [Bool.cond_decide,eq_true h8,eq_true h9,eq_false h1,eq_false h2,eq_false h3,eq_false h4,eq_false h5,eq_false h6,eq_false h7,if_true,if_false,and_true,true_and,and_false,false_and,and_self]
       ·simp only [Bool.cond_decide,eq_true h8,eq_false h1,eq_false h2,eq_false h3,eq_false h4,eq_false h5,eq_false h6,eq_false h7,eq_false h9,if_true,if_false,and_true,true_and,and_false,false_and,and_self]
      ·omega
theorem kT {p:aW} (h:aM p=true):0<=p.lo/\p.lo<p.hi/\p.hi<=1099511627776:=by
 unfold aM at h
 simp only [ad1,decide_eq_true_eq] at h
 omega
theorem WM {p q:aW} (hp:0<=p.lo/\p.lo<p.hi) (hq:0<=q.lo/\q.lo<q.hi):dM p q=0↔p.hi<q.lo:=by
 unfold dM
 repeat' split
 all_goals (constructor<;>intro h<;>omega)
theorem aa_ (p q:aW):jv 0 p q=some (decide (p.hi<q.lo)):=by
 unfold jv
 simp only [Int.reduceEq,decide_false,decide_true,adK,adJ,dI]<;>rfl
theorem WH {p q:aW} (hp:0<=p.lo/\p.lo<p.hi) (hq:0<=q.lo/\q.lo<q.hi):dM p q=1↔p.hi=q.lo:=by
 unfold dM
 repeat' split
 all_goals (constructor<;>intro h<;>omega)
theorem aaW (p q:aW):jv 1 p q=some (decide (p.hi=q.lo)):=by
 unfold jv
 simp only [Int.reduceEq,decide_false,decide_true,adK,adJ,dI]<;>rfl
theorem Xy {p q:aW} (hp:0<=p.lo/\p.lo<p.hi) (hq:0<=q.lo/\q.lo<q.hi):dM p q=2↔p.lo<q.lo/\q.lo<p.hi/\p.hi<q.hi:=by
 unfold dM
 repeat' split
 all_goals (constructor<;>intro h<;>omega)
theorem aaw (p q:aW):jv 2 p q=some (decide (p.lo<q.lo/\q.lo<p.hi/\p.hi<q.hi)):=by
 unfold jv
 simp only [Int.reduceEq,decide_false,decide_true,adK,adJ,dI]
 by_cases h0:p.lo<q.lo<;>by_cases h1:q.lo<p.hi<;>simp [h0,h1]
theorem WE {p q:aW} (hp:0<=p.lo/\p.lo<p.hi) (hq:0<=q.lo/\q.lo<q.hi):dM p q=3↔p.lo=q.lo/\p.hi<q.hi:=by
 unfold dM
 repeat' split
 all_goals (constructor<;>intro h<;>omega)
theorem abx (p q:aW):jv 3 p q=some (decide (p.lo=q.lo/\p.hi<q.hi)):=by
 unfold jv
 simp only [Int.reduceEq,decide_false,decide_true,adK,adJ,dI]
 by_cases h0:p.lo=q.lo<;>simp [h0]
theorem XL {p q:aW} (hp:0<=p.lo/\p.lo<p.hi) (hq:0<=q.lo/\q.lo<q.hi):dM p q=4↔q.lo<p.lo/\p.hi<q.hi:=by
 unfold dM
 repeat' split
 all_goals (constructor<;>intro h<;>omega)
theorem aaS (p q:aW):jv 4 p q=some (decide (q.lo<p.lo/\p.hi<q.hi)):=by
 unfold jv
 simp only [Int.reduceEq,decide_false,decide_true,adK,adJ,dI]
 by_cases h0:q.lo<p.lo<;>simp [h0]
theorem XE {p q:aW} (hp:0<=p.lo/\p.lo<p.hi) (hq:0<=q.lo/\q.lo<q.hi):dM p q=5↔p.hi=q.hi/\q.lo<p.lo:=by
 unfold dM
 repeat' split
 all_goals (constructor<;>intro h<;>omega)
theorem aaF (p q:aW):jv 5 p q=some (decide (p.hi=q.hi/\q.lo<p.lo)):=by
 unfold jv
 simp only [Int.reduceEq,decide_false,decide_true,adK,adJ,dI]
 by_cases h0:p.hi=q.hi<;>simp [h0]
theorem Wv {p q:aW} (hp:0<=p.lo/\p.lo<p.hi) (hq:0<=q.lo/\q.lo<q.hi):dM p q=6↔p.lo=q.lo/\p.hi=q.hi:=by
 unfold dM
 repeat' split
 all_goals (constructor<;>intro h<;>omega)
theorem abw (p q:aW):jv 6 p q=some (decide (p.lo=q.lo/\p.hi=q.hi)):=by
 unfold jv
 simp only [Int.reduceEq,decide_false,decide_true,adK,adJ,dI]<;>rfl
theorem V4 {p q:aW} (hp:0<=p.lo/\p.lo<p.hi) (hq:0<=q.lo/\q.lo<q.hi):dM p q=7↔p.hi=q.hi/\p.lo<q.lo:=by
 unfold dM
 repeat' split
 all_goals (constructor<;>intro h<;>omega)
theorem aa8 (p q:aW):jv 7 p q=some (decide (p.hi=q.hi/\p.lo<q.lo)):=by
 unfold jv
 simp only [Int.reduceEq,decide_false,decide_true,adK,adJ,dI]
 by_cases h0:p.hi=q.hi<;>simp [h0]
theorem XG {p q:aW} (hp:0<=p.lo/\p.lo<p.hi) (hq:0<=q.lo/\q.lo<q.hi):dM p q=8↔p.lo<q.lo/\q.hi<p.hi:=by
 unfold dM
 repeat' split
 all_goals (constructor<;>intro h<;>omega)
theorem aaL (p q:aW):jv 8 p q=some (decide (p.lo<q.lo/\q.hi<p.hi)):=by
 unfold jv
 simp only [Int.reduceEq,decide_false,decide_true,adK,adJ,dI]
 by_cases h0:p.lo<q.lo<;>simp [h0]
theorem V5 {p q:aW} (hp:0<=p.lo/\p.lo<p.hi) (hq:0<=q.lo/\q.lo<q.hi):dM p q=9↔p.lo=q.lo/\q.hi<p.hi:=by
 unfold dM
 repeat' split
 all_goals (constructor<;>intro h<;>omega)
theorem aaY (p q:aW):jv 9 p q=some (decide (p.lo=q.lo/\q.hi<p.hi)):=by
 unfold jv
 simp only [Int.reduceEq,decide_false,decide_true,adK,adJ,dI]
 by_cases h0:p.lo=q.lo<;>simp [h0]
theorem Uk {p q:aW} (hp:0<=p.lo/\p.lo<p.hi) (hq:0<=q.lo/\q.lo<q.hi):dM p q=10↔q.lo<p.lo/\p.lo<q.hi/\q.hi<p.hi:=by
 unfold dM
 repeat' split
 all_goals (constructor<;>intro h<;>omega)
theorem Zz (p q:aW):jv 10 p q=some (decide (q.lo<p.lo/\p.lo<q.hi/\q.hi<p.hi)):=by
 unfold jv
 simp only [Int.reduceEq,decide_false,decide_true,adK,adJ,dI]
 by_cases h0:q.lo<p.lo<;>by_cases h1:p.lo<q.hi<;>simp [h0,h1]
theorem Vj {p q:aW} (hp:0<=p.lo/\p.lo<p.hi) (hq:0<=q.lo/\q.lo<q.hi):dM p q=11↔q.hi=p.lo:=by
 unfold dM
 repeat' split
 all_goals (constructor<;>intro h<;>omega)
theorem ZV (p q:aW):jv 11 p q=some (decide (q.hi=p.lo)):=by
 unfold jv
 simp only [Int.reduceEq,decide_false,decide_true,adK,adJ,dI]<;>rfl
theorem UA {p q:aW} (hp:0<=p.lo/\p.lo<p.hi) (hq:0<=q.lo/\q.lo<q.hi):dM p q=12↔q.hi<p.lo:=by
 unfold dM
 repeat' split
 all_goals (constructor<;>intro h<;>omega)
theorem Zq (p q:aW):jv 12 p q=some (decide (q.hi<p.lo)):=by
 unfold jv
 simp only [Int.reduceEq,decide_false,decide_true,adK,adJ,dI]<;>rfl
theorem pG (p q:aW):0<=dM p q/\dM p q<13:=by
 unfold dM
 repeat' split
 all_goals omega
theorem XU {rel:Int} (h : ¬ (0<=rel/\rel<13)) (p q:aW):jv rel p q=some false:=by
 unfold jv
 rw [adL (show ¬ rel=0 by omega),adJ]
 rw [adL (show ¬ rel=1 by omega),adJ]
 rw [adL (show ¬ rel=2 by omega),adJ]
 rw [adL (show ¬ rel=3 by omega),adJ]
 rw [adL (show ¬ rel=4 by omega),adJ]
 rw [adL (show ¬ rel=5 by omega),adJ]
 rw [adL (show ¬ rel=6 by omega),adJ]
 rw [adL (show ¬ rel=7 by omega),adJ]
 rw [adL (show ¬ rel=8 by omega),adJ]
 rw [adL (show ¬ rel=9 by omega),adJ]
 rw [adL (show ¬ rel=10 by omega),adJ]
 rw [adL (show ¬ rel=11 by omega),adJ]
 rw [adL (show ¬ rel=12 by omega),adJ]
theorem WC {p q:aW} (hp:aM p=true) (hq:aM q=true) (rel:Int):jv rel p q=some (decide (dM p q=rel)):=by
 obtain ⟨p1,p2,p3⟩:=kT hp
 obtain ⟨q1,q2,q3⟩:=kT hq
 by_cases hr:0<=rel/\rel<13
 ·have:rel=0\/rel=1\/rel=2\/rel=3\/rel=4\/rel=5\/rel=6\/rel=7\/rel=8\/rel=9\/rel=10\/rel=11\/rel=12:=by omega
  rcases this with rfl|rfl|rfl|rfl|rfl|rfl|rfl|rfl|rfl|rfl|rfl|rfl|rfl
  ·rw [aa_];congr 1;rw [decide_eq_decide,WM ⟨p1,p2⟩ ⟨q1,q2⟩]
  ·rw [aaW];congr 1;rw [decide_eq_decide,WH ⟨p1,p2⟩ ⟨q1,q2⟩]
  ·rw [aaw];congr 1;rw [decide_eq_decide,Xy ⟨p1,p2⟩ ⟨q1,q2⟩]
  ·rw [abx];congr 1;rw [decide_eq_decide,WE ⟨p1,p2⟩ ⟨q1,q2⟩]
  ·rw [aaS];congr 1;rw [decide_eq_decide,XL ⟨p1,p2⟩ ⟨q1,q2⟩]
  ·rw [aaF];congr 1;rw [decide_eq_decide,XE ⟨p1,p2⟩ ⟨q1,q2⟩]
  ·rw [abw];congr 1;rw [decide_eq_decide,Wv ⟨p1,p2⟩ ⟨q1,q2⟩]
  ·rw [aa8];congr 1;rw [decide_eq_decide,V4 ⟨p1,p2⟩ ⟨q1,q2⟩]
  ·rw [aaL];congr 1;rw [decide_eq_decide,XG ⟨p1,p2⟩ ⟨q1,q2⟩]
  ·rw [aaY];congr 1;rw [decide_eq_decide,V5 ⟨p1,p2⟩ ⟨q1,q2⟩]
  ·rw [Zz];congr 1;rw [decide_eq_decide,Uk ⟨p1,p2⟩ ⟨q1,q2⟩]
  ·rw [ZV];congr 1;rw [decide_eq_decide,Vj ⟨p1,p2⟩ ⟨q1,q2⟩]
  ·rw [Zq];congr 1;rw [decide_eq_decide,UA ⟨p1,p2⟩ ⟨q1,q2⟩]
 ·rw [XU hr,adL]
  have:=pG p q
  omega
theorem AL (rel:Int) (p q:aW):y_ rel p q=some (aM p&&(aM q&&decide (dM p q=rel))):=by
 unfold y_
 rw [kU,kU]
 simp only [adH]
 cases hp:aM p with
 | false=>rfl
 | true =>
  cases hq:aM q with
  | false=>rfl
  | true=>rw [WC hp hq];rfl
theorem Qn (p q:aW) (h:aM p=true/\aM q=true) : ∀ (n i:Nat),(i:Int)<=dM p q->13-i<n->az (ug p q) n (i:Int)=some (.inr (dM p q,true))
 | 0,i,_,h2=>by omega
 | n+1,i,h1,h2=>by
  have hr:=pG p q
  rw [az]
  unfold ug
  dsimp only
  rw [adM (show (i:Int)<13 by omega),adK,AL,adH,h.1,h.2,wrapN (by omega)]
  by_cases e:dM p q=i
  ·rw [e];simp
  ·simp only [aef,adL e,adJ]
   exact Qn p q h n (i+1) (by omega) (by omega)
theorem O7 (p q:aW) (h : ¬ (aM p=true/\aM q=true)) : ∀ (n i:Nat),i<=13->13-i<n->az (ug p q) n (i:Int)=some (.inl ((13:Nat):Int))
 | 0,i,_,h2=>by omega
 | n+1,i,h1,h2=>by
  rw [az]
  unfold ug
  dsimp only
  by_cases hi:i=13
  ·subst hi;rfl
  ·rw [adM (show (i:Int)<13 by omega),adK,AL,adH,wrapN (by omega)]
   have:(aM p&&(aM q&&decide (dM p q=i)))=false:=by
    cases hp:aM p<;>cases hq:aM q<;>simp_all
   rw [this,adJ]
   exact O7 p q h n (i+1) (by omega) (by omega)
theorem Ws (p q:aW):Ou p q=some (if aM p=true/\aM q=true then (dM p q,true) else (0,false)):=by
 unfold Ou
 by_cases h:aM p=true/\aM q=true
 ·have:=Qn p q h fuel 0 (pG p q).1 (by unfold fuel;omega)
  rw [show ((0:Nat):Int)=0 from rfl] at this
  rw [this,if_pos h];rfl
 ·have:=O7 p q h fuel 0 (by omega) (by unfold fuel;omega)
  rw [show ((0:Nat):Int)=0 from rfl] at this
  rw [this,if_neg h];rfl
def wF (row:List Val) (i:Int):Val:=if 0<=i then (row[i.toNat]?).getD jr else jr
theorem Yz (row:List Val) (i:Int):gAt row i=some (wF row i):=by
 unfold gAt wF
 by_cases h1:i<0
 ·rw [adM h1,adK,if_neg (by omega)];rfl
 ·rw [adL h1,adJ,if_pos (by omega)]
  by_cases h2:((row.length:Nat):Int)<=i
  ·rw [adM h2,adK,aeu (by omega)];rfl
  ·rw [adL h2,adJ]
   obtain ⟨x,hx⟩:=gol_ (show i.toNat<row.length by omega)
   unfold aA
   rw [if_pos (by omega),hx];rfl
theorem Z9 (row:List Val) (i:Int):Rs row i=some (wF row i):=(show Rs row i=gAt row i from rfl).trans (Yz row i)
theorem Uy (row:List Val) (i:Int):Ot row [i]=some [wF row i]:=by
 unfold Ot
 simp only [ad5,aec]
 rw [show decide ((0:Int)<=(((0+1:Nat)):Int))=true from rfl,show decide ((32:Int)*(((0+1:Nat)):Int)<=281474976710656)=true from rfl,show decide ((((0+1:Nat)):Int)<=9223372036854775807)=true from rfl]
 simp only [adK]
 rw [bW (l:=[i]) (mk:=fun t i=>(t,i)) (f:=push (wF row) 4398046511104) ?_ ?_ (by unfold fuel;simp) []]
 ·rw [KW _ _ _ _ (by simp)];rfl
 ·intro s j x hx
  have hi:=(adI.1 hx).1
  unfold BN push
  dsimp only
  rw [aI hx,adK,gn_ hx]
  simp only [adH]
  rw [Yz,adH,wrapN (by simp at hi;omega)]
  cases decide (s.length+1<=4398046511104)<;>rfl
 ·intro s
  unfold BN
  dsimp only
  rw [lF_,adJ]
theorem Rx (row:List Val) (i:Int):Ci row i=some (Jk (wF row i)):=by
 unfold Ci
 rw [Uy,adH,show aA [wF row i] (0:Int)=some (wF row i) from rfl,adH,Al,adH,mo]
 unfold Jk
 cases vF (wF row i)<;>rfl
theorem KI (e:Ex) (row:List Val) (h:e.op=2):Eg e row=some (Jk (wF row e.int)):=by
 unfold Eg
 rw [h,show decide ((2:Int)=2)=true from rfl,adK,Z9,adH,jG,adH,bV]
 unfold Jk
 cases vF (wF row e.int)<;>rfl
theorem Er (e:Ex) (row:List Val) (h:e.op=1) (hv:vF e.v=true):Eg e row=some e.v:=by
 unfold Eg
 rw [h,show decide ((1:Int)=2)=false from rfl,adJ,jG,adH,hv]
 rfl
def fM (l:List Val) (k:Int):Bool:=l.all fun v=>decide (v.kind=k)
theorem nD (l:List Val) (k:Int) (hl:l.length<=1000000):P6 l k=some (fM l k):=by
 unfold P6
 rw [bW (l:=l) (mk:=fun (_:Unit) i=>i) (f:=fun _ v=>some (if v.kind≠k then .inr false else .inl ())) ?_ ?_ (by unfold fuel;omega) ()]
 ·have : ∀ l:List Val,dh (ρ:=Bool) (fun (_:Unit) (v:Val)=>some (if v.kind≠k then .inr false else .inl ())) () l=some (if fM l k=true then .inl () else .inr false):=by
   intro l
   induction l with
   | nil=>rfl
   | cons v l ih =>
    rw [dh]
    by_cases h:v.kind=k
    ·simp only [ne_eq,h,not_true_eq_false,if_false]
     rw [ih];simp [fM,h]
    ·simp [fM,h]
  rw [this]
  cases fM l k<;>rfl
 ·intro s i x hx
  have hi:=(adI.1 hx).1
  unfold Fy
  dsimp only
  rw [aI hx,adK,gn_ hx,wrapN (by omega)]
  simp only [adH]
  by_cases h:x.kind=k
  ·simp [h,tF]
  ·simp [h,tF]
 ·intro s
  unfold Fy
  dsimp only
  rw [lF_,adJ]
def Co (f:Int->Int->Int) (l:List Val) (t:Int):Int:=l.foldl (fun t v=>f t (tF_ v)) t
theorem EZ {f:Int->Int->Int} (hf : ∀ a b,T3 (f a b)) : ∀ (l:List Val) (t:Int),T3 t->T3 (Co f l t)
 | [],t,h=>h
 | v::l,t,h=>EZ hf l _ (hf _ _)
theorem Cz {f:Int->Int->Int} (hf : ∀ a b,T3 (f a b)) {g:Int->Int->Option Int} (hg : ∀ a b,T3 a->T3 b->g a b=some (f a b)) : ∀ (l:List Val) (t:Int),T3 t->dh (ρ:=Val) (fun t v=>(g t (tF_ v)).bind fun r=>some (.inl r)) t l=some (.inl (Co f l t))
 | [],t,h=>rfl
 | v::l,t,h=>by
  rw [dh,hg _ _ h (jc v)]
  exact Cz hf hg l _ (hf _ _)
theorem QU (x:Val) (l:List Val) (hl:l.length<=1000000):o9 5 (x::l)=some (Bo (Co JS l (tF_ x))):=by
 unfold o9
 rw [show aA (x::l) (0:Int)=some x from rfl,adH,jF,adH,show decide ((5:Int)=4)=false from rfl,adJ,show decide ((5:Int)=5)=true from rfl,adK]
 rw [show jI (x::l) (1:Int) (((x::l).length:Nat):Int)=some l by unfold jI;rw [if_pos (by simp only [ad5];omega)];simp,adH]
 rw [bW (l:=l) (mk:=fun t i=>(t,i)) (f:=fun t v=>(QS t (tF_ v)).bind fun r=>some (.inl r)) ?_ ?_ (by unfold fuel;omega) (tF_ x)]
 ·rw [Cz M5 (fun a b ha hb=>Zm ha hb) l _ (jc x)]
  show (Cf (Co JS l (tF_ x))).bind _=_
  rw [kz (EZ M5 l _ (jc x))];rfl
 ·intro s i v hv
  have hi:=(adI.1 hv).1
  unfold yI
  dsimp only
  rw [aI hv,adK,gn_ hv,wrapN (by omega)]
  simp only [adH]
  rw [jF,adH]
  cases QS s (tF_ v)<;>rfl
 ·intro s
  unfold yI
  dsimp only
  rw [lF_,adJ]
theorem Vb (x:Val) (l:List Val) (hl:l.length<=1000000):o9 6 (x::l)=some (Bo (Co YG l (tF_ x))):=by
 unfold o9
 rw [show aA (x::l) (0:Int)=some x from rfl,adH,jF,adH,show decide ((6:Int)=4)=false from rfl,adJ,show decide ((6:Int)=5)=false from rfl,adJ]
 rw [show jI (x::l) (1:Int) (((x::l).length:Nat):Int)=some l by unfold jI;rw [if_pos (by simp only [ad5];omega)];simp,adH]
 rw [bW (l:=l) (mk:=fun t i=>(t,i)) (f:=fun t v=>(IM t (tF_ v)).bind fun r=>some (.inl r)) ?_ ?_ (by unfold fuel;omega) (tF_ x)]
 ·rw [Cz RU (fun a b ha hb=>abm ha hb) l _ (jc x)]
  show (Cf (Co YG l (tF_ x))).bind _=_
  rw [kz (EZ RU l _ (jc x))];rfl
 ·intro s i v hv
  have hi:=(adI.1 hv).1
  unfold yV
  dsimp only
  rw [aI hv,adK,gn_ hv,wrapN (by omega)]
  simp only [adH]
  rw [jF,adH]
  cases IM s (tF_ v)<;>rfl
 ·intro s
  unfold yV
  dsimp only
  rw [lF_,adJ]
theorem QG (x:Val):o9 4 [x]=some (Bo (Gw (tF_ x))):=by
 unfold o9
 rw [show aA [x] (0:Int)=some x from rfl,adH,jF,adH,show decide ((4:Int)=4)=true from rfl,adK,yH (jc x),adH,kz (vO _)];rfl
theorem Ib (op:Int) (f:Int->Int->Int) (hf : ∀ a b,T3 (f a b)) (hop : ∀ a b,T3 a->T3 b->(bif decide (op=5) then IE a b else QA a b)=some (f a b)) (x:Val) (l:List Val) (hl:l.length<=1000000):yC op (x::l)=some (Bo (Co f l (tF_ x))):=by
 unfold yC
 rw [show aA (x::l) (0:Int)=some x from rfl,adH,pX,adH]
 have:=MQ (l:=x::l) (body:=pU op (x::l)) (ρ:=Val) (mk:=fun t i=>(t,i)) (f:=fun t v=>(bif decide (op=5) then IE t (tF_ v) else QA t (tF_ v)).bind fun r=>some (.inl r)) (by
  intro s i v hv
  have hi:=(adI.1 hv).1
  unfold pU
  dsimp only
  rw [aI hv,adK,gn_ hv,wrapN (by simp at hi;omega)]
  simp only [adH,pX]
  cases decide (op=5)
  ·simp only [adJ];cases QA s (tF_ v)<;>rfl
  ·simp only [adK];cases IE s (tF_ v)<;>rfl) (by
  intro s
  unfold pU
  dsimp only
  rw [lF_,adJ]) fuel 1 (tF_ x) (by simp) (by unfold fuel;simp;omega)
 rw [show ((1:Nat):Int)=1 from rfl] at this
 rw [this]
 have h2:=Cz hf hop l (tF_ x) (jc x)
 rw [show (x::l).drop 1=l from rfl,h2]
 show (ER (Co f l (tF_ x))).bind _=_
 rw [qI (EZ hf l _ (jc x))];rfl
end Go.Proofs.YtfccopdbgfdcdaaGreatDoor
