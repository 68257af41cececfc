/- Parts. No condition. -/
import Derived.Test.YtdkmoemdipgikaaGreatDoorKBJ
set_option maxHeartbeats 8000000
set_option maxRecDepth 100000
set_option linter.unusedSimpArgs false
set_option linter.unusedVariables false
namespace Go.Proofs.YtdkmoemdipgikaaGreatDoor
open Go.RowKit Go.MapKept
theorem DN (r:List Val):∀ l:List aw,∃ s t,l=s++t/\(∀ f∈s,f.row=r)/\(∀ f u,t=f::u->f.row≠r)
 |[]=>⟨[],[],rfl,(fun _ h=>by cases h),(fun _ _ h=>by cases h)⟩
 |f::l=>by
  by_cases e:f.row=r
  ·obtain⟨s,t,h1,h2,h3⟩:=DN r l
   refine⟨f::s,t,by rw[h1];rfl,fun g hg=>?_,h3⟩;rcases amN.1 hg with rfl|hg
   ·exact e
   ·exact h2 g hg
  ·exact⟨[],f::l,rfl,(fun _ h=>by cases h),(fun g u h=>by injection h with h1 h2;subst h1;exact e)⟩
theorem adm {α:Type}(P s t:List α):fM (P++s++t) ((P.length:Nat):Int) (((P.length+s.length:Nat):Nat):Int)=some s:=by
 unfold fM;rw[if_pos m8,Int.toNat_natCast,Int.toNat_natCast];congr 1;have e:(P++s++t).take (P.length+s.length)=P++s:=by
  rw[List.take_append_of_le_length m5];rw[am_ m5]
 rw[e,List.drop_left]
theorem LI (s t:List aw)(r:List Val):bX (s++t) r=bX s r++bX t r:=by unfold bX;rw[List.filter_append,amJ]
theorem wM {l:List aw}{r:List Val}(h:∀ f∈l,f.row≠r):bX l r=[]:=by
 unfold bX;rw[List.map_eq_nil_iff,List.filter_eq_nil_iff];intro f hf e;exact h f hf (amZ e)
def aiC (l:List aw)(G:List bI):Prop:=bY l (G.map (·.row)) /\ ∀ g∈G,g.steps=ip (ones (bX l g.row))
theorem run_end (P s t:List aw)(r:List Val)(f0:aw)(hf0:f0.row=r)(hrl:∀ f∈P++s++t,f.row.length<=1000000)(hn:(P++s++t).length<=300)(hs:∀ f∈s,f.row=r)(hs0:s[0]?=some f0)(ht:∀ f u,t=f::u->f.row≠r) :
  ∀ (n j:Nat),j<=s.length->s.length-j<n->ap (dZ (P++s++t) ((P.length:Nat):Int)) n (((P.length+j:Nat):Nat):Int)=some (.inl (((P.length+s.length:Nat):Nat):Int)):=by
 have hi:(P++s++t)[P.length]?=some f0:=by
  rw[amX,amD (amM _),Nat.sub_self,amK (by have:=(amw.1 hs0).1;omega)];exact hs0
 have hnl:P.length+s.length<=300:=by simp only[amE]at hn;omega
 intro n
 induction n with
 |zero=>intro j _ h;omega
 |succ n ih =>
  intro j hj hn2;rw[ap];by_cases hlt:j<s.length
  ·obtain⟨x,hx⟩:=gol_ hlt
   have hx2:(P++s++t)[P.length+j]?=some x:=by
    rw[amX,amD m0,show P.length+j-P.length=j by omega,amK hlt];exact hx
   have hxm:=amC hx2;have him:=amC hi;have e:dZ (P++s++t) ((P.length:Nat):Int) (((P.length+j:Nat):Nat):Int)=some (.next (((P.length+(j+1):Nat):Nat):Int)):=by
    unfold dZ;dsimp only;rw[aC hx2,amy,gn_ hx2,gn_ hi];simp only[amv];rw[ef x.row f0.row (by have:=hrl x hxm;omega) (by have:=hrl f0 him;omega),amv];rw[hs x (amC hx),hf0,tCr_.refl];rw[show decide ((0:Int)=0)=true from rfl,amy,wrapN m0];rfl
   rw[e];exact ih (j+1) m0 m0
  ·have hje:j=s.length:=m0
   subst hje;have e:dZ (P++s++t) ((P.length:Nat):Int) (((P.length+s.length:Nat):Nat):Int)=some (.exit (((P.length+s.length:Nat):Nat):Int)):=by
    unfold dZ;dsimp only
    cases t with
    |nil =>
     rw[show decide ((((P.length+s.length:Nat):Nat):Int)<(((P++s++([]:List aw)).length:Nat):Int))=false from amz m5,amx]
    |cons y u =>
     have hy:(P++s++y::u)[P.length+s.length]?=some y:=by
      rw[amD m5,amE,Nat.sub_self];rfl
     rw[aC hy,amy,gn_ hy,gn_ hi];simp only[amv];rw[ef y.row f0.row (by have:=hrl y (amC hy);omega) (by have:=hrl f0 (amC hi);omega),amv];rw[show decide (bQ y.row f0.row=0)=false from amz fun q=>ht y u rfl ((tCr_.zero _ _ q).trans hf0),amx]
   rw[e]
theorem EC (all:List aw)(hrl:∀ f∈all,f.row.length<=1000000)(hn:all.length<=300)(ha:KF all) :
  ∀ (n:Nat) (P t:List aw) (out:List bI),all=P++t->t.length<n->out.length<=P.length ->∃ G,aiC t G/\ap (cS all) n (out,((P.length:Nat):Int))=some (.inl (out++G,((all.length:Nat):Int))):=by
 intro n
 induction n with
 |zero=>intro P t out _ h;omega
 |succ n ih =>
  intro P t out hall htn hout;rw[ap]
  match t,hall,htn with
  |[],hall,_ =>
   refine⟨[],⟨⟨List.Pairwise.nil,fun x=>?_⟩,fun g hg=>by cases hg⟩,?_⟩
   ·constructor
    ·intro h;cases h
    ·rintro⟨f,hf,_⟩;cases hf
   ·have e:cS all (out,((P.length:Nat):Int))=some (.exit (out,((P.length:Nat):Int))):=by
     unfold cS;dsimp only;rw[show decide (((P.length:Nat):Int)<((all.length:Nat):Int))=false from amz (by rw[hall];simp),amx]
    rw[e,hall];simp
  |f0::t0,hall,htn =>
   obtain⟨s,u,hsu,hs,hu⟩:=DN f0.row (f0::t0);have hs0:s[0]?=some f0:=by
    cases s with
    |nil=>exact absurd rfl (hu f0 t0 (by rw[hsu];rfl))
    |cons y s'=>rw[List.cons_append]at hsu;injection hsu with h1 _;rw[h1];rfl
   have hsl:0<s.length:=(amw.1 hs0).1;have hall2:all=P++s++u:=by rw[hall,hsu,amX]
   have hlen:=congrArg List.length hall2;simp only[amE]at hlen;have hu2:u.length+s.length=(f0::t0).length:=by rw[hsu];simp;omega
   have hrun:=run_end P s u f0.row f0 rfl (by rw[<- hall2];exact hrl) (by rw[<- hall2];exact hn) hs hs0 hu fuel 0 (amR _) (by unfold fuel;omega);rw[<- hall2,Nat.add_zero]at hrun;have hr0:f0.row.length<=1000000:=hrl f0 (by rw[hall];simp);have hrs:∀ f∈s,f.row.length<=1000000:=fun f hf=>hrl f (by rw[hall2];simp[hf])
   have hrows:=JB s f0.row hr0 hs m0;have hcnt:=GH s f0.row hr0 hrs m0

   have hgt:∀ f∈u,bQ f0.row f.row<0:=by
    intro f hf;have h1:KF u:=by rw[hall2]at ha;exact(List.pairwise_append.1 ha).2.1
    have h2:∀ a∈P++s,∀ b∈u,bQ a.row b.row<=0:=by rw[hall2]at ha;exact(List.pairwise_append.1 ha).2.2
    have hf0s:f0∈P++s:=List.mem_append_right _ (amC hs0)
    cases u with
    |nil=>cases hf
    |cons y v =>
     have hy0:=h2 f0 hf0s y m5;have hyn:bQ f0.row y.row≠0:=fun q=>hu y v rfl (tCr_.zero _ _ q).symm
     have hlt:bQ f0.row y.row<0:=m0
     rcases amN.1 hf with rfl|hf
     ·exact hlt
     ·have hyf:=(anr.1 h1).1 f hf
      rcases Int.lt_or_eq_of_le hyf with h|h
      ·exact tCr_.trans _ _ _ hlt h
      ·rw[<- tCr_.zero _ _ h];exact hlt
   have hne:∀ f∈u,f.row≠f0.row:=fun f hf e=>by have:=hgt f hf;rw[e,tCr_.refl]at this;omega
   obtain⟨o1,ho1⟩:∃ o1:List bI,o1=if s.any (fun f=>az f.valid)then [⟨f0.row,ip (ones (bX s f0.row))⟩]else []:=⟨_,rfl⟩
   have ho1l:o1.length<=1:=by rw[ho1];split<;>simp
   obtain⟨G,hG,hL⟩:=ih (P++s) u (out++o1) hall2 (by simp at htn;simp at hu2;omega) m8;have hi0:all[P.length]?=some f0:=by
    rw[hall,amD (amM _),Nat.sub_self];rfl
   have e:cS all (out,((P.length:Nat):Int))=some (.next (out++o1,(((P++s).length:Nat):Int))):=by
    unfold cS;dsimp only;rw[aC hi0,amy,hrun,amv];show(fM all ((P.length:Nat):Int) (((P.length+s.length:Nat):Nat):Int)).bind _=_;rw[show fM all ((P.length:Nat):Int) (((P.length+s.length:Nat):Nat):Int)=some s by rw[hall2];exact adm P s u,amv,hrows,amv];by_cases hv:(s.any fun f=>az f.valid)=true
    ·rw[if_pos hv]at ho1 ⊢
     rw[bA (l:=[f0.row]) (fun r=>[(⟨r,ip (ones (bX s f0.row))⟩:bI)]) 2932031007402 ?_ ?_ (by unfold fuel;simp) out m8]
     ·rw[amv,ho1,amE];rfl
     ·intro o i x hx ho
      have hi:=(amw.1 hx).1;have hi1:i=0:=by simpa using hi
      subst hi1;simp at hx;subst hx;unfold fk;dsimp only;rw[show decide (((0:Nat):Int)<((([f0.row]:List (List Val)).length:Nat):Int))=true from rfl,amy,show aq [f0.row] ((0:Nat):Int)=some f0.row from rfl,amv,hcnt,amv];rw[show decide (o.length+1<=2932031007402)=true from amA (by simpa using ho),amy,wrapN m0]
     ·intro o
      unfold fk;dsimp only;rw[lF_,amx]
    ·rw[if_neg hv]at ho1 ⊢
     rw[bA (l:=([]:List (List Val))) (fun r=>([]:List bI)) 2932031007402 ?_ ?_ (by unfold fuel;simp) out m8]
     ·rw[amv,ho1,amE];simp[fh]
     ·intro o i x hx;simp at hx
     ·intro o
      unfold fk;dsimp only;rw[lF_,amx]
   refine⟨o1++G,⟨⟨?_,fun x=>?_⟩,fun g hg=>?_⟩,?_⟩
   ·rw[amJ]
    refine List.pairwise_append.2 ⟨by rw[ho1];split<;>simp,hG.1.1,fun a ha2 b hb=>?_⟩;obtain⟨f,hf,_,e⟩:=(hG.1.2 b).1 hb;have:a=f0.row:=by rw[ho1]at ha2;split at ha2<;>simp at ha2;exact ha2
    rw[this,<- e];exact hgt f hf
   ·rw[amJ,amY,hG.1.2 x,hsu]
    constructor
    ·rintro(h|⟨f,hf,h⟩)
     ·rw[ho1]at h
      split at h
      ·rename_i hv
       simp at h;obtain⟨f,hf,hv⟩:=List.any_eq_true.1 hv;exact⟨f,List.mem_append_left _ hf,hv,by rw[h];exact hs f hf⟩
      ·simp at h
     ·exact⟨f,List.mem_append_right _ hf,h⟩
    ·rintro⟨f,hf,hv,e⟩
     rcases amY.1 hf with hf|hf
     ·left
      rw[ho1,if_pos (List.any_eq_true.2 ⟨f,hf,hv⟩)];simp[<- e,hs f hf]
     ·exact .inr ⟨f,hf,hv,e⟩
   ·rw[hsu,LI]
    rcases amY.1 hg with hg|hg
    ·have hgr:g=⟨f0.row,ip (ones (bX s f0.row))⟩:=by rw[ho1]at hg;split at hg<;>simp at hg;exact hg
     rw[hgr];rw[wM hne,am5]
    ·have hgm:g.row∈G.map (·.row):=List.mem_map_of_mem hg
     obtain⟨f,hf,_,e⟩:=(hG.1.2 g.row).1 hgm;rw[wM (l:=s) (fun f' hf' q=>hne f hf (by rw[e,<- q];exact(hs f' hf'))),amB];exact hG.2 g hg
   ·rw[e]
    dsimp only;rw[hL,amX]
theorem CG (p:au)(t:Int):dU p t=some (az p&&(decide (p.lo<=t)&&decide (t<p.hi))):=by
 unfold dU;rw[gY,amv]
 cases az p<;>cases decide (p.lo<=t)<;>rfl
def gy:Val:=⟨0,0,ByteArray.empty⟩
theorem iP:gD=some gy:=rfl
theorem bU:dn=some gy:=rfl
def vF (v:Val):Bool:=(cH v).getD false
theorem fe (v:Val):cH v=some (vF v):=by
 obtain⟨r,hr⟩:=zp v;unfold vF;rw[hr];rfl
theorem s5 (v:Val):nX v=some (vF v):=(show nX v=cH v from rfl).trans (fe v)
def Hh (v:Val):Val:=bif vF v then v else gy
theorem zq (v:Val):qP v=some (Hh v):=by
 unfold qP Hh;rw[s5,amv,iP]
 cases vF v<;>rfl
theorem zl (v:Val):nH v=some (Hh v):=by
 unfold nH Hh;rw[fe,amv,bU]
 cases vF v<;>rfl
theorem iR:vF gy=true:=by
 have e:(ByteArray.empty.toList==(⟨#[]⟩:ByteArray).toList)=true:=by rw[ByteArray.toList_eq,ByteArray.toList_eq];rfl
 unfold vF cH gy;dsimp only;rw[e];rfl
theorem lV (v:Val):vF (Hh v)=true:=by
 unfold Hh
 cases h:vF v with
 |true=>exact h
 |false=>exact iR
def ja (b:Bool):Val:=bif b then⟨3,1,ByteArray.empty⟩else⟨3,0,ByteArray.empty⟩
theorem DT (b:Bool):pz b=some (ja b):=by cases b<;>rfl
theorem rD (b:Bool):oE b=some (ja b):=by cases b<;>rfl
theorem xQ (b:Bool):vF (ja b)=true:=by
 have e:(ByteArray.empty.toList==(⟨#[]⟩:ByteArray).toList)=true:=by rw[ByteArray.toList_eq,ByteArray.toList_eq];rfl
 unfold vF cH ja
 cases b<;>(dsimp only[cond_true,cond_false];rw[e];rfl)
theorem iE (n:Int):lw n=some (Hh ⟨1,n,ByteArray.empty⟩):=by unfold lw;rw[zq];rfl
theorem gR (n:Int):kS n=some (Hh ⟨1,n,ByteArray.empty⟩):=by unfold kS;rw[zl];rfl
theorem aaN (s:ByteArray):u_ s=some (Hh ⟨2,0,s⟩):=by unfold u_;rw[zq];rfl
theorem acR (s:ByteArray):zh s=some (Hh ⟨2,0,s⟩):=by unfold zh;rw[zl];rfl
def T3 (t:Int):Prop:=t=0\/t=1\/t=2
theorem sq (v:Val):∃ t,iw v=some t/\eK v=some t/\T3 t:=by
 have e:iw v=eK v:=rfl;have h:∃ t,eK v=some t/\T3 t:=by
  unfold eK;rw[rD,rD];simp only[amv]
  cases bT [.c (.int .i64 v.kind),.c (.int .i64 v.int),.c (.str v.text)] [.c (.int .i64 (ja true).kind),.c (.int .i64 (ja true).int),.c (.str (ja true).text)]with
  |true=>exact⟨2,rfl,.inr (.inr rfl)⟩
  |false =>
   rw[amx]
   cases bT [.c (.int .i64 v.kind),.c (.int .i64 v.int),.c (.str v.text)] [.c (.int .i64 (ja false).kind),.c (.int .i64 (ja false).int),.c (.str (ja false).text)]with
   |true=>exact⟨0,rfl,.inl rfl⟩
   |false=>exact⟨1,rfl,.inr (.inl rfl)⟩
 obtain⟨t,h1,h2⟩:=h;exact⟨t,e.trans h1,h1,h2⟩
def tF_ (v:Val):Int:=(eK v).getD 1
theorem f_ (v:Val):iw v=some (tF_ v):=by obtain⟨t,h1,h2,_⟩:=sq v;unfold tF_;rw[h1,h2];rfl
theorem jK (v:Val):eK v=some (tF_ v):=by obtain⟨t,h1,h2,_⟩:=sq v;unfold tF_;rw[h2];rfl
theorem fr (v:Val):T3 (tF_ v):=by obtain⟨t,h1,h2,h3⟩:=sq v;unfold tF_;rw[h2];exact h3
def zV (a:Int):Int:=if a=2 then 0 else if a=0 then 2 else 1
def CH (a b:Int):Int:=if a=0\/b=0 then 0 else if a=2/\b=2 then 2 else 1
def or3 (a b:Int):Int:=if a=2\/b=2 then 2 else if a=0/\b=0 then 0 else 1
theorem n9 (a:Int):T3 (zV a):=by unfold zV;split;exact .inl rfl;split;exact .inr (.inr rfl);exact .inr (.inl rfl)
theorem FV (a b:Int):T3 (CH a b):=by unfold CH;split;exact .inl rfl;split;exact .inr (.inr rfl);exact .inr (.inl rfl)
theorem KG (a b:Int):T3 (or3 a b):=by unfold or3;split;exact .inr (.inr rfl);split;exact .inl rfl;exact .inr (.inl rfl)
theorem qR {a:Int}(h:T3 a):BO a=some (zV a):=by rcases h with rfl|rfl|rfl<;>rfl
theorem tM {a:Int}(h:T3 a):Bv a=some (zV a):=by rcases h with rfl|rfl|rfl<;>rfl
theorem Ae {a:Int}(h:T3 a):ll a=some a:=by rcases h with rfl|rfl|rfl<;>rfl
theorem C3 {a b:Int}(ha:T3 a)(hb:T3 b):wd [a,b]=some (mnI (mnI 2 a) b):=by
 unfold wd;rw[cm (l:=[a,b]) (mk:=fun t i=>(t,i)) (f:=fun t x=>(ll x).bind fun r=>some (.inl (mnI t r))) ?_ ?_ (by unfold fuel;simp) 2]
 ·simp only[cE,Ae ha,Ae hb,amv]
  rfl
 ·intro s i x hx
  have hi:=(amw.1 hx).1;unfold rq;dsimp only;rw[aC hx,amy,gn_ hx,wrapN (by simp at hi;omega)];simp only[amv]
  cases ll x<;>rfl
 ·intro s
  unfold rq;dsimp only;rw[lF_,amx]
theorem ahg {a b:Int}(ha:T3 a)(hb:T3 b):KP a b=some (CH a b):=by
 unfold KP;rw[C3 ha hb];rcases ha with rfl|rfl|rfl<;>rcases hb with rfl|rfl|rfl<;>rfl
theorem ac7 {a b:Int}(ha:T3 a)(hb:T3 b):BL a b=some (CH a b):=by
 rcases ha with rfl|rfl|rfl<;>rcases hb with rfl|rfl|rfl<;>rfl
theorem ajl {a b:Int}(ha:T3 a)(hb:T3 b):BB a b=some (or3 a b):=by
 unfold BB;rw[qR ha,qR hb];simp only[amv];rw[C3 (n9 a) (n9 b)];rcases ha with rfl|rfl|rfl<;>rcases hb with rfl|rfl|rfl<;>rfl
theorem agX {a b:Int}(ha:T3 a)(hb:T3 b):MX a b=some (or3 a b):=by
 rcases ha with rfl|rfl|rfl<;>rcases hb with rfl|rfl|rfl<;>rfl
def tc (t:Int):Val:=if t=2 then ja true else if t=0 then ja false else gy
theorem gz {t:Int}(h:T3 t):ud t=some (tc t):=by rcases h with rfl|rfl|rfl<;>rfl
theorem lp {t:Int}(h:T3 t):xg t=some (tc t):=by rcases h with rfl|rfl|rfl<;>rfl
theorem oV (t:Int):vF (tc t)=true:=by
 unfold tc;split
 ·exact xQ _
 ·split
  ·exact xQ _
  ·exact iR
def KJ (a b:Val)(is:Bool):Int:=if a.kind=0\/a.kind≠b.kind then 1 else bif is then 2 else 0
theorem aay (a b:Val)(is:Bool):T3 (KJ a b is):=by
 unfold KJ;split
 ·exact .inr (.inl rfl)
 ·cases is
  ·exact .inl rfl
  ·exact .inr (.inr rfl)
theorem sX (a b:Val)(is:Bool):nJ a b is=some (KJ a b is):=by
 unfold nJ KJ;by_cases h1:a.kind=0
 ·simp[h1]
 ·by_cases h2:a.kind=b.kind
  ·have hb:¬ b.kind=0:=by rw[<- h2];exact h1
   simp only[h2,amz hb,amx,ne_eq,not_true_eq_false,decide_false,or_false];rw[if_neg hb]
   cases is<;>rfl
  ·simp only[amz h1,amx,ne_eq,h2,not_false_eq_true,decide_true,amy,or_true,if_true]
theorem zF (a b:Val)(is:Bool):ru a b is=some (KJ a b is):=(show ru a b is=nJ a b is from rfl).trans (sX a b is)
def eqF (a b:Val):Int:=KJ a b (decide (qe a b=0))
def ltF (a b:Val):Int:=KJ a b (decide (qe a b<0))
theorem ahA (a b:Val):abF a b=some (eqF a b):=by unfold abF;rw[uj,amv,sX];rfl
theorem agC (a b:Val):aa_ a b=some (eqF a b):=by unfold aa_;rw[yz,amv,zF];rfl
theorem abg (a b:Val):qm a b=some (ltF a b):=by unfold qm;rw[uj,amv,sX];rfl
theorem abl (a b:Val):pM a b=some (ltF a b):=by unfold pM;rw[yz,amv,zF];rfl
def oH (op:Int)(a b:Val):Int:=if op=7 then eqF a b else if op=8 then zV (eqF a b)else if op=9 then ltF a b else if op=11 then ltF b a else if op=10 then zV (ltF b a)else zV (ltF a b)
theorem LM (a b:Val):T3 (eqF a b):=aay _ _ _
theorem wh (a b:Val):T3 (ltF a b):=aay _ _ _
theorem fU (op:Int)(a b:Val):T3 (oH op a b):=by
 unfold oH;split
 ·exact LM _ _
 split
 ·exact n9 _
 split
 ·exact wh _ _
 split
 ·exact wh _ _
 split
 ·exact n9 _
 ·exact n9 _
theorem dE (op:Int)(a b:Val):iK op a b=some (oH op a b):=by
 unfold iK oH;simp only[ahA,abg,amv,qR (LM a b),qR (wh a b),qR (wh b a)];by_cases h1:op=7
 ·simp[h1]
 by_cases h2:op=8
 ·simp[h2]
 by_cases h3:op=9
 ·simp[h3]
 by_cases h4:op=11
 ·simp[h4]
 by_cases h5:op=10
 ·simp[h5]
 simp[h1,h2,h3,h4,h5]
theorem fq (op:Int)(a b:Val):eD op a b=some (oH op a b):=by
 unfold eD oH;simp only[agC,abl,amv,tM (LM a b),tM (wh a b),tM (wh b a)];by_cases h1:op=7
 ·simp[h1]
 by_cases h2:op=8
 ·simp[h2]
 by_cases h3:op=9
 ·simp[h3]
 by_cases h4:op=11
 ·simp[h4]
 by_cases h5:op=10
 ·simp[h5]
 simp[h1,h2,h3,h4,h5]
def dL (p q:au):Int :=
 if p.hi<q.lo then 0 else if p.hi=q.lo then 1 else if q.hi<p.lo then 12 else if q.hi=p.lo then 11 else if p.lo=q.lo/\p.hi=q.hi then 6
 else if p.lo=q.lo then(if p.hi<q.hi then 3 else 9)else if p.hi=q.hi then(if q.lo<p.lo then 5 else 7)
 else if p.lo<q.lo/\q.hi<p.hi then 8 else if q.lo<p.lo/\p.hi<q.hi then 4 else if p.lo<q.lo then 2 else 10
theorem cz (p q:au):bT [.c (.int .i64 p.lo),.c (.int .i64 p.hi)] [.c (.int .i64 q.lo),.c (.int .i64 q.hi)]=decide (p.lo=q.lo/\p.hi=q.hi):=by
 simp[bT]
theorem ahf (p q:au):adC p q=some (if az p=true/\az q=true then(dL p q,true)else(0,false)):=by
 unfold adC;rw[vg,vg];simp only[amv]
 cases hp:az p with
 |false=>simp
 |true =>
  cases hq:az q with
  |false=>simp
  |true =>
   simp only[Bool.not_true,amx,and_self,if_true,cz];unfold dL;by_cases h1:p.hi<q.lo
   ·simp only[Bool.cond_decide,eq_true h1,if_true,if_false,and_true,true_and,and_false,false_and,and_self]
   by_cases h2:p.hi=q.lo
   ·simp only[Bool.cond_decide,eq_true h2,eq_false h1,if_true,if_false,and_true,true_and,and_false,false_and,and_self]
   by_cases h3:q.hi<p.lo
   ·simp only[Bool.cond_decide,eq_true h3,eq_false h1,eq_false h2,if_true,if_false,and_true,true_and,and_false,false_and,and_self]
   by_cases h4:q.hi=p.lo
   ·simp only[Bool.cond_decide,eq_true h4,eq_false h1,eq_false h2,eq_false h3,if_true,if_false,and_true,true_and,and_false,false_and,and_self]
   by_cases h5:p.lo=q.lo
   ·by_cases h6:p.hi=q.hi
    ·simp only[Bool.cond_decide,eq_true h5,eq_true h6,eq_false h1,eq_false h2,eq_false h3,eq_false h4,if_true,if_false,and_true,true_and,and_false,false_and,and_self]
    ·by_cases h7:p.hi<q.hi
     ·simp only[Bool.cond_decide,eq_true h5,eq_true h7,eq_false h1,eq_false h2,eq_false h3,eq_false h4,eq_false h6,if_true,if_false,and_true,true_and,and_false,false_and,and_self]
     ·simp only[Bool.cond_decide,eq_true h5,eq_false h1,eq_false h2,eq_false h3,eq_false h4,eq_false h6,eq_false h7,if_true,if_false,and_true,true_and,and_false,false_and,and_self]
   ·by_cases h6:p.hi=q.hi
    ·by_cases h7:q.lo<p.lo
     ·simp only[Bool.cond_decide,eq_true h6,eq_true h7,eq_false h1,eq_false h2,eq_false h3,eq_false h4,eq_false h5,if_true,if_false,and_true,true_and,and_false,false_and,and_self]
     ·simp only[Bool.cond_decide,eq_true h6,eq_false h1,eq_false h2,eq_false h3,eq_false h4,eq_false h5,eq_false h7,if_true,if_false,and_true,true_and,and_false,false_and,and_self]
    ·by_cases h7:p.lo<q.lo
     ·by_cases h8:q.hi<p.hi
      ·simp only[Bool.cond_decide,eq_true h7,eq_true h8,eq_false h1,eq_false h2,eq_false h3,eq_false h4,eq_false h5,eq_false h6,if_true,if_false,and_true,true_and,and_false,false_and,and_self]
      ·by_cases h9:q.lo<p.lo
       ·omega
       ·simp only[Bool.cond_decide,eq_true h7,eq_false h1,eq_false h2,eq_false h3,eq_false h4,eq_false h5,eq_false h6,eq_false h8,eq_false h9,if_true,if_false,and_true,true_and,and_false,false_and,and_self]
     ·by_cases h8:q.lo<p.lo
      ·by_cases h9:p.hi<q.hi
       ·simp only[Bool.cond_decide,eq_true h8,eq_true h9,eq_false h1,eq_false h2,eq_false h3,eq_false h4,eq_false h5,eq_false h6,eq_false h7,if_true,if_false,and_true,true_and,and_false,false_and,and_self]
       ·simp only[Bool.cond_decide,eq_true h8,eq_false h1,eq_false h2,eq_false h3,eq_false h4,eq_false h5,eq_false h6,eq_false h7,eq_false h9,if_true,if_false,and_true,true_and,and_false,false_and,and_self]
      ·omega
theorem y9 {p:au}(h:az p=true):0<=p.lo/\p.lo<p.hi/\p.hi<=1099511627776:=by
 unfold az at h;simp only[amO,decide_eq_true_eq]at h;omega
theorem aea {p q:au}(hp:0<=p.lo/\p.lo<p.hi)(hq:0<=q.lo/\q.lo<q.hi):dL p q=0↔p.hi<q.lo:=by
 unfold dL
 repeat' split
 all_goals (constructor<;>intro h<;>omega)
theorem aiV (p q:au):fH 0 p q=some (decide (p.hi<q.lo)):=by
 unfold fH;simp only[Int.reduceEq,sl9,cz]<;>rfl
theorem afj {p q:au}(hp:0<=p.lo/\p.lo<p.hi)(hq:0<=q.lo/\q.lo<q.hi):dL p q=1↔p.hi=q.lo:=by
 unfold dL
 repeat' split
 all_goals (constructor<;>intro h<;>omega)
theorem aiH (p q:au):fH 1 p q=some (decide (p.hi=q.lo)):=by
 unfold fH;simp only[Int.reduceEq,sl9,cz]<;>rfl
theorem afi {p q:au}(hp:0<=p.lo/\p.lo<p.hi)(hq:0<=q.lo/\q.lo<q.hi):dL p q=2↔p.lo<q.lo/\q.lo<p.hi/\p.hi<q.hi:=by
 unfold dL
 repeat' split
 all_goals (constructor<;>intro h<;>omega)
theorem ajj (p q:au):fH 2 p q=some (decide (p.lo<q.lo/\q.lo<p.hi/\p.hi<q.hi)):=by
 unfold fH;simp only[Int.reduceEq,sl9,cz];by_cases h0:p.lo<q.lo<;>by_cases h1:q.lo<p.hi<;>simp[h0,h1]
theorem adX {p q:au}(hp:0<=p.lo/\p.lo<p.hi)(hq:0<=q.lo/\q.lo<q.hi):dL p q=3↔p.lo=q.lo/\p.hi<q.hi:=by
 unfold dL
 repeat' split
 all_goals (constructor<;>intro h<;>omega)
theorem ajq (p q:au):fH 3 p q=some (decide (p.lo=q.lo/\p.hi<q.hi)):=by
 unfold fH;simp only[Int.reduceEq,sl9,cz];by_cases h0:p.lo=q.lo<;>simp[h0]
theorem aeU {p q:au}(hp:0<=p.lo/\p.lo<p.hi)(hq:0<=q.lo/\q.lo<q.hi):dL p q=4↔q.lo<p.lo/\p.hi<q.hi:=by
 unfold dL
 repeat' split
 all_goals (constructor<;>intro h<;>omega)
theorem ai2 (p q:au):fH 4 p q=some (decide (q.lo<p.lo/\p.hi<q.hi)):=by
 unfold fH;simp only[Int.reduceEq,sl9,cz];by_cases h0:q.lo<p.lo<;>simp[h0]
theorem adK {p q:au}(hp:0<=p.lo/\p.lo<p.hi)(hq:0<=q.lo/\q.lo<q.hi):dL p q=5↔p.hi=q.hi/\q.lo<p.lo:=by
 unfold dL
 repeat' split
 all_goals (constructor<;>intro h<;>omega)
theorem ajh (p q:au):fH 5 p q=some (decide (p.hi=q.hi/\q.lo<p.lo)):=by
 unfold fH;simp only[Int.reduceEq,sl9,cz];by_cases h0:p.hi=q.hi<;>simp[h0]
theorem ae2 {p q:au}(hp:0<=p.lo/\p.lo<p.hi)(hq:0<=q.lo/\q.lo<q.hi):dL p q=6↔p.lo=q.lo/\p.hi=q.hi:=by
 unfold dL
 repeat' split
 all_goals (constructor<;>intro h<;>omega)
theorem aix (p q:au):fH 6 p q=some (decide (p.lo=q.lo/\p.hi=q.hi)):=by
 unfold fH;simp only[Int.reduceEq,sl9,cz]<;>rfl
theorem aeb {p q:au}(hp:0<=p.lo/\p.lo<p.hi)(hq:0<=q.lo/\q.lo<q.hi):dL p q=7↔p.hi=q.hi/\p.lo<q.lo:=by
 unfold dL
 repeat' split
 all_goals (constructor<;>intro h<;>omega)
theorem aih (p q:au):fH 7 p q=some (decide (p.hi=q.hi/\p.lo<q.lo)):=by
 unfold fH;simp only[Int.reduceEq,sl9,cz];by_cases h0:p.hi=q.hi<;>simp[h0]
theorem ad1 {p q:au}(hp:0<=p.lo/\p.lo<p.hi)(hq:0<=q.lo/\q.lo<q.hi):dL p q=8↔p.lo<q.lo/\q.hi<p.hi:=by
 unfold dL
 repeat' split
 all_goals (constructor<;>intro h<;>omega)
theorem ai8 (p q:au):fH 8 p q=some (decide (p.lo<q.lo/\q.hi<p.hi)):=by
 unfold fH;simp only[Int.reduceEq,sl9,cz];by_cases h0:p.lo<q.lo<;>simp[h0]
theorem aeT {p q:au}(hp:0<=p.lo/\p.lo<p.hi)(hq:0<=q.lo/\q.lo<q.hi):dL p q=9↔p.lo=q.lo/\q.hi<p.hi:=by
 unfold dL
 repeat' split
 all_goals (constructor<;>intro h<;>omega)
theorem aiO (p q:au):fH 9 p q=some (decide (p.lo=q.lo/\q.hi<p.hi)):=by
 unfold fH;simp only[Int.reduceEq,sl9,cz];by_cases h0:p.lo=q.lo<;>simp[h0]
theorem acr {p q:au}(hp:0<=p.lo/\p.lo<p.hi)(hq:0<=q.lo/\q.lo<q.hi):dL p q=10↔q.lo<p.lo/\p.lo<q.hi/\q.hi<p.hi:=by
 unfold dL
 repeat' split
 all_goals (constructor<;>intro h<;>omega)
theorem aht (p q:au):fH 10 p q=some (decide (q.lo<p.lo/\p.lo<q.hi/\q.hi<p.hi)):=by
 unfold fH;simp only[Int.reduceEq,sl9,cz];by_cases h0:q.lo<p.lo<;>by_cases h1:p.lo<q.hi<;>simp[h0,h1]
theorem abH {p q:au}(hp:0<=p.lo/\p.lo<p.hi)(hq:0<=q.lo/\q.lo<q.hi):dL p q=11↔q.hi=p.lo:=by
 unfold dL
 repeat' split
 all_goals (constructor<;>intro h<;>omega)
theorem agA (p q:au):fH 11 p q=some (decide (q.hi=p.lo)):=by
 unfold fH;simp only[Int.reduceEq,sl9,cz]<;>rfl
theorem ace {p q:au}(hp:0<=p.lo/\p.lo<p.hi)(hq:0<=q.lo/\q.lo<q.hi):dL p q=12↔q.hi<p.lo:=by
 unfold dL
 repeat' split
 all_goals (constructor<;>intro h<;>omega)
theorem agJ (p q:au):fH 12 p q=some (decide (q.hi<p.lo)):=by
 unfold fH;simp only[Int.reduceEq,sl9,cz]<;>rfl
theorem sC (p q:au):0<=dL p q/\dL p q<13:=by
 unfold dL
 repeat' split
 all_goals omega
theorem afn {rel:Int}(h:¬ (0<=rel/\rel<13))(p q:au):fH rel p q=some false:=by
 unfold fH;rw[amz (show ¬ rel=0 by omega),amx];rw[amz (show ¬ rel=1 by omega),amx];rw[amz (show ¬ rel=2 by omega),amx];rw[amz (show ¬ rel=3 by omega),amx];rw[amz (show ¬ rel=4 by omega),amx];rw[amz (show ¬ rel=5 by omega),amx];rw[amz (show ¬ rel=6 by omega),amx];rw[amz (show ¬ rel=7 by omega),amx];rw[amz (show ¬ rel=8 by omega),amx];rw[amz (show ¬ rel=9 by omega),amx];rw[amz (show ¬ rel=10 by omega),amx];rw[amz (show ¬ rel=11 by omega),amx];rw[amz (show ¬ rel=12 by omega),amx]
theorem afB {p q:au}(hp:az p=true)(hq:az q=true)(rel:Int):fH rel p q=some (decide (dL p q=rel)):=by
 obtain⟨p1,p2,p3⟩:=y9 hp;obtain⟨q1,q2,q3⟩:=y9 hq;by_cases hr:0<=rel/\rel<13
 ·have:rel=0\/rel=1\/rel=2\/rel=3\/rel=4\/rel=5\/rel=6\/rel=7\/rel=8\/rel=9\/rel=10\/rel=11\/rel=12:=m0
  rcases this with rfl|rfl|rfl|rfl|rfl|rfl|rfl|rfl|rfl|rfl|rfl|rfl|rfl
  ·rw[aiV];congr 1;rw[decide_eq_decide,aea ⟨p1,p2⟩ ⟨q1,q2⟩]
  ·rw[aiH];congr 1;rw[decide_eq_decide,afj ⟨p1,p2⟩ ⟨q1,q2⟩]
  ·rw[ajj];congr 1;rw[decide_eq_decide,afi ⟨p1,p2⟩ ⟨q1,q2⟩]
  ·rw[ajq];congr 1;rw[decide_eq_decide,adX ⟨p1,p2⟩ ⟨q1,q2⟩]
  ·rw[ai2];congr 1;rw[decide_eq_decide,aeU ⟨p1,p2⟩ ⟨q1,q2⟩]
  ·rw[ajh];congr 1;rw[decide_eq_decide,adK ⟨p1,p2⟩ ⟨q1,q2⟩]
  ·rw[aix];congr 1;rw[decide_eq_decide,ae2 ⟨p1,p2⟩ ⟨q1,q2⟩]
  ·rw[aih];congr 1;rw[decide_eq_decide,aeb ⟨p1,p2⟩ ⟨q1,q2⟩]
  ·rw[ai8];congr 1;rw[decide_eq_decide,ad1 ⟨p1,p2⟩ ⟨q1,q2⟩]
  ·rw[aiO];congr 1;rw[decide_eq_decide,aeT ⟨p1,p2⟩ ⟨q1,q2⟩]
  ·rw[aht];congr 1;rw[decide_eq_decide,acr ⟨p1,p2⟩ ⟨q1,q2⟩]
  ·rw[agA];congr 1;rw[decide_eq_decide,abH ⟨p1,p2⟩ ⟨q1,q2⟩]
  ·rw[agJ];congr 1;rw[decide_eq_decide,ace ⟨p1,p2⟩ ⟨q1,q2⟩]
 ·rw[afn hr,amz]
  have:=sC p q;omega
theorem zO (rel:Int)(p q:au):uM rel p q=some (az p&&(az q&&decide (dL p q=rel))):=by
 unfold uM;rw[gY,gY];simp only[amv]
 cases hp:az p with
 |false=>rfl
 |true =>
  cases hq:az q with
  |false=>rfl
  |true=>rw[afB hp hq];rfl
theorem Ij (p q:au)(h:az p=true/\az q=true):∀ (n i:Nat),(i:Int)<=dL p q->13-i<n->ap (mD p q) n (i:Int)=some (.inr (dL p q,true))
 |0,i,_,h2=>by omega
 |n+1,i,h1,h2=>by
  have hr:=sC p q;rw[ap];unfold mD;dsimp only;rw[amA (show(i:Int)<13 by omega),amy,zO,amv,h.1,h.2,wrapN m0];by_cases e:dL p q=i
  ·rw[e];simp
  ·simp only[am4,amz e,amx]
   exact Ij p q h n (i+1) m0 m0
theorem Ht (p q:au)(h:¬ (az p=true/\az q=true)):∀ (n i:Nat),i<=13->13-i<n->ap (mD p q) n (i:Int)=some (.inl ((13:Nat):Int))
 |0,i,_,h2=>by omega
 |n+1,i,h1,h2=>by
  rw[ap];unfold mD;dsimp only;by_cases hi:i=13
  ·subst hi;rfl
  ·rw[amA (show(i:Int)<13 by omega),amy,zO,amv,wrapN m0]
   have:(az p&&(az q&&decide (dL p q=i)))=false:=by
    cases hp:az p<;>cases hq:az q<;>simp_all
   rw[this,amx];exact Ht p q h n (i+1) m0 m0
theorem aes (p q:au):IV p q=some (if az p=true/\az q=true then(dL p q,true)else(0,false)):=by
 unfold IV;by_cases h:az p=true/\az q=true
 ·have:=Ij p q h fuel 0 (sC p q).1 (by unfold fuel;omega)
  rw[show((0:Nat):Int)=0 from rfl]at this;rw[this,if_pos h];rfl
 ·have:=Ht p q h fuel 0 m0 (by unfold fuel;omega)
  rw[show((0:Nat):Int)=0 from rfl]at this;rw[this,if_neg h];rfl
def inP (p:au)(t:Int):Bool:=decide (p.lo<=t)&&decide (t<p.hi)
def cF (l:List au)(t:Int):Bool:=l.any fun p=>az p&&inP p t
def bJ:List au->Prop
 |[]=>True
 |p::l=>az p=true/\(∀ q∈l,p.hi<q.lo)/\bJ l
theorem bJ.val:∀ {l:List au},bJ l ->∀ p∈l,az p=true
 |[],_,p,hp=>by cases hp
 |q::l,h,p,hp=>by
  rcases amN.1 hp with rfl|hp
  ·exact h.1
  ·exact h.2.2.val p hp
theorem lu (t:Int):cF [] t=false:=rfl
theorem mE (p:au)(l:List au)(t:Int):cF (p::l) t=((az p&&inP p t)||cF l t):=by unfold cF;rw[List.any_cons]
theorem oz (l m:List au)(t:Int):cF (l++m) t=(cF l t||cF m t):=by unfold cF;rw[List.any_append]
theorem rj (p:au)(t:Int):inP p t=true↔p.lo<=t/\t<p.hi:=by unfold inP;rw[amO,decide_eq_true_eq,decide_eq_true_eq]
theorem du (l:List au)(t:Int):cF l t=true ↔ ∃ p∈l,az p=true/\p.lo<=t/\t<p.hi:=by
 unfold cF;rw[List.any_eq_true];constructor
 ·rintro⟨p,hp,h⟩
  rw[amO,rj]at h;exact⟨p,hp,h⟩
 ·rintro⟨p,hp,h⟩
  exact⟨p,hp,by rw[amO,rj];exact h⟩
theorem iY {p:au}(h:az p=true):0<=p.lo/\p.lo<p.hi/\p.hi<=1099511627776:=by
 simp only[az,amO,decide_eq_true_eq]at h;exact⟨h.1.1,h.1.2,h.2⟩
theorem AP {p:au}{l:List au}(h:bJ (p::l))(t:Int)(ht:cF (p::l) t=true):p.lo<=t:=by
 obtain⟨q,hq,hv,h1,h2⟩:=(du _ _).1 ht;rcases amN.1 hq with rfl|hq
 ·exact h1
 ·have:=h.2.1 q hq
  have:=iY h.1;omega
theorem rn {p:au}{l:List au}(h:bJ (p::l))(t:Int)(h1:p.lo<=t)(h2:t<p.hi):cF (p::l) t=true :=
 (du _ _).2 ⟨p,ani .., h.1,h1,h2⟩
theorem IA {p:au}{l:List au}(h:bJ (p::l)):cF (p::l) p.hi=false:=by
 rw[Bool.eq_false_iff];intro ht;obtain⟨q,hq,hv,h1,h2⟩:=(du _ _).1 ht;rcases amN.1 hq with rfl|hq
 ·omega
 ·have:=h.2.1 q hq
  omega
theorem C7 {p:au}{l:List au}(h:bJ (p::l))(t:Int):cF l t=(decide (p.hi<=t)&&cF (p::l) t):=by
 rw[Bool.eq_iff_iff,amO,decide_eq_true_eq];constructor
 ·intro ht
  obtain⟨q,hq,hv,h1,h2⟩:=(du _ _).1 ht;have:=h.2.1 q hq;exact⟨m0,(du _ _).2 ⟨q,amU _ hq,hv,h1,h2⟩⟩
 ·rintro⟨h0,ht⟩
  obtain⟨q,hq,hv,h1,h2⟩:=(du _ _).1 ht;rcases amN.1 hq with rfl|hq
  ·omega
  ·exact(du _ _).2 ⟨q,hq,hv,h1,h2⟩
theorem iI:∀ {l m:List au},bJ l->bJ m->(∀ t,cF l t=cF m t)->l=m
 |[],[],_,_,_=>rfl
 |[],q::m,_,hm,h=>by
  have:=h q.lo;rw[lu,rn hm q.lo (Int.le_refl _) (iY hm.1).2.1]at this
  cases this
 |p::l,[],hl,_,h=>by
  have:=h p.lo;rw[lu,rn hl p.lo (Int.le_refl _) (iY hl.1).2.1]at this
  cases this
 |p::l,q::m,hl,hm,h=>by
  have a1:=(iY hl.1).2.1;have a2:=(iY hm.1).2.1;have e1:p.lo=q.lo:=by
   have h1:=AP hm p.lo (by rw[<- h];exact rn hl _ (Int.le_refl _) a1);have h2:=AP hl q.lo (by rw[h];exact rn hm _ (Int.le_refl _) a2);omega
  have e2:p.hi=q.hi:=by
   rcases Int.lt_trichotomy p.hi q.hi with h1|h1|h1
   ·have h3:=h p.hi
    rw[IA hl,rn hm p.hi m0 h1]at h3
    cases h3
   ·exact h1
   ·have h3:=h q.hi
    rw[IA hm,rn hl q.hi m0 h1]at h3
    cases h3
  obtain⟨a,b⟩:=p;obtain⟨c,d⟩:=q;simp only at e1 e2;subst e1 e2;rw[iI hl.2.2 hm.2.2 fun t=>by rw[C7 hl,C7 hm,h]]
theorem q9:∀ {l:List au} {p:au},bJ l->az p=true->(∀ q∈l,q.hi<p.lo)->bJ (l++[p])
 |[],p,_,hp,_=>⟨hp,fun q hq=>(by cases hq),t7⟩
 |q::l,p,h,hp,hq=>by
  refine⟨h.1,fun r hr=>?_,q9 h.2.2 hp fun r hr=>hq r (amU _ hr)⟩;rcases amY.1 hr with hr|hr
  ·exact h.2.1 r hr
  ·rw[am']at hr;subst hr;exact hq q (ani ..)
theorem vO:∀ {l:List au} {p:au},bJ (l++[p])->bJ l/\az p=true /\ ∀ q∈l,q.hi<p.lo
 |[],p,h=>⟨t7,h.1,fun q hq=>by cases hq⟩
 |q::l,p,h=>by
  obtain⟨h1,h2,h3⟩:=vO (l:=l) h.2.2;refine⟨⟨h.1,fun r hr=>h.2.1 r (List.mem_append_left _ hr),h1⟩,h2,fun r hr=>?_⟩;rcases amN.1 hr with rfl|hr
  ·exact h.2.1 p m5
  ·exact h3 r hr
theorem abJ {l:List au}{a b c:Int}(h:bJ (l++[⟨a,b⟩]))(hbc:b<=c)(hc:c<=1099511627776):bJ (l++[⟨a,c⟩]):=by
 obtain⟨h1,h2,h3⟩:=vO h;have:=iY h2;simp only at this;exact q9 h1 (by simp only[az,amO,decide_eq_true_eq];omega) h3
def eI (l:List au)(a b:Int):List au:=match l.getLast? with
 |some p=>if p.hi=a then l.dropLast++[⟨p.lo,b⟩]else l++[⟨a,b⟩]
 |none=>l++[⟨a,b⟩]
theorem fV {l:List au}{a b:Int}(h:bJ l)(ha:∀ p∈l,p.hi<=a)(h0:0<=a)(hab:a<b)(hb:b<=1099511627776) :
  bJ (eI l a b)/\(∀ p∈eI l a b,p.hi<=b) /\ ∀ t,cF (eI l a b) t=(cF l t||(decide (a<=t)&&decide (t<b))):=by
 have hp:az ⟨a,b⟩=true:=by simp only[az,amO,decide_eq_true_eq];omega
 have hnew:∀ t,cF (l++[⟨a,b⟩]) t=(cF l t||(decide (a<=t)&&decide (t<b))):=fun t=>by
  rw[oz,mE,lu,Bool.or_false,hp,am4];rfl
 have hle:∀ p∈l++[(⟨a,b⟩:au)],p.hi<=b:=fun p hq=>by
  rcases amY.1 hq with hq|hq
  ·have:=ha p hq;omega
  ·rw[am']at hq;subst hq;exact Int.le_refl _
 unfold eI
 cases hg:l.getLast? with
 |none =>
  rw[List.getLast?_eq_none_iff]at hg;subst hg;exact⟨q9 trivial hp (fun q hq=>by cases hq),hle,hnew⟩
 |some p =>
  have hl:l=l.dropLast++[p]:=by
   have h1:l≠[]:=fun e=>by rw[e]at hg;cases hg
   have h2:=List.dropLast_concat_getLast h1;rw[List.getLast?_eq_some_getLast h1]at hg;injection hg with hg
   rw[<- h2,hg];simp
  have hlast:∀ q∈l.dropLast,q.hi<p.lo:=by
   rw[hl]at h;exact(vO h).2.2
  have hpm:p∈l:=by rw[hl];simp
  have hpv:=h.val p hpm;by_cases he:p.hi=a
  ·simp only[if_pos he]
   have hs:bJ (l.dropLast++[⟨p.lo,b⟩]):=by
    rw[hl]at h;exact abJ (b:=p.hi) h m0 hb
   refine⟨hs,fun q hq=>?_,fun t=>?_⟩
   ·rcases amY.1 hq with hq|hq
    ·have:=hlast q hq;have:=iY hpv;omega
    ·rw[am']at hq;subst hq;exact Int.le_refl _
   ·have e:cF l t=(cF l.dropLast t||(inP p t)):=by
     conv=>lhs;rw[hl]
     rw[oz,mE,lu,Bool.or_false,hpv,am4]
    have hv2:az ⟨p.lo,b⟩=true:=hs.val _ m5;rw[e,oz,mE,lu,Bool.or_false,hv2,am4,Bool.or_assoc];congr 1;have:=iY hpv;rw[Bool.eq_iff_iff,Bool.or_eq_true,rj,rj,amO,decide_eq_true_eq,decide_eq_true_eq];simp only;omega
  ·simp only[if_neg he]
   refine⟨q9 h hp fun q hq=>?_,hle,hnew⟩;rw[hl]at hq;have hp2:=ha p hpm;rcases amY.1 hq with hq|hq
   ·have:=hlast q hq;have:=iY hpv;simp only;omega
   ·rw[am']at hq;subst hq;simp only;omega
abbrev E3:=Int×Int×Int
def pd:List au->Bool->List E3
 |[],_=>[]
 |p::l,f=>(bif az p then(bif f then [(p.lo,1,0),(p.hi,-1,0)]else [(p.lo,0,1),(p.hi,0,-1)])else [])++pd l f
def tP (a b:List au):List E3:=pd a true++pd b false
def dz (f:E3->Int):List E3->Int->Int
 |[],_=>0
 |e::l,t=>(if e.1<=t then f e else 0)+dz f l t
theorem eV (f:E3->Int)(t:Int):∀ l m:List E3,dz f (l++m) t=dz f l t+dz f m t
 |[],m=>by simp[dz]
 |e::l,m=>by rw[List.cons_append,dz,dz,eV f t l m];omega
theorem DK (f:E3->Int)(t:Int){l m:List E3}(h:l.Perm m):dz f l t=dz f m t:=by
 induction h with
 |nil=>rfl
 |cons e _ ih=>rw[dz,dz,ih]
 |swap e e' l=>simp only[dz];omega
 |trans _ _ h1 h2=>exact h1.trans h2
def wF (l:List au)(t:Int):Int:=((l.countP fun p=>az p&&inP p t:Nat):Int)
theorem DU (l:List au)(t:Int):decide (0<wF l t)=cF l t:=by
 unfold wF cF;rw[Bool.eq_iff_iff,decide_eq_true_eq,List.any_eq_true];rw[show(0:Int)<((l.countP fun p=>az p&&inP p t:Nat):Int)↔0<l.countP (fun p=>az p&&inP p t)by omega,List.countP_pos_iff]
theorem yq (t:Int):∀ l:List au,dz (fun e=>e.2.1) (pd l true) t=wF l t/\dz (fun e=>e.2.2) (pd l true) t=0
 |[]=>⟨rfl,rfl⟩
 |p::l=>by
  obtain⟨h1,h2⟩:=yq t l;rw[pd,eV,eV,h1,h2];unfold wF;rw[List.countP_cons]
  cases hp:az p with
  |false=>simp[dz]
  |true =>
   have:=iY hp;simp only[amy,dz,am4];have e:inP p t=true↔p.lo<=t/\t<p.hi:=rj p t;by_cases h3:p.lo<=t<;>by_cases h4:p.hi<=t
   ·rw[if_pos h3,if_pos h4,if_neg (by rw[e];omega)];constructor<;>simp
   ·rw[if_pos h3,if_neg h4,if_pos (by rw[e];omega)];constructor<;>simp;omega
   ·omega
   ·rw[if_neg h3,if_neg h4,if_neg (by rw[e];omega)];constructor<;>simp
theorem yh (t:Int):∀ l:List au,dz (fun e=>e.2.2) (pd l false) t=wF l t/\dz (fun e=>e.2.1) (pd l false) t=0
 |[]=>⟨rfl,rfl⟩
 |p::l=>by
  obtain⟨h1,h2⟩:=yh t l;rw[pd,eV,eV,h1,h2];unfold wF;rw[List.countP_cons]
  cases hp:az p with
  |false=>simp[dz]
  |true =>
   have:=iY hp;simp only[amy,amx,dz,am4];have e:inP p t=true↔p.lo<=t/\t<p.hi:=rj p t;by_cases h3:p.lo<=t<;>by_cases h4:p.hi<=t
   ·rw[if_pos h3,if_pos h4,if_neg (by rw[e];omega)];constructor<;>simp
   ·rw[if_pos h3,if_neg h4,if_pos (by rw[e];omega)];constructor<;>simp;omega
   ·omega
   ·rw[if_neg h3,if_neg h4,if_neg (by rw[e];omega)];constructor<;>simp
theorem JD (a b:List au)(t:Int):dz (fun e=>e.2.1) (tP a b) t=wF a t/\dz (fun e=>e.2.2) (tP a b) t=wF b t:=by
 unfold tP;rw[eV,eV,(yq t a).1,(yq t a).2,(yh t b).1,(yh t b).2];omega
theorem uV:∀ (l:List au) (f:Bool),∀ e∈pd l f,0<=e.1/\e.1<=1099511627776 /\ -1<=e.2.1/\e.2.1<=1 /\ -1<=e.2.2/\e.2.2<=1
 |[],_,e,h=>by cases h
 |p::l,f,e,h=>by
  rw[pd,amY]at h;rcases h with h|h
  ·cases hp:az p with
   |false=>rw[hp]at h;cases h
   |true =>
    have:=iY hp;rw[hp,amy]at h
    cases f<;>simp at h<;>rcases h with rfl|rfl<;>simp<;>omega
  ·exact uV l f e h
theorem GX:∀ (l:List au) (f:Bool),(pd l f).length<=2*l.length
 |[],_=>amM _
 |p::l,f=>by
  have:=GX l f;rw[pd,amE,amS]
  cases az p<;>cases f<;>simp<;>omega
theorem n_ (a b:List au):∀ e∈tP a b,0<=e.1/\e.1<=1099511627776 /\ -1<=e.2.1/\e.2.1<=1 /\ -1<=e.2.2/\e.2.2<=1:=fun e h=>by
 rcases amY.1 h with h|h
 ·exact uV a true e h
 ·exact uV b false e h
theorem zJ (a b:List au):(tP a b).length<=2*a.length+2*b.length:=by
 have h1:=GX a true;have h2:=GX b false;unfold tP;rw[amE];omega
def jq (at_:Int):List E3->Int->Int->List E3×Int×Int
 |[],na,nb=>([],na,nb)
 |e::l,na,nb=>if e.1=at_ then jq at_ l (na+e.2.1) (nb+e.2.2)else(e::l,na,nb)
def i_:List E3->Int
 |[]=>1099511627776
 |e::_=>e.1
def oZ (l:List E3):Prop:=l.Pairwise fun x y=>x.1<=y.1
theorem xZ (at_:Int):∀ (l:List E3) (na nb:Int),oZ l->(∀ e∈l,at_<=e.1) ->∃ l' na' nb',jq at_ l na nb=(l',na',nb')/\oZ l'/\(∀ e∈l',at_<e.1/\e∈l)/\l'.length<=l.length /\
  (∀ t,at_<=t->na+dz (fun e=>e.2.1) l t=na'+dz (fun e=>e.2.1) l' t/\nb+dz (fun e=>e.2.2) l t=nb'+dz (fun e=>e.2.2) l' t)
 |[],na,nb,_,_=>⟨[],na,nb,rfl,List.Pairwise.nil,fun e h=>(by cases h),amM _,fun t _=>⟨rfl,rfl⟩⟩
 |e::l,na,nb,hs,hm=>by
  have hs':=anr.1 hs;rw[jq];by_cases he:e.1=at_
  ·rw[if_pos he]
   obtain⟨l',na',nb',h1,h2,h3,h4,h5⟩:=xZ at_ l (na+e.2.1) (nb+e.2.2) hs'.2 fun x hx=>hm x (amU _ hx)
   refine⟨l',na',nb',h1,h2,fun x hx=>⟨(h3 x hx).1,amU _ (h3 x hx).2⟩,by simp;omega,fun t ht=>?_⟩;obtain⟨q1,q2⟩:=h5 t ht;simp only[dz];rw[if_pos m0,if_pos m0];omega
  ·rw[if_neg he]
   have h0:=hm e (ani ..);refine⟨e::l,na,nb,rfl,hs,fun x hx=>⟨?_,hx⟩,amM _,fun t _=>⟨rfl,rfl⟩⟩;rcases amN.1 hx with rfl|hx
   ·omega
   ·have:=hs'.1 x hx;omega
theorem vp (f:E3->Int)(t:Int):∀ l:List E3,(∀ e∈l,t<e.1)->dz f l t=0
 |[],_=>rfl
 |e::l,h=>by
  rw[dz,if_neg (by have:=h e (ani ..);omega),vp f t l fun x hx=>h x (amU _ hx)];rfl
def iQ (keep:Bool->Bool->Bool):Nat->List E3->Int->Int->Int->List au->List au
 |0,_,_,_,_,out=>out
 |n+1,l,at_,na,nb,out=>if at_<1099511627776 then
   let r:=jq at_ l na nb
   iQ keep n r.1 (i_ r.1) r.2.1 r.2.2 (if keep (decide (0<r.2.1)) (decide (0<r.2.2))then eI out at_ (i_ r.1)else out)
  else out
structure EH (keep:Bool->Bool->Bool)(E l:List E3)(at_ na nb:Int)(out:List au):Prop where
 srt:oZ l
 low:∀ e∈l,at_<=e.1/\e.1<=1099511627776
 zero:0<=at_/\at_<=1099511627776
 cnt:∀ t,at_<=t->dz (fun e=>e.2.1) E t=na+dz (fun e=>e.2.1) l t/\dz (fun e=>e.2.2) E t=nb+dz (fun e=>e.2.2) l t
 span:bJ out
 last:∀ p∈out,p.hi<=at_
 ins:∀ t,cF out t=((decide (0<=t)&&decide (t<at_))&&keep (decide (0<dz (fun e=>e.2.1) E t)) (decide (0<dz (fun e=>e.2.2) E t)))
theorem EH.step {keep:Bool->Bool->Bool}{E l:List E3}{at_ na nb:Int}{out:List au}(h:EH keep E l at_ na nb out)(ha:at_<1099511627776) :
  EH keep E (jq at_ l na nb).1 (i_ (jq at_ l na nb).1) (jq at_ l na nb).2.1 (jq at_ l na nb).2.2 (if keep (decide (0<(jq at_ l na nb).2.1)) (decide (0<(jq at_ l na nb).2.2))then eI out at_ (i_ (jq at_ l na nb).1)else out) /\
  at_<i_ (jq at_ l na nb).1:=by
 obtain⟨l',na',nb',h1,h2,h3,h4,h5⟩:=xZ at_ l na nb h.srt fun e he=>(h.low e he).1
 rw[h1];simp only;have hn:at_<i_ l'/\i_ l'<=1099511627776 /\ ∀ e∈l',i_ l'<=e.1:=by
  cases l' with
  |nil=>exact⟨ha,Int.le_refl _,fun e he=>by cases he⟩
  |cons e l' =>
   have h6:=h3 e (ani ..);refine⟨h6.1,(h.low e h6.2).2,fun x hx=>?_⟩;rcases amN.1 hx with rfl|hx
   ·exact Int.le_refl _
   ·exact(anr.1 h2).1 x hx
 obtain⟨n1,n2,n3⟩:=hn;generalize i_ l'=nx at n1 n2 n3 ⊢;have hz:=h.zero;have hc:∀ t,at_<=t->dz (fun e=>e.2.1) E t=na'+dz (fun e=>e.2.1) l' t/\dz (fun e=>e.2.2) E t=nb'+dz (fun e=>e.2.2) l' t:=fun t ht=>by
  have q1:=h.cnt t ht;have q2:=h5 t ht;omega
 have hk:∀ t,at_<=t->t<nx->keep (decide (0<dz (fun e=>e.2.1) E t)) (decide (0<dz (fun e=>e.2.2) E t))=keep (decide (0<na')) (decide (0<nb')):=fun t h1 h2=>by
  have q:=hc t h1;rw[vp _ t l' fun e he=>by have:=n3 e he;omega,vp _ t l' fun e he=>by have:=n3 e he;omega,Int.add_zero,Int.add_zero]at q;rw[q.1,q.2]
 refine⟨⟨h2,fun e he=>⟨n3 e he,(h.low e (h3 e he).2).2⟩,m0,fun t ht=>hc t m0,?_,?_,?_⟩,n1⟩
 ·split
  ·exact(fV h.span h.last hz.1 n1 n2).1
  ·exact h.span
 ·split
  ·exact(fV h.span h.last hz.1 n1 n2).2.1
  ·exact fun p hp=>by have:=h.last p hp;omega
 ·intro t
  by_cases hlt:t<at_
  ·have e1:(decide (at_<=t)&&decide (t<nx))=false:=by simp;omega
   have e2:cF (if keep (decide (0<na')) (decide (0<nb'))then eI out at_ nx else out) t=cF out t:=by
    split
    ·rw[(fV h.span h.last hz.1 n1 n2).2.2,e1,Bool.or_false]
    ·rfl
   rw[e2,h.ins t,amA hlt,amA (show t<nx by omega)]
  ·have e0:cF out t=false:=by rw[h.ins t,amz hlt,Bool.and_false,Bool.false_and]
   by_cases hnx:t<nx
   ·rw[hk t m0 hnx,amA (show 0<=t by omega),amA hnx,am4,am4]
    cases hkk:keep (decide (0<na')) (decide (0<nb'))with
    |true=>rw[if_pos rfl,(fV h.span h.last hz.1 n1 n2).2.2,e0,amA (show at_<=t by omega),amA hnx];rfl
    |false=>rw[if_neg m5,e0]
   ·rw[amz hnx,Bool.and_false,Bool.false_and]
    split
    ·rw[(fV h.span h.last hz.1 n1 n2).2.2,e0,amz hnx,Bool.and_false];rfl
    ·exact e0
def vJ (n:Nat)(l:List E3)(at_:Int):Prop:=at_<1099511627776->l.length+(if at_=i_ l then 1 else 2)<=n
theorem ab9 (at_:Int){l:List E3}{na nb:Int}(hs:oZ l)(hm:∀ e∈l,at_<=e.1):(jq at_ l na nb).1.length<=l.length/\(at_=i_ l->at_<1099511627776->(jq at_ l na nb).1.length<l.length):=by
 obtain⟨l',na',nb',h1,h2,h3,h4,h5⟩:=xZ at_ l na nb hs hm;refine⟨by rw[h1];exact h4,fun he hf=>?_⟩
 cases l with
 |nil=>exact absurd (show at_=1099511627776 from he) m0
 |cons e l =>
  have he':e.1=at_:=he.symm;rw[jq,if_pos he'];obtain⟨l2,a2,b2,q1,_,_,q4,_⟩:=xZ at_ l (na+e.2.1) (nb+e.2.2) (anr.1 hs).2 fun x hx=>hm x (amU _ hx)
  rw[q1];simp;omega
theorem vJ.step {n:Nat}{l:List E3}{at_ na nb:Int}(h:vJ (n+1) l at_)(hs:oZ l)(hm:∀ e∈l,at_<=e.1)(ha:at_<1099511627776):vJ n (jq at_ l na nb).1 (i_ (jq at_ l na nb).1):=by
 intro _;rw[if_pos rfl];have h1:=ab9 at_ (na:=na) (nb:=nb) hs hm;have h2:=h ha;by_cases he:at_=i_ l
 ·rw[if_pos he]at h2
  have:=h1.2 he ha;omega
 ·rw[if_neg he]at h2
  have:=h1.1;omega
theorem abW (keep:Bool->Bool->Bool)(E:List E3):∀ (n:Nat) (l:List E3) (at_ na nb:Int) (out:List au),EH keep E l at_ na nb out->vJ n l at_ ->
  bJ (iQ keep n l at_ na nb out) /\ ∀ t,cF (iQ keep n l at_ na nb out) t=((decide (0<=t)&&decide (t<1099511627776))&&keep (decide (0<dz (fun e=>e.2.1) E t)) (decide (0<dz (fun e=>e.2.2) E t))):=by
 intro n
 induction n with
 |zero =>
  intro l at_ na nb out h hn;have:at_=1099511627776:=by
   have:=h.zero;have h2:=hn;unfold vJ at h2;by_cases ha:at_<1099511627776
   ·have:=h2 ha
    split at this<;>omega
   ·omega
  subst this;exact⟨h.span,h.ins⟩
 |succ n ih =>
  intro l at_ na nb out h hn;rw[iQ];by_cases ha:at_<1099511627776
  ·rw[if_pos ha]
   exact ih _ _ _ _ _ (h.step ha).1 (hn.step h.srt (fun e he=>(h.low e he).1) ha)
  ·rw[if_neg ha]
   have:at_=1099511627776:=by have:=h.zero;omega
   subst this;exact⟨h.span,h.ins⟩
theorem Ig (keep:Bool->Bool->Bool){E:List E3}(hs:oZ E)(hr:∀ e∈E,0<=e.1/\e.1<=1099511627776):EH keep E E 0 0 0 [] :=
 ⟨hs,hr,m0,fun t _=>⟨(Int.zero_add _).symm,(Int.zero_add _).symm⟩,t7,fun p hp=>(by cases hp),fun t=>by
  have:(decide (0<=t)&&decide (t<0))=false:=by
   by_cases h:t<0
   ·rw[amz (show ¬ 0<=t by omega),Bool.false_and]
   ·rw[amz h,Bool.and_false]
  rw[this,Bool.false_and,lu]⟩
theorem LA (keep:Bool->Bool->Bool){a b:List au}{E:List E3}(hp:E.Perm (tP a b))(hs:oZ E){n:Nat}(hn:E.length+2<=n) :
  bJ (iQ keep n E 0 0 0 []) /\ ∀ t,cF (iQ keep n E 0 0 0 []) t=((decide (0<=t)&&decide (t<1099511627776))&&keep (cF a t) (cF b t)):=by
 have hr:∀ e∈E,0<=e.1/\e.1<=1099511627776:=fun e he=>by
  have:=n_ a b e (hp.mem_iff.1 he);exact⟨this.1,this.2.1⟩
 obtain⟨h1,h2⟩:=abW keep E n E 0 0 0 [] (Ig keep hs hr) (fun _=>by split<;>omega);refine⟨h1,fun t=>?_⟩;rw[h2 t,DK _ t hp,DK _ t hp,(JD a b t).1,(JD a b t).2,DU,DU]
open Go.RowKit Go.Shelf Go.Lib Go.Sort
def abG:Type :={ e:E3 // 0<=e.1/\e.1<=1099511627776 }
instance : Inhabited abG := ⟨⟨(0, 0, 0), by decide⟩⟩
def ahh:Flat abG:=⟨3,fun e=>[e.1.1,e.1.2.1,e.1.2.2],fun _=>rfl,m0⟩
theorem ail:SWO (ltOf fun x y:abG=>x.1.1-y.1.1) where
 irrefl x:=by simp[ltOf]
 trans x y z h1 h2:=by simp[ltOf]at *;omega
 ntrans x y z h1 h2:=by simp[ltOf]at *;omega
theorem ac6:afG Tryz.prog ahh 212 [] (fun x => .agg (ahh.enc x).toArray) (fun x y=>x.1.1-y.1.1):=by
 intro R W cb _ hs _ x y;obtain rfl:=ajb hs;obtain⟨⟨x,a,b⟩,hx1,hx2⟩:=x;obtain⟨⟨y,c,d⟩,hy1,hy2⟩:=y;simp only at hx1 hx2 hy1 hy2;show Calls Tryz.prog 212 #[.agg #[.int .i64 x,.int .i64 a,.int .i64 b],.agg #[.int .i64 y,.int .i64 c,.int .i64 d]] W _
 go_enter Tryz.func212,Tryz.ntmps212
 go_wp2
 go_ret
 exact⟨rfl,0,_,by rw[alloc_eq_grow,alloc_eq_grow,grow_grow];rfl⟩
open Go.RowKit Go.MapKept Go.Shelf Go.Lib Go.Sort
def LB (l:List au):AC := .lst (l.map aH)
def BQ (e:E3):List SV:=[.c (.int .i64 e.1),.c (.int .i64 e.2.1),.c (.int .i64 e.2.2)]
def cEd (e:E3):List AC:=[.int .i64 e.1,.int .i64 e.2.1,.int .i64 e.2.2]
theorem JW:∀ {o:List E3},(∀ e∈o,0<=e.1/\e.1<=1099511627776) ->∃ d:List abG,d.map (·.1)=o
 |[],_=>⟨[],rfl⟩
 |k::o,h=>by
  obtain⟨d,e⟩:=JW (o:=o) fun t ht=>h t (amU _ ht)
  have hk:=h k (ani ..);exact⟨⟨k,hk.1,hk.2⟩::d,congrArg (k :: ·) e⟩
theorem Jl (d:List abG):d.map ahh.tr=(d.map (·.1)).map BQ:=by
 rw[List.map_map];rfl
theorem Nx {o:List E3}(hr:∀ e∈o,0<=e.1/\e.1<=1099511627776)(v m:Nat)(hm:o.length=m)(hm2:m<=1000000) :
  ∃ o':List E3,o'.Perm o/\oZ o'/\RTz 211 [.row v (o.map BQ) 3] [.one (.sl 0 v 0 m),.one (.c (.fn 212 []))] [.row v (o'.map BQ) 3] (.tup []):=by
 obtain⟨d,rfl⟩:=JW hr;have hrun:=aaM (P:=Tryz.prog) (F:=ahh) Tryz.sortEdge Tryz.isAgg189 Tryz.sizeOf189 (fun x y=>x.1.1-y.1.1) ail 212 [] (pre:=[]) (d:=d) (post:=[])
  (enters_of Tryz.func212 k7 rfl) (fun _=>ac6) ⟨_,Tryz.func211,k7,k7⟩ v 0 m rfl (by rw[<- hm];simp) m0
 refine⟨(bE (fun x y:abG=>x.1.1-y.1.1) d).map (·.1),(uC ail d).map _,?_,?_⟩
 ·unfold oZ
  rw[List.pairwise_map];refine(JM ail d).imp fun {x y} h=>?_
  omega
 ·simp only[amB,am5]at hrun
  rw[Jl,Jl]at hrun;exact hrun
def vE (n:Nat):Nat:=189+65536+65536*n
theorem ads (l:List E3):eA (l.map BQ)=some (l.map cEd):=by
 have:=qF (l.map cEd);rw[List.map_map]at this;exact this
theorem f9 (n v k:Nat)(l:List E3):(Ob.row v (l.map BQ) k).below n:=by
 intro e he x hx;obtain⟨y,_,rfl⟩:=am6.1 he;simp[BQ]at hx;rcases hx with rfl|rfl|rfl<;>trivial
theorem JI (σ:List Nat)(v:Nat)(l:List E3):(Ob.row v (l.map BQ) 3).ren σ=Ob.row v (l.map BQ) 3:=by
 simp only[Ob.ren,List.map_map];rfl
theorem rfE {L:List Ob}{v:Nat}{l:List E3}{id:Nat}{x:AV}{xs:List AV}(h0:L[id]?=some (Ob.row v (l.map BQ) 3))(hx:∀ y∈x::xs,y.below 1):eQ [id] [Ob.row v (l.map BQ) 3] (x::xs) L:=by
 refine⟨rfl,m5,fun i y hy=>?_,bq ⟨f9 _ _ _ _,t7⟩,hx⟩
 match i,hy with
 |0,hy=>simp at hy;subst hy;rw[JI];exact h0
 |i+1,hy=>simp at hy
theorem jE {L L':List Ob}{v:Nat}{l:List E3}{id:Nat}(h:L.set id (Ob.row v (l.map BQ) 3)=L'):joinL [id] L [Ob.row v (l.map BQ) 3]=L':=by
 subst h;simp[joinL,join,dp,ct,jN,JI]
theorem AD (p:au)(f:Bool):∀ l:List au,pd (l++[p]) f=pd l f++(bif az p then(bif f then [(p.lo,1,0),(p.hi,-1,0)]else [(p.lo,0,1),(p.hi,0,-1)])else [])
 |[]=>by simp[pd]
 |q::l=>by
  rw[List.cons_append,pd,AD p f l,pd,amX]
def nE (l:List au):Nat:=l.countP az
theorem NC (l:List au)(p:au):nE (l++[p])=nE l+(bif az p then 1 else 0):=by
 unfold nE;rw[List.countP_append,List.countP_cons,List.countP_nil]
 cases az p<;>simp
theorem vw (f:Bool):∀ l:List au,(pd l f).length=2*nE l
 |[]=>rfl
 |p::l=>by
  have:=vw f l;unfold nE at this ⊢;rw[pd,amE,this,List.countP_cons]
  cases az p<;>cases f<;>simp<;>omega
theorem Oy (l:List au):nE l<=l.length:=List.countP_le_length
def ET1 (a b:List au)(m i:Nat):Tm:=[(1,.one (.c (LB b))),(5,.one (.sl 0 (vE m) 0 (2*m))),(10,.one (.c (LB a))),(11,.one (.c (.int .i64 a.length))),(12,.one (.c (.int .i64 i)))]
theorem wm (a b:List au)(m i:Nat):eF 1 (ET1 a b m i):=⟨t7,(by show 0<1;omega),t7,t7,t7,t7⟩
def ET2 (b:List au)(m i:Nat):Tm:=[(5,.one (.sl 0 (vE m) 0 (2*m))),(28,.one (.c (LB b))),(29,.one (.c (.int .i64 b.length))),(30,.one (.c (.int .i64 i)))]
theorem v_ (b:List au)(m i:Nat):eF 1 (ET2 b m i):=⟨(by show 0<1;omega),t7,t7,t7,t7⟩
theorem sy (a b:List au)(ha:a.length<=1000)(hb:b.length<=1000):∃ E,E.Perm (tP a b)/\oZ E/\PTz 180 [.one (LB a),.one (LB b)] (.val (.one (.lst (E.map cEd)))):=by
 have hlen:(tP a b).length=2*(nE a+nE b):=by unfold tP;rw[amE,vw,vw];omega
 have hna:=Oy a;have hnb:=Oy b;obtain⟨E,hEp,hEs,hsort⟩:=Nx (o:=tP a b) (fun e he=>⟨(n_ a b e he).1,(n_ a b e he).2.1⟩) (vE (nE a+nE b)) (2*(nE a+nE b)) hlen m0;refine⟨E,hEp,hEs,?_⟩;refine pa_ ae Tryz.func180 rfl rfl Tryz.ntmps180 m5 ?_;simp only[argT,PV.av,amH,amL]
 repeat' (first|refine gw_ ae tabS_ok ?_|refine gi_ (fun hb=>?_) (fun hb=>?_)|fail)
 refine vH 5 (vE 0) 3 rfl (by unfold vE;omega) ?_;refine cK (fun i:Nat=>ET1 a b (nE (a.take i)) i) (fun i=>[.row (vE (nE (a.take i))) ((pd (a.take i) true).map BQ) 3]) (fun i=>i<=a.length) (fun i=>a.length-i) 0 m0 (fun _ _=>amR _)
  (fm_ ⟨rfl,rfl,rfl,aM m5,rfl,t7⟩ [] rfl (wm _ _ _ _) ⟨f9 _ _ _ _,t7⟩) ?_
 intro i hi;by_cases hlt:i<a.length
 ·obtain⟨x,hx⟩:=gol_ hlt
  have hpv:=gPV_ok (vg x);have hn1:nE (a.take (i+1))=nE (a.take i)+(bif az x then 1 else 0):=by rw[bu hx,NC]
  have he1:pd (a.take (i+1)) true=pd (a.take i) true++(bif az x then [(x.lo,1,0),(x.hi,-1,0)]else []):=by rw[bu hx,AD];rfl
  have hel:=vw true (a.take i);have hle:nE (a.take i)<=1000:=by have:=Oy (a.take i);rw[anm]at this;omega
  unfold ET1;generalize nE (a.take i)=m at hn1 hel hle ⊢;generalize pd (a.take i) true=E0 at he1 hel ⊢
  cases hv:az x with
  |true =>
   rw[hv]at hpv hn1 he1;rw[amy]at hn1 he1;have hv1:vE (m+1)=vE m+65536:=by unfold vE;omega
   have hm:(E0.map BQ).length=2*m:=by rw[amI,hel]
   repeat' (first|(refine bL rfl rfl rfl rfl rfl (dD ae (k:=3) (by_:=24) (xs:=[BQ (x.lo,1,0),BQ (x.hi,-1,0)]) rfl rfl rfl rfl ⟨rfl,_,rfl,by intro e he;simp at he;rcases he with rfl|rfl<;>rfl⟩ rfl (by unfold vE;omega) rfl rfl rfl m9 hm (by simp only[amS,am1];omega) (by simp only[amS,am1];omega)) ?_)|(refine aZ rfl rfl rfl rfl rfl rfl rfl rfl (aU hx) ?_ ?_;· exact⟨m0,rfl⟩)|refine aF rfl rfl rfl rfl hpv rfl ?_|refine gw_ ae tabS_ok ?_|refine gi_ (fun hb=>?_) (fun hb=>?_)|fail)
   exact⟨i+1,m0,m0,fm_ ⟨rfl,(by rw[hn1,hv1];rfl),rfl,rfl,aM (aS m0 m0),t7⟩ [_] (by rw[hn1,hv1,he1,amJ];rfl) (wm _ _ _ _) ⟨f9 _ _ _ _,t7⟩⟩
  |false =>
   rw[hv]at hpv hn1 he1;rw[amx,Nat.add_zero]at hn1;rw[amx,am5]at he1
   repeat' (first|(refine aZ rfl rfl rfl rfl rfl rfl rfl rfl (aU hx) ?_ ?_;· exact⟨m0,rfl⟩)|refine aF rfl rfl rfl rfl hpv rfl ?_|refine gw_ ae tabS_ok ?_|refine gi_ (fun hb=>?_) (fun hb=>?_)|fail)
   exact⟨i+1,m0,m0,fm_ ⟨rfl,(by rw[hn1];rfl),rfl,rfl,aM (aS m0 m0),t7⟩ [_] (by rw[hn1,he1];rfl) (wm _ _ _ _) ⟨f9 _ _ _ _,t7⟩⟩
 ·have hi2:i=a.length:=m0
  subst hi2;rw[List.take_length];unfold ET1
  repeat' (first|refine gw_ ae tabS_ok ?_|refine gi_ (fun hb=>?_) (fun hb=>?_)|fail)
  refine cK (fun i:Nat=>ET2 b (nE a+nE (b.take i)) i) (fun i=>[.row (vE (nE a+nE (b.take i))) ((pd a true++pd (b.take i) false).map BQ) 3]) (fun i=>i<=b.length) (fun i=>b.length-i) 0 m0 (fun _ _=>amR _)
   (fm_ ⟨rfl,rfl,aM m5,rfl,t7⟩ [] (by simp[pd,nE]) (v_ _ _ _) ⟨f9 _ _ _ _,t7⟩) ?_
  intro i hi;by_cases hlt:i<b.length
  ·obtain⟨x,hx⟩:=gol_ hlt
   have hpv:=gPV_ok (vg x);have hn1:nE a+nE (b.take (i+1))=nE a+nE (b.take i)+(bif az x then 1 else 0):=by rw[bu hx,NC,Nat.add_assoc]
   have he1:pd a true++pd (b.take (i+1)) false=pd a true++pd (b.take i) false++(bif az x then [(x.lo,0,1),(x.hi,0,-1)]else []):=by rw[bu hx,AD,amX];rfl
   have hel:(pd a true++pd (b.take i) false).length=2*(nE a+nE (b.take i)):=by rw[amE,vw,vw];omega
   have hle:nE a+nE (b.take i)<=2000:=by have:=Oy (b.take i);rw[anm]at this;omega
   unfold ET2;generalize nE a+nE (b.take i)=m at hn1 hel hle ⊢;generalize pd a true++pd (b.take i) false=E0 at he1 hel ⊢
   cases hv:az x with
   |true =>
    rw[hv]at hpv hn1 he1;rw[amy]at hn1 he1;have hv1:vE (m+1)=vE m+65536:=by unfold vE;omega
    have hm:(E0.map BQ).length=2*m:=by rw[amI,hel]
    repeat' (first|(refine bL rfl rfl rfl rfl rfl (dD ae (k:=3) (by_:=24) (xs:=[BQ (x.lo,0,1),BQ (x.hi,0,-1)]) rfl rfl rfl rfl ⟨rfl,_,rfl,by intro e he;simp at he;rcases he with rfl|rfl<;>rfl⟩ rfl (by unfold vE;omega) rfl rfl rfl m9 hm (by simp only[amS,am1];omega) (by simp only[amS,am1];omega)) ?_)|(refine aZ rfl rfl rfl rfl rfl rfl rfl rfl (aU hx) ?_ ?_;· exact⟨m0,rfl⟩)|refine aF rfl rfl rfl rfl hpv rfl ?_|refine gw_ ae tabS_ok ?_|refine gi_ (fun hb=>?_) (fun hb=>?_)|fail)
    exact⟨i+1,m0,m0,fm_ ⟨(by rw[hn1,hv1];rfl),rfl,rfl,aM (aS m0 m0),t7⟩ [_] (by rw[hn1,hv1,he1,amJ];rfl) (v_ _ _ _) ⟨f9 _ _ _ _,t7⟩⟩
   |false =>
    rw[hv]at hpv hn1 he1;rw[amx,Nat.add_zero]at hn1;rw[amx,am5]at he1
    repeat' (first|(refine aZ rfl rfl rfl rfl rfl rfl rfl rfl (aU hx) ?_ ?_;· exact⟨m0,rfl⟩)|refine aF rfl rfl rfl rfl hpv rfl ?_|refine gw_ ae tabS_ok ?_|refine gi_ (fun hb=>?_) (fun hb=>?_)|fail)
    exact⟨i+1,m0,m0,fm_ ⟨(by rw[hn1];rfl),rfl,rfl,aM (aS m0 m0),t7⟩ [_] (by rw[hn1,he1];rfl) (v_ _ _ _) ⟨f9 _ _ _ _,t7⟩⟩
  ·have hi2:i=b.length:=m0
   subst hi2;rw[List.take_length];unfold ET2;have hfin:pd a true++pd b false=tP a b:=rfl;rw[hfin]
   repeat' (first|(refine cB [0] rfl rfl rfl rfl hsort rfl (rfE rfl (bS ⟨(by show 0<1;omega),t7,t7⟩)) rfl (jE rfl) ?_)|(refine sI 0 5 (cs:=E.map cEd) rfl (ads _) rfl (by rw[amI,hEp.length_eq,hlen]) ?_)|refine gw_ ae tabS_ok ?_|refine gi_ (fun hb=>?_) (fun hb=>?_)|fail)
   refine⟨.inr rfl,?_⟩
   first|exact⟨t7,rfl⟩|exact⟨⟨t7,t7⟩,rfl⟩|(refine⟨?_,rfl⟩;repeat' (first|exact t7|rfl|apply And.intro))
