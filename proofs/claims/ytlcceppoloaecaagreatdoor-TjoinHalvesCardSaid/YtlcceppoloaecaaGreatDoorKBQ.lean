/- Parts. No condition. -/
import Derived.Test.YtlcceppoloaecaaGreatDoorKBP
set_option maxHeartbeats 8000000
set_option maxRecDepth 100000
set_option linter.unusedSimpArgs false
set_option linter.unusedVariables false
namespace Go.Proofs.YtlcceppoloaecaaGreatDoor
open Go.RowKit Go.MapKept
theorem GX (r:List Val):∀ l:List ap,∃ s t,l=s++t/\(∀ f∈s,f.row=r)/\(∀ f u,t=f::u->f.row≠r)
 |[]=>⟨[],[],rfl,(fun _ h=>by cases h),(fun _ _ h=>by cases h)⟩
 |f::l=>by
  by_cases e:f.row=r
  ·obtain⟨s,t,h1,h2,h3⟩:=GX r l
   refine⟨f::s,t,by rw[h1];rfl,fun g hg=>?_,h3⟩;rcases aqp.1 hg with rfl|hg
   ·exact e
   ·exact h2 g hg
  ·exact⟨[],f::l,rfl,(fun _ h=>by cases h),(fun g u h=>by injection h with h1 h2;subst h1;exact e)⟩
theorem ahZ {α:Type}(P s t:List α):ga (P++s++t) ((P.length:Nat):Int) (((P.length+s.length:Nat):Nat):Int)=some s:=by
 unfold ga;rw[if_pos m8,Int.toNat_natCast,Int.toNat_natCast];congr 1;have e:(P++s++t).take (P.length+s.length)=P++s:=by
  rw[List.take_append_of_le_length m5];rw[aqO m5]
 rw[e,List.drop_left]
theorem aaZ (s t:List ap)(r:List Val):di (s++t) r=di s r++di t r:=by unfold di;rw[List.filter_append,aql]
theorem y9 {l:List ap}{r:List Val}(h:∀ f∈l,f.row≠r):di l r=[]:=by
 unfold di;rw[List.map_eq_nil_iff,List.filter_eq_nil_iff];intro f hf e;exact h f hf (aqC e)
def amh (l:List ap)(G:List bQ):Prop:=dA l (G.map (·.row)) /\ ∀ g∈G,g.steps=vm (ones (di l g.row))
theorem run_end (P s t:List ap)(r:List Val)(f0:ap)(hf0:f0.row=r)(Xh:∀ f∈P++s++t,f.row.length<=1000000)(hn:(P++s++t).length<=300)(hs:∀ f∈s,f.row=r)(YA:s[0]?=some f0)(ht:∀ f u,t=f::u->f.row≠r) :
  ∀ (n j:Nat),j<=s.length->s.length-j<n->ao (eQ (P++s++t) ((P.length:Nat):Int)) n (((P.length+j:Nat):Nat):Int)=some (.inl (((P.length+s.length:Nat):Nat):Int)):=by
 have hi:(P++s++t)[P.length]?=some f0:=by
  rw[aqA,aqf (aqo _),Nat.sub_self,aqm (by have:=(ap_.1 YA).1;omega)];exact YA
 have V8:P.length+s.length<=300:=by simp only[aqg]at hn;omega
 intro n
 induction n with
 |zero=>intro j _ h;omega
 |succ n ih =>
  intro j hj PR;rw[ao];by_cases O0:j<s.length
  ·obtain⟨x,hx⟩:=gol_ O0
   have QP:(P++s++t)[P.length+j]?=some x:=by
    rw[aqA,aqf m0,show P.length+j-P.length=j by omega,aqm O0];exact hx
   have U6:=aqe QP;have him:=aqe hi;have e:eQ (P++s++t) ((P.length:Nat):Int) (((P.length+j:Nat):Nat):Int)=some (.next (((P.length+(j+1):Nat):Nat):Int)):=by
    unfold eQ;dsimp only;rw[aO QP,aqa,gn_ QP,gn_ hi];simp only[ap9];rw[jJ x.row f0.row (by have:=Xh x U6;omega) (by have:=Xh f0 him;omega),ap9];rw[hs x (aqe hx),hf0,tCr_.refl];rw[show decide ((0:Int)=0)=true from rfl,aqa,wrapN m0];rfl
   rw[e];exact ih (j+1) m0 m0
  ·have hje:j=s.length:=m0
   subst hje;have e:eQ (P++s++t) ((P.length:Nat):Int) (((P.length+s.length:Nat):Nat):Int)=some (.exit (((P.length+s.length:Nat):Nat):Int)):=by
    unfold eQ;dsimp only
    cases t with
    |nil =>
     rw[show decide ((((P.length+s.length:Nat):Nat):Int)<(((P++s++([]:List ap)).length:Nat):Int))=false from aqb m5,ap']
    |cons y u =>
     have hy:(P++s++y::u)[P.length+s.length]?=some y:=by
      rw[aqf m5,aqg,Nat.sub_self];rfl
     rw[aO hy,aqa,gn_ hy,gn_ hi];simp only[ap9];rw[jJ y.row f0.row (by have:=Xh y (aqe hy);omega) (by have:=Xh f0 (aqe hi);omega),ap9];rw[show decide (bK y.row f0.row=0)=false from aqb fun q=>ht y u rfl ((tCr_.zero _ _ q).trans hf0),ap']
   rw[e]
theorem aeH (all:List ap)(Xh:∀ f∈all,f.row.length<=1000000)(hn:all.length<=300)(ha:abb all) :
  ∀ (n:Nat) (P t:List ap) (out:List bQ),all=P++t->t.length<n->out.length<=P.length ->∃ G,amh t G/\ao (dF all) n (out,((P.length:Nat):Int))=some (.inl (out++G,((all.length:Nat):Int))):=by
 intro n
 induction n with
 |zero=>intro P t out _ h;omega
 |succ n ih =>
  intro P t out PE htn hout;rw[ao]
  match t,PE,htn with
  |[],PE,_ =>
   refine⟨[],⟨⟨List.Pairwise.nil,fun x=>?_⟩,fun g hg=>by cases hg⟩,?_⟩
   ·constructor
    ·intro h;cases h
    ·rintro⟨f,hf,_⟩;cases hf
   ·have e:dF all (out,((P.length:Nat):Int))=some (.exit (out,((P.length:Nat):Int))):=by
     unfold dF;dsimp only;rw[show decide (((P.length:Nat):Int)<((all.length:Nat):Int))=false from aqb (by rw[PE];simp),ap']
    rw[e,PE];simp
  |f0::t0,PE,htn =>
   obtain⟨s,u,VI,hs,hu⟩:=GX f0.row (f0::t0);have YA:s[0]?=some f0:=by
    cases s with
    |nil=>exact absurd rfl (hu f0 t0 (by rw[VI];rfl))
    |cons y s'=>rw[List.cons_append]at VI;injection VI with h1 _;rw[h1];rfl
   have VT:0<s.length:=(ap_.1 YA).1;have Rt:all=P++s++u:=by rw[PE,VI,aqA]
   have hlen:=congrArg List.length Rt;simp only[aqg]at hlen;have TN:u.length+s.length=(f0::t0).length:=by rw[VI];simp;omega
   have O8:=run_end P s u f0.row f0 rfl (by rw[<- Rt];exact Xh) (by rw[<- Rt];exact hn) hs YA hu fuel 0 (aqu _) (by unfold fuel;omega);rw[<- Rt,Nat.add_zero]at O8;have hr0:f0.row.length<=1000000:=Xh f0 (by rw[PE];simp);have hrs:∀ f∈s,f.row.length<=1000000:=fun f hf=>Xh f (by rw[Rt];simp[hf])
   have ZU:=MU s f0.row hr0 hs m0;have T0:=JG s f0.row hr0 hrs m0

   have Y_:∀ f∈u,bK f0.row f.row<0:=by
    intro f hf;have h1:abb u:=by rw[Rt]at ha;exact(List.pairwise_append.1 ha).2.1
    have h2:∀ a∈P++s,∀ b∈u,bK a.row b.row<=0:=by rw[Rt]at ha;exact(List.pairwise_append.1 ha).2.2
    have hf0s:f0∈P++s:=List.mem_append_right _ (aqe YA)
    cases u with
    |nil=>cases hf
    |cons y v =>
     have hy0:=h2 f0 hf0s y m5;have hyn:bK f0.row y.row≠0:=fun q=>hu y v rfl (tCr_.zero _ _ q).symm
     have O0:bK f0.row y.row<0:=m0
     rcases aqp.1 hf with rfl|hf
     ·exact O0
     ·have hyf:=(aq5.1 h1).1 f hf
      rcases Int.lt_or_eq_of_le hyf with h|h
      ·exact tCr_.trans _ _ _ O0 h
      ·rw[<- tCr_.zero _ _ h];exact O0
   have Pn:∀ f∈u,f.row≠f0.row:=fun f hf e=>by have:=Y_ f hf;rw[e,tCr_.refl]at this;omega
   obtain⟨o1,ho1⟩:∃ o1:List bQ,o1=if s.any (fun f=>aq f.valid)then [⟨f0.row,vm (ones (di s f0.row))⟩]else []:=⟨_,rfl⟩
   have ho1l:o1.length<=1:=by rw[ho1];split<;>simp
   obtain⟨G,hG,hL⟩:=ih (P++s) u (out++o1) Rt (by simp at htn;simp at TN;omega) m8;have RQ:all[P.length]?=some f0:=by
    rw[PE,aqf (aqo _),Nat.sub_self];rfl
   have e:dF all (out,((P.length:Nat):Int))=some (.next (out++o1,(((P++s).length:Nat):Int))):=by
    unfold dF;dsimp only;rw[aO RQ,aqa,O8,ap9];show(ga all ((P.length:Nat):Int) (((P.length+s.length:Nat):Nat):Int)).bind _=_;rw[show ga all ((P.length:Nat):Int) (((P.length+s.length:Nat):Nat):Int)=some s by rw[Rt];exact ahZ P s u,ap9,ZU,ap9];by_cases hv:(s.any fun f=>aq f.valid)=true
    ·rw[if_pos hv]at ho1 ⊢
     rw[cu (l:=[f0.row]) (fun r=>[(⟨r,vm (ones (di s f0.row))⟩:bQ)]) 2932031007402 ?_ ?_ (by unfold fuel;simp) out m8]
     ·rw[ap9,ho1,aqg];rfl
     ·intro o i x hx ho
      have hi:=(ap_.1 hx).1;have QZ:i=0:=by simpa using hi
      subst QZ;simp at hx;subst hx;unfold fZ;dsimp only;rw[show decide (((0:Nat):Int)<((([f0.row]:List (List Val)).length:Nat):Int))=true from rfl,aqa,show aF [f0.row] ((0:Nat):Int)=some f0.row from rfl,ap9,T0,ap9];rw[show decide (o.length+1<=2932031007402)=true from aqc (by simpa using ho),aqa,wrapN m0]
     ·intro o
      unfold fZ;dsimp only;rw[lF_,ap']
    ·rw[if_neg hv]at ho1 ⊢
     rw[cu (l:=([]:List (List Val))) (fun r=>([]:List bQ)) 2932031007402 ?_ ?_ (by unfold fuel;simp) out m8]
     ·rw[ap9,ho1,aqg];simp[f_]
     ·intro o i x hx;simp at hx
     ·intro o
      unfold fZ;dsimp only;rw[lF_,ap']
   refine⟨o1++G,⟨⟨?_,fun x=>?_⟩,fun g hg=>?_⟩,?_⟩
   ·rw[aql]
    refine List.pairwise_append.2 ⟨by rw[ho1];split<;>simp,hG.1.1,fun a ha2 b hb=>?_⟩;obtain⟨f,hf,_,e⟩:=(hG.1.2 b).1 hb;have:a=f0.row:=by rw[ho1]at ha2;split at ha2<;>simp at ha2;exact ha2
    rw[this,<- e];exact Y_ f hf
   ·rw[aql,aqB,hG.1.2 x,VI]
    constructor
    ·rintro(h|⟨f,hf,h⟩)
     ·rw[ho1]at h
      split at h
      ·rename_i hv
       simp at h;obtain⟨f,hf,hv⟩:=List.any_eq_true.1 hv;exact⟨f,List.mem_append_left _ hf,hv,by rw[h];exact hs f hf⟩
      ·simp at h
     ·exact⟨f,List.mem_append_right _ hf,h⟩
    ·rintro⟨f,hf,hv,e⟩
     rcases aqB.1 hf with hf|hf
     ·left
      rw[ho1,if_pos (List.any_eq_true.2 ⟨f,hf,hv⟩)];simp[<- e,hs f hf]
     ·exact .inr ⟨f,hf,hv,e⟩
   ·rw[VI,aaZ]
    rcases aqB.1 hg with hg|hg
    ·have ZV:g=⟨f0.row,vm (ones (di s f0.row))⟩:=by rw[ho1]at hg;split at hg<;>simp at hg;exact hg
     rw[ZV];rw[y9 Pn,aqI]
    ·have Yv:g.row∈G.map (·.row):=List.mem_map_of_mem hg
     obtain⟨f,hf,_,e⟩:=(hG.1.2 g.row).1 Yv;rw[y9 (l:=s) (fun f' YL q=>Pn f hf (by rw[e,<- q];exact(hs f' YL))),aqd];exact hG.2 g hg
   ·rw[e]
    dsimp only;rw[hL,aqA]
theorem adT (l all:List ap)(h:all.Perm l)(r:List Val):bI (di all r)=bI (bm l r):=by
 refine aaH ?_;have e1:(di all r).filter (fun p=>St.aQ (toP p))=bm all r:=by
  unfold di bm;rw[List.filter_map,List.filter_filter];congr 1
 have e2:(bm l r).filter (fun p=>St.aQ (toP p))=bm l r:=List.filter_eq_self.2 fun p hp=>yW l r p hp
 rw[e1,e2];unfold bm;exact(h.filter _).map _
theorem NR (l:List ap)(hn:l.length<=300)(hr:∀ f∈l,f.row.length<=1000000):∃ R,dA l R/\lT l=some (dw l R)/\(dw l R).length<=108180000:=by
 obtain⟨all,e1,a1,p1⟩:=K3 639 l m0 m0 hr;have Y3:all.length=l.length:=p1.length_eq;obtain⟨G,hG,hL⟩:=aeH all (fun f hf=>hr f (p1.mem_iff.1 hf)) m0 a1 fuel [] all [] rfl (by unfold fuel;omega) (aqo _);have ZV:oj l=some G:=by
  unfold oj;rw[e1,ap9];have:ao (dF all) fuel ([],(0:Int))=some (.inl ([]++G,((all.length:Nat):Int))):=hL;rw[this,ap9,aqd];rfl
 have hR:dA l (G.map (·.row)):=by
  refine⟨hG.1.1,fun x=>(hG.1.2 x).trans ?_⟩;constructor
  ·rintro⟨f,hf,h⟩;exact⟨f,p1.mem_iff.1 hf,h⟩
  ·rintro⟨f,hf,h⟩;exact⟨f,p1.mem_iff.2 hf,h⟩
 refine⟨G.map (·.row),hR,?_⟩;have TV:∀ r,(di all r).length<=300:=fun r=>by
  have:(di all r).length<=all.length:=by unfold di;rw[aqk];exact List.length_filter_le _ _
  omega
 have hlev:∀ g∈G,KV g.steps=some (bI (bm l g.row)):=by
  intro g hg;rw[hG.2 g hg,<- adT l all p1];unfold KV;rw[if_pos (Oi _ (by have:=TV g.row;omega))];rfl
 have hll:∀ g∈G,(bI (bm l g.row)).length<=360600:=fun g hg=>by
  have h1:=Gq (bm l g.row);have h2:=HY l g.row;omega
 have hGl:G.length<=300:=by

  have h1:∀ (R:List (List Val)) (L:List (List Val)),R.Nodup->(∀ x∈R,x∈L)->R.length<=L.length:=by
   intro R
   induction R with
   |nil=>intro L _ _;simp
   |cons x R ih =>
    intro L YP hm;have hx:=hm x m5;have ZW:=List.nodup_cons.1 YP;have h2:=ih (L.erase x) ZW.2 fun y hy=>by
     have Pn:y≠x:=fun e=>ZW.1 (e▸hy)
     exact(List.mem_erase_of_ne Pn).2 (hm y (aqx _ hy))
    have h3:=List.length_erase_of_mem hx;have h4:0<L.length:=List.length_pos_of_mem hx;rw[aqv];omega
  have h2:(G.map (·.row)).Nodup:=by
   refine List.Pairwise.imp ?_ hR.1;intro a b h e;rw[e,tCr_.refl]at h;omega
  have h3:=h1 (G.map (·.row)) (l.map (·.row)) h2 fun x hx=>by
   obtain⟨f,hf,_,e⟩:=(hR.2 x).1 hx;exact aqJ.2 ⟨f,hf,e⟩
  simp at h3;omega
 have YB:∀ L:List bQ,(∀ g∈L,(bI (bm l g.row)).length<=360600)->(L.flatMap fun g=>(bI (bm l g.row)).map fun p=>(⟨g.row,p⟩:ap)).length<=L.length*360600:=by
  intro L
  induction L with
  |nil=>intro _;simp
  |cons g L ih =>
   intro hL;have h1:=ih fun x hx=>hL x (aqx _ hx)
   have h2:=hL g m5;rw[aqM,aqg,aqk,aqv];omega
 have VC:=Nat.le_trans (YB G hll) (aqL 360600 hGl);refine⟨?_,by unfold dw;rw[List.flatMap_map];exact VC⟩;unfold lT;rw[ZV,ap9];rw[cu (l:=G) (fun g=>(bI (bm l g.row)).map fun p=>(⟨g.row,p⟩:ap)) 3518437208883 ?_ ?_ (by unfold fuel;omega) [] (by simp only[aqE];omega)]
 ·rw[ap9,aqd]
  show some _=some _;unfold dw;rw[List.flatMap_map]
 ·intro s i x hx hs
  have hi:=(ap_.1 hx).1;have U6:=aqe hx;have h2:=hll x U6;unfold ww;dsimp only;rw[aO hx,aqa,gn_ hx];simp only[ap9];rw[hlev x U6,ap9,uh x.row _ m0,ap9];rw[show decide (s.length+((bI (bm l x.row)).map fun p=>(⟨x.row,p⟩:ap)).length<=3518437208883)=true from aqc hs,aqa,wrapN m0]
 ·intro s
  unfold ww;dsimp only;rw[lF_,ap']
theorem Lp (l:List ap)(hn:l.length<=1000000000)(hr:∀ f∈l,f.row.length<=1000000):gl l l=some true:=by
 unfold gl;rw[show decide (((l.length:Nat):Int)≠((l.length:Nat):Int))=false from aqb fun h=>h rfl,ap'];have loop:∀ (n i:Nat),i<=l.length->l.length-i<n->ao (iu l l) n (i:Int)=some (.inl ((l.length:Nat):Int)):=by
  intro n
  induction n with
  |zero=>intro i _ h;omega
  |succ n ih =>
   intro i hi h;rw[ao];by_cases O0:i<l.length
   ·obtain⟨x,hx⟩:=gol_ O0
    have hxr:=hr x (aqe hx);have e:iu l l (i:Int)=some (.next (((i+1:Nat):Nat):Int)):=by
     unfold iu;dsimp only;rw[aO hx,aqa,gn_ hx];simp only[ap9];rw[show cg [.c (.int .i64 x.valid.lo),.c (.int .i64 x.valid.hi)] [.c (.int .i64 x.valid.lo),.c (.int .i64 x.valid.hi)]=true by simp[cg],jJ x.row x.row m0 m0];simp only[Bool.not_true,ap',ap9];rw[tCr_.refl,show decide ((0:Int)≠0)=false from rfl,ap',wrapN m0]
    rw[e];exact ih (i+1) m0 m0
   ·have:i=l.length:=m0
    subst this;have e:iu l l ((l.length:Nat):Int)=some (.exit ((l.length:Nat):Int)):=by
     unfold iu;dsimp only;rw[lF_,ap']
    rw[e]
 have:=loop fuel 0 (aqu _) (by unfold fuel;omega);rw[show ao (iu l l) fuel (0:Int)=_ from this];rfl
def bJ:Val:=⟨0,0,ByteArray.empty⟩
theorem jN:jS=some bJ:=rfl
theorem bT:du=some bJ:=rfl
def vF (v:Val):Bool:=(dc v).getD false
theorem ia (v:Val):dc v=some (vF v):=by
 obtain⟨r,hr⟩:=Do v;unfold vF;rw[hr];rfl
theorem uC (v:Val):pV v=some (vF v):=(show pV v=dc v from rfl).trans (ia v)
def Kw (v:Val):Val:=bif vF v then v else bJ
theorem Em (v:Val):tl v=some (Kw v):=by
 unfold tl Kw;rw[uC,ap9,jN]
 cases vF v<;>rfl
theorem C5 (v:Val):pn v=some (Kw v):=by
 unfold pn Kw;rw[ia,ap9,bT]
 cases vF v<;>rfl
theorem j_:vF bJ=true:=by
 have e:(ByteArray.empty.toList==(⟨#[]⟩:ByteArray).toList)=true:=by rw[ByteArray.toList_eq,ByteArray.toList_eq];rfl
 unfold vF dc bJ;dsimp only;rw[e];rfl
theorem mW (v:Val):vF (Kw v)=true:=by
 unfold Kw
 cases h:vF v with
 |true=>exact h
 |false=>exact j_
def kq (b:Bool):Val:=bif b then⟨3,1,ByteArray.empty⟩else⟨3,0,ByteArray.empty⟩
theorem GG (b:Bool):qU b=some (kq b):=by cases b<;>rfl
theorem td (b:Bool):pN b=some (kq b):=by cases b<;>rfl
theorem Aj (b:Bool):vF (kq b)=true:=by
 have e:(ByteArray.empty.toList==(⟨#[]⟩:ByteArray).toList)=true:=by rw[ByteArray.toList_eq,ByteArray.toList_eq];rfl
 unfold vF dc kq
 cases b<;>(dsimp only[cond_true,cond_false];rw[e];rfl)
theorem j0 (n:Int):mf n=some (Kw ⟨1,n,ByteArray.empty⟩):=by unfold mf;rw[Em];rfl
theorem iD (n:Int):mi n=some (Kw ⟨1,n,ByteArray.empty⟩):=by unfold mi;rw[C5];rfl
theorem aep (s:ByteArray):yl s=some (Kw ⟨2,0,s⟩):=by unfold yl;rw[Em];rfl
theorem ae0 (s:ByteArray):EU s=some (Kw ⟨2,0,s⟩):=by unfold EU;rw[C5];rfl
def T3 (t:Int):Prop:=t=0\/t=1\/t=2
theorem uI (v:Val):∃ t,jv v=some t/\fq v=some t/\T3 t:=by
 have e:jv v=fq v:=rfl;have h:∃ t,fq v=some t/\T3 t:=by
  unfold fq;rw[td,td];simp only[ap9]
  cases cg [.c (.int .i64 v.kind),.c (.int .i64 v.int),.c (.str v.text)] [.c (.int .i64 (kq true).kind),.c (.int .i64 (kq true).int),.c (.str (kq true).text)]with
  |true=>exact⟨2,rfl,.inr (.inr rfl)⟩
  |false =>
   rw[ap']
   cases cg [.c (.int .i64 v.kind),.c (.int .i64 v.int),.c (.str v.text)] [.c (.int .i64 (kq false).kind),.c (.int .i64 (kq false).int),.c (.str (kq false).text)]with
   |true=>exact⟨0,rfl,.inl rfl⟩
   |false=>exact⟨1,rfl,.inr (.inl rfl)⟩
 obtain⟨t,h1,h2⟩:=h;exact⟨t,e.trans h1,h1,h2⟩
def tF_ (v:Val):Int:=(fq v).getD 1
theorem gZ (v:Val):jv v=some (tF_ v):=by obtain⟨t,h1,h2,_⟩:=uI v;unfold tF_;rw[h1,h2];rfl
theorem kS (v:Val):fq v=some (tF_ v):=by obtain⟨t,h1,h2,_⟩:=uI v;unfold tF_;rw[h2];rfl
theorem fV (v:Val):T3 (tF_ v):=by obtain⟨t,h1,h2,h3⟩:=uI v;unfold tF_;rw[h2];exact h3
def D_ (a:Int):Int:=if a=2 then 0 else if a=0 then 2 else 1
def Fq (a b:Int):Int:=if a=0\/b=0 then 0 else if a=2/\b=2 then 2 else 1
def or3 (a b:Int):Int:=if a=2\/b=2 then 2 else if a=0/\b=0 then 0 else 1
theorem pv (a:Int):T3 (D_ a):=by unfold D_;split;exact .inl rfl;split;exact .inr (.inr rfl);exact .inr (.inl rfl)
theorem Kt (a b:Int):T3 (Fq a b):=by unfold Fq;split;exact .inl rfl;split;exact .inr (.inr rfl);exact .inr (.inl rfl)
theorem abl (a b:Int):T3 (or3 a b):=by unfold or3;split;exact .inr (.inr rfl);split;exact .inl rfl;exact .inr (.inl rfl)
theorem sN {a:Int}(h:T3 a):FR a=some (D_ a):=by rcases h with rfl|rfl|rfl<;>rfl
theorem vB {a:Int}(h:T3 a):Bh a=some (D_ a):=by rcases h with rfl|rfl|rfl<;>rfl
theorem EG {a:Int}(h:T3 a):mm a=some a:=by rcases h with rfl|rfl|rfl<;>rfl
theorem G4 {a b:Int}(ha:T3 a)(hb:T3 b):xX [a,b]=some (mnI (mnI 2 a) b):=by
 unfold xX;rw[bX (l:=[a,b]) (mk:=fun t i=>(t,i)) (f:=fun t x=>(mm x).bind fun r=>some (.inl (mnI t r))) ?_ ?_ (by unfold fuel;simp) 2]
 ·simp only[cn,EG ha,EG hb,ap9]
  rfl
 ·intro s i x hx
  have hi:=(ap_.1 hx).1;unfold tp;dsimp only;rw[aO hx,aqa,gn_ hx,wrapN (by simp at hi;omega)];simp only[ap9]
  cases mm x<;>rfl
 ·intro s
  unfold tp;dsimp only;rw[lF_,ap']
theorem aj7 {a b:Int}(ha:T3 a)(hb:T3 b):abJ a b=some (Fq a b):=by
 unfold abJ;rw[G4 ha hb];rcases ha with rfl|rfl|rfl<;>rcases hb with rfl|rfl|rfl<;>rfl
theorem ahj {a b:Int}(ha:T3 a)(hb:T3 b):DU a b=some (Fq a b):=by
 rcases ha with rfl|rfl|rfl<;>rcases hb with rfl|rfl|rfl<;>rfl
theorem amb {a b:Int}(ha:T3 a)(hb:T3 b):B5 a b=some (or3 a b):=by
 unfold B5;rw[sN ha,sN hb];simp only[ap9];rw[G4 (pv a) (pv b)];rcases ha with rfl|rfl|rfl<;>rcases hb with rfl|rfl|rfl<;>rfl
theorem alg {a b:Int}(ha:T3 a)(hb:T3 b):abB a b=some (or3 a b):=by
 rcases ha with rfl|rfl|rfl<;>rcases hb with rfl|rfl|rfl<;>rfl
def vn (t:Int):Val:=if t=2 then kq true else if t=0 then kq false else bJ
theorem iE {t:Int}(h:T3 t):wb t=some (vn t):=by rcases h with rfl|rfl|rfl<;>rfl
theorem mr {t:Int}(h:T3 t):zQ t=some (vn t):=by rcases h with rfl|rfl|rfl<;>rfl
theorem pH (t:Int):vF (vn t)=true:=by
 unfold vn;split
 ·exact Aj _
 ·split
  ·exact Aj _
  ·exact j_
def aaR (a b:Val)(is:Bool):Int:=if a.kind=0\/a.kind≠b.kind then 1 else bif is then 2 else 0
theorem acv (a b:Val)(is:Bool):T3 (aaR a b is):=by
 unfold aaR;split
 ·exact .inr (.inl rfl)
 ·cases is
  ·exact .inl rfl
  ·exact .inr (.inr rfl)
theorem uf (a b:Val)(is:Bool):o8 a b is=some (aaR a b is):=by
 unfold o8 aaR;by_cases h1:a.kind=0
 ·simp[h1]
 ·by_cases h2:a.kind=b.kind
  ·have hb:¬ b.kind=0:=by rw[<- h2];exact h1
   simp only[h2,aqb hb,ap',ne_eq,not_true_eq_false,decide_false,or_false];rw[if_neg hb]
   cases is<;>rfl
  ·simp only[aqb h1,ap',ne_eq,h2,not_false_eq_true,decide_true,aqa,or_true,if_true]
theorem EJ (a b:Val)(is:Bool):tI a b is=some (aaR a b is):=(show tI a b is=o8 a b is from rfl).trans (uf a b is)
def eqF (a b:Val):Int:=aaR a b (decide (q6 a b=0))
def ltF (a b:Val):Int:=aaR a b (decide (q6 a b<0))
theorem ajQ (a b:Val):ae_ a b=some (eqF a b):=by unfold ae_;rw[v7,ap9,uf];rfl
theorem akO (a b:Val):ae4 a b=some (eqF a b):=by unfold ae4;rw[DO,ap9,EJ];rfl
theorem aei (a b:Val):rT a b=some (ltF a b):=by unfold rT;rw[v7,ap9,uf];rfl
theorem afP (a b:Val):rV a b=some (ltF a b):=by unfold rV;rw[DO,ap9,EJ];rfl
def pg (op:Int)(a b:Val):Int:=if op=7 then eqF a b else if op=8 then D_ (eqF a b)else if op=9 then ltF a b else if op=11 then ltF b a else if op=10 then D_ (ltF b a)else D_ (ltF a b)
theorem OC (a b:Val):T3 (eqF a b):=acv _ _ _
theorem xL (a b:Val):T3 (ltF a b):=acv _ _ _
theorem gQ (op:Int)(a b:Val):T3 (pg op a b):=by
 unfold pg;split
 ·exact OC _ _
 split
 ·exact pv _
 split
 ·exact xL _ _
 split
 ·exact xL _ _
 split
 ·exact pv _
 ·exact pv _
theorem ew (op:Int)(a b:Val):jQ op a b=some (pg op a b):=by
 unfold jQ pg;simp only[ajQ,aei,ap9,sN (OC a b),sN (xL a b),sN (xL b a)];by_cases h1:op=7
 ·simp[h1]
 by_cases h2:op=8
 ·simp[h2]
 by_cases h3:op=9
 ·simp[h3]
 by_cases h4:op=11
 ·simp[h4]
 by_cases h5:op=10
 ·simp[h5]
 simp[h1,h2,h3,h4,h5]
theorem f9 (op:Int)(a b:Val):fh op a b=some (pg op a b):=by
 unfold fh pg;simp only[akO,afP,ap9,vB (OC a b),vB (xL a b),vB (xL b a)];by_cases h1:op=7
 ·simp[h1]
 by_cases h2:op=8
 ·simp[h2]
 by_cases h3:op=9
 ·simp[h3]
 by_cases h4:op=11
 ·simp[h4]
 by_cases h5:op=10
 ·simp[h5]
 simp[h1,h2,h3,h4,h5]
def cL (p q:ax):Int :=
 if p.hi<q.lo then 0 else if p.hi=q.lo then 1 else if q.hi<p.lo then 12 else if q.hi=p.lo then 11 else if p.lo=q.lo/\p.hi=q.hi then 6
 else if p.lo=q.lo then(if p.hi<q.hi then 3 else 9)else if p.hi=q.hi then(if q.lo<p.lo then 5 else 7)
 else if p.lo<q.lo/\q.hi<p.hi then 8 else if q.lo<p.lo/\p.hi<q.hi then 4 else if p.lo<q.lo then 2 else 10
theorem cX (p q:ax):cg [.c (.int .i64 p.lo),.c (.int .i64 p.hi)] [.c (.int .i64 q.lo),.c (.int .i64 q.hi)]=decide (p.lo=q.lo/\p.hi=q.hi):=by
 simp[cg]
theorem adi (p q:ax):afb p q=some (if aq p=true/\aq q=true then(cL p q,true)else(0,false)):=by
 unfold afb;rw[iP,iP];simp only[ap9]
 cases hp:aq p with
 |false=>simp
 |true =>
  cases hq:aq q with
  |false=>simp
  |true =>
   simp only[Bool.not_true,ap',and_self,if_true,cX];unfold cL;by_cases h1:p.hi<q.lo
   ·simp only[Bool.cond_decide,eq_true h1,if_true,if_false,and_true,true_and,and_false,false_and,and_self]
   by_cases h2:p.hi=q.lo
   ·simp only[Bool.cond_decide,eq_true h2,eq_false h1,if_true,if_false,and_true,true_and,and_false,false_and,and_self]
   by_cases h3:q.hi<p.lo
   ·simp only[Bool.cond_decide,eq_true h3,eq_false h1,eq_false h2,if_true,if_false,and_true,true_and,and_false,false_and,and_self]
   by_cases h4:q.hi=p.lo
   ·simp only[Bool.cond_decide,eq_true h4,eq_false h1,eq_false h2,eq_false h3,if_true,if_false,and_true,true_and,and_false,false_and,and_self]
   by_cases h5:p.lo=q.lo
   ·by_cases h6:p.hi=q.hi
    ·simp only[Bool.cond_decide,eq_true h5,eq_true h6,eq_false h1,eq_false h2,eq_false h3,eq_false h4,if_true,if_false,and_true,true_and,and_false,false_and,and_self]
    ·by_cases h7:p.hi<q.hi
     ·simp only[Bool.cond_decide,eq_true h5,eq_true h7,eq_false h1,eq_false h2,eq_false h3,eq_false h4,eq_false h6,if_true,if_false,and_true,true_and,and_false,false_and,and_self]
     ·simp only[Bool.cond_decide,eq_true h5,eq_false h1,eq_false h2,eq_false h3,eq_false h4,eq_false h6,eq_false h7,if_true,if_false,and_true,true_and,and_false,false_and,and_self]
   ·by_cases h6:p.hi=q.hi
    ·by_cases h7:q.lo<p.lo
     ·simp only[Bool.cond_decide,eq_true h6,eq_true h7,eq_false h1,eq_false h2,eq_false h3,eq_false h4,eq_false h5,if_true,if_false,and_true,true_and,and_false,false_and,and_self]
     ·simp only[Bool.cond_decide,eq_true h6,eq_false h1,eq_false h2,eq_false h3,eq_false h4,eq_false h5,eq_false h7,if_true,if_false,and_true,true_and,and_false,false_and,and_self]
    ·by_cases h7:p.lo<q.lo
     ·by_cases h8:q.hi<p.hi
      ·simp only[Bool.cond_decide,eq_true h7,eq_true h8,eq_false h1,eq_false h2,eq_false h3,eq_false h4,eq_false h5,eq_false h6,if_true,if_false,and_true,true_and,and_false,false_and,and_self]
      ·by_cases h9:q.lo<p.lo
       ·omega
       ·simp only[Bool.cond_decide,eq_true h7,eq_false h1,eq_false h2,eq_false h3,eq_false h4,eq_false h5,eq_false h6,eq_false h8,eq_false h9,if_true,if_false,and_true,true_and,and_false,false_and,and_self]
     ·by_cases h8:q.lo<p.lo
      ·by_cases h9:p.hi<q.hi
       ·simp only[Bool.cond_decide,eq_true h8,eq_true h9,eq_false h1,eq_false h2,eq_false h3,eq_false h4,eq_false h5,eq_false h6,eq_false h7,if_true,if_false,and_true,true_and,and_false,false_and,and_self]
       ·simp only[Bool.cond_decide,eq_true h8,eq_false h1,eq_false h2,eq_false h3,eq_false h4,eq_false h5,eq_false h6,eq_false h7,eq_false h9,if_true,if_false,and_true,true_and,and_false,false_and,and_self]
      ·omega
theorem hY {p:ax}(h:aq p=true):0<=p.lo/\p.lo<p.hi/\p.hi<=1099511627776:=by
 unfold aq at h;simp only[aqr,decide_eq_true_eq]at h;omega
theorem aib {p q:ax}(hp:0<=p.lo/\p.lo<p.hi)(hq:0<=q.lo/\q.lo<q.hi):cL p q=0↔p.hi<q.lo:=by
 unfold cL
 repeat' split
 all_goals (constructor<;>intro h<;>omega)
theorem amo (p q:ax):gJ 0 p q=some (decide (p.hi<q.lo)):=by
 unfold gJ;simp only[Int.reduceEq,sl9,cX]<;>rfl
theorem agE {p q:ax}(hp:0<=p.lo/\p.lo<p.hi)(hq:0<=q.lo/\q.lo<q.hi):cL p q=1↔p.hi=q.lo:=by
 unfold cL
 repeat' split
 all_goals (constructor<;>intro h<;>omega)
theorem alJ (p q:ax):gJ 1 p q=some (decide (p.hi=q.lo)):=by
 unfold gJ;simp only[Int.reduceEq,sl9,cX]<;>rfl
theorem ahK {p q:ax}(hp:0<=p.lo/\p.lo<p.hi)(hq:0<=q.lo/\q.lo<q.hi):cL p q=2↔p.lo<q.lo/\q.lo<p.hi/\p.hi<q.hi:=by
 unfold cL
 repeat' split
 all_goals (constructor<;>intro h<;>omega)
theorem al7 (p q:ax):gJ 2 p q=some (decide (p.lo<q.lo/\q.lo<p.hi/\p.hi<q.hi)):=by
 unfold gJ;simp only[Int.reduceEq,sl9,cX];by_cases h0:p.lo<q.lo<;>by_cases h1:q.lo<p.hi<;>simp[h0,h1]
theorem ahq {p q:ax}(hp:0<=p.lo/\p.lo<p.hi)(hq:0<=q.lo/\q.lo<q.hi):cL p q=3↔p.lo=q.lo/\p.hi<q.hi:=by
 unfold cL
 repeat' split
 all_goals (constructor<;>intro h<;>omega)
theorem amn (p q:ax):gJ 3 p q=some (decide (p.lo=q.lo/\p.hi<q.hi)):=by
 unfold gJ;simp only[Int.reduceEq,sl9,cX];by_cases h0:p.lo=q.lo<;>simp[h0]
theorem aiq {p q:ax}(hp:0<=p.lo/\p.lo<p.hi)(hq:0<=q.lo/\q.lo<q.hi):cL p q=4↔q.lo<p.lo/\p.hi<q.hi:=by
 unfold cL
 repeat' split
 all_goals (constructor<;>intro h<;>omega)
theorem ama (p q:ax):gJ 4 p q=some (decide (q.lo<p.lo/\p.hi<q.hi)):=by
 unfold gJ;simp only[Int.reduceEq,sl9,cX];by_cases h0:q.lo<p.lo<;>simp[h0]
theorem ahf {p q:ax}(hp:0<=p.lo/\p.lo<p.hi)(hq:0<=q.lo/\q.lo<q.hi):cL p q=5↔p.hi=q.hi/\q.lo<p.lo:=by
 unfold cL
 repeat' split
 all_goals (constructor<;>intro h<;>omega)
theorem al9 (p q:ax):gJ 5 p q=some (decide (p.hi=q.hi/\q.lo<p.lo)):=by
 unfold gJ;simp only[Int.reduceEq,sl9,cX];by_cases h0:p.hi=q.hi<;>simp[h0]
theorem ahz {p q:ax}(hp:0<=p.lo/\p.lo<p.hi)(hq:0<=q.lo/\q.lo<q.hi):cL p q=6↔p.lo=q.lo/\p.hi=q.hi:=by
 unfold cL
 repeat' split
 all_goals (constructor<;>intro h<;>omega)
theorem amq (p q:ax):gJ 6 p q=some (decide (p.lo=q.lo/\p.hi=q.hi)):=by
 unfold gJ;simp only[Int.reduceEq,sl9,cX]<;>rfl
theorem ah1 {p q:ax}(hp:0<=p.lo/\p.lo<p.hi)(hq:0<=q.lo/\q.lo<q.hi):cL p q=7↔p.hi=q.hi/\p.lo<q.lo:=by
 unfold cL
 repeat' split
 all_goals (constructor<;>intro h<;>omega)
theorem amc (p q:ax):gJ 7 p q=some (decide (p.hi=q.hi/\p.lo<q.lo)):=by
 unfold gJ;simp only[Int.reduceEq,sl9,cX];by_cases h0:p.hi=q.hi<;>simp[h0]
theorem aiW {p q:ax}(hp:0<=p.lo/\p.lo<p.hi)(hq:0<=q.lo/\q.lo<q.hi):cL p q=8↔p.lo<q.lo/\q.hi<p.hi:=by
 unfold cL
 repeat' split
 all_goals (constructor<;>intro h<;>omega)
theorem amQ (p q:ax):gJ 8 p q=some (decide (p.lo<q.lo/\q.hi<p.hi)):=by
 unfold gJ;simp only[Int.reduceEq,sl9,cX];by_cases h0:p.lo<q.lo<;>simp[h0]
theorem ahy {p q:ax}(hp:0<=p.lo/\p.lo<p.hi)(hq:0<=q.lo/\q.lo<q.hi):cL p q=9↔p.lo=q.lo/\q.hi<p.hi:=by
 unfold cL
 repeat' split
 all_goals (constructor<;>intro h<;>omega)
theorem aml (p q:ax):gJ 9 p q=some (decide (p.lo=q.lo/\q.hi<p.hi)):=by
 unfold gJ;simp only[Int.reduceEq,sl9,cX];by_cases h0:p.lo=q.lo<;>simp[h0]
theorem adY {p q:ax}(hp:0<=p.lo/\p.lo<p.hi)(hq:0<=q.lo/\q.lo<q.hi):cL p q=10↔q.lo<p.lo/\p.lo<q.hi/\q.hi<p.hi:=by
 unfold cL
 repeat' split
 all_goals (constructor<;>intro h<;>omega)
theorem ajT (p q:ax):gJ 10 p q=some (decide (q.lo<p.lo/\p.lo<q.hi/\q.hi<p.hi)):=by
 unfold gJ;simp only[Int.reduceEq,sl9,cX];by_cases h0:q.lo<p.lo<;>by_cases h1:p.lo<q.hi<;>simp[h0,h1]
theorem afA {p q:ax}(hp:0<=p.lo/\p.lo<p.hi)(hq:0<=q.lo/\q.lo<q.hi):cL p q=11↔q.hi=p.lo:=by
 unfold cL
 repeat' split
 all_goals (constructor<;>intro h<;>omega)
theorem ak_ (p q:ax):gJ 11 p q=some (decide (q.hi=p.lo)):=by
 unfold gJ;simp only[Int.reduceEq,sl9,cX]<;>rfl
theorem adW {p q:ax}(hp:0<=p.lo/\p.lo<p.hi)(hq:0<=q.lo/\q.lo<q.hi):cL p q=12↔q.hi<p.lo:=by
 unfold cL
 repeat' split
 all_goals (constructor<;>intro h<;>omega)
theorem akM (p q:ax):gJ 12 p q=some (decide (q.hi<p.lo)):=by
 unfold gJ;simp only[Int.reduceEq,sl9,cX]<;>rfl
theorem uq (p q:ax):0<=cL p q/\cL p q<13:=by
 unfold cL
 repeat' split
 all_goals omega
theorem ah4 {rel:Int}(h:¬ (0<=rel/\rel<13))(p q:ax):gJ rel p q=some false:=by
 unfold gJ;rw[aqb (show ¬ rel=0 by omega),ap'];rw[aqb (show ¬ rel=1 by omega),ap'];rw[aqb (show ¬ rel=2 by omega),ap'];rw[aqb (show ¬ rel=3 by omega),ap'];rw[aqb (show ¬ rel=4 by omega),ap'];rw[aqb (show ¬ rel=5 by omega),ap'];rw[aqb (show ¬ rel=6 by omega),ap'];rw[aqb (show ¬ rel=7 by omega),ap'];rw[aqb (show ¬ rel=8 by omega),ap'];rw[aqb (show ¬ rel=9 by omega),ap'];rw[aqb (show ¬ rel=10 by omega),ap'];rw[aqb (show ¬ rel=11 by omega),ap'];rw[aqb (show ¬ rel=12 by omega),ap']
theorem ahM {p q:ax}(hp:aq p=true)(hq:aq q=true)(rel:Int):gJ rel p q=some (decide (cL p q=rel)):=by
 obtain⟨p1,p2,p3⟩:=hY hp;obtain⟨q1,q2,q3⟩:=hY hq;by_cases hr:0<=rel/\rel<13
 ·have:rel=0\/rel=1\/rel=2\/rel=3\/rel=4\/rel=5\/rel=6\/rel=7\/rel=8\/rel=9\/rel=10\/rel=11\/rel=12:=m0
  rcases this with rfl|rfl|rfl|rfl|rfl|rfl|rfl|rfl|rfl|rfl|rfl|rfl|rfl
  ·rw[amo];congr 1;rw[decide_eq_decide,aib ⟨p1,p2⟩ ⟨q1,q2⟩]
  ·rw[alJ];congr 1;rw[decide_eq_decide,agE ⟨p1,p2⟩ ⟨q1,q2⟩]
  ·rw[al7];congr 1;rw[decide_eq_decide,ahK ⟨p1,p2⟩ ⟨q1,q2⟩]
  ·rw[amn];congr 1;rw[decide_eq_decide,ahq ⟨p1,p2⟩ ⟨q1,q2⟩]
  ·rw[ama];congr 1;rw[decide_eq_decide,aiq ⟨p1,p2⟩ ⟨q1,q2⟩]
  ·rw[al9];congr 1;rw[decide_eq_decide,ahf ⟨p1,p2⟩ ⟨q1,q2⟩]
  ·rw[amq];congr 1;rw[decide_eq_decide,ahz ⟨p1,p2⟩ ⟨q1,q2⟩]
  ·rw[amc];congr 1;rw[decide_eq_decide,ah1 ⟨p1,p2⟩ ⟨q1,q2⟩]
  ·rw[amQ];congr 1;rw[decide_eq_decide,aiW ⟨p1,p2⟩ ⟨q1,q2⟩]
  ·rw[aml];congr 1;rw[decide_eq_decide,ahy ⟨p1,p2⟩ ⟨q1,q2⟩]
  ·rw[ajT];congr 1;rw[decide_eq_decide,adY ⟨p1,p2⟩ ⟨q1,q2⟩]
  ·rw[ak_];congr 1;rw[decide_eq_decide,afA ⟨p1,p2⟩ ⟨q1,q2⟩]
  ·rw[akM];congr 1;rw[decide_eq_decide,adW ⟨p1,p2⟩ ⟨q1,q2⟩]
 ·rw[ah4 hr,aqb]
  have:=uq p q;omega
theorem uR (rel:Int)(p q:ax):pe rel p q=some (aq p&&(aq q&&decide (cL p q=rel))):=by
 unfold pe;rw[l8,l8];simp only[ap9]
 cases hp:aq p with
 |false=>rfl
 |true =>
  cases hq:aq q with
  |false=>rfl
  |true=>rw[ahM hp hq];rfl
theorem Np (p q:ax)(h:aq p=true/\aq q=true):∀ (n i:Nat),(i:Int)<=cL p q->13-i<n->ao (nZ p q) n (i:Int)=some (.inr (cL p q,true))
 |0,i,_,h2=>by omega
 |n+1,i,h1,h2=>by
  have hr:=uq p q;rw[ao];unfold nZ;dsimp only;rw[aqc (show(i:Int)<13 by omega),aqa,uR,ap9,h.1,h.2,wrapN m0];by_cases e:cL p q=i
  ·rw[e];simp
  ·simp only[aqH,aqb e,ap']
   exact Np p q h n (i+1) m0 m0
theorem N0 (p q:ax)(h:¬ (aq p=true/\aq q=true)):∀ (n i:Nat),i<=13->13-i<n->ao (nZ p q) n (i:Int)=some (.inl ((13:Nat):Int))
 |0,i,_,h2=>by omega
 |n+1,i,h1,h2=>by
  rw[ao];unfold nZ;dsimp only;by_cases hi:i=13
  ·subst hi;rfl
  ·rw[aqc (show(i:Int)<13 by omega),aqa,uR,ap9,wrapN m0]
   have:(aq p&&(aq q&&decide (cL p q=i)))=false:=by
    cases hp:aq p<;>cases hq:aq q<;>simp_all
   rw[this,ap'];exact N0 p q h n (i+1) m0 m0
theorem aiR (p q:ax):MM p q=some (if aq p=true/\aq q=true then(cL p q,true)else(0,false)):=by
 unfold MM;by_cases h:aq p=true/\aq q=true
 ·have:=Np p q h fuel 0 (uq p q).1 (by unfold fuel;omega)
  rw[show((0:Nat):Int)=0 from rfl]at this;rw[this,if_pos h];rfl
 ·have:=N0 p q h fuel 0 m0 (by unfold fuel;omega)
  rw[show((0:Nat):Int)=0 from rfl]at this;rw[this,if_neg h];rfl
def zR (p:ax)(t:Int):Bool:=decide (p.lo<=t)&&decide (t<p.hi)
def dR (l:List ax)(t:Int):Bool:=l.any fun p=>aq p&&zR p t
def b9:List ax->Prop
 |[]=>True
 |p::l=>aq p=true/\(∀ q∈l,p.hi<q.lo)/\b9 l
theorem b9.val:∀ {l:List ax},b9 l ->∀ p∈l,aq p=true
 |[],_,p,hp=>by cases hp
 |q::l,h,p,hp=>by
  rcases aqp.1 hp with rfl|hp
  ·exact h.1
  ·exact h.2.2.val p hp
theorem js (t:Int):dR [] t=false:=rfl
theorem lN (p:ax)(l:List ax)(t:Int):dR (p::l) t=((aq p&&zR p t)||dR l t):=by unfold dR;rw[List.any_cons]
theorem o7 (l m:List ax)(t:Int):dR (l++m) t=(dR l t||dR m t):=by unfold dR;rw[List.any_append]
theorem fw (p:ax)(t:Int):zR p t=true↔p.lo<=t/\t<p.hi:=by unfold zR;rw[aqr,decide_eq_true_eq,decide_eq_true_eq]
theorem cS (l:List ax)(t:Int):dR l t=true ↔ ∃ p∈l,aq p=true/\p.lo<=t/\t<p.hi:=by
 unfold dR;rw[List.any_eq_true];constructor
 ·rintro⟨p,hp,h⟩
  rw[aqr,fw]at h;exact⟨p,hp,h⟩
 ·rintro⟨p,hp,h⟩
  exact⟨p,hp,by rw[aqr,fw];exact h⟩
theorem gg {p:ax}(h:aq p=true):0<=p.lo/\p.lo<p.hi/\p.hi<=1099511627776:=by
 simp only[aq,aqr,decide_eq_true_eq]at h;exact⟨h.1.1,h.1.2,h.2⟩
theorem EZ {p:ax}{l:List ax}(h:b9 (p::l))(t:Int)(ht:dR (p::l) t=true):p.lo<=t:=by
 obtain⟨q,hq,hv,h1,h2⟩:=(cS _ _).1 ht;rcases aqp.1 hq with rfl|hq
 ·exact h1
 ·have:=h.2.1 q hq
  have:=gg h.1;omega
theorem tH {p:ax}{l:List ax}(h:b9 (p::l))(t:Int)(h1:p.lo<=t)(h2:t<p.hi):dR (p::l) t=true :=
 (cS _ _).2 ⟨p,aqW .., h.1,h1,h2⟩
theorem N7 {p:ax}{l:List ax}(h:b9 (p::l)):dR (p::l) p.hi=false:=by
 rw[Bool.eq_false_iff];intro ht;obtain⟨q,hq,hv,h1,h2⟩:=(cS _ _).1 ht;rcases aqp.1 hq with rfl|hq
 ·omega
 ·have:=h.2.1 q hq
  omega
theorem yo {p:ax}{l:List ax}(h:b9 (p::l))(t:Int):dR l t=(decide (p.hi<=t)&&dR (p::l) t):=by
 rw[Bool.eq_iff_iff,aqr,decide_eq_true_eq];constructor
 ·intro ht
  obtain⟨q,hq,hv,h1,h2⟩:=(cS _ _).1 ht;have:=h.2.1 q hq;exact⟨m0,(cS _ _).2 ⟨q,aqx _ hq,hv,h1,h2⟩⟩
 ·rintro⟨h0,ht⟩
  obtain⟨q,hq,hv,h1,h2⟩:=(cS _ _).1 ht;rcases aqp.1 hq with rfl|hq
  ·omega
  ·exact(cS _ _).2 ⟨q,hq,hv,h1,h2⟩
theorem mF:∀ {l m:List ax},b9 l->b9 m->(∀ t,dR l t=dR m t)->l=m
 |[],[],_,_,_=>rfl
 |[],q::m,_,hm,h=>by
  have:=h q.lo;rw[js,tH hm q.lo (Int.le_refl _) (gg hm.1).2.1]at this
  cases this
 |p::l,[],hl,_,h=>by
  have:=h p.lo;rw[js,tH hl p.lo (Int.le_refl _) (gg hl.1).2.1]at this
  cases this
 |p::l,q::m,hl,hm,h=>by
  have a1:=(gg hl.1).2.1;have a2:=(gg hm.1).2.1;have e1:p.lo=q.lo:=by
   have h1:=EZ hm p.lo (by rw[<- h];exact tH hl _ (Int.le_refl _) a1);have h2:=EZ hl q.lo (by rw[h];exact tH hm _ (Int.le_refl _) a2);omega
  have e2:p.hi=q.hi:=by
   rcases Int.lt_trichotomy p.hi q.hi with h1|h1|h1
   ·have h3:=h p.hi
    rw[N7 hl,tH hm p.hi m0 h1]at h3
    cases h3
   ·exact h1
   ·have h3:=h q.hi
    rw[N7 hm,tH hl q.hi m0 h1]at h3
    cases h3
  obtain⟨a,b⟩:=p;obtain⟨c,d⟩:=q;simp only at e1 e2;subst e1 e2;rw[mF hl.2.2 hm.2.2 fun t=>by rw[yo hl,yo hm,h]]
theorem sC:∀ {l:List ax} {p:ax},b9 l->aq p=true->(∀ q∈l,q.hi<p.lo)->b9 (l++[p])
 |[],p,_,hp,_=>⟨hp,fun q hq=>(by cases hq),t7⟩
 |q::l,p,h,hp,hq=>by
  refine⟨h.1,fun r hr=>?_,sC h.2.2 hp fun r hr=>hq r (aqx _ hr)⟩;rcases aqB.1 hr with hr|hr
  ·exact h.2.1 r hr
  ·rw[aqP]at hr;subst hr;exact hq q (aqW ..)
theorem x6:∀ {l:List ax} {p:ax},b9 (l++[p])->b9 l/\aq p=true /\ ∀ q∈l,q.hi<p.lo
 |[],p,h=>⟨t7,h.1,fun q hq=>by cases hq⟩
 |q::l,p,h=>by
  obtain⟨h1,h2,h3⟩:=x6 (l:=l) h.2.2;refine⟨⟨h.1,fun r hr=>h.2.1 r (List.mem_append_left _ hr),h1⟩,h2,fun r hr=>?_⟩;rcases aqp.1 hr with rfl|hr
  ·exact h.2.1 p m5
  ·exact h3 r hr
theorem afC {l:List ax}{a b c:Int}(h:b9 (l++[⟨a,b⟩]))(hbc:b<=c)(hc:c<=1099511627776):b9 (l++[⟨a,c⟩]):=by
 obtain⟨h1,h2,h3⟩:=x6 h;have:=gg h2;simp only at this;exact sC h1 (by simp only[aq,aqr,decide_eq_true_eq];omega) h3
def o_ (l:List ax)(a b:Int):List ax:=match l.getLast? with
 |some p=>if p.hi=a then l.dropLast++[⟨p.lo,b⟩]else l++[⟨a,b⟩]
 |none=>l++[⟨a,b⟩]
theorem jz {l:List ax}{a b:Int}(h:b9 l)(ha:∀ p∈l,p.hi<=a)(h0:0<=a)(hab:a<b)(hb:b<=1099511627776) :
  b9 (o_ l a b)/\(∀ p∈o_ l a b,p.hi<=b) /\ ∀ t,dR (o_ l a b) t=(dR l t||(decide (a<=t)&&decide (t<b))):=by
 have hp:aq ⟨a,b⟩=true:=by simp only[aq,aqr,decide_eq_true_eq];omega
 have UI:∀ t,dR (l++[⟨a,b⟩]) t=(dR l t||(decide (a<=t)&&decide (t<b))):=fun t=>by
  rw[o7,lN,js,Bool.or_false,hp,aqH];rfl
 have hle:∀ p∈l++[(⟨a,b⟩:ax)],p.hi<=b:=fun p hq=>by
  rcases aqB.1 hq with hq|hq
  ·have:=ha p hq;omega
  ·rw[aqP]at hq;subst hq;exact Int.le_refl _
 unfold o_
 cases hg:l.getLast? with
 |none =>
  rw[List.getLast?_eq_none_iff]at hg;subst hg;exact⟨sC trivial hp (fun q hq=>by cases hq),hle,UI⟩
 |some p =>
  have hl:l=l.dropLast++[p]:=by
   have h1:l≠[]:=fun e=>by rw[e]at hg;cases hg
   have h2:=List.dropLast_concat_getLast h1;rw[List.getLast?_eq_some_getLast h1]at hg;injection hg with hg
   rw[<- h2,hg];simp
  have Xi:∀ q∈l.dropLast,q.hi<p.lo:=by
   rw[hl]at h;exact(x6 h).2.2
  have hpm:p∈l:=by rw[hl];simp
  have Qs:=h.val p hpm;by_cases he:p.hi=a
  ·simp only[if_pos he]
   have hs:b9 (l.dropLast++[⟨p.lo,b⟩]):=by
    rw[hl]at h;exact afC (b:=p.hi) h m0 hb
   refine⟨hs,fun q hq=>?_,fun t=>?_⟩
   ·rcases aqB.1 hq with hq|hq
    ·have:=Xi q hq;have:=gg Qs;omega
    ·rw[aqP]at hq;subst hq;exact Int.le_refl _
   ·have e:dR l t=(dR l.dropLast t||(zR p t)):=by
     conv=>lhs;rw[hl]
     rw[o7,lN,js,Bool.or_false,Qs,aqH]
    have TO:aq ⟨p.lo,b⟩=true:=hs.val _ m5;rw[e,o7,lN,js,Bool.or_false,TO,aqH,Bool.or_assoc];congr 1;have:=gg Qs;rw[Bool.eq_iff_iff,Bool.or_eq_true,fw,fw,aqr,decide_eq_true_eq,decide_eq_true_eq];simp only;omega
  ·simp only[if_neg he]
   refine⟨sC h hp fun q hq=>?_,hle,UI⟩;rw[hl]at hq;have hp2:=ha p hpm;rcases aqB.1 hq with hq|hq
   ·have:=Xi q hq;have:=gg Qs;simp only;omega
   ·rw[aqP]at hq;subst hq;simp only;omega
abbrev E3:=Int×Int×Int
def qF:List ax->Bool->List E3
 |[],_=>[]
 |p::l,f=>(bif aq p then(bif f then [(p.lo,1,0),(p.hi,-1,0)]else [(p.lo,0,1),(p.hi,0,-1)])else [])++qF l f
def rW (a b:List ax):List E3:=qF a true++qF b false
def dT (f:E3->Int):List E3->Int->Int
 |[],_=>0
 |e::l,t=>(if e.1<=t then f e else 0)+dT f l t
theorem fD (f:E3->Int)(t:Int):∀ l m:List E3,dT f (l++m) t=dT f l t+dT f m t
 |[],m=>by simp[dT]
 |e::l,m=>by rw[List.cons_append,dT,dT,fD f t l m];omega
theorem Gg (f:E3->Int)(t:Int){l m:List E3}(h:l.Perm m):dT f l t=dT f m t:=by
 induction h with
 |nil=>rfl
 |cons e _ ih=>rw[dT,dT,ih]
 |swap e e' l=>simp only[dT];omega
 |trans _ _ h1 h2=>exact h1.trans h2
def zk (l:List ax)(t:Int):Int:=((l.countP fun p=>aq p&&zR p t:Nat):Int)
theorem Gn (l:List ax)(t:Int):decide (0<zk l t)=dR l t:=by
 unfold zk dR;rw[Bool.eq_iff_iff,decide_eq_true_eq,List.any_eq_true];rw[show(0:Int)<((l.countP fun p=>aq p&&zR p t:Nat):Int)↔0<l.countP (fun p=>aq p&&zR p t)by omega,List.countP_pos_iff]
theorem EK (t:Int):∀ l:List ax,dT (fun e=>e.2.1) (qF l true) t=zk l t/\dT (fun e=>e.2.2) (qF l true) t=0
 |[]=>⟨rfl,rfl⟩
 |p::l=>by
  obtain⟨h1,h2⟩:=EK t l;rw[qF,fD,fD,h1,h2];unfold zk;rw[List.countP_cons]
  cases hp:aq p with
  |false=>simp[dT]
  |true =>
   have:=gg hp;simp only[aqa,dT,aqH];have e:zR p t=true↔p.lo<=t/\t<p.hi:=fw p t;by_cases h3:p.lo<=t<;>by_cases h4:p.hi<=t
   ·rw[if_pos h3,if_pos h4,if_neg (by rw[e];omega)];constructor<;>simp
   ·rw[if_pos h3,if_neg h4,if_pos (by rw[e];omega)];constructor<;>simp;omega
   ·omega
   ·rw[if_neg h3,if_neg h4,if_neg (by rw[e];omega)];constructor<;>simp
theorem E6 (t:Int):∀ l:List ax,dT (fun e=>e.2.2) (qF l false) t=zk l t/\dT (fun e=>e.2.1) (qF l false) t=0
 |[]=>⟨rfl,rfl⟩
 |p::l=>by
  obtain⟨h1,h2⟩:=E6 t l;rw[qF,fD,fD,h1,h2];unfold zk;rw[List.countP_cons]
  cases hp:aq p with
  |false=>simp[dT]
  |true =>
   have:=gg hp;simp only[aqa,ap',dT,aqH];have e:zR p t=true↔p.lo<=t/\t<p.hi:=fw p t;by_cases h3:p.lo<=t<;>by_cases h4:p.hi<=t
   ·rw[if_pos h3,if_pos h4,if_neg (by rw[e];omega)];constructor<;>simp
   ·rw[if_pos h3,if_neg h4,if_pos (by rw[e];omega)];constructor<;>simp;omega
   ·omega
   ·rw[if_neg h3,if_neg h4,if_neg (by rw[e];omega)];constructor<;>simp
theorem KE (a b:List ax)(t:Int):dT (fun e=>e.2.1) (rW a b) t=zk a t/\dT (fun e=>e.2.2) (rW a b) t=zk b t:=by
 unfold rW;rw[fD,fD,(EK t a).1,(EK t a).2,(E6 t b).1,(E6 t b).2];omega
theorem x7:∀ (l:List ax) (f:Bool),∀ e∈qF l f,0<=e.1/\e.1<=1099511627776 /\ -1<=e.2.1/\e.2.1<=1 /\ -1<=e.2.2/\e.2.2<=1
 |[],_,e,h=>by cases h
 |p::l,f,e,h=>by
  rw[qF,aqB]at h;rcases h with h|h
  ·cases hp:aq p with
   |false=>rw[hp]at h;cases h
   |true =>
    have:=gg hp;rw[hp,aqa]at h
    cases f<;>simp at h<;>rcases h with rfl|rfl<;>simp<;>omega
  ·exact x7 l f e h
theorem Jv:∀ (l:List ax) (f:Bool),(qF l f).length<=2*l.length
 |[],_=>aqo _
 |p::l,f=>by
  have:=Jv l f;rw[qF,aqg,aqv]
  cases aq p<;>cases f<;>simp<;>omega
theorem qh (a b:List ax):∀ e∈rW a b,0<=e.1/\e.1<=1099511627776 /\ -1<=e.2.1/\e.2.1<=1 /\ -1<=e.2.2/\e.2.2<=1:=fun e h=>by
 rcases aqB.1 h with h|h
 ·exact x7 a true e h
 ·exact x7 b false e h
theorem N5 (a b:List ax):(rW a b).length<=2*a.length+2*b.length:=by
 have h1:=Jv a true;have h2:=Jv b false;unfold rW;rw[aqg];omega
def kr (at_:Int):List E3->Int->Int->List E3×Int×Int
 |[],na,nb=>([],na,nb)
 |e::l,na,nb=>if e.1=at_ then kr at_ l (na+e.2.1) (nb+e.2.2)else(e::l,na,nb)
def kp:List E3->Int
 |[]=>1099511627776
 |e::_=>e.1
def lM (l:List E3):Prop:=l.Pairwise fun x y=>x.1<=y.1
theorem Ai (at_:Int):∀ (l:List E3) (na nb:Int),lM l->(∀ e∈l,at_<=e.1) ->∃ l' VX VY,kr at_ l na nb=(l',VX,VY)/\lM l'/\(∀ e∈l',at_<e.1/\e∈l)/\l'.length<=l.length /\
  (∀ t,at_<=t->na+dT (fun e=>e.2.1) l t=VX+dT (fun e=>e.2.1) l' t/\nb+dT (fun e=>e.2.2) l t=VY+dT (fun e=>e.2.2) l' t)
 |[],na,nb,_,_=>⟨[],na,nb,rfl,List.Pairwise.nil,fun e h=>(by cases h),aqo _,fun t _=>⟨rfl,rfl⟩⟩
 |e::l,na,nb,hs,hm=>by
  have YC:=aq5.1 hs;rw[kr];by_cases he:e.1=at_
  ·rw[if_pos he]
   obtain⟨l',VX,VY,h1,h2,h3,h4,h5⟩:=Ai at_ l (na+e.2.1) (nb+e.2.2) YC.2 fun x hx=>hm x (aqx _ hx)
   refine⟨l',VX,VY,h1,h2,fun x hx=>⟨(h3 x hx).1,aqx _ (h3 x hx).2⟩,by simp;omega,fun t ht=>?_⟩;obtain⟨q1,q2⟩:=h5 t ht;simp only[dT];rw[if_pos m0,if_pos m0];omega
  ·rw[if_neg he]
   have h0:=hm e (aqW ..);refine⟨e::l,na,nb,rfl,hs,fun x hx=>⟨?_,hx⟩,aqo _,fun t _=>⟨rfl,rfl⟩⟩;rcases aqp.1 hx with rfl|hx
   ·omega
   ·have:=YC.1 x hx;omega
theorem yg (f:E3->Int)(t:Int):∀ l:List E3,(∀ e∈l,t<e.1)->dT f l t=0
 |[],_=>rfl
 |e::l,h=>by
  rw[dT,if_neg (by have:=h e (aqW ..);omega),yg f t l fun x hx=>h x (aqx _ hx)];rfl
def ic (Pq:Bool->Bool->Bool):Nat->List E3->Int->Int->Int->List ax->List ax
 |0,_,_,_,_,out=>out
 |n+1,l,at_,na,nb,out=>if at_<1099511627776 then
   let r:=kr at_ l na nb
   ic Pq n r.1 (kp r.1) r.2.1 r.2.2 (if Pq (decide (0<r.2.1)) (decide (0<r.2.2))then o_ out at_ (kp r.1)else out)
  else out
structure HO (Pq:Bool->Bool->Bool)(E l:List E3)(at_ na nb:Int)(out:List ax):Prop where
 srt:lM l
 low:∀ e∈l,at_<=e.1/\e.1<=1099511627776
 zero:0<=at_/\at_<=1099511627776
 cnt:∀ t,at_<=t->dT (fun e=>e.2.1) E t=na+dT (fun e=>e.2.1) l t/\dT (fun e=>e.2.2) E t=nb+dT (fun e=>e.2.2) l t
 span:b9 out
 last:∀ p∈out,p.hi<=at_
 ins:∀ t,dR out t=((decide (0<=t)&&decide (t<at_))&&Pq (decide (0<dT (fun e=>e.2.1) E t)) (decide (0<dT (fun e=>e.2.2) E t)))
theorem HO.step {Pq:Bool->Bool->Bool}{E l:List E3}{at_ na nb:Int}{out:List ax}(h:HO Pq E l at_ na nb out)(ha:at_<1099511627776) :
  HO Pq E (kr at_ l na nb).1 (kp (kr at_ l na nb).1) (kr at_ l na nb).2.1 (kr at_ l na nb).2.2 (if Pq (decide (0<(kr at_ l na nb).2.1)) (decide (0<(kr at_ l na nb).2.2))then o_ out at_ (kp (kr at_ l na nb).1)else out) /\
  at_<kp (kr at_ l na nb).1:=by
 obtain⟨l',VX,VY,h1,h2,h3,h4,h5⟩:=Ai at_ l na nb h.srt fun e he=>(h.low e he).1
 rw[h1];simp only;have hn:at_<kp l'/\kp l'<=1099511627776 /\ ∀ e∈l',kp l'<=e.1:=by
  cases l' with
  |nil=>exact⟨ha,Int.le_refl _,fun e he=>by cases he⟩
  |cons e l' =>
   have h6:=h3 e (aqW ..);refine⟨h6.1,(h.low e h6.2).2,fun x hx=>?_⟩;rcases aqp.1 hx with rfl|hx
   ·exact Int.le_refl _
   ·exact(aq5.1 h2).1 x hx
 obtain⟨n1,n2,n3⟩:=hn;generalize kp l'=nx at n1 n2 n3 ⊢;have hz:=h.zero;have hc:∀ t,at_<=t->dT (fun e=>e.2.1) E t=VX+dT (fun e=>e.2.1) l' t/\dT (fun e=>e.2.2) E t=VY+dT (fun e=>e.2.2) l' t:=fun t ht=>by
  have q1:=h.cnt t ht;have q2:=h5 t ht;omega
 have hk:∀ t,at_<=t->t<nx->Pq (decide (0<dT (fun e=>e.2.1) E t)) (decide (0<dT (fun e=>e.2.2) E t))=Pq (decide (0<VX)) (decide (0<VY)):=fun t h1 h2=>by
  have q:=hc t h1;rw[yg _ t l' fun e he=>by have:=n3 e he;omega,yg _ t l' fun e he=>by have:=n3 e he;omega,Int.add_zero,Int.add_zero]at q;rw[q.1,q.2]
 refine⟨⟨h2,fun e he=>⟨n3 e he,(h.low e (h3 e he).2).2⟩,m0,fun t ht=>hc t m0,?_,?_,?_⟩,n1⟩
 ·split
  ·exact(jz h.span h.last hz.1 n1 n2).1
  ·exact h.span
 ·split
  ·exact(jz h.span h.last hz.1 n1 n2).2.1
  ·exact fun p hp=>by have:=h.last p hp;omega
 ·intro t
  by_cases O0:t<at_
  ·have e1:(decide (at_<=t)&&decide (t<nx))=false:=by simp;omega
   have e2:dR (if Pq (decide (0<VX)) (decide (0<VY))then o_ out at_ nx else out) t=dR out t:=by
    split
    ·rw[(jz h.span h.last hz.1 n1 n2).2.2,e1,Bool.or_false]
    ·rfl
   rw[e2,h.ins t,aqc O0,aqc (show t<nx by omega)]
  ·have e0:dR out t=false:=by rw[h.ins t,aqb O0,Bool.and_false,Bool.false_and]
   by_cases Qo:t<nx
   ·rw[hk t m0 Qo,aqc (show 0<=t by omega),aqc Qo,aqH,aqH]
    cases RL:Pq (decide (0<VX)) (decide (0<VY))with
    |true=>rw[if_pos rfl,(jz h.span h.last hz.1 n1 n2).2.2,e0,aqc (show at_<=t by omega),aqc Qo];rfl
    |false=>rw[if_neg m5,e0]
   ·rw[aqb Qo,Bool.and_false,Bool.false_and]
    split
    ·rw[(jz h.span h.last hz.1 n1 n2).2.2,e0,aqb Qo,Bool.and_false];rfl
    ·exact e0
def yO (n:Nat)(l:List E3)(at_:Int):Prop:=at_<1099511627776->l.length+(if at_=kp l then 1 else 2)<=n
theorem afw (at_:Int){l:List E3}{na nb:Int}(hs:lM l)(hm:∀ e∈l,at_<=e.1):(kr at_ l na nb).1.length<=l.length/\(at_=kp l->at_<1099511627776->(kr at_ l na nb).1.length<l.length):=by
 obtain⟨l',VX,VY,h1,h2,h3,h4,h5⟩:=Ai at_ l na nb hs hm;refine⟨by rw[h1];exact h4,fun he hf=>?_⟩
 cases l with
 |nil=>exact absurd (show at_=1099511627776 from he) m0
 |cons e l =>
  have QO:e.1=at_:=he.symm;rw[kr,if_pos QO];obtain⟨l2,a2,b2,q1,_,_,q4,_⟩:=Ai at_ l (na+e.2.1) (nb+e.2.2) (aq5.1 hs).2 fun x hx=>hm x (aqx _ hx)
  rw[q1];simp;omega
theorem yO.step {n:Nat}{l:List E3}{at_ na nb:Int}(h:yO (n+1) l at_)(hs:lM l)(hm:∀ e∈l,at_<=e.1)(ha:at_<1099511627776):yO n (kr at_ l na nb).1 (kp (kr at_ l na nb).1):=by
 intro _;rw[if_pos rfl];have h1:=afw at_ (na:=na) (nb:=nb) hs hm;have h2:=h ha;by_cases he:at_=kp l
 ·rw[if_pos he]at h2
  have:=h1.2 he ha;omega
 ·rw[if_neg he]at h2
  have:=h1.1;omega
theorem aeq (Pq:Bool->Bool->Bool)(E:List E3):∀ (n:Nat) (l:List E3) (at_ na nb:Int) (out:List ax),HO Pq E l at_ na nb out->yO n l at_ ->
  b9 (ic Pq n l at_ na nb out) /\ ∀ t,dR (ic Pq n l at_ na nb out) t=((decide (0<=t)&&decide (t<1099511627776))&&Pq (decide (0<dT (fun e=>e.2.1) E t)) (decide (0<dT (fun e=>e.2.2) E t))):=by
 intro n
 induction n with
 |zero =>
  intro l at_ na nb out h hn;have:at_=1099511627776:=by
   have:=h.zero;have h2:=hn;unfold yO at h2;by_cases ha:at_<1099511627776
   ·have:=h2 ha
    split at this<;>omega
   ·omega
  subst this;exact⟨h.span,h.ins⟩
 |succ n ih =>
  intro l at_ na nb out h hn;rw[ic];by_cases ha:at_<1099511627776
  ·rw[if_pos ha]
   exact ih _ _ _ _ _ (h.step ha).1 (hn.step h.srt (fun e he=>(h.low e he).1) ha)
  ·rw[if_neg ha]
   have:at_=1099511627776:=by have:=h.zero;omega
   subst this;exact⟨h.span,h.ins⟩
theorem Ln (Pq:Bool->Bool->Bool){E:List E3}(hs:lM E)(hr:∀ e∈E,0<=e.1/\e.1<=1099511627776):HO Pq E E 0 0 0 [] :=
 ⟨hs,hr,m0,fun t _=>⟨(Int.zero_add _).symm,(Int.zero_add _).symm⟩,t7,fun p hp=>(by cases hp),fun t=>by
  have:(decide (0<=t)&&decide (t<0))=false:=by
   by_cases h:t<0
   ·rw[aqb (show ¬ 0<=t by omega),Bool.false_and]
   ·rw[aqb h,Bool.and_false]
  rw[this,Bool.false_and,js]⟩
theorem D7 (Pq:Bool->Bool->Bool){a b:List ax}{E:List E3}(hp:E.Perm (rW a b))(hs:lM E){n:Nat}(hn:E.length+2<=n) :
  b9 (ic Pq n E 0 0 0 []) /\ ∀ t,dR (ic Pq n E 0 0 0 []) t=((decide (0<=t)&&decide (t<1099511627776))&&Pq (dR a t) (dR b t)):=by
 have hr:∀ e∈E,0<=e.1/\e.1<=1099511627776:=fun e he=>by
  have:=qh a b e (hp.mem_iff.1 he);exact⟨this.1,this.2.1⟩
 obtain⟨h1,h2⟩:=aeq Pq E n E 0 0 0 [] (Ln Pq hs hr) (fun _=>by split<;>omega);refine⟨h1,fun t=>?_⟩;rw[h2 t,Gg _ t hp,Gg _ t hp,(KE a b t).1,(KE a b t).2,Gn,Gn]
open Go.RowKit Go.Shelf Go.Lib Go.Sort
def adK:Type :={ e:E3 // 0<=e.1/\e.1<=1099511627776 }
instance : Inhabited adK := ⟨⟨(0, 0, 0), by decide⟩⟩
def aj':Flat adK:=⟨3,fun e=>[e.1.1,e.1.2.1,e.1.2.2],fun _=>rfl,m0⟩
theorem alU:SWO (ltOf fun x y:adK=>x.1.1-y.1.1) where
 irrefl x:=by simp[ltOf]
 trans x y z h1 h2:=by simp[ltOf]at *;omega
 ntrans x y z h1 h2:=by simp[ltOf]at *;omega
theorem aha:NC Tryz.prog aj' 213 [] (fun x => .agg (aj'.enc x).toArray) (fun x y=>x.1.1-y.1.1):=by
 intro R W cb _ hs _ x y;obtain rfl:=agr hs;obtain⟨⟨x,a,b⟩,O3,QP⟩:=x;obtain⟨⟨y,c,d⟩,hy1,Yf⟩:=y;simp only at O3 QP hy1 Yf;show Calls Tryz.prog 213 #[.agg #[.int .i64 x,.int .i64 a,.int .i64 b],.agg #[.int .i64 y,.int .i64 c,.int .i64 d]] W _
 go_enter Tryz.func213,Tryz.ntmps213
 go_wp2
 go_ret
 exact⟨rfl,0,_,by rw[alloc_eq_grow,alloc_eq_grow,grow_grow];rfl⟩
instance : Inhabited cz := ⟨⟨0, 0⟩⟩
def gI (k:Int):List SV:=[.c (.int .i64 k)]
def M_ (p:cz):List SV:=[.c (.int .i64 p.a),.c (.int .i64 p.b)]
theorem Hl {n:Nat}:∀ {o:List Int},(∀ k∈o,0<=k/\k<(n:Int)) ->∃ d:List (afe n),d.map (·.1)=o
 |[],_=>⟨[],rfl⟩
 |k::o,h=>by
  obtain⟨d,e⟩:=Hl (o:=o) fun t ht=>h t (aqx _ ht)
  have hk:=h k (aqW ..);exact⟨⟨k,hk.1,.inl hk.2⟩::d,congrArg (k :: ·) e⟩
theorem Hh {n:Nat}(d:List (afe n)):d.map (akW n).tr=(d.map (·.1)).map gI:=by
 rw[List.map_map];rfl
theorem Me {b:List ap}(hb:b.length<=1000){o:List Int}(hr:∀ k∈o,0<=k/\k<(b.length:Int))(v m:Nat)(hm:o.length=m)(hm2:m<=1000000) :
  ∃ o':List Int,o'.Perm o/\o'.Pairwise (fun x y =>¬ ot b y<ot b x)/\RTz 39 [.row v (o.map gI) 1] [.one (.sl 0 v 0 m),.one (.c (.fn 40 [.ref [.lst (b.map aG)]]))] [.row v (o'.map gI) 1] (.tup []):=by
 obtain⟨d,rfl⟩:=Hl hr;have hO:=aot (α:=afe b.length) fun x=>ot b x.1
 have hd:d≠[]->0<b.length:=fun h=>by
  cases d with
  |nil=>exact absurd rfl h
  |cons x d=>have:=hr x.1 m5;omega
 have O8:=aeC (P:=Tryz.prog) (F:=akW b.length) rfl Tryz.sortInt (fun x y=>Lib.compareInt (ot b x.1) (ot b y.1)) hO 40 [.ref [.lst (b.map aG)]] (pre:=[]) (d:=d) (post:=[])
  (enters_of Tryz.func40 k7 rfl) (fun h=>afM (hd h) hb) ⟨_,Tryz.func39,k7,k7⟩ v 0 m rfl (by rw[<- hm];simp) m0
 refine⟨(bE (fun x y=>Lib.compareInt (ot b x.1) (ot b y.1)) d).map (·.1),(kz hO d).map _,?_,?_⟩
 ·rw[List.pairwise_map]
  refine(rG hO d).imp fun {x y} h O0=>h ?_
  have:=ltC (fun z:afe b.length=>ot b z.1) y x;unfold ltOf at this;rw[decide_eq_decide]at this;exact this.2 O0
 ·simp only[aqd,aqI]at O8
  rw[Hh,Hh]at O8;exact O8
theorem ON (pre d:List cz)(v lo n:Nat)(Po:pre.length=lo)(hn:d.length=n)(PN:n<=1000000) :
  ∃ d':List cz,d'.Perm d/\d'.Pairwise (fun x y =>¬ y.b<x.b)/\RTz 42 [.row v ((pre++d).map M_) 2] [.one (.sl 0 v lo n),.one (.c (.fn 43 []))] [.row v ((pre++d').map M_) 2] (.tup []):=by
 have hO:=aot (α:=cz) fun x=>x.b
 have O8:=Gf (P:=Tryz.prog) (F:=al3) Tryz.sortPair Tryz.isAgg63 Tryz.sizeOf63 (fun x y=>Lib.compareInt x.b y.b) hO 43 [] (pre:=pre) (d:=d) (post:=[])
  (enters_of Tryz.func43 k7 rfl) (fun _=>agv) ⟨_,Tryz.func42,k7,k7⟩ v lo n Po hn m0
 refine⟨bE (fun x y=>Lib.compareInt x.b y.b) d,kz hO d,?_,?_⟩
 ·refine(rG hO d).imp fun {x y} h O0=>h ?_
  have:=ltC (fun z:cz=>z.b) y x;unfold ltOf at this;rw[decide_eq_decide]at this;exact this.2 O0
 ·rw[aqI,aqI]at O8
  exact O8
open Go.RowKit Go.MapKept Go.Shelf Go.Lib Go.Sort
def MR (l:List ax):AC := .lst (l.map aN)
def Fg (e:E3):List SV:=[.c (.int .i64 e.1),.c (.int .i64 e.2.1),.c (.int .i64 e.2.2)]
def cEd (e:E3):List AC:=[.int .i64 e.1,.int .i64 e.2.1,.int .i64 e.2.2]
theorem MO:∀ {o:List E3},(∀ e∈o,0<=e.1/\e.1<=1099511627776) ->∃ d:List adK,d.map (·.1)=o
 |[],_=>⟨[],rfl⟩
 |k::o,h=>by
  obtain⟨d,e⟩:=MO (o:=o) fun t ht=>h t (aqx _ ht)
  have hk:=h k (aqW ..);exact⟨⟨k,hk.1,hk.2⟩::d,congrArg (k :: ·) e⟩
theorem KU (d:List adK):d.map aj'.tr=(d.map (·.1)).map Fg:=by
 rw[List.map_map];rfl
theorem aah {o:List E3}(hr:∀ e∈o,0<=e.1/\e.1<=1099511627776)(v m:Nat)(hm:o.length=m)(hm2:m<=1000000) :
  ∃ o':List E3,o'.Perm o/\lM o'/\RTz 212 [.row v (o.map Fg) 3] [.one (.sl 0 v 0 m),.one (.c (.fn 213 []))] [.row v (o'.map Fg) 3] (.tup []):=by
 obtain⟨d,rfl⟩:=MO hr;have O8:=Gf (P:=Tryz.prog) (F:=aj') Tryz.sortEdge Tryz.isAgg162 Tryz.sizeOf162 (fun x y=>x.1.1-y.1.1) alU 213 [] (pre:=[]) (d:=d) (post:=[])
  (enters_of Tryz.func213 k7 rfl) (fun _=>aha) ⟨_,Tryz.func212,k7,k7⟩ v 0 m rfl (by rw[<- hm];simp) m0
 refine⟨(bE (fun x y:adK=>x.1.1-y.1.1) d).map (·.1),(kz alU d).map _,?_,?_⟩
 ·unfold lM
  rw[List.pairwise_map];refine(rG alU d).imp fun {x y} h=>?_
  omega
 ·simp only[aqd,aqI]at O8
  rw[KU,KU]at O8;exact O8
def vE (n:Nat):Nat:=162+65536+65536*n
theorem ahe (l:List E3):dV (l.map Fg)=some (l.map cEd):=by
 have:=iC (l.map cEd);rw[List.map_map]at this;exact this
theorem gU (n v k:Nat)(l:List E3):(Ob.row v (l.map Fg) k).below n:=by
 intro e he x hx;obtain⟨y,_,rfl⟩:=aqJ.1 he;simp[Fg]at hx;rcases hx with rfl|rfl|rfl<;>trivial
theorem L_ (σ:List Nat)(v:Nat)(l:List E3):(Ob.row v (l.map Fg) 3).ren σ=Ob.row v (l.map Fg) 3:=by
 simp only[Ob.ren,List.map_map];rfl
theorem rfE {L:List Ob}{v:Nat}{l:List E3}{id:Nat}{x:AV}{xs:List AV}(h0:L[id]?=some (Ob.row v (l.map Fg) 3))(hx:∀ y∈x::xs,y.below 1):fS [id] [Ob.row v (l.map Fg) 3] (x::xs) L:=by
 refine⟨rfl,m5,fun i y hy=>?_,bv ⟨gU _ _ _ _,t7⟩,hx⟩
 match i,hy with
 |0,hy=>simp at hy;subst hy;rw[L_];exact h0
 |i+1,hy=>simp at hy
theorem jE {L L':List Ob}{v:Nat}{l:List E3}{id:Nat}(h:L.set id (Ob.row v (l.map Fg) 3)=L'):joinL [id] L [Ob.row v (l.map Fg) 3]=L':=by
 subst h;simp[joinL,join,db,b6,fo,L_]
theorem E8 (p:ax)(f:Bool):∀ l:List ax,qF (l++[p]) f=qF l f++(bif aq p then(bif f then [(p.lo,1,0),(p.hi,-1,0)]else [(p.lo,0,1),(p.hi,0,-1)])else [])
 |[]=>by simp[qF]
 |q::l=>by
  rw[List.cons_append,qF,E8 p f l,qF,aqA]
def nE (l:List ax):Nat:=l.countP aq
theorem acN (l:List ax)(p:ax):nE (l++[p])=nE l+(bif aq p then 1 else 0):=by
 unfold nE;rw[List.countP_append,List.countP_cons,List.countP_nil]
 cases aq p<;>simp
theorem yy (f:Bool):∀ l:List ax,(qF l f).length=2*nE l
 |[]=>rfl
 |p::l=>by
  have:=yy f l;unfold nE at this ⊢;rw[qF,aqg,this,List.countP_cons]
  cases aq p<;>cases f<;>simp<;>omega
theorem adD (l:List ax):nE l<=l.length:=List.countP_le_length
def ET1 (a b:List ax)(m i:Nat):Tm:=[(1,.one (.c (MR b))),(5,.one (.sl 0 (vE m) 0 (2*m))),(10,.one (.c (MR a))),(11,.one (.c (.int .i64 a.length))),(12,.one (.c (.int .i64 i)))]
theorem yH (a b:List ax)(m i:Nat):gk 1 (ET1 a b m i):=⟨t7,(by show 0<1;omega),t7,t7,t7,t7⟩
def ET2 (b:List ax)(m i:Nat):Tm:=[(5,.one (.sl 0 (vE m) 0 (2*m))),(28,.one (.c (MR b))),(29,.one (.c (.int .i64 b.length))),(30,.one (.c (.int .i64 i)))]
theorem ym (b:List ax)(m i:Nat):gk 1 (ET2 b m i):=⟨(by show 0<1;omega),t7,t7,t7,t7⟩
theorem BF (a b:List ax)(ha:a.length<=1000)(hb:b.length<=1000):∃ E,E.Perm (rW a b)/\lM E/\PTz 156 [.one (MR a),.one (MR b)] (.val (.one (.lst (E.map cEd)))):=by
 have hlen:(rW a b).length=2*(nE a+nE b):=by unfold rW;rw[aqg,yy,yy];omega
 have hna:=adD a;have SC:=adD b;obtain⟨E,hEp,hEs,UA⟩:=aah (o:=rW a b) (fun e he=>⟨(qh a b e he).1,(qh a b e he).2.1⟩) (vE (nE a+nE b)) (2*(nE a+nE b)) hlen m0;refine⟨E,hEp,hEs,?_⟩;refine pa_ am Tryz.func156 rfl rfl Tryz.ntmps156 m5 ?_;simp only[argT,PV.av,aqj,aqn]
 repeat' (first|refine gw_ am tabS_ok ?_|refine gi_ (fun hb=>?_) (fun hb=>?_)|fail)
 refine tw 5 (vE 0) 3 rfl (by unfold vE;omega) ?_;refine cA (fun i:Nat=>ET1 a b (nE (a.take i)) i) (fun i=>[.row (vE (nE (a.take i))) ((qF (a.take i) true).map Fg) 3]) (fun i=>i<=a.length) (fun i=>a.length-i) 0 m0 (fun _ _=>aqu _)
  (fm_ ⟨rfl,rfl,rfl,aT m5,rfl,t7⟩ [] rfl (yH _ _ _ _) ⟨gU _ _ _ _,t7⟩) ?_
 intro i hi;by_cases O0:i<a.length
 ·obtain⟨x,hx⟩:=gol_ O0
  have Qs:=gPV_ok (iP x);have RU:nE (a.take (i+1))=nE (a.take i)+(bif aq x then 1 else 0):=by rw[bO hx,acN]
  have Ui:qF (a.take (i+1)) true=qF (a.take i) true++(bif aq x then [(x.lo,1,0),(x.hi,-1,0)]else []):=by rw[bO hx,E8];rfl
  have VR:=yy true (a.take i);have hle:nE (a.take i)<=1000:=by have:=adD (a.take i);rw[aq0]at this;omega
  unfold ET1;generalize nE (a.take i)=m at RU VR hle ⊢;generalize qF (a.take i) true=E0 at Ui VR ⊢
  cases hv:aq x with
  |true =>
   rw[hv]at Qs RU Ui;rw[aqa]at RU Ui;have QY:vE (m+1)=vE m+65536:=by unfold vE;omega
   have hm:(E0.map Fg).length=2*m:=by rw[aqk,VR]
   repeat' (first|(refine b7 rfl rfl rfl rfl rfl (dX am (k:=3) (by_:=24) (xs:=[Fg (x.lo,1,0),Fg (x.hi,-1,0)]) rfl rfl rfl rfl ⟨rfl,_,rfl,by intro e he;simp at he;rcases he with rfl|rfl<;>rfl⟩ rfl (by unfold vE;omega) rfl rfl rfl m9 hm (by simp only[aqv,aqE];omega) (by simp only[aqv,aqE];omega)) ?_)|(refine bB rfl rfl rfl rfl rfl rfl rfl rfl (bq hx) ?_ ?_;· exact⟨m0,rfl⟩)|refine aM rfl rfl rfl rfl Qs rfl ?_|refine gw_ am tabS_ok ?_|refine gi_ (fun hb=>?_) (fun hb=>?_)|fail)
   exact⟨i+1,m0,m0,fm_ ⟨rfl,(by rw[RU,QY];rfl),rfl,rfl,aT (a7 m0 m0),t7⟩ [_] (by rw[RU,QY,Ui,aql];rfl) (yH _ _ _ _) ⟨gU _ _ _ _,t7⟩⟩
  |false =>
   rw[hv]at Qs RU Ui;rw[ap',Nat.add_zero]at RU;rw[ap',aqI]at Ui
   repeat' (first|(refine bB rfl rfl rfl rfl rfl rfl rfl rfl (bq hx) ?_ ?_;· exact⟨m0,rfl⟩)|refine aM rfl rfl rfl rfl Qs rfl ?_|refine gw_ am tabS_ok ?_|refine gi_ (fun hb=>?_) (fun hb=>?_)|fail)
   exact⟨i+1,m0,m0,fm_ ⟨rfl,(by rw[RU];rfl),rfl,rfl,aT (a7 m0 m0),t7⟩ [_] (by rw[RU,Ui];rfl) (yH _ _ _ _) ⟨gU _ _ _ _,t7⟩⟩
 ·have QE:i=a.length:=m0
  subst QE;rw[List.take_length];unfold ET1
  repeat' (first|refine gw_ am tabS_ok ?_|refine gi_ (fun hb=>?_) (fun hb=>?_)|fail)
  refine cA (fun i:Nat=>ET2 b (nE a+nE (b.take i)) i) (fun i=>[.row (vE (nE a+nE (b.take i))) ((qF a true++qF (b.take i) false).map Fg) 3]) (fun i=>i<=b.length) (fun i=>b.length-i) 0 m0 (fun _ _=>aqu _)
   (fm_ ⟨rfl,rfl,aT m5,rfl,t7⟩ [] (by simp[qF,nE]) (ym _ _ _) ⟨gU _ _ _ _,t7⟩) ?_
  intro i hi;by_cases O0:i<b.length
  ·obtain⟨x,hx⟩:=gol_ O0
   have Qs:=gPV_ok (iP x);have RU:nE a+nE (b.take (i+1))=nE a+nE (b.take i)+(bif aq x then 1 else 0):=by rw[bO hx,acN,Nat.add_assoc]
   have Ui:qF a true++qF (b.take (i+1)) false=qF a true++qF (b.take i) false++(bif aq x then [(x.lo,0,1),(x.hi,0,-1)]else []):=by rw[bO hx,E8,aqA];rfl
   have VR:(qF a true++qF (b.take i) false).length=2*(nE a+nE (b.take i)):=by rw[aqg,yy,yy];omega
   have hle:nE a+nE (b.take i)<=2000:=by have:=adD (b.take i);rw[aq0]at this;omega
   unfold ET2;generalize nE a+nE (b.take i)=m at RU VR hle ⊢;generalize qF a true++qF (b.take i) false=E0 at Ui VR ⊢
   cases hv:aq x with
   |true =>
    rw[hv]at Qs RU Ui;rw[aqa]at RU Ui;have QY:vE (m+1)=vE m+65536:=by unfold vE;omega
    have hm:(E0.map Fg).length=2*m:=by rw[aqk,VR]
    repeat' (first|(refine b7 rfl rfl rfl rfl rfl (dX am (k:=3) (by_:=24) (xs:=[Fg (x.lo,0,1),Fg (x.hi,0,-1)]) rfl rfl rfl rfl ⟨rfl,_,rfl,by intro e he;simp at he;rcases he with rfl|rfl<;>rfl⟩ rfl (by unfold vE;omega) rfl rfl rfl m9 hm (by simp only[aqv,aqE];omega) (by simp only[aqv,aqE];omega)) ?_)|(refine bB rfl rfl rfl rfl rfl rfl rfl rfl (bq hx) ?_ ?_;· exact⟨m0,rfl⟩)|refine aM rfl rfl rfl rfl Qs rfl ?_|refine gw_ am tabS_ok ?_|refine gi_ (fun hb=>?_) (fun hb=>?_)|fail)
    exact⟨i+1,m0,m0,fm_ ⟨(by rw[RU,QY];rfl),rfl,rfl,aT (a7 m0 m0),t7⟩ [_] (by rw[RU,QY,Ui,aql];rfl) (ym _ _ _) ⟨gU _ _ _ _,t7⟩⟩
   |false =>
    rw[hv]at Qs RU Ui;rw[ap',Nat.add_zero]at RU;rw[ap',aqI]at Ui
    repeat' (first|(refine bB rfl rfl rfl rfl rfl rfl rfl rfl (bq hx) ?_ ?_;· exact⟨m0,rfl⟩)|refine aM rfl rfl rfl rfl Qs rfl ?_|refine gw_ am tabS_ok ?_|refine gi_ (fun hb=>?_) (fun hb=>?_)|fail)
    exact⟨i+1,m0,m0,fm_ ⟨(by rw[RU];rfl),rfl,rfl,aT (a7 m0 m0),t7⟩ [_] (by rw[RU,Ui];rfl) (ym _ _ _) ⟨gU _ _ _ _,t7⟩⟩
  ·have QE:i=b.length:=m0
   subst QE;rw[List.take_length];unfold ET2;have US:qF a true++qF b false=rW a b:=rfl;rw[US]
   repeat' (first|(refine cI [0] rfl rfl rfl rfl UA rfl (rfE rfl (bW ⟨(by show 0<1;omega),t7,t7⟩)) rfl (jE rfl) ?_)|(refine iV 0 5 (cs:=E.map cEd) rfl (ahe _) rfl (by rw[aqk,hEp.length_eq,hlen]) ?_)|refine gw_ am tabS_ok ?_|refine gi_ (fun hb=>?_) (fun hb=>?_)|fail)
   refine⟨.inr rfl,?_⟩
   first|exact⟨t7,rfl⟩|exact⟨⟨t7,t7⟩,rfl⟩|(refine⟨?_,rfl⟩;repeat' (first|exact t7|rfl|apply And.intro))
