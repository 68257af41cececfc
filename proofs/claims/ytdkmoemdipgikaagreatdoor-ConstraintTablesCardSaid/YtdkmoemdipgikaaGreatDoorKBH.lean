/- Parts. No condition. -/
import Derived.Test.YtdkmoemdipgikaaGreatDoorKBG
set_option maxHeartbeats 8000000
set_option maxRecDepth 100000
set_option linter.unusedSimpArgs false
set_option linter.unusedVariables false
namespace Go.Proofs.YtdkmoemdipgikaaGreatDoor
open Go.RowKit Go.MapKept
@[reducible] def KC (f:aw):List AC:=pc f.valid
def gE (cr:ByteArray->List au)(ks:List ByteArray):List (AC×AV):=ks.map fun s=>(.str s,.one (.c (.lst ((cr s).map aH))))
def oS (S:gM)(s:List Nat):List ByteArray:=s.filterMap fun j=>(S[j]?).map (·.1)
theorem Dv (cr:ByteArray->List au)(ks:List ByteArray):strKeys (gE cr ks):=by
 intro p hp;obtain⟨s,_,rfl⟩:=am6.1 hp;exact⟨s,rfl⟩
theorem D5 (cr:ByteArray->List au){t:ByteArray}:∀ {ks:List ByteArray},t∉ks->kP t (gE cr ks)=none
 |[],_=>rfl
 |s::ks,h=>by
  show(if t=s then some 0 else(kP t (gE cr ks)).map (· +1))=none;rw[if_neg (fun e=>h (by rw[e];exact ani ..)),D5 cr (fun hh=>h (amU _ hh))];rfl
theorem afO (cr:ByteArray->List au){t:ByteArray}{ks:List ByteArray}(h:t∉ks):lE (gE cr ks) t (.one (.c (.lst ((cr t).map aH))))=gE cr (ks++[t]):=by
 unfold lE;rw[D5 cr h];unfold gE;rw[amJ];rfl
theorem Ik (cr:ByteArray->List au)(ks:List ByteArray)(σ:List Nat):(Ob.map (gE cr ks)).ren σ = .map (gE cr ks):=by
 show Ob.map ((gE cr ks).map _)=_;congr 1;unfold gE;rw[List.map_map];rfl
theorem sZ (cr:ByteArray->List au)(ks:List ByteArray)(n:Nat):(Ob.map (gE cr ks)).below n:=by
 intro p hp;obtain⟨s,_,rfl⟩:=am6.1 hp;trivial
theorem aaC {S:gM}{j:Nat}{q:ByteArray×List (List AC)}(h:S[j]?=some q)(s:List Nat):oS S (s++[j])=oS S s++[q.1]:=by
 unfold oS;rw[List.filterMap_append];simp[h]
theorem HH {S:gM}(hk:(em S).Nodup){j:Nat}{q:ByteArray×List (List AC)}(h:S[j]?=some q){s:List Nat}(hj:j∉s):q.1∉oS S s:=by
 intro hm;obtain⟨i,hi,he⟩:=List.mem_filterMap.1 hm
 cases hp:S[i]? with
 |none=>rw[hp]at he;cases he
 |some p =>
  rw[hp]at he;have he:p.1=q.1:=by simpa using he
  have h1:(em S)[i]?=some q.1:=by unfold em;rw[amT,hp,<- he];rfl
  have h2:(em S)[j]?=some q.1:=by unfold em;rw[amT,h];rfl
  have e:i=j:=(List.getElem?_inj (amw.1 h1).1 hk).1 (h1.trans h2.symm);exact hj (e▸hi)
theorem M5 {S:gM}(hk:(em S).Nodup):∀ {s:List Nat},s.Nodup->(oS S s).Nodup:=by
 intro s
 induction s with
 |nil=>intro _;exact List.nodup_nil
 |cons j s ih =>
  intro h;rw[List.nodup_cons]at h
  cases hp:S[j]? with
  |none =>
   have e:oS S (j::s)=oS S s:=by unfold oS;simp[hp]
   rw[e];exact ih h.2
  |some p =>
   have e:oS S (j::s)=p.1::oS S s:=by unfold oS;simp[hp]
   rw[e,List.nodup_cons];exact⟨HH hk hp h.1,ih h.2⟩
theorem aex {S:gM}{s:List Nat}(hall:∀ j,j<S.length->j∈s)(t:ByteArray):t∈oS S s↔t∈em S:=by
 constructor
 ·intro h
  obtain⟨i,hi,he⟩:=List.mem_filterMap.1 h
  cases hp:S[i]? with
  |none=>rw[hp]at he;cases he
  |some p =>
   rw[hp]at he;have he:p.1=t:=by simpa using he
   exact am6.2 ⟨p,amC hp,he⟩
 ·intro h
  obtain⟨p,hp,rfl⟩:=am6.1 h;obtain⟨i,hi⟩:=List.getElem?_of_mem hp;exact List.mem_filterMap.2 ⟨i,hall i (amw.1 hi).1,by rw[hi];rfl⟩
theorem N_ (d:Nat):∀ (S:gM) (k:Nat),∀ q∈qh d k S,∃ sv,q.2 = .one sv
 |[],_,q,hq=>by cases hq
 |(_,_)::r,k,q,hq=>by
  rcases amN.1 hq with rfl|hq
  ·exact⟨_,rfl⟩
  ·exact N_ d r (k+1) q hq
theorem DI (S:gM)(cr:ByteArray->List au)(ks:List ByteArray):∀ x∈LC S++[Ob.map (gE cr ks)],x.below (LC S++[Ob.map (gE cr ks)]).length:=by
 intro x hx;rcases amY.1 hx with hx|hx
 ·exact iA S _ (by rw[amE];omega) x hx
 ·rw[am'.1 hx];exact sZ _ _ _
def UT (t:bv)(l:List aw)(i:Nat):Tm:=[(5,.one (.ptr 2 0)),(6,.one (.clo 122 [.c (.ref (bn t)),.ptr 2 0])),(14,.one (.c (.lst (l.map aA)))),(15,.one (.c (.int .i64 l.length))),(16,.one (.c (.int .i64 i)))]
theorem BE (t:bv)(l:List aw)(i n:Nat)(hn:3<=n):eF n (UT t l i):=⟨(by show 2<n;omega),(by intro x hx;simp at hx;rcases hx with rfl|rfl;exact t7;show 2<n;omega),t7,t7,t7,t7⟩
theorem vk (S:gM):∀ x∈LC S++[Ob.dead],x.below (LC S++[Ob.dead]).length:=by
 intro x hx;rcases amY.1 hx with hx|hx
 ·exact iA S _ (by rw[amE];omega) x hx
 ·simp at hx;subst hx;trivial
theorem M3 (t:bv)(l:List aw)(kf:aw->ByteArray)(cr:ByteArray->List au)(hkey:∀ f∈l,∃ ks:List Val,PTz 73 [.agg (bn t),.one (.lst (f.row.map cV))] (.val (.one (.lst (ks.map cV))))/\PTz 72 [.one (.lst (ks.map cV))] (.val (.one (.str (kf f)))))
  (hcr:∀ f∈l,∃ st:List Stp,PTz 124 [.one (.lst ((l.filter fun g=>decide (kf g=kf f)).map KC))] (.val (.one (.lst (st.map dM))))/\PTz 123 [.one (.lst (st.map dM)),.one (.int .i64 2)] (.val (.one (.lst ((cr (kf f)).map aH))))) (hl:l.length<=1000) :
  abh Tryz.prog 70 [] [.agg ((bn t).map SV.c),.one (.c (.lst (l.map aA)))] (fun L1 r=>r = .one (.mp 0) /\ ∃ ks:List ByteArray,ks.Nodup/\(∀ s,s∈ks ↔ ∃ f∈l,kf f=s)/\L1=[.map (gE cr ks)]):=by
 refine yx bw Tryz.func70 rfl rfl Tryz.ntmps70 m5 ?_;simp only[dN,bn,amH,amL]
 repeat' (first|(refine cY 0 (ts:=bn t) rfl rfl ?_)|(refine bL rfl rfl rfl rfl rfl lm ?_)|(refine bL rfl rfl rfl rfl rfl (nO rfl) ?_)|refine gw_ bw tabS_ok ?_|refine gi_ (fun hb=>?_) (fun hb=>?_)|fail)
 refine cK (fun i:Nat=>UT t l i) (fun i=>LC (km kf KC (l.take i))) (fun i=>i<=l.length) (fun i=>l.length-i) 0 (amR _) (fun _ _=>amR _)
  (fm_ ⟨rfl,rfl,rfl,aM m5,rfl,t7⟩ [] rfl (BE _ _ _ _ (amM _)) (eB (iA [] _ (amM _)))) ?_
 intro i hi;have hplen:=ahz kf KC (l.take i);rw[anm]at hplen;by_cases hlt:i<l.length
 ·obtain⟨f,hf⟩:=gol_ hlt
  obtain⟨ks,hk1,hk2⟩:=hkey f (amC hf);have hG:decide ((i:Int)<(l.length:Int))=true:=amA m0;have hnx:km kf KC (l.take (i+1))=bO (kf f) (KC f) (km kf KC (l.take i)):=by rw[bu hf,Md]
  have hent:=fun q hq=>(DR kf KC (l:=l.take i) (q:=q) hq).1
  have hpl:∀ q∈km kf KC (l.take i),q.2.length<=100000 /\ ∀ e∈q.2,e.length=3:=fun q hq=>by
   rw[hent q hq];refine⟨?_,fun e he=>by obtain⟨g,_,rfl⟩:=am6.1 he;rfl⟩;rw[amI];have:=List.length_filter_le (fun g=>decide (kf g=q.1)) (l.take i);rw[anm]at this;omega
  generalize km kf KC (l.take i)=S at hplen hnx hpl ⊢;have hcl:=il S;have hne:¬ (2:Nat)=(LC S).length:=by rw[hcl];omega
  have hput:=uI (s:=kf f) (KC f) (S:=S);unfold UT
  repeat' (first|rw[hG]|(refine Ed rfl rfl rfl rfl rfl rfl rfl ?_)|(refine aZ rfl rfl rfl rfl rfl rfl rfl rfl (aU hf) ?_ ?_;· exact⟨m0,rfl⟩)|refine gw_ trivial trivial ?_|refine gi_ (fun hb=>?_) (fun hb=>?_)|refine aw_region (id:=4) bw _ rfl ?_|refine aw_region (id:=5) bw _ rfl ?_|fail)
  show Aw _ _ _ _ _ _ _;refine aen (gO.slots (T':=(8,.one (.ptr (LC S).length 0))::UT t l i) ⟨rfl,rfl,rfl,rfl,rfl,rfl,t7⟩) ?_;unfold UT;refine xU (A:=LC S) (cs:=(aA f).map SV.c) (ts:=aA f) (T':=(8,.one (.c (.ref (aA f))))::UT t l i) rfl (by simp only[UT,amH,amL,unA,unS,unC,l8,if_neg hne,if_true,List.drop_zero];rfl) ?_;unfold UT
  cases hix:iy (kf f) S with
  |none =>
   have hv:=aa2 t f S (kf f) ks hk1 hk2 hix m0
   repeat' (first|(refine aah rfl rfl rfl rfl hv (vk S) (iA _ _ (amM _)) (bS ⟨(by intro x hx;obtain⟨y,_,rfl⟩:=am6.1 hx;trivial),t7,(by show 2<_;rw[amE,hcl];omega),t7⟩) (by rw[amE,hcl,il,pw _ hix];simp;omega) ?_)|refine gw_ trivial trivial ?_|refine gi_ (fun hb=>?_) (fun hb=>?_)|refine aw_region (id:=6) bw _ rfl ?_|fail)
   repeat' (first|refine gw_ trivial trivial ?_|refine gi_ (fun hb=>?_) (fun hb=>?_)|refine aw_region (id:=7) bw _ rfl ?_|fail)
   exact⟨i+1,hlt,by show l.length-(i+1)<l.length-i;omega,by rw[hnx];exact fm_ ⟨rfl,rfl,rfl,rfl,aM (aS m0 m0),t7⟩ [] (am5 _).symm (BE t l (i+1) _ (by rw[il];omega)) (eB (iA _ _ (amM _)))⟩
  |some j =>
   obtain⟨ps,hj,_⟩:=vC hix;have hps:=hpl _ (amC hj);have hv:=abI t f S (kf f) ks hk1 hk2 hix hj hps.1 hps.2 m0;have hl2:(LC S++[Ob.dead]).length=(LC (bO (kf f) (pc f.valid) S)++[Ob.dead]).length:=by rw[amE,amE,il,il,qk _ hix hj,List.length_set]
   repeat' (first|(refine aah rfl rfl rfl rfl hv (vk S) (vk _) (bS ⟨(by intro x hx;obtain⟨y,_,rfl⟩:=am6.1 hx;trivial),t7,(by show 2<_;rw[amE,hcl];omega),t7⟩) (Nat.le_of_eq hl2) ?_)|refine gw_ trivial trivial ?_|refine gi_ (fun hb=>?_) (fun hb=>?_)|refine aw_region (id:=6) bw _ rfl ?_|fail)
   repeat' (first|refine gw_ trivial trivial ?_|refine gi_ (fun hb=>?_) (fun hb=>?_)|refine aw_region (id:=7) bw _ rfl ?_|fail)
   exact⟨i+1,hlt,by show l.length-(i+1)<l.length-i;omega,by rw[hnx];exact fm_ ⟨rfl,rfl,rfl,rfl,aM (aS m0 m0),t7⟩ [Ob.dead] rfl (BE t l (i+1) _ (by rw[il];omega)) (eB (iA _ _ (amM _)))⟩
 ·have hG:decide ((i:Int)<(l.length:Int))=false:=amz m0
  have htk:l.take i=l:=am_ m0;rw[htk];have hkn:=w9 kf KC l;have hkm:=Dh kf KC l;have hent:=fun q hq=>DR kf KC (l:=l) (q:=q) hq
  generalize km kf KC l=S at hkn hkm hent ⊢;have hcl:=il S;unfold UT
  repeat' (first|rw[hG]|refine gw_ trivial trivial ?_|refine gi_ (fun hb=>?_) (fun hb=>?_)|refine aw_region (id:=4) bw _ rfl ?_|fail)
  repeat' (first
   |refine st_nil ?_
   |(refine st_pop rfl rfl rfl rfl ?_ ?_;· (repeat' (first|exact t7|rfl|exact amG rfl|omega|exact wideI (by intro _;rfl) _|(intro e he;simp at he;subst he;rfl)|exact amI .. |(simp only[amI];omega)|(simp only[amS,am1];omega)|apply And.intro)))
   |(refine st_lop rfl rfl rfl rfl ?_ ?_;· (repeat' (first|exact t7|rfl|exact amG rfl|omega|exact wideI (by intro _;rfl) _|(intro e he;simp at he;subst he;rfl)|exact amI .. |(simp only[amI];omega)|(simp only[amS,am1];omega)|apply And.intro)))
   |(refine sS_ rfl rfl rfl ?_ ?_;· (repeat' (first|exact t7|rfl|exact amG rfl|omega|exact wideI (by intro _;rfl) _|(intro e he;simp at he;subst he;rfl)|exact amI .. |(simp only[amI];omega)|(simp only[amS,am1];omega)|apply And.intro)))
   |(refine st_lit rfl rfl rfl rfl ?_ ?_;· (repeat' (first|exact t7|rfl|exact amG rfl|omega|exact wideI (by intro _;rfl) _|(intro e he;simp at he;subst he;rfl)|exact amI .. |(simp only[amI];omega)|(simp only[amS,am1];omega)|apply And.intro)))
   |refine st_skip rfl rfl rfl ?_
   |refine sk0_ rfl rfl ?_
   |(refine bL rfl rfl rfl rfl rfl lm ?_)
   |(refine st_if rfl (fun hb=>?_) (fun hb=>?_)<;>(first|exact(fx_ hb).elim|rw[hb]))
   |refine aw_region (id:=8) bw _ rfl ?_
   |(refine aw_cond rfl (fun hb=>?_) (fun hb=>?_)<;>(try exact(fx_ hb).elim))
   |refine aw_block ?_
   |refine aw_exit ?_
   |refine aw_ret ?_
   |refine aw_skip ?_)
  show Aw _ _ _ _ _ _ _;refine aw_seq ?_;refine Js (n1:=2) (id:=1) (kvs:=qh 3 0 S) bw bw [_] (fun s=>[(9,.one (.mp (LC S).length))]) (fun s=>LC S++[Ob.map (gE cr (oS S s))]) (fun s=>s.Nodup /\ ∀ j∈s,j<S.length) rfl rfl rfl rfl rfl rfl rfl ⟨by decide,by decide⟩ ?_ ?_ ?_ ?_ ?_ ?_ m9 m9 ?_ ?_
  ·skip
   repeat' (first|refine gw_ trivial trivial ?_|refine gi_ (fun hb=>?_) (fun hb=>?_)|fail)
   exact⟨rfl,fm_ ⟨rfl,t7⟩ [] (am5 _).symm ⟨(by show(LC S).length<_;rw[amE];simp),t7⟩ (eB (DI _ _ _)),List.nodup_nil,fun j hj=>by cases hj⟩
  ·rintro t x h rfl
   simp[List.lookup]at h
  ·exact fun s h=>⟨h.1,fun j hj=>by rw[xY];exact h.2 j hj⟩
  ·intro s _
   rw[amE,hcl];omega
  ·intro s _;rfl
  ·exact N_ 3 S 0
  ·intro r s j k sv hs hj hkj
   have hjl:j<S.length:=by rw[<- xY 3 S 0];exact(amw.1 hkj).1
   obtain⟨q,hq⟩:=gol_ hjl;rw[Ff 3 S 0 j q hq]at hkj
   cases hkj;obtain⟨hq2,f,hfl,hfq⟩:=hent q (amC hq);obtain⟨st,hof,hatl⟩:=hcr f hfl;rw[hfq]at hof hatl;rw[<- hq2]at hof;have hLm:(LC S++[Ob.map (gE cr (oS S s))])[(LC S).length]?=some (.map (gE cr (oS S s))):=by simp
   repeat' (first|refine aF rfl rfl rfl rfl hof rfl ?_|refine aF rfl rfl rfl rfl hatl rfl ?_|(refine xT rfl rfl rfl rfl (ir rfl rfl rfl hLm (Dv _ _) (tab_ok.kind _ _ rfl) (tab_ok.kind _ _ rfl)) ?_)|refine gw_ trivial trivial ?_|refine gi_ (fun hb=>?_) (fun hb=>?_)|refine aw_region (id:=12) bw _ rfl ?_|fail)
   refine⟨rfl,⟨?_,fun i hi=>?_⟩,fm_ ⟨rfl,rfl,t7⟩ [] ?_ ⟨t7,(by show(LC S).length<_;rw[amE];simp),t7⟩ (eB (DI _ _ _))⟩
   ·rw[List.nodup_append]
    refine⟨hs.1,m5,fun a ha b hb=>?_⟩;simp at hb;subst hb;rintro rfl;exact hj ha
   ·rcases amY.1 hi with hi|hi
    ·exact hs.2 i hi
    ·rw[am'.1 hi];exact hjl
   ·show(LC S++[Ob.map (gE cr (oS S s))]).set (LC S).length _=LC S++[Ob.map (gE cr (oS S (s++[j])))]++[]
    rw[List.set_append_right _ _ (amM _),Nat.sub_self,am5,aaC hq,<- afO cr (HH hkn hq hj)];rfl
  ·intro r s hs hall
   repeat' (first|refine gw_ trivial trivial ?_|refine gi_ (fun hb=>?_) (fun hb=>?_)|refine aw_region (id:=13) bw _ rfl ?_|fail)
   refine⟨.inr rfl,_,_,⟨rfl,oS S s,M5 hkn hs.1,fun u=>(aex (fun j hj=>hall j (by rw[xY];exact hj)) u).trans (hkm u),rfl⟩,[(LC S).length],.inl ⟨4,rfl,rfl⟩,rfl,m5,fun i x hx=>?_,bq ⟨sZ _ _ _,t7⟩,bS ⟨(by show 0<1;omega),t7⟩⟩
   match i,hx with
   |0,hx =>
    cases hx;rw[Ik];show(LC S++[Ob.map (gE cr (oS S s))])[(LC S).length]?=_;simp
   |i+1,hx=>simp at hx
theorem Bd (cr:ByteArray->List au){t:ByteArray}:∀ {ks:List ByteArray},t∈ks ->∃ i,kP t (gE cr ks)=some i/\ks[i]?=some t
 |[],h=>by cases h
 |s::ks,h=>by
  by_cases e:t=s
  ·subst e;exact⟨0,by show(if t=t then some 0 else _)=_;rw[if_pos rfl],rfl⟩
  ·have hm:t∈ks:=by exact(amN.1 h).resolve_left e
   obtain⟨i,h1,h2⟩:=Bd cr hm;exact⟨i+1,by show(if t=s then some 0 else(kP t (gE cr ks)).map (· +1))=_;rw[if_neg e,h1];rfl,h2⟩
theorem ad5 (cr:ByteArray->List au){t:ByteArray}{ks:List ByteArray}(z:AV)(h:t∈ks):iF (gE cr ks) t z = .one (.c (.lst ((cr t).map aH))):=by
 obtain⟨i,h1,h2⟩:=Bd cr h;have:(gE cr ks)[i]?=some (.str t,.one (.c (.lst ((cr t).map aH)))):=by unfold gE;rw[amT,h2];rfl
 unfold iF;simp only[h1,this]
section
variable {P:Program} {ti:TI} {N:Nat} {T:Tm} {L:List Ob} {ρ:Operand->Option AV}
theorem abk {t kt et:TypeId}{x k:Operand}{s:ByteArray}{id:Nat}{cr:ByteArray->List au}{ks:List ByteArray}{z:AV}(hti:TIok P ti)(hx:ρ x=some (.one (.mp id)))(hk:ρ k=some (.one (.c (.str s))))(hL:L[id]?=some (.map (gE cr ks)))
  (ht:ti.kind t=some (.map kt et)) (hkt:ti.kind kt=some .string) (hz:ti.zero et=some z) (h:s∈ks):kZ P ρ L (.lookup t x k false) (.one (.c (.lst ((cr s).map aH)))) L:=by
 have:=oO (P:=P) hx hk hL (Dv cr ks) (hti.kind _ _ ht) (hti.kind _ _ hkt) (hti.zero _ _ hz);rwa[ad5 cr z h]at this
end
def akC:TI :={ xm with owns:=fun f=>f==70||xm.owns f }
theorem ahw:TIok Tryz.prog akC:=⟨ae.size,ae.agg,ae.elem,ae.field,ae.zero,ae.bytes,ae.kind,ae.struct,ae.zok,ae.eqs⟩
@[reducible] def wc (nm:ByteArray)(f:aw)(p:au):bD:=⟨2,nm,0,f.row,p⟩
def pa (nm:ByteArray)(iv:aw->List au)(S:List aw):List bD:=S.flatMap fun f=>(iv f).map (wc nm f)
theorem aaH (nm:ByteArray)(iv:aw->List au)(S:List aw)(f:aw):pa nm iv (S++[f])=pa nm iv S++(iv f).map (wc nm f):=by unfold pa;rw[List.flatMap_append];simp
theorem J2 (nm:ByteArray)(iv:aw->List au){n:Nat}:∀ (S:List aw),(∀ f∈S,(iv f).length<=n)->(pa nm iv S).length<=S.length*n
 |[],_=>by simp[pa]
 |f::S,h=>by
  have h1:=J2 nm iv S fun g hg=>h g (amU _ hg)
  have h2:=h f m5;have e:pa nm iv (f::S)=(iv f).map (wc nm f)++pa nm iv S:=rfl;rw[e,amE,amI,amS,Nat.succ_mul];omega
def VL (cr:ByteArray->List au)(ks:List ByteArray)(vs:List bD):List Ob:=[.dead,.map (gE cr ks),.spare vs.length 6]
theorem uc (cr:ByteArray->List au)(ks:List ByteArray)(vs:List bD):od 3 (VL cr ks vs):=⟨t7,sZ _ _ _,t7,t7⟩
def VT (t:bv)(S:List aw)(vs:List bD)(i:Nat):Tm:=[(2,.one (.c (.ref (bn t)))),(5,.one (.mp 1)),(6,.one (.own (vs.map bN) 2)),(15,.one (.c (.lst (S.map aA)))),(16,.one (.c (.int .i64 S.length))),(17,.one (.c (.int .i64 i)))]
theorem Jr (t:bv)(S:List aw)(vs:List bD)(i:Nat):eF 3 (VT t S vs i):=⟨t7,(by show 1<3;omega),(by show 2<3;omega),t7,t7,t7,t7⟩
def VT2 (t:bv)(S:List aw)(vs:List bD)(i:Nat)(f:aw)(ps:List au)(k:Nat):Tm:=[(2,.one (.c (.ref (bn t)))),(5,.one (.mp 1)),(6,.one (.own (vs.map bN) 2)),(8,.one (.c (.ref (aA f)))),(15,.one (.c (.lst (S.map aA)))),(16,.one (.c (.int .i64 S.length))),(17,.one (.c (.int .i64 i))),(31,.one (.c (.lst (ps.map aH)))),(32,.one (.c (.int .i64 ps.length))),(33,.one (.c (.int .i64 k)))]
theorem D6 (t:bv)(S:List aw)(vs:List bD)(i:Nat)(f:aw)(ps:List au)(k:Nat):eF 3 (VT2 t S vs i f ps k):=⟨t7,(by show 1<3;omega),(by show 2<3;omega),t7,t7,t7,t7,t7,t7,t7,t7⟩
theorem abP (t:bv)(l S:List aw)(kf:aw->ByteArray)(cr:ByteArray->List au)(iv:aw->List au)(hSet:PTz 64 [.one (.lst (l.map aA))] (.val (.one (.lst (S.map aA)))))
  (hcr:abh Tryz.prog 70 [] [.agg ((bn t).map SV.c),.one (.c (.lst (l.map aA)))] (fun L1 r=>r = .one (.mp 0) /\ ∃ ks:List ByteArray,ks.Nodup/\(∀ s,s∈ks ↔ ∃ f∈l,kf f=s)/\L1=[.map (gE cr ks)]))
  (hkey:∀ f∈S,∃ ks:List Val,PTz 73 [.agg (bn t),.one (.lst (f.row.map cV))] (.val (.one (.lst (ks.map cV))))/\PTz 72 [.one (.lst (ks.map cV))] (.val (.one (.str (kf f)))))
  (hin:∀ f∈S,∃ g∈l,kf g=kf f) (hiv:∀ f∈S,PTz 71 [.one (.lst ([f.valid].map aH)),.one (.lst ((cr (kf f)).map aH))] (.val (.one (.lst ((iv f).map aH)))))
  (hS:S.length<=10000) (hil:∀ f∈S,(iv f).length<=1000) (hrow:∀ f∈S,f.row.length<=1000000) :
  PTz 41 [.agg (bn t),.one (.lst (l.map aA))] (.val (.one (.lst ((pa t.nm iv S).map bN)))):=by
 generalize hR:pa t.nm iv S=R;refine pa_ ae Tryz.func41 rfl rfl Tryz.ntmps41 m5 ?_;simp only[argT,PV.av,bn,amH,amL];refine aw_seq ?_
 repeat' (first|(refine cY 0 (ts:=bn t) rfl rfl ?_)|refine gw_ trivial trivial ?_|refine gi_ (fun hb=>?_) (fun hb=>?_)|refine aw_region (id:=0) ae _ rfl ?_|fail)
 refine aa' ?_;refine Hr (id:=1) ahw ik [_,_] _ [_] _ rfl rfl rfl rfl ?_
 repeat' (first
  |refine st_nil ?_
  |(refine st_pop rfl rfl rfl rfl ?_ ?_;· (repeat' (first|exact t7|rfl|exact amG rfl|omega|exact wideI (by intro _;rfl) _|(intro e he;simp at he;subst he;rfl)|exact amI .. |(simp only[amI];omega)|(simp only[amS,am1];omega)|apply And.intro)))
  |(refine st_lop rfl rfl rfl rfl ?_ ?_;· (repeat' (first|exact t7|rfl|exact amG rfl|omega|exact wideI (by intro _;rfl) _|(intro e he;simp at he;subst he;rfl)|exact amI .. |(simp only[amI];omega)|(simp only[amS,am1];omega)|apply And.intro)))
  |(refine sS_ rfl rfl rfl ?_ ?_;· (repeat' (first|exact t7|rfl|exact amG rfl|omega|exact wideI (by intro _;rfl) _|(intro e he;simp at he;subst he;rfl)|exact amI .. |(simp only[amI];omega)|(simp only[amS,am1];omega)|apply And.intro)))
  |(refine st_lit rfl rfl rfl rfl ?_ ?_;· (repeat' (first|exact t7|rfl|exact amG rfl|omega|exact wideI (by intro _;rfl) _|(intro e he;simp at he;subst he;rfl)|exact amI .. |(simp only[amI];omega)|(simp only[amS,am1];omega)|apply And.intro)))
  |refine st_skip rfl rfl rfl ?_
  |refine sk0_ rfl rfl ?_
  |(refine st_if rfl (fun hb=>?_) (fun hb=>?_)<;>(first|exact(fx_ hb).elim|rw[hb])))
 refine agk akC [] rfl rfl («asx» :=[AV.agg ((bn t).map SV.c),AV.one (.c (.lst (l.map aA)))]) rfl hcr rfl (wa (bS ⟨(by intro x hx;obtain⟨y,_,rfl⟩:=am6.1 hx;trivial),t7,t7⟩)) ?_;rintro L1 r ⟨rfl,ks,hnd,hks,rfl⟩
 repeat' (first|refine aF rfl rfl rfl rfl hSet rfl ?_|refine gw_ trivial trivial ?_|refine gi_ (fun hb=>?_) (fun hb=>?_)|refine aw_region (id:=2) ae _ rfl ?_|refine aw_region (id:=3) ae _ rfl ?_|fail)
 refine bK 6 6 rfl ?_;refine cK (fun i:Nat=>VT t S (pa t.nm iv (S.take i)) i) (fun i=>VL cr ks (pa t.nm iv (S.take i))) (fun i=>i<=S.length) (fun i=>S.length-i) 0 (amR _) (fun _ _=>amR _)
  (fm_ ⟨rfl,rfl,rfl,rfl,aM m5,rfl,t7⟩ [] (by show [Ob.dead,(Ob.map (gE cr ks)).ren _,_]=_;rw[Ik];rfl) (Jr _ _ _ _) (uc _ _ _)) ?_
 intro i hi;have hlen:=J2 t.nm iv (n:=1000) (S.take i) fun f hf=>hil f (ant hf)
 rw[anm]at hlen;by_cases hlt:i<S.length
 ·obtain⟨f,hf⟩:=gol_ hlt
  have hfm:=amC hf;obtain⟨kv,hk1,hk2⟩:=hkey f hfm;have hsk:kf f∈ks:=by obtain⟨g,h1,h2⟩:=hin f hfm;exact(hks _).2 ⟨g,h1,h2⟩
  have hI:=hiv f hfm;have hr:=hrow f hfm;have hG:decide ((i:Int)<(S.length:Int))=true:=amA m0;have hnx:pa t.nm iv (S.take (i+1))=pa t.nm iv (S.take i)++(iv f).map (wc t.nm f):=by rw[bu hf,aaH]
  have hpl:=hil f hfm;have hvl:(pa t.nm iv (S.take i)).length<=10000000:=m0
  generalize pa t.nm iv (S.take i)=vs at hvl hnx ⊢;generalize hps:iv f=ps at hI hnx hpl;unfold VT
  repeat' (first|rw[hG]|(refine aen (gO.box 3 (ts:=aA f) rfl rfl) ?_)|(refine aZ rfl rfl rfl rfl rfl rfl rfl rfl (aU hf) ?_ ?_;· exact⟨m0,rfl⟩)|refine gw_ trivial trivial ?_|refine gi_ (fun hb=>?_) (fun hb=>?_)|refine aw_region (id:=4) ae _ rfl ?_|refine aw_region (id:=5) ae _ rfl ?_|fail)
  refine gp [2,8] fc _ rfl mixed (by decide +kernel) rfl ?_
  repeat' (first|refine aF rfl rfl rfl rfl hk1 rfl ?_|refine aF rfl rfl rfl rfl hk2 rfl ?_|refine aF rfl rfl rfl rfl hI rfl ?_|(refine cR rfl rfl rfl rfl rfl (abk fc rfl rfl rfl rfl rfl rfl hsk) ?_)|refine gw_ trivial trivial ?_|refine gi_ (fun hb=>?_) (fun hb=>?_)|fail)
  show Aw _ _ _ _ _ _ _;refine cK (fun k:Nat=>VT2 t S (vs++(ps.take k).map (wc t.nm f)) i f ps k) (fun k=>VL cr ks (vs++(ps.take k).map (wc t.nm f))) (fun k=>k<=ps.length) (fun k=>ps.length-k) 0 (amR _) (fun _ _=>amR _)
   (fm_ ⟨rfl,rfl,(by show _=some (AV.one (.own ((vs++[]).map bN) 2));rw[am5];rfl),rfl,rfl,rfl,rfl,rfl,aM m5,rfl,t7⟩ [_] (by show _=[Ob.dead,Ob.map _,Ob.spare (vs++[]).length 6]++_;rw[am5];rfl) (D6 _ _ _ _ _ _ _) (uc _ _ _)) ?_
  intro k hk;by_cases hlt2:k<ps.length
  ·obtain⟨p,hp⟩:=gol_ hlt2
   have hG2:decide ((k:Int)<(ps.length:Int))=true:=amA m0;have hnx2:vs++(ps.take (k+1)).map (wc t.nm f)=(vs++(ps.take k).map (wc t.nm f))++[wc t.nm f p]:=by rw[bu hp,amJ,amX];rfl
   have hul:(vs++(ps.take k).map (wc t.nm f)).length<=20000000:=by rw[amE,amI,anm];omega
   generalize vs++(ps.take k).map (wc t.nm f)=us at hul hnx2 ⊢;unfold VT2
   repeat' (first|rw[hG2]|(refine aen (gO.box 3 (ts:=aH p) rfl rfl) ?_)|(refine aZ rfl rfl rfl rfl rfl rfl rfl rfl (aU hp) ?_ ?_;· exact⟨m0,rfl⟩)|refine gw_ trivial trivial ?_|refine gi_ (fun hb=>?_) (fun hb=>?_)|refine aw_region (id:=7) ae _ rfl ?_|refine aw_region (id:=8) ae _ rfl ?_|fail)
   refine gp [2,8,10] fc _ rfl mixed (by decide +kernel) rfl ?_
   repeat' (first|refine gw_ trivial trivial ?_|refine gi_ (fun hb=>?_) (fun hb=>?_)|fail)
   repeat' (first|refine gw_ trivial trivial ?_|refine gi_ (fun hb=>?_) (fun hb=>?_)|refine aw_region (id:=10) ae _ rfl ?_|fail)
   exact⟨k+1,hlt2,by show ps.length-(k+1)<ps.length-k;omega,by rw[hnx2];exact fm_ ⟨rfl,rfl,(by show _=some (AV.one (.own ((us++[wc t.nm f p]).map bN) 2));rw[amJ];rfl),rfl,rfl,rfl,rfl,rfl,rfl,aM (aS m0 m0),t7⟩ _ (by show _=[Ob.dead,Ob.map _,Ob.spare (us++[_]).length 6]++_;rw[amE];rfl) (D6 _ _ _ _ _ _ _) (uc _ _ _)⟩
  ·have hG2:decide ((k:Int)<(ps.length:Int))=false:=amz m0
   have htk:ps.take k=ps:=am_ m0;rw[htk,<- hnx];unfold VT2
   repeat' (first|rw[hG2]|refine gw_ trivial trivial ?_|refine gi_ (fun hb=>?_) (fun hb=>?_)|refine aw_region (id:=7) ae _ rfl ?_|refine aw_region (id:=11) ae _ rfl ?_|fail)
   exact⟨i+1,hlt,by show S.length-(i+1)<S.length-i;omega,fm_ ⟨rfl,rfl,rfl,rfl,rfl,aM (aS m0 m0),t7⟩ [] (am5 _).symm (Jr _ _ _ _) (uc _ _ _)⟩
 ·have hG:decide ((i:Int)<(S.length:Int))=false:=amz m0
  have htk:S.take i=S:=am_ m0;rw[htk,hR];unfold VT
  repeat' (first|rw[hG]|refine gw_ trivial trivial ?_|refine gi_ (fun hb=>?_) (fun hb=>?_)|refine aw_region (id:=4) ae _ rfl ?_|refine aw_region (id:=12) ae _ rfl ?_|fail)
  refine⟨.inr rfl,?_⟩
  first|exact⟨t7,rfl⟩|exact⟨⟨t7,t7⟩,rfl⟩|(refine⟨?_,rfl⟩;repeat' (first|exact t7|rfl|apply And.intro))
theorem aaJ (l:List Val)(hl:l.length<=1000)(h:∀ v∈l,KD v):PTz 72 [.one (cl l)] (.val (.one (.str (dm l)))):=by
 refine pa_ ce Tryz.func72 rfl rfl Tryz.ntmps72 m5 ?_;simp only[argT,PV.av,amH,amL];obtain⟨inf,hinf,hiz⟩:∃ inf,Tryz.prog.info? 147=some inf/\inf.zero=some (.agg #[.pointer none,.slice none 0 0]):=by
  have hh:(Tryz.prog.info? 147).bind (·.zero)=some (.agg #[.pointer none,.slice none 0 0]):=k7
  cases hi:Tryz.prog.info? 147 with
  |none=>rw[hi]at hh;cases hh
  |some j=>rw[hi]at hh;exact⟨j,rfl,by simpa using hh⟩
 have hc:c32.size=1:=rfl;have he0:(⟨#[]⟩:ByteArray).size=0:=rfl;obtain⟨n,hn⟩:∃ n,l.length=n:=⟨_,rfl⟩
 repeat' (first|(refine bL rfl rfl rfl rfl rfl (hZ (Eb:=5) (k:=1) hinf hiz m9 m9 m9) ?_)|refine gw_ ce bR ?_|refine gi_ (fun hb=>?_) (fun hb=>?_)|fail)
 refine cK (fun i:Nat=>[(0,.one (.c (cl l))),(3,.one (.ep 0 (147+65536) 0 0)),(8,.one (.c (cl l))),(9,.one (.c (.int .i64 n))),(10,.one (.c (.int .i64 i)))]) (fun i=>lz l i) (fun i=>i<=n) (fun i=>n-i) 0 m0 (fun _ _=>amR _)
  (fm_ ⟨rfl,rfl,rfl,aM (by simp[hn]),rfl,t7⟩ [] rfl ⟨t7,(by show 0<2;omega),t7,t7,t7,t7⟩ ⟨bF (mH _ (by show 0<2;omega)) (by show 1<2;omega),aK _ _ _,t7⟩) ?_
 intro i hi;have hsz:=Df (l.take i) fun v hv=>h v (ant hv)
 rw[anm]at hsz;by_cases hlt2:i<n
 ·obtain⟨v,hv⟩:=gol_ (show i<l.length by omega)
  obtain⟨k1,k2,k3⟩:=h v (amC hv);have hsn:=ro (l.take i) v;rw[<- bu hv]at hsn;have hu:(5+458752*i)%65536=5:=m0
  have e0:lz l i=[cN (pB (decide (i=0))) (5+458752*i) (dm (l.take i)) 0,cU (5+458752*i) (dm (l.take i))]:=rfl;rw[e0];generalize dm (l.take i)=a0 at hsz hsn;obtain⟨kd,nn,tx⟩:=v;simp only at k1 k2 k3
  repeat' (first|(refine aZ rfl rfl rfl rfl rfl rfl rfl rfl (aU hv) ?_ ?_;· exact⟨m0,rfl⟩)|refine gw_ ce bR ?_|refine gi_ (fun hb=>?_) (fun hb=>?_)|fail)
  refine cK (fun j:Nat=>[(0,.one (.c (cl l))),(3,.one (.ep 0 (147+65536) 0 0)),(5,.one (.ptr 2 0)),(8,.one (.c (cl l))),(9,.one (.c (.int .i64 n))),(10,.one (.c (.int .i64 i))),(21,.one (.c (.lst ([kd,nn,(tx.size:Int)].map fun x=>[AC.int .i64 x])))),(22,.one (.c (.int .i64 3))),(23,.one (.c (.int .i64 j)))]) (fun j=>lr (5+458752*i) a0 (decide (i=0)) [kd,nn,tx.size] (.box [.c (.int .i64 kd),.c (.int .i64 nn),.c (.str tx)]) j) (fun j=>j<=3) (fun j=>3-j) 0 m0 (fun _ _=>amR _)
   (fm_ ⟨rfl,rfl,rfl,rfl,rfl,rfl,rfl,rfl,rfl,t7⟩ [] ?_ ⟨t7,(by show 0<3;omega),(by show 2<3;omega),t7,t7,t7,t7,t7,t7,t7⟩ ⟨bF (mH _ (by show 0<3;omega)) (by show 1<3;omega),aK _ _ _,d_ r5,t7⟩) ?_
  ·simp only[lr,Nat.mul_zero,Nat.add_zero,List.take_zero,decide_true,Bool.and_true];rfl
  intro j hj;by_cases hj3:j<3
  ·obtain⟨x,hx⟩:=gol_ (show j<[kd,nn,(tx.size:Int)].length by exact hj3)
   have hxr : -9223372036854775808<=x/\x<=9223372036854775807:=by
    have:=amC hx;simp only[amN,List.not_mem_nil,or_false]at this;rcases this with rfl|rfl|rfl
    ·exact k1
    ·exact k2
    ·omega
   have hit:=CU x hxr.1 hxr.2
   repeat' (first|(refine aZ rfl rfl rfl rfl rfl rfl rfl rfl (aU hx) ?_ ?_;· exact⟨m0,rfl⟩)|refine aF rfl rfl rfl rfl hit rfl ?_|refine gw_ ce bR ?_|refine gi_ (fun hb=>?_) (fun hb=>?_)|fail)
   have hitz:=jU x hxr.1 hxr.2;have hns:=jt ([kd,nn,(tx.size:Int)].take j) a0 (by
    intro y hy;have:=ant hy;simp only[amN,List.not_mem_nil,or_false]at this;rcases this with rfl|rfl|rfl
    ·exact k1
    ·exact k2
    ·omega)
   have hl3:([kd,nn,(tx.size:Int)].take j).length<=3:=by rw[anm];exact Nat.le_trans (Nat.min_le_right _ _) (amM _)
   have hsj:=EW a0 ([kd,nn,(tx.size:Int)].take j) x;rw[<- bu hx]at hsj;have hu2:(5+458752*i+131072*j)%65536=5:=m0
   have eC:lr (5+458752*i) a0 (decide (i=0)) [kd,nn,(tx.size:Int)] (.box [.c (.int .i64 kd),.c (.int .i64 nn),.c (.str tx)]) j=[cN (pB (decide (i=0)&&decide (j=0))) (5+458752*i+131072*j) (dV a0 ([kd,nn,(tx.size:Int)].take j)) 0,cU (5+458752*i+131072*j) (dV a0 ([kd,nn,(tx.size:Int)].take j)),(.box [.c (.int .i64 kd),.c (.int .i64 nn),.c (.str tx)])]:=rfl;have eC2:lr (5+458752*i) a0 (decide (i=0)) [kd,nn,(tx.size:Int)] (.box [.c (.int .i64 kd),.c (.int .i64 nn),.c (.str tx)]) (j+1)=[cN (.ep 0 (147+65536) 0 0) (5+458752*i+131072*j+65536+65536) (dV a0 ([kd,nn,(tx.size:Int)].take j)++eP x++c32) 0,cU (5+458752*i+131072*j+65536+65536) (dV a0 ([kd,nn,(tx.size:Int)].take j)++eP x++c32),(.box [.c (.int .i64 kd),.c (.int .i64 nn),.c (.str tx)])]:=by
    unfold lr;rw[hsj,show decide (j+1=0)=false by simp,Bool.and_false,show 5+458752*i+131072*(j+1)=5+458752*i+131072*j+65536+65536 by omega];rfl
   rw[eC];generalize dV a0 ([kd,nn,(tx.size:Int)].take j)=b0 at hns eC2;generalize 5+458752*i+131072*j=u0 at hu2 eC2;generalize hB1:eP x=b1 at hitz eC2;refine cB [0,1] rfl rfl rfl rfl (uv _ u0 b0 b1 hu2 m0 m0) rfl (rf2 rfl rfl (aej _) (mH _ (by show 0<2;omega)) (fun y hy=>by rcases amN.1 hy with rfl|hy<;>first|(show 0<2;omega)|(rcases amN.1 hy with rfl|hy<;>first|exact True.intro|cases hy)|cases hy)) rfl (j2 (L':=[cN (.ep 0 (147+65536) 0 0) (u0+65536) (b0++b1) 0,cU (u0+65536) (b0++b1),(.box [.c (.int .i64 kd),.c (.int .i64 nn),.c (.str tx)])]) rfl) ?_
   repeat' (first|refine gw_ ce bR ?_|refine gi_ (fun hb=>?_) (fun hb=>?_)|fail)
   refine cB [0,1] rfl rfl rfl rfl (y5 (u0+65536) (b0++b1) 32 m0 (by simp only[ByteArray.size_append];omega)) rfl (rf2 rfl rfl rfl (by show 0<2;omega) (fun y hy=>by rcases amN.1 hy with rfl|hy<;>first|(show 0<2;omega)|(rcases amN.1 hy with rfl|hy<;>first|exact True.intro|cases hy)|cases hy)) rfl (j2 (L':=[cN (.ep 0 (147+65536) 0 0) (u0+65536+65536) (b0++b1++c32) 0,cU (u0+65536+65536) (b0++b1++c32),(.box [.c (.int .i64 kd),.c (.int .i64 nn),.c (.str tx)])]) rfl) ?_
   repeat' (first|refine gw_ ce bR ?_|refine gi_ (fun hb=>?_) (fun hb=>?_)|fail)
   exact⟨j+1,m0,m0,fm_ ⟨rfl,rfl,rfl,rfl,rfl,rfl,rfl,rfl,aM (aS m0 m0),t7⟩ [] (by rw[eC2];rfl) (by rw[eC2];exact⟨t7,(by show 0<3;omega),(by show 2<3;omega),t7,t7,t7,t7,t7,t7,t7⟩) (by rw[eC2];exact⟨bF (by show 0<3;omega) (by show 1<3;omega),aK _ _ _,d_ r5,t7⟩)⟩
  ·have hj4:j=3:=m0
   subst hj4;have hns:=jt [kd,nn,(tx.size:Int)] a0 (by
    intro y hy;simp only[amN,List.not_mem_nil,or_false]at hy;rcases hy with rfl|rfl|rfl
    ·exact k1
    ·exact k2
    ·omega)
   have hl3:[kd,nn,(tx.size:Int)].length=3:=rfl;have eC:lr (5+458752*i) a0 (decide (i=0)) [kd,nn,(tx.size:Int)] (.box [.c (.int .i64 kd),.c (.int .i64 nn),.c (.str tx)]) 3=[cN (.ep 0 (147+65536) 0 0) (5+458752*i+393216) (dV a0 [kd,nn,(tx.size:Int)]) 0,cU (5+458752*i+393216) (dV a0 [kd,nn,(tx.size:Int)]),(.box [.c (.int .i64 kd),.c (.int .i64 nn),.c (.str tx)])]:=by
    unfold lr;rw[show decide (3=0)=false by simp,Bool.and_false];rfl
   have eN:lz l (i+1)=[cN (.ep 0 (147+65536) 0 0) (5+458752*i+393216+65536) (dV a0 [kd,nn,(tx.size:Int)]++tx) 0,cU (5+458752*i+393216+65536) (dV a0 [kd,nn,(tx.size:Int)]++tx)]:=by
    unfold lz;rw[hsn,show decide (i+1=0)=false by simp,show 5+458752*(i+1)=5+458752*i+393216+65536 by omega];rfl
   rw[eC];generalize dV a0 [kd,nn,(tx.size:Int)]=b0 at hns eN;have hu2:(5+458752*i+393216)%65536=5:=m0
   generalize 5+458752*i+393216=u0 at hu2 eN
   repeat' (first|refine gw_ ce bR ?_|refine gi_ (fun hb=>?_) (fun hb=>?_)|fail)
   refine cB [0,1] rfl rfl rfl rfl (nY u0 b0 tx hu2 m0 m0) rfl (rf2 rfl rfl rfl (by show 0<2;omega) (fun y hy=>by rcases amN.1 hy with rfl|hy<;>first|(show 0<2;omega)|(rcases amN.1 hy with rfl|hy<;>first|exact True.intro|cases hy)|cases hy)) rfl (j2 (L':=[cN (.ep 0 (147+65536) 0 0) (u0+65536) (b0++tx) 0,cU (u0+65536) (b0++tx),(.box [.c (.int .i64 kd),.c (.int .i64 nn),.c (.str tx)])]) rfl) ?_
   repeat' (first|refine gw_ ce bR ?_|refine gi_ (fun hb=>?_) (fun hb=>?_)|fail)
   exact⟨i+1,m0,m0,fm_ ⟨rfl,rfl,rfl,rfl,aM (aS m0 m0),t7⟩ [(.box [.c (.int .i64 kd),.c (.int .i64 nn),.c (.str tx)])] (by rw[eN];rfl) (by rw[eN];exact⟨t7,(by show 0<2;omega),t7,t7,t7,t7⟩) (by rw[eN];exact⟨bF (by show 0<2;omega) (by show 1<2;omega),aK _ _ _,t7⟩)⟩
 ·have hi2:i=l.length:=m0
  have htk:l.take i=l:=by rw[hi2,List.take_length]
  by_cases hi0:i=0
  ·subst hi0
   have hnil:l=[]:=amW hi2.symm;subst hnil;have e0:lz [] 0=[cN (.c (.nul .ptr)) 5 ⟨#[]⟩ 0,cU 5 ⟨#[]⟩]:=rfl;rw[e0]
   repeat' (first|refine gw_ ce bR ?_|refine gi_ (fun hb=>?_) (fun hb=>?_)|fail)
   refine cB [0,1] rfl rfl rfl rfl NF rfl (rf2 rfl rfl rfl True.intro (fun y hy=>by rcases amN.1 hy with rfl|hy<;>first|(show 0<2;omega)|(rcases amN.1 hy with rfl|hy<;>first|exact True.intro|cases hy)|cases hy)) rfl (tf rfl (ee _ _ _) (L':=[cN (.c (.nul .ptr)) 5 ⟨#[]⟩ 0,cU 5 ⟨#[]⟩]) rfl) ?_
   repeat' (first|refine gw_ ce bR ?_|refine gi_ (fun hb=>?_) (fun hb=>?_)|fail)
   exact aJ (aO rfl (by trivial) rfl)
  ·have e1:lz l i=[cN (.ep 0 (147+65536) 0 0) (5+458752*i) (dm l) 0,cU (5+458752*i) (dm l)]:=by unfold lz;rw[htk,show decide (i=0)=false by simpa using hi0];rfl
   rw[e1];rw[htk]at hsz;have hu:(5+458752*i)%65536=5:=m0
   generalize 5+458752*i=u0 at hu;have hpos:0<(dm l).size:=by
    obtain⟨v,hv⟩:=gol_ (show i-1<l.length by omega);have hsn:=ro (l.take (i-1)) v;rw[<- bu hv,show i-1+1=i by omega,htk]at hsn;obtain⟨q1,q2,q3⟩:=h v (amC hv);have:=(jU v.kind q1.1 q1.2).2;rw[hsn];show 0<(dV (dm (List.take (i-1) l)) [v.kind,v.int,(v.text.size:Int)]++v.text).size;have e3:dV (dm (List.take (i-1) l)) [v.kind,v.int,(v.text.size:Int)]=dm (List.take (i-1) l)++eP v.kind++c32++eP v.int++c32++eP v.text.size++c32:=rfl;rw[e3];simp only[ByteArray.size_append];omega
   generalize dm l=s0 at hsz hpos
   repeat' (first|refine gw_ ce bR ?_|refine gi_ (fun hb=>?_) (fun hb=>?_)|fail)
   refine cB [0,1] rfl rfl rfl rfl (aav u0 s0 hu hpos m0) rfl (rf2 rfl rfl rfl (by show 0<2;omega) (fun y hy=>by rcases amN.1 hy with rfl|hy<;>first|(show 0<2;omega)|(rcases amN.1 hy with rfl|hy<;>first|exact True.intro|cases hy)|cases hy)) rfl (tf rfl rfl (L':=[cN (.ep 0 (147+65536) 0 0) u0 s0 0,.dead]) rfl) ?_
   repeat' (first|refine gw_ ce bR ?_|refine gi_ (fun hb=>?_) (fun hb=>?_)|fail)
   exact aJ (aO rfl (by trivial) rfl)
@[reducible] def xE (e:Ex):List AC:=[.int .i64 e.op,.int .i64 e.int,.int .i64 e.v.kind,.int .i64 e.v.int,.str e.v.text,.str e.nm,.lst (e.args.map tE)]
def v6 (t:bv)(S:List aw)(p:Ex->List Val->Bool)(i:Nat):List bD:=match t.checks[i]? with
 |some e=>kL (p e) 4 i t.nm S
 |none=>[]
theorem afI (t:bv)(S:List aw)(p:Ex->List Val->Bool)(i:Nat):(v6 t S p i).length<=S.length:=by
 unfold v6;split
 ·exact k9 _ _ _ _ _
 ·exact amR _
def KT (t:bv)(l:List aw)(i:Nat):Tm:=[(1,.one (.c (.lst (l.map aA)))),(2,.one (.c (.ref (bn t)))),(5,.one (.ptr 1 0)),(11,.one (.c (.lst (t.checks.map tE)))),(12,.one (.c (.int .i64 t.checks.length))),(13,.one (.c (.int .i64 i)))]
theorem Ja (t:bv)(l:List aw)(i:Nat):eF 3 (KT t l i):=⟨t7,t7,(by show 1<3;omega),t7,t7,t7,t7⟩
def KT1 (t:bv)(l:List aw)(e:Ex)(i:Nat):Tm:=[(1,.one (.c (.lst (l.map aA)))),(2,.one (.c (.ref (bn t)))),(5,.one (.ptr 1 0)),(6,.one (.c (.int .i64 i))),(8,.one (.c (.fn 38 [.ref (xE e)]))),(11,.one (.c (.lst (t.checks.map tE)))),(12,.one (.c (.int .i64 t.checks.length))),(13,.one (.c (.int .i64 i)))]
theorem acQ (t:bv)(l:List aw)(e:Ex)(i:Nat):eF 3 (KT1 t l e i):=⟨t7,t7,(by show 1<3;omega),t7,t7,t7,t7,t7,t7⟩
theorem MA (t:bv)(l S:List aw)(p:Ex->List Val->Bool)(hSet:PTz 64 [.one (.lst (l.map aA))] (.val (.one (.lst (S.map aA)))))
  (hchk:∀ e∈t.checks,∀ f∈S,PTz 38 ([.one (.lst (f.row.map cV))]++([.ref (xE e)]:List AC).map .one) (.val (.one (.bool (p e f.row))))) (hS:S.length<=100) (hc:t.checks.length<=1000) (hrow:∀ f∈S,f.row.length<=1000000) :
  RTz 14 [] [.agg ((bn t).map SV.c),.one (.c (.lst (l.map aA)))] [.spare (iN (v6 t S p) t.checks.length).length 6] (.one (.own ((iN (v6 t S p) t.checks.length).map bN) 0)):=by
 have hΦ:yT 0 (fun _ _ _=>True):=ik;refine wA ae Tryz.func14 rfl rfl Tryz.ntmps14 m5 ?_;simp only[dN,bn,amH,amL]
 repeat' (first
  |refine st_nil ?_
  |(refine gg hΦ (gO.box 0 (ts:=bn t) rfl rfl) ?_)
  |(refine gg hΦ (gO.tokBox 1 0 6 rfl rfl) ?_)
  |(refine st_pop rfl rfl rfl rfl ?_ ?_;· (repeat' (first|exact t7|rfl|exact amG rfl|omega|exact wideI (by intro _;rfl) _|(intro e he;simp at he;subst he;rfl)|exact amI .. |(simp only[amI];omega)|(simp only[amS,am1];omega)|apply And.intro)))
  |(refine st_lop rfl rfl rfl rfl ?_ ?_;· (repeat' (first|exact t7|rfl|exact amG rfl|omega|exact wideI (by intro _;rfl) _|(intro e he;simp at he;subst he;rfl)|exact amI .. |(simp only[amI];omega)|(simp only[amS,am1];omega)|apply And.intro)))
  |(refine sS_ rfl rfl rfl ?_ ?_;· (repeat' (first|exact t7|rfl|exact amG rfl|omega|exact wideI (by intro _;rfl) _|(intro e he;simp at he;subst he;rfl)|exact amI .. |(simp only[amI];omega)|(simp only[amS,am1];omega)|apply And.intro)))
  |(refine st_lit rfl rfl rfl rfl ?_ ?_;· (repeat' (first|exact t7|rfl|exact amG rfl|omega|exact wideI (by intro _;rfl) _|(intro e he;simp at he;subst he;rfl)|exact amI .. |(simp only[amI];omega)|(simp only[amS,am1];omega)|apply And.intro)))
  |refine st_skip rfl rfl rfl ?_
  |refine sk0_ rfl rfl ?_
  |(refine st_if rfl (fun hb=>?_) (fun hb=>?_)<;>(first|exact(fx_ hb).elim|rw[hb]))
  |refine cJ hΦ ?_
  |refine aD (id:=0) (.inl rfl) ae _ rfl rfl ?_
  |refine aD (id:=1) (.inl rfl) ae _ rfl rfl ?_
  |refine aD (id:=2) (.inl rfl) ae _ rfl rfl ?_
  |(refine b7 rfl (fun hb=>?_) (fun hb=>?_)<;>(try exact(fx_ hb).elim))
  |refine bM ?_
  |refine b6 ?_
  |refine cG ?_
  |refine b8 ?_)
 refine yy hΦ (fun i:Nat=>KT t l i) (fun i=>NL (iN (v6 t S p) i)) (fun i=>i<=t.checks.length) (fun i=>t.checks.length-i) 0 (amR _) (fun _ _=>amR _)
  (fm_ ⟨rfl,rfl,rfl,rfl,aM m5,rfl,t7⟩ [] rfl (Ja _ _ _) (kz _)) ?_
 intro i hi;have hlen:=zS (afI t S p) i;have hlen2:=Nat.mul_le_mul hi hS;by_cases hlt:i<t.checks.length
 ·obtain⟨e,hcx⟩:=gol_ hlt
  have hem:=amC hcx;have hG:decide ((i:Int)<(t.checks.length:Int))=true:=amA m0;have hnx:iN (v6 t S p) (i+1)=iN (v6 t S p) i++kL (p e) 4 i t.nm S:=by rw[iN];congr 1;unfold v6;rw[hcx]
  have hvl:(iN (v6 t S p) i).length<=100000:=by
   have:i*S.length<=1000*100:=Nat.mul_le_mul m0 hS;omega
  have hix:(t.checks.map tE)[((i:Nat):Int).toNat]?=some (xE e):=by
   show _=some [_,_,_,_,_,_,_];rw[<- aN e];exact aU hcx
  generalize iN (v6 t S p) i=vs at hvl hnx ⊢;unfold KT
  repeat' (first
   |refine st_nil ?_
   |rw[hG]
   |(refine gg hΦ (gO.box 3 (ts:=xE e) rfl rfl) ?_)
   |(refine st_pop rfl rfl rfl rfl ?_ ?_;· (repeat' (first|exact t7|rfl|exact amG rfl|omega|exact wideI (by intro _;rfl) _|(intro e he;simp at he;subst he;rfl)|exact amI .. |(simp only[amI];omega)|(simp only[amS,am1];omega)|apply And.intro)))
   |(refine aZ rfl rfl rfl rfl rfl rfl rfl rfl hix ?_ ?_;· exact⟨m0,rfl⟩)
   |(refine st_lop rfl rfl rfl rfl ?_ ?_;· (repeat' (first|exact t7|rfl|exact amG rfl|omega|exact wideI (by intro _;rfl) _|(intro e he;simp at he;subst he;rfl)|exact amI .. |(simp only[amI];omega)|(simp only[amS,am1];omega)|apply And.intro)))
   |(refine sS_ rfl rfl rfl ?_ ?_;· (repeat' (first|exact t7|rfl|exact amG rfl|omega|exact wideI (by intro _;rfl) _|(intro e he;simp at he;subst he;rfl)|exact amI .. |(simp only[amI];omega)|(simp only[amS,am1];omega)|apply And.intro)))
   |(refine st_lit rfl rfl rfl rfl ?_ ?_;· (repeat' (first|exact t7|rfl|exact amG rfl|omega|exact wideI (by intro _;rfl) _|(intro e he;simp at he;subst he;rfl)|exact amI .. |(simp only[amI];omega)|(simp only[amS,am1];omega)|apply And.intro)))
   |refine st_skip rfl rfl rfl ?_
   |refine sk0_ rfl rfl ?_
   |(refine st_if rfl (fun hb=>?_) (fun hb=>?_)<;>(first|exact(fx_ hb).elim|rw[hb]))
   |refine cJ hΦ ?_
   |refine aD (id:=3) (.inl rfl) ae _ rfl rfl ?_
   |refine aD (id:=4) (.inl rfl) ae _ rfl rfl ?_
   |refine aD (id:=5) (.inl rfl) ae _ rfl rfl ?_
   |(refine b7 rfl (fun hb=>?_) (fun hb=>?_)<;>(try exact(fx_ hb).elim))
   |refine bM ?_
   |refine b6 ?_
   |refine cG ?_
   |refine b8 ?_)
  refine gg hΦ (gO.fit (T':=KT1 t l e i) (L':=NL vs) (amR _) (fm_ ⟨rfl,rfl,rfl,rfl,rfl,rfl,rfl,rfl,t7⟩ [_] rfl (acQ _ _ _ _) (kz _))) ?_;unfold KT1
  repeat' (first
   |refine st_nil ?_
   |(refine st_pop rfl rfl rfl rfl ?_ ?_;· (repeat' (first|exact t7|rfl|exact amG rfl|omega|exact wideI (by intro _;rfl) _|(intro e he;simp at he;subst he;rfl)|exact amI .. |(simp only[amI];omega)|(simp only[amS,am1];omega)|apply And.intro)))
   |(refine st_lop rfl rfl rfl rfl ?_ ?_;· (repeat' (first|exact t7|rfl|exact amG rfl|omega|exact wideI (by intro _;rfl) _|(intro e he;simp at he;subst he;rfl)|exact amI .. |(simp only[amI];omega)|(simp only[amS,am1];omega)|apply And.intro)))
   |(refine sS_ rfl rfl rfl ?_ ?_;· (repeat' (first|exact t7|rfl|exact amG rfl|omega|exact wideI (by intro _;rfl) _|(intro e he;simp at he;subst he;rfl)|exact amI .. |(simp only[amI];omega)|(simp only[amS,am1];omega)|apply And.intro)))
   |(refine st_lit rfl rfl rfl rfl ?_ ?_;· (repeat' (first|exact t7|rfl|exact amG rfl|omega|exact wideI (by intro _;rfl) _|(intro e he;simp at he;subst he;rfl)|exact amI .. |(simp only[amI];omega)|(simp only[amS,am1];omega)|apply And.intro)))
   |refine st_skip rfl rfl rfl ?_
   |refine sk0_ rfl rfl ?_
   |(refine cB [] rfl rfl rfl rfl (ada l 4 i t.nm 38 [.ref (xE e)]) rfl (wa (bS ⟨t7,DY _ _ _,t7,t7⟩)) rfl rfl ?_)
   |(refine st_if rfl (fun hb=>?_) (fun hb=>?_)<;>(first|exact(fx_ hb).elim|rw[hb]))
   |refine cJ hΦ ?_
   |refine aD (id:=6) (.inl rfl) ae _ rfl rfl ?_
   |(refine b7 rfl (fun hb=>?_) (fun hb=>?_)<;>(try exact(fx_ hb).elim))
   |refine bM ?_
   |refine b6 ?_
   |refine cG ?_
   |refine b8 ?_)
  refine BC (rel:=aed) (A':=fun v=>AL (vs++kL (p e) 4 i t.nm S) v) [(5,.one (.ptr 1 0))] rfl Tryz.func63 rfl rfl rfl rfl rfl ?_ ?_ (fun _=>amM _) ?_ ?_
  ·intro q hq;simp at hq;subst hq;exact⟨rfl,1,0,rfl⟩
  ·rintro y v L L' ⟨vs,w,n,hvs,rfl,rfl,rfl⟩
   have hb6:=EK (vs:=vs) (w:=w) (n:=n) rfl;rw[Ox]at hb6 ⊢;refine⟨amM _,?_⟩;unfold AL
   repeat' (first
    |refine st_nil ?_
    |(refine st_pop rfl rfl rfl rfl ?_ ?_;· (repeat' (first|exact t7|rfl|exact amG rfl|omega|exact wideI (by intro _;rfl) _|(intro e he;simp at he;subst he;rfl)|exact amI .. |(simp only[amI];omega)|(simp only[amS,am1];omega)|apply And.intro)))
    |(refine st_lop rfl rfl rfl rfl ?_ ?_;· (repeat' (first|exact t7|rfl|exact amG rfl|omega|exact wideI (by intro _;rfl) _|(intro e he;simp at he;subst he;rfl)|exact amI .. |(simp only[amI];omega)|(simp only[amS,am1];omega)|apply And.intro)))
    |(refine sS_ rfl rfl rfl ?_ ?_;· (repeat' (first|exact t7|rfl|exact amG rfl|omega|exact wideI (by intro _;rfl) _|(intro e he;simp at he;subst he;rfl)|exact amI .. |(simp only[amI];omega)|(simp only[amS,am1];omega)|apply And.intro)))
    |(refine st_lit rfl rfl rfl rfl ?_ ?_;· (repeat' (first|exact t7|rfl|exact amG rfl|omega|exact wideI (by intro _;rfl) _|(intro e he;simp at he;subst he;rfl)|exact amI .. |(simp only[amI];omega)|(simp only[amS,am1];omega)|apply And.intro)))
    |refine st_skip rfl rfl rfl ?_
    |refine sk0_ rfl rfl ?_
    |(refine st_if rfl (fun hb=>?_) (fun hb=>?_)<;>(first|exact(fx_ hb).elim|rw[hb]))
    |refine cJ ik ?_
    |refine aD (id:=7) (.inr ⟨_,rfl⟩) ae _ rfl rfl ?_
    |(refine b7 rfl (fun hb=>?_) (fun hb=>?_)<;>(try exact(fx_ hb).elim))
    |refine bM ?_
    |refine b6 ?_
    |refine cG ?_
    |refine b8 ?_)
   refine⟨rfl,?_⟩
   repeat' (first
    |refine st_nil ?_
    |(refine st_pop rfl rfl rfl rfl ?_ ?_;· (repeat' (first|exact t7|rfl|exact amG rfl|omega|exact wideI (by intro _;rfl) _|(intro e he;simp at he;subst he;rfl)|exact amI .. |(simp only[amI];omega)|(simp only[amS,am1];omega)|apply And.intro)))
    |(refine st_lop rfl rfl rfl rfl ?_ ?_;· (repeat' (first|exact t7|rfl|exact amG rfl|omega|exact wideI (by intro _;rfl) _|(intro e he;simp at he;subst he;rfl)|exact amI .. |(simp only[amI];omega)|(simp only[amS,am1];omega)|apply And.intro)))
    |(refine sS_ rfl rfl rfl ?_ ?_;· (repeat' (first|exact t7|rfl|exact amG rfl|omega|exact wideI (by intro _;rfl) _|(intro e he;simp at he;subst he;rfl)|exact amI .. |(simp only[amI];omega)|(simp only[amS,am1];omega)|apply And.intro)))
    |(refine st_lit rfl rfl rfl rfl ?_ ?_;· (repeat' (first|exact t7|rfl|exact amG rfl|omega|exact wideI (by intro _;rfl) _|(intro e he;simp at he;subst he;rfl)|exact amI .. |(simp only[amI];omega)|(simp only[amS,am1];omega)|apply And.intro)))
    |refine st_skip rfl rfl rfl ?_
    |refine sk0_ rfl rfl ?_
    |(refine st_if rfl (fun hb=>?_) (fun hb=>?_)<;>(first|exact(fx_ hb).elim|rw[hb]))
    |refine cJ ik ?_
    |refine aD (id:=8) (.inr ⟨_,rfl⟩) ae _ rfl rfl ?_
    |(refine b7 rfl (fun hb=>?_) (fun hb=>?_)<;>(try exact(fx_ hb).elim))
    |refine bM ?_
    |refine b6 ?_
    |refine cG ?_
    |refine b8 ?_)
   exact⟨rfl,fm_ trivial [_] rfl t7 hb6⟩
  ·intro y Φ hΦ2 hrd
   exact JO l S vs 4 i t.nm 38 [.ref (xE e)] (p e) hSet (fun f hf=>hchk e hem f hf) m0 hvl hrow y Φ hΦ2 hrd (fun T L v h=>⟨.inl rfl,v,h⟩) _ rfl
  ·intro z
   repeat' (first
    |refine st_nil ?_
    |(refine st_pop rfl rfl rfl rfl ?_ ?_;· (repeat' (first|exact t7|rfl|exact amG rfl|omega|exact wideI (by intro _;rfl) _|(intro e he;simp at he;subst he;rfl)|exact amI .. |(simp only[amI];omega)|(simp only[amS,am1];omega)|apply And.intro)))
    |(refine st_lop rfl rfl rfl rfl ?_ ?_;· (repeat' (first|exact t7|rfl|exact amG rfl|omega|exact wideI (by intro _;rfl) _|(intro e he;simp at he;subst he;rfl)|exact amI .. |(simp only[amI];omega)|(simp only[amS,am1];omega)|apply And.intro)))
    |(refine sS_ rfl rfl rfl ?_ ?_;· (repeat' (first|exact t7|rfl|exact amG rfl|omega|exact wideI (by intro _;rfl) _|(intro e he;simp at he;subst he;rfl)|exact amI .. |(simp only[amI];omega)|(simp only[amS,am1];omega)|apply And.intro)))
    |(refine st_lit rfl rfl rfl rfl ?_ ?_;· (repeat' (first|exact t7|rfl|exact amG rfl|omega|exact wideI (by intro _;rfl) _|(intro e he;simp at he;subst he;rfl)|exact amI .. |(simp only[amI];omega)|(simp only[amS,am1];omega)|apply And.intro)))
    |refine st_skip rfl rfl rfl ?_
    |refine sk0_ rfl rfl ?_
    |(refine st_if rfl (fun hb=>?_) (fun hb=>?_)<;>(first|exact(fx_ hb).elim|rw[hb]))
    |refine cJ hΦ ?_
    |refine aD (id:=9) (.inl rfl) ae _ rfl rfl ?_
    |(refine b7 rfl (fun hb=>?_) (fun hb=>?_)<;>(try exact(fx_ hb).elim))
    |refine bM ?_
    |refine b6 ?_
    |refine cG ?_
    |refine b8 ?_)
   exact⟨i+1,hlt,by show t.checks.length-(i+1)<t.checks.length-i;omega,by rw[hnx];exact fm_ ⟨rfl,rfl,rfl,rfl,rfl,aM (aS m0 m0),t7⟩ [_] rfl (Ja _ _ _) (kz _)⟩
 ·have hG:decide ((i:Int)<(t.checks.length:Int))=false:=amz m0
  have e:i=t.checks.length:=m0
  subst e;generalize iN (v6 t S p) t.checks.length=vs;unfold KT
  repeat' (first
   |refine st_nil ?_
   |rw[hG]
   |(refine st_pop rfl rfl rfl rfl ?_ ?_;· (repeat' (first|exact t7|rfl|exact amG rfl|omega|exact wideI (by intro _;rfl) _|(intro e he;simp at he;subst he;rfl)|exact amI .. |(simp only[amI];omega)|(simp only[amS,am1];omega)|apply And.intro)))
   |(refine st_lop rfl rfl rfl rfl ?_ ?_;· (repeat' (first|exact t7|rfl|exact amG rfl|omega|exact wideI (by intro _;rfl) _|(intro e he;simp at he;subst he;rfl)|exact amI .. |(simp only[amI];omega)|(simp only[amS,am1];omega)|apply And.intro)))
   |(refine sS_ rfl rfl rfl ?_ ?_;· (repeat' (first|exact t7|rfl|exact amG rfl|omega|exact wideI (by intro _;rfl) _|(intro e he;simp at he;subst he;rfl)|exact amI .. |(simp only[amI];omega)|(simp only[amS,am1];omega)|apply And.intro)))
   |(refine st_lit rfl rfl rfl rfl ?_ ?_;· (repeat' (first|exact t7|rfl|exact amG rfl|omega|exact wideI (by intro _;rfl) _|(intro e he;simp at he;subst he;rfl)|exact amI .. |(simp only[amI];omega)|(simp only[amS,am1];omega)|apply And.intro)))
   |refine st_skip rfl rfl rfl ?_
   |refine sk0_ rfl rfl ?_
   |(refine st_if rfl (fun hb=>?_) (fun hb=>?_)<;>(first|exact(fx_ hb).elim|rw[hb]))
   |refine cJ hΦ ?_
   |refine aD (id:=3) (.inl rfl) ae _ rfl rfl ?_
   |refine aD (id:=10) (.inl rfl) ae _ rfl rfl ?_
   |(refine b7 rfl (fun hb=>?_) (fun hb=>?_)<;>(try exact(fx_ hb).elim))
   |refine bM ?_
   |refine b6 ?_
   |refine cG ?_
   |refine b8 ?_)
  exact⟨.inr rfl,[2],.inl ⟨4,rfl,rfl⟩,rfl,m5,fun j x hx=>(match j,hx with|0,hx=>by cases hx;rfl|j+1,hx=>by simp at hx),bq ⟨t7,t7⟩,bS ⟨(show 0<1 by omega),t7⟩⟩
theorem xb {P:Program}{f:FuncId}{args:List PV}{L1:List Ob}{x:AV}{p:PV}(h:Run P f [] (args.map PV.av) L1 x)(hx:x.norm=some p):Pure P f args (.val p):=by
 refine⟨h.1,fun R w vs hR hs hv=>?_⟩;have hi:Inv (· <w.heap.size) R [] [] w:=⟨rfl,hR,fun id x g hx=>by simp at hx,fun i j gi gj h=>by simp at h,fun i g b h=>by simp at h,fun _ h=>h⟩;refine(h.2 _ R [] w vs hi (by rw[amI];exact hs) fun j v q hj hq=>?_).mono fun e w' hh=>?_
 ·rw[amT]at hq
  obtain⟨q0,h0,rfl⟩:=Option.map_eq_some_iff.1 hq;exact PV.av_rep (hv j v q0 hj h0)
 ·obtain⟨v,R',γ',rfl,i1,e1,_,hr⟩:=hh
  exact⟨v,R',rfl,e1,i1.val,AV.norm_rep hr hx⟩
section
variable {P:Program} {ti:TI} {B:Nat->Prop} {N n0:Nat} {R:PH} {γ:List Gh} {L:List Ob} {T:Tm} {w:World} {Q:AX->Tm->List Ob->Prop}
def thO (id ver:Nat)(cs:List (List AC)):Ob->Ob
 |.box xs => .box (xs.map (thS id ver cs))
 |x=>x
theorem aco {id ver:Nat}{cs:List (List AC)}{L:List Ob}{t n k:Nat}(h:(L.map (thO id ver cs))[t]?=some (.spare n k)):L[t]?=some (.spare n k):=by
 rw[amT]at h
 cases hx:L[t]? with
 |none=>rw[hx]at h;cases h
 |some x=>rw[hx]at h;cases x<;>first|(cases h;done)|exact h
theorem ag3 {id ver:Nat}{cs:List (List AC)}{L:List Ob}{t v k:Nat}{es:List (List SV)}(h:(L.map (thO id ver cs))[t]?=some (.row v es k)):L[t]?=some (.row v es k):=by
 rw[amT]at h
 cases hx:L[t]? with
 |none=>rw[hx]at h;cases h
 |some x=>rw[hx]at h;cases x<;>first|(cases h;done)|exact h
theorem zf {R:PH}{γ:List Gh}{id ver:Nat}{cs:List (List AC)}{L:List Ob}:Mv R R γ γ L (L.map (thO id ver cs)) :=
 ⟨PH.sub_refl _,m5,fun t n k _ h=>⟨n,aco h,amM _,fun _=>rfl⟩,fun t v es k _ h=>⟨v,es,ag3 h,amM _,fun _=>⟨rfl,rfl⟩⟩,fun _ _ h=>h⟩
theorem Gy {B:Nat->Prop}{R:PH}{γ:List Gh}{w:World}(hi:Inv B R γ L w){id ver k:Nat}{es:List (List SV)}{cs:List (List AC)}(hL:L[id]?=some (.row ver es k))(hn:eA es=some cs) :
  ∃ R' γ',Inv B R' γ' ((L.set id .dead).map (thO id ver cs)) w/\Ext B R R' w w/\Mv R R' γ γ' L ((L.set id .dead).map (thO id ver cs)) /\ ∀ lo n u,(SV.sl id ver lo n).rep R γ L u->bg R' u (.lst ((cs.drop lo).take n)):=by
 obtain⟨R',γ',hI,hE,hM,hS⟩:=lB hi hL hn;have hM3:=hM.trans (zf (R:=R') (γ:=γ') (id:=id) (ver:=ver) (cs:=cs) (L:=L.set id .dead));refine⟨R',γ',⟨by rw[hI.len,amI],hI.val,fun j y g hy hg=>?_,hI.inj,hI.new,hI.bsz⟩,hE,hM3,hS⟩;rw[amT]at hy
 cases hx:(L.set id .dead)[j]? with
 |none=>rw[hx]at hy;cases hy
 |some x =>
  rw[hx]at hy
  cases hy;have h0:=hI.obj j x g hx hg
  cases x with
  |box xs =>
   have hj:j≠id:=by
    intro e;subst e;rw[amP (amw.1 hL).1]at hx;cases hx
   rw[amQ (Ne.symm hj)]at hx;have hlt:j<γ.length:=by rw[hi.len];exact(amw.1 hx).1
   have h1:=hi.obj j _ _ hx (amF hlt);have hg1:γ[j]?=some γ[j]:=amF hlt;generalize γ[j]=g1 at h1 hg1
   match g1,h1,hg1 with
   |.box b,⟨⟨vs,E,a1,a2,a3⟩,_⟩,hg1 =>
    have:=hM.ptr j b hg1;rw[hg]at this;injection this with this;subst this
    obtain⟨⟨vs',E',b1,b2,_⟩,b4⟩:=h0;refine⟨⟨vs,E,a1,by rw[a2,amI],fun i u x hu hx=>?_⟩,b4⟩;rw[amT]at hx
    cases hy:xs[i]? with
    |none=>rw[hy]at hx;cases hx
    |some y=>rw[hy]at hx;cases hx;exact oy hS hM3 (a3 i u y hu hy)
   |.none,h1,_=>exact h1.elim
   |.arr _ _,h1,_=>exact h1.elim
  |spare n k=>exact h0.mv zf (fun _ _=>rfl) (fun _ _ _ e=>e)
  |row v es k=>exact h0.mv zf (fun _ _=>rfl) (fun _ _ _ e=>e)
  |map kvs=>exact h0.mv zf (fun _ _=>rfl) (fun _ _ _ e=>e)
  |dead=>exact h0.mv zf (fun _ _=>rfl) (fun _ _ _ e=>e)
theorem rY {c:Code}(id:Nat){ver k:Nat}{es:List (List SV)}{cs:List (List AC)}(hL:L[id]?=some (.row ver es k))(hn:eA es=some cs)(h:Aw P N n0 c Q (T.map fun p=>(p.1,thA id ver cs p.2)) ((L.set id .dead).map (thO id ver cs))):Aw P N n0 c Q T L:=by
 intro hn0 B R γ w a hi hT;obtain⟨R',γ',hI,hE,hM,hS⟩:=Gy hi hL hn;refine wp_mono (h (by simpa using hn0) B R' γ' w a hI ?_) fun _ _ _ hh=>hh.ext hE hi.len (fP.of hn0 hM)
 refine⟨hT.size,hT.defers,fun t x hx=>?_⟩;obtain⟨y,hy,rfl⟩:=gm hx;obtain⟨u,h1,h2⟩:=hT.slot t y hy;refine⟨u,h1,?_⟩
 cases y with
 |one x=>exact oy hS hM h2
 |agg xs =>
  obtain⟨vs,rfl,hsz,hc⟩:=h2;refine⟨vs,rfl,by rw[hsz,amI],fun j u x hu hx=>?_⟩;rw[amT]at hx
  cases hy:xs[j]? with
  |none=>rw[hy]at hx;cases hx
  |some y=>rw[hy]at hx;cases hx;exact oy hS hM (hc j u y hu hy)
 |tup ps=>exact AV.mv (x := .tup ps) hM h2
 |tupS xs=>exact AV.mv (x := .tupS xs) hM h2
 |undef=>exact AV.mv (x := .undef) hM h2
end
def alY:J7:=⟨213,276⟩
theorem aak:sE Tryz.prog alY:=⟨akn,ajX⟩
def kX (a b lo hi:Int):Option aw:=some ⟨[⟨1,a,ByteArray.empty⟩,bif decide (b = -9)then⟨0,0,ByteArray.empty⟩else⟨1,b,ByteArray.empty⟩],⟨lo,hi⟩⟩
theorem sM {a b lo hi:Int}{r:aw}(H:kX a b lo hi=some r):PTz 31 [.one (.int .i64 a),.one (.int .i64 b),.one (.int .i64 lo),.one (.int .i64 hi)] (.val (.agg (aA r))):=by
 unfold kX at H
 cases H;refine pa_ bw Tryz.func31 rfl rfl Tryz.ntmps31 m5 ?_;simp only[argT,PV.av,amH,amL]
 cases hb9:decide (b = -9)with
 |true =>
  repeat' (first|(refine bL (d:=14) rfl rfl rfl rfl rfl (zn (rowB:=true) bw aak rfl) ?_)|rw[hb9]|(refine iV rfl rfl rfl rfl rfl rfl (e:=_) rfl ⟨amG rfl,rfl⟩ rfl ?_)|refine gw_ trivial trivial ?_|refine gi_ (fun hb=>?_) (fun hb=>?_)|refine aw_region (id:=0) bw _ rfl ?_|refine aw_region (id:=1) bw _ rfl ?_|refine aw_region (id:=2) bw _ rfl ?_|refine aw_region (id:=3) bw _ rfl ?_|fail)
  refine rY 1 rfl rfl ?_
  repeat' (first|refine gw_ trivial trivial ?_|refine gi_ (fun hb=>?_) (fun hb=>?_)|refine aw_region (id:=4) bw _ rfl ?_|fail)
  refine⟨.inr rfl,?_,rfl⟩
  repeat' (first|exact t7|rfl|exact amG rfl|omega|apply And.intro)
 |false =>
  repeat' (first|(refine bL (d:=14) rfl rfl rfl rfl rfl (zn (rowB:=true) bw aak rfl) ?_)|rw[hb9]|(refine iV rfl rfl rfl rfl rfl rfl (e:=_) rfl ⟨amG rfl,rfl⟩ rfl ?_)|refine gw_ trivial trivial ?_|refine gi_ (fun hb=>?_) (fun hb=>?_)|refine aw_region (id:=0) bw _ rfl ?_|refine aw_region (id:=1) bw _ rfl ?_|refine aw_region (id:=2) bw _ rfl ?_|fail)
  refine rY 1 rfl rfl ?_
  repeat' (first|refine gw_ trivial trivial ?_|refine gi_ (fun hb=>?_) (fun hb=>?_)|refine aw_region (id:=4) bw _ rfl ?_|fail)
  refine⟨.inr rfl,?_,rfl⟩
  repeat' (first|exact t7|rfl|exact amG rfl|omega|apply And.intro)
theorem alV {p:Prop}(h:p:=by
 refine aX ?_
 first
  |exact⟨.inl rfl,⟨.inl ⟨_,rfl,rfl⟩,⟨[],rfl⟩,amR _,mX rfl,rf rfl⟩⟩
  |exact⟨.inr rfl,⟨.inl ⟨_,rfl,rfl⟩,⟨[],rfl⟩,amR _,mX rfl,rf rfl⟩⟩):p:=h
