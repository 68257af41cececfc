/- Parts. No condition. -/
import Derived.Test.YtdkmoemdipgikaaGreatDoorKBM
set_option linter.unusedSimpArgs false
set_option linter.unusedVariables false
namespace Go.Proofs.YtdkmoemdipgikaaGreatDoor.St
open Go.RowKit
def Jn (l:List (Int×Int))(t:Int):Option Int:=((l.filter fun s=>decide (s.1<=t)).getLast?).map (·.2)
theorem DL (f:Int->Int)(t:Int):∀ (k:Nat) (P:List Int),P.length=k->P.Pairwise (· < ·)->Jn (dI f P) t=((P.filter fun x=>decide (x<=t)).getLast?).map f
 |0,P,hk,_=>by rw[amW hk];rfl
 |k+1,P,hk,hP=>by
  rcases dY P with rfl|⟨Q,p,rfl⟩
  ·simp at hk
  ·have hQ:=(List.pairwise_append.1 hP).1
   have hlt:∀ q∈Q,q<p:=fun q hq=>(List.pairwise_append.1 hP).2.2 q hq p m5
   have ih:=DL f t k Q (by simpa using hk) hQ;have hmem:∀ s∈dI f Q,s.1∈Q:=fun s hs=>by
    rcases((qI f Q [] hQ List.Pairwise.nil (fun s hs=>by cases hs) (fun s hs=>by cases hs)).2 s hs).1 with h|h
    ·cases h
    ·exact h
   rw[jS,List.filter_append];by_cases hp:p<=t
   ·have e1:List.filter (fun x=>decide (x<=t)) [p]=[p]:=by simp[hp]
    rw[e1,List.getLast?_concat];have hall:∀ s∈dI f Q,decide (s.1<=t)=true:=fun s hs=>amA (by have:=hlt _ (hmem s hs);omega)
    unfold bO;split
    ·rename_i h
     unfold Jn;rw[List.filter_eq_self.2 hall,h];rfl
    ·unfold Jn
     rw[List.filter_append];have e2:List.filter (fun s:Int×Int=>decide (s.1<=t)) [(p,f p)]=[(p,f p)]:=by simp[hp]
     rw[e2,List.getLast?_concat];rfl
   ·have e1:List.filter (fun x=>decide (x<=t)) [p]=[]:=by simp[hp]
    rw[e1,am5,<- ih];unfold bO;split
    ·rfl
    ·unfold Jn
     rw[List.filter_append];have e2:List.filter (fun s:Int×Int=>decide (s.1<=t)) [(p,f p)]=[]:=by simp[hp]
     rw[e2,am5]
theorem acF {l:List ((Int×Int)×Int)}{q t:Int}(hqt:q<=t)(hF:t<1099511627776)(hq:∀ x∈ed l,x<=t->x<=q):ga l q=ga l t:=by
 rw[rl,rl];congr 1;unfold jg;congr 1;refine List.map_congr_left fun c hc=>?_
 have hpt:=(cM l).2;have e:aI c.1 q=aI c.1 t:=by
  unfold aI
  cases hv:be c.1 with
  |false=>rfl
  |true =>
   have hv2:=hv;unfold be at hv2;simp only[amO,decide_eq_true_eq]at hv2;have h1:(c.1.1,c.2)∈sb l:=List.mem_flatMap.2 ⟨c,hc,by unfold iU;rw[if_pos hv];simp⟩;have h2:(c.1.2,wrap64 (-c.2))∈sb l:=List.mem_flatMap.2 ⟨c,hc,by unfold iU;rw[if_pos hv];simp⟩;have k1:c.1.1<=t->c.1.1<=q:=fun h=>hq _ ((hpt _).2 ⟨.inr ⟨_,h1⟩,m0⟩) h
   have k2:c.1.2<=t->c.1.2<=q:=fun h=>hq _ ((hpt _).2 ⟨.inr ⟨_,h2⟩,m0⟩) h
   rw[am4,am4];congr 1
   ·rw[decide_eq_decide];omega
   ·rw[decide_eq_decide];omega
 rw[e]
theorem ahK (l:List ((Int×Int)×Int))(t:Int)(h0:0<=t)(hF:t<1099511627776):Jn (Hf l) t=some (ga l t):=by
 have hP:=lO (cM l).1;have h1:Jn (Hf l) t=(((ed l).filter fun x=>decide (x<=t)).getLast?).map (ga l):=DL (ga l) t _ (ed l) rfl hP;rw[h1];have hPf:=hP.filter (fun x=>decide (x<=t));have hz:(0:Int)∈(ed l).filter fun x=>decide (x<=t):=List.mem_filter.2 ⟨((cM l).2 0).2 ⟨.inl rfl,m0⟩,amA h0⟩
 generalize hL:(ed l).filter (fun x=>decide (x<=t))=L at hPf hz ⊢;rcases dY L with rfl|⟨M,q,rfl⟩
 ·cases hz
 ·rw[List.getLast?_concat]
  have hqm:q∈(ed l).filter fun x=>decide (x<=t):=by rw[hL];simp
  have hqt:q<=t:=amZ (List.mem_filter.1 hqm).2;show some (ga l q)=some (ga l t);rw[acF hqt hF fun x hx hxt=>?_];have hx2:x∈M++[q]:=by rw[<- hL];exact List.mem_filter.2 ⟨hx,amA hxt⟩
  rcases amY.1 hx2 with h|h
  ·have:=(List.pairwise_append.1 hPf).2.2 x h q m5;omega
  ·rw[am'.1 h];exact Int.le_refl _
theorem Jv (t:Int):∀ l:List ((Int×Int)×Int),(∀ c∈l,c.2=1)->(1<=jg l t ↔ ∃ c∈l,aI c.1 t=true)
 |[],_=>by simp[jg]
 |c::l,h=>by
  have ih:=Jv t l fun x hx=>h x (amU _ hx)
  have h0:=(qJ t l fun x hx=>h x (amU _ hx)).1;have hi:jg (c::l) t=(if aI c.1 t then c.2 else 0)+jg l t:=by simp[jg]
  have hc:=h c m5;rw[hi]
  cases hp:aI c.1 t with
  |true =>
   rw[if_pos rfl,hc];exact⟨fun _=>⟨c,m5,hp⟩,fun _=>by omega⟩
  |false =>
   rw[if_neg m5,Int.zero_add,ih];constructor
   ·rintro⟨x,hx,e⟩;exact⟨x,amU _ hx,e⟩
   ·rintro⟨x,hx,e⟩
    rcases amN.1 hx with rfl|hx
    ·rw[hp]at e;cases e
    ·exact⟨x,hx,e⟩
end Go.Proofs.YtdkmoemdipgikaaGreatDoor.St
namespace Go.Proofs.YtdkmoemdipgikaaGreatDoor
open Go.RowKit
def Kx (n:Int):List Stp->Int->Bool
 |[],_=>false
 |[x],t=>decide (x.lo<=t)&&decide (t<1099511627776)&&decide (n<=x.n)
 |x::y::r,t=>(decide (x.lo<=t)&&decide (t<y.lo)&&decide (n<=x.n))||Kx n (y::r) t
theorem CW {out:List au}{a b:Int}(ha:∀ p∈out,p.hi<=a)(hab:a<b):kM out ⟨a,b⟩=eI out a b:=by
 rcases dY out with rfl|⟨m,q,rfl⟩
 ·rfl
 ·rw[nl,g7]
  have hq:=ha q m5;by_cases e:q.hi=a
  ·rw[if_pos (show a<=q.hi by omega),if_pos e]
   show m++[(⟨q.lo,Gk q.hi b⟩:au)]=_;rw[F7,show max q.hi b=b by omega]
  ·rw[if_neg (show ¬ a<=q.hi by omega),if_neg e]
theorem Gn (n:Int):∀ (l:List Stp) (out:List au),(l.Pairwise fun x y=>x.lo<y.lo)->(∀ x∈l,0<=x.lo/\x.lo<1099511627776)->bJ out->(∀ p∈out,∀ x,l.head?=some x->p.hi<=x.lo) ->
  bJ (nM n l out)/\(∀ t,cF (nM n l out) t=(cF out t||Kx n l t))/\Io n l out=nM n l out
 |[],out,_,_,h,_=>⟨h,fun t=>by simp[nM,Kx],rfl⟩
 |[x],out,_,h2,h3,h4=>by
  have hx:=h2 x m5;have hh:∀ p∈out,p.hi<=x.lo:=fun p hp=>h4 p hp x rfl
  by_cases hn:n<=x.n
  ·have e1:nM n [x] out=eI out x.lo 1099511627776:=by
    show(if n<=x.n then kM out ⟨x.lo,1099511627776⟩else out)=_;rw[if_pos hn,CW hh hx.2]
   have e2:Io n [x] out=eI out x.lo 1099511627776:=if_neg m0;have hk:=fV h3 hh hx.1 hx.2 (Int.le_refl _);rw[e1,e2];exact⟨hk.1,fun t=>by rw[hk.2.2,Kx,amA hn,Bool.and_true],rfl⟩
  ·have e1:nM n [x] out=out:=if_neg hn
   have e2:Io n [x] out=out:=if_pos m0;rw[e1,e2];exact⟨h3,fun t=>by rw[Kx,amz hn,Bool.and_false,Bool.or_false],rfl⟩
 |x::y::r,out,h1,h2,h3,h4=>by
  have hx:=h2 x m5;have hy:=h2 y m5;have hxy:x.lo<y.lo:=(anr.1 h1).1 y m5;have hh:∀ p∈out,p.hi<=x.lo:=fun p hp=>h4 p hp x rfl
  by_cases hn:n<=x.n
  ·have hk:=fV h3 hh hx.1 hxy m0
   have e1:nM n (x::y::r) out=nM n (y::r) (eI out x.lo y.lo):=by
    show nM n (y::r) (if n<=x.n then kM out ⟨x.lo,y.lo⟩else out)=_;rw[if_pos hn,CW hh hxy]
   have e2:Io n (x::y::r) out=Io n (y::r) (eI out x.lo y.lo):=by
    show Io n (y::r) (if x.n<n then out else eI out x.lo y.lo)=_;rw[if_neg m0]
   obtain⟨q1,q2,q3⟩:=Gn n (y::r) (eI out x.lo y.lo) (anr.1 h1).2 (fun z hz=>h2 z (amU _ hz)) hk.1 (fun p hp z hz=>by cases hz;exact hk.2.1 p hp);rw[e1,e2];refine⟨q1,fun t=>?_,q3⟩;rw[q2,hk.2.2,Kx,amA hn,Bool.and_true,Bool.or_assoc]
  ·have e1:nM n (x::y::r) out=nM n (y::r) out:=by
    show nM n (y::r) (if n<=x.n then kM out ⟨x.lo,y.lo⟩else out)=_;rw[if_neg hn]
   have e2:Io n (x::y::r) out=Io n (y::r) out:=by
    show Io n (y::r) (if x.n<n then out else eI out x.lo y.lo)=_;rw[if_pos m0]
   obtain⟨q1,q2,q3⟩:=Gn n (y::r) out (anr.1 h1).2 (fun z hz=>h2 z (amU _ hz)) h3 (fun p hp z hz=>by cases hz;have:=hh p hp;omega);rw[e1,e2];refine⟨q1,fun t=>?_,q3⟩;rw[q2,Kx,amz hn,Bool.and_false,Bool.false_or]
def pf (l:List Stp)(t:Int):Option Int:=((l.filter fun s=>decide (s.lo<=t)).getLast?).map (·.n)
theorem aiw (l:List (Int×Int))(t:Int):pf (l.map ofS) t=St.Jn l t:=by
 unfold pf St.Jn;rw[List.filter_map,List.getLast?_map,Option.map_map];rfl
theorem NG (n t:Int)(ht:t<1099511627776):∀ l:List Stp,(l.Pairwise fun x y=>x.lo<y.lo)->Kx n l t=match pf l t with
  |some v=>decide (n<=v)
  |none=>false
 |[],_=>rfl
 |[x],_=>by
  by_cases hx:x.lo<=t
  ·have e:pf [x] t=some x.n:=by unfold pf;simp[hx]
   rw[e,Kx,amA hx,amA ht];rfl
  ·have e:pf [x] t=none:=by unfold pf;simp[hx]
   rw[e,Kx,amz hx];rfl
 |x::y::r,h=>by
  have hp:=anr.1 h;have hxy:x.lo<y.lo:=hp.1 y m5;have ih:=NG n t ht (y::r) hp.2;rw[Kx,ih];by_cases hy:y.lo<=t
  ·have e:pf (x::y::r) t=pf (y::r) t:=by
    unfold pf;rw[List.filter_cons_of_pos (p:=fun s:Stp=>decide (s.lo<=t)) (a:=x) (amA (show x.lo<=t by omega)),List.filter_cons_of_pos (p:=fun s:Stp=>decide (s.lo<=t)) (a:=y) (amA hy)];rw[List.getLast?_cons_cons]
   rw[e,amz (show ¬ t<y.lo by omega),Bool.and_false,Bool.false_and,Bool.false_or]
  ·have hr:(y::r).filter (fun s=>decide (s.lo<=t))=[]:=by
    rw[List.filter_eq_nil_iff];intro z hz;simp only[decide_eq_true_eq];rcases amN.1 hz with rfl|hz
    ·exact hy
    ·have:=(anr.1 hp.2).1 z hz;omega
   have e0:pf (y::r) t=none:=by unfold pf;rw[hr];rfl
   rw[e0];by_cases hx:x.lo<=t
   ·have e:pf (x::y::r) t=some x.n:=by unfold pf;rw[List.filter_cons_of_pos (p:=fun s:Stp=>decide (s.lo<=t)) (a:=x) (amA hx),hr];rfl
    rw[e,amA hx,amA (show t<y.lo by omega)];simp
   ·have e:pf (x::y::r) t=none:=by unfold pf;rw[List.filter_cons_of_neg (p:=fun s:Stp=>decide (s.lo<=t)) (a:=x) (by simpa using hx),hr];rfl
    rw[e,amz hx];rfl
theorem tu (cs:List ji):((ip cs).Pairwise fun x y=>x.lo<y.lo) /\ ∀ x∈ip cs,0<=x.lo/\x.lo<1099511627776:=by
 have hs:=St.JE (cs.map toC);have h0:∀ s∈St.Hf (cs.map toC),0<=s.1:=by
  intro s hs1;rcases((St.qI (St.ga (cs.map toC)) (St.ed (cs.map toC)) [] (St.lO (St.cM _).1) List.Pairwise.nil (fun s hs=>by cases hs) (fun s hs=>by cases hs)).2 s hs1).1 with h|h
  ·cases h
  ·rcases(((St.cM (cs.map toC)).2 s.1).1 h).1 with e|⟨y,hy⟩
   ·omega
   ·exact(St.vY _ hy).1
 refine⟨?_,fun x hx=>?_⟩
 ·unfold ip
  rw[List.pairwise_map];exact List.pairwise_iff_getElem.2 fun i j hi hj hij=>hs.1 i j _ _ hij (amF hi) (amF hj)
 ·obtain⟨s,h,rfl⟩:=am6.1 hx
  exact⟨h0 s h,(hs.2 s h).1⟩
theorem aiA (n:Int)(cs:List ji):Io n (ip cs) []=nM n (ip cs) []:=(Gn n (ip cs) [] (tu cs).1 (tu cs).2 trivial (fun p hp=>by cases hp)).2.2
theorem MF (n:Int)(cs:List ji):bJ (nM n (ip cs) []) /\ ∀ t,cF (nM n (ip cs) []) t=Kx n (ip cs) t:=by
 obtain⟨h1,h2,_⟩:=Gn n (ip cs) [] (tu cs).1 (tu cs).2 trivial (fun p hp=>by cases hp);exact⟨h1,fun t=>by rw[h2];rfl⟩
theorem rI {l:List au}{t:Int}(h:cF l t=true):0<=t/\t<1099511627776:=by
 obtain⟨p,_,hv,h1,h2⟩:=(du l t).1 h;have:=iY hv;omega
theorem ae8 (ps:List au)(hn:ps.length<=1000000)(t:Int):Kx 1 (ip (ones ps)) t=cF ps t:=by
 have ho:=tu (ones ps);by_cases hr:0<=t/\t<1099511627776
 ·rw[NG 1 t hr.2 _ ho.1]
  have e:pf (ip (ones ps)) t=some (St.ga ((ones ps).map toC) t):=by
   unfold ip;rw[aiw];exact St.ahK _ t hr.1 hr.2
  rw[e];show decide (1<=St.ga ((ones ps).map toC) t)=_;rw[St.vR t (ul ps) (by simpa[ones]using hn)];have hk:=St.Jv t ((ones ps).map toC) (ul ps)
  cases hi:cF ps t with
  |true =>
   obtain⟨p,hp,hv,h1,h2⟩:=(du ps t).1 hi;refine amA (hk.2 ⟨(toP p,1),?_,?_⟩)
   ·exact am6.2 ⟨⟨p,1⟩,am6.2 ⟨p,hp,rfl⟩,rfl⟩
   ·unfold St.aI
    simp only[amO,decide_eq_true_eq];exact⟨⟨hv,h1⟩,h2⟩
  |false =>
   refine amz fun h=>?_
   obtain⟨c,hc,hp⟩:=hk.1 h;obtain⟨d,hd,rfl⟩:=am6.1 hc;obtain⟨p,hpm,rfl⟩:=am6.1 hd;unfold St.aI at hp;simp only[amO,decide_eq_true_eq]at hp;have:cF ps t=true:=(du ps t).2 ⟨p,hpm,hp.1.1,hp.1.2,hp.2⟩;rw[hi]at this;cases this
 ·have h1:cF ps t=false:=by
   cases h:cF ps t with
   |false=>rfl
   |true=>exact absurd (rI h) hr
  rw[h1]
  cases h:Kx 1 (ip (ones ps)) t with
  |false=>rfl
  |true =>
   exfalso;rw[<- (MF 1 (ones ps)).2 t]at h;exact hr (rI h)
def rk (ps:List au):List au:=kB (fun x _=>x) ps []
theorem sG (ps:List au):bJ (rk ps) /\ ∀ t,cF (rk ps) t=cF ps t:=by
 have h:=aaw (fun x _=>x) ps [];refine⟨h.1,fun t=>?_⟩;show cF (kB (fun x _=>x) ps []) t=_;rw[h.2 t]
 cases hi:cF ps t with
 |false=>simp
 |true =>
  have:=rI hi;rw[amA this.1,amA this.2];rfl
theorem Oj (ps:List au)(hn:ps.length<=1000000):nM 1 (ip (ones ps)) []=rk ps :=
 iI (MF 1 (ones ps)).1 (sG ps).1 fun t=>by rw[(MF 1 (ones ps)).2,(sG ps).2,ae8 ps hn]
theorem tW (ps:List au)(hn:ps.length<=1000000):(rk ps).length<=1+2*ps.length:=by
 rw[<- Oj ps hn];refine Nat.le_trans (zR 1 _) ?_;unfold ip;rw[amI];have:=St.tY ((ones ps).map toC);simpa[ones]using this
open Go.RowKit Go.MapKept
set_option maxRecDepth 100000
def setOf (l:List aw)(R:List (List Val)):List aw:=R.flatMap fun r=>(rk (aV l r)).map fun p=>⟨r,p⟩
theorem ahD {a b:List au}(h:∀ t,cF a t=cF b t):rk a=rk b:=iI (sG a).1 (sG b).1 fun t=>by rw[(sG a).2,(sG b).2,h]
theorem ahL (l all:List aw)(h:all.Perm l)(r:List Val):rk (bX all r)=rk (aV l r):=by
 refine ahD fun t=>?_
 rw[Bool.eq_iff_iff,du,du];unfold bX aV;constructor
 ·rintro⟨p,hp,hv,h1,h2⟩
  obtain⟨f,hf,rfl⟩:=am6.1 hp;obtain⟨h3,h4⟩:=List.mem_filter.1 hf;exact⟨_,am6.2 ⟨f,List.mem_filter.2 ⟨h.mem_iff.1 h3,by rw[hv,h4];rfl⟩,rfl⟩,hv,h1,h2⟩
 ·rintro⟨p,hp,hv,h1,h2⟩
  obtain⟨f,hf,rfl⟩:=am6.1 hp;obtain⟨h3,h4⟩:=List.mem_filter.1 hf;rw[amO]at h4;exact⟨_,am6.2 ⟨f,List.mem_filter.2 ⟨h.mem_iff.2 h3,h4.2⟩,rfl⟩,hv,h1,h2⟩
theorem abd (l:List aw)(hn:l.length<=300)(hr:∀ f∈l,f.row.length<=1000000):∃ G,fu l=some G/\bY l (G.map (·.row))/\G.length<=300 /\ ∃ all:List aw,all.Perm l /\ ∀ g∈G,g.steps=ip (ones (bX all g.row)):=by
 obtain⟨all,e1,a1,p1⟩:=wZ 639 l m0 m0 hr;have hal:all.length=l.length:=p1.length_eq;obtain⟨G,hG,hL⟩:=EC all (fun f hf=>hr f (p1.mem_iff.1 hf)) m0 a1 fuel [] all [] rfl (by unfold fuel;omega) (amM _);have hgr:fu l=some G:=by
  unfold fu;rw[e1,amv];have:ap (cS all) fuel ([],(0:Int))=some (.inl ([]++G,((all.length:Nat):Int))):=hL;rw[this,amv,amB];rfl
 have hR:bY l (G.map (·.row)):=by
  refine⟨hG.1.1,fun x=>(hG.1.2 x).trans ?_⟩;constructor
  ·rintro⟨f,hf,h⟩;exact⟨f,p1.mem_iff.1 hf,h⟩
  ·rintro⟨f,hf,h⟩;exact⟨f,p1.mem_iff.2 hf,h⟩
 have hGl:G.length<=300:=by

  have h1:∀ (R:List (List Val)) (L:List (List Val)),R.Nodup->(∀ x∈R,x∈L)->R.length<=L.length:=by
   intro R
   induction R with
   |nil=>intro L _ _;simp
   |cons x R ih =>
    intro L hnd hm;have hx:=hm x m5;have hnd2:=List.nodup_cons.1 hnd;have h2:=ih (L.erase x) hnd2.2 fun y hy=>by
     have hne:y≠x:=fun e=>hnd2.1 (e▸hy)
     exact(List.mem_erase_of_ne hne).2 (hm y (amU _ hy))
    have h3:=List.length_erase_of_mem hx;have h4:0<L.length:=List.length_pos_of_mem hx;rw[amS];omega
  have h2:(G.map (·.row)).Nodup:=by
   refine List.Pairwise.imp ?_ hR.1;intro a b h e;rw[e,tCr_.refl]at h;omega
  have h3:=h1 (G.map (·.row)) (l.map (·.row)) h2 fun x hx=>by
   obtain⟨f,hf,_,e⟩:=(hR.2 x).1 hx;exact am6.2 ⟨f,hf,e⟩
  simp at h3;omega
 exact⟨G,hgr,hR,hGl,all,p1,hG.2⟩
theorem jh {α β:Type}(f:α->List β)(k:Nat):∀ L:List α,(∀ g∈L,(f g).length<=k)->(L.flatMap f).length<=L.length*k
 |[],_=>by simp
 |g::L,h=>by
  have h1:=jh f k L fun x hx=>h x (amU _ hx)
  have h2:=h g m5;rw[am8,amE,amS,Nat.succ_mul];omega
theorem aeV (l:List aw)(hn:l.length<=300)(hr:∀ f∈l,f.row.length<=1000000):∃ R,bY l R/\uf l=some (setOf l R)/\R.length<=300:=by
 obtain⟨G,hgr,hR,hGl,all,p1,hst⟩:=abd l hn hr;refine⟨G.map (·.row),hR,?_,by rw[amI];exact hGl⟩;have hpl:∀ r,(bX all r).length<=300:=fun r=>by
  have:(bX all r).length<=all.length:=by unfold bX;rw[amI];exact List.length_filter_le _ _
  have:=p1.length_eq;omega
 have hat:∀ g∈G,rV g.steps 1=some (rk (aV l g.row)):=by
  intro g hg;have hp:=hpl g.row;have hs:(ip (ones (bX all g.row))).length<=100000:=by
   unfold ip;rw[amI];have:=St.tY ((ones (bX all g.row)).map toC);simp[ones]at this ⊢;omega
  rw[hst g hg];unfold rV;rw[amA hs,amy,Oj _ m0,ahL l all p1]
 have hll:∀ g∈G,(rk (aV l g.row)).length<=601:=fun g hg=>by
  have h2:=h_ l g.row;have h1:=tW (aV l g.row) m0;omega
 have htot:=Nat.le_trans (jh (fun g:bI=>(rk (aV l g.row)).map fun p=>(⟨g.row,p⟩:aw)) 601 G fun g hg=>by rw[amI];exact hll g hg) (am7 601 hGl);unfold uf;rw[hgr,amv];rw[bA (l:=G) (fun g=>(rk (aV l g.row)).map fun p=>(⟨g.row,p⟩:aw)) 3518437208883 ?_ ?_ (by unfold fuel;omega) [] (by simp only[am1];omega)]
 ·rw[amv,amB]
  show some _=some _;unfold setOf;rw[List.flatMap_map]
 ·intro s i x hx hs
  have hi:=(amw.1 hx).1;have hxm:=amC hx;have h2:=hll x hxm;unfold uO;dsimp only;rw[aC hx,amy,gn_ hx];simp only[amv];rw[hat x hxm,amv,yi x.row _ m0,amv];rw[show decide (s.length+((rk (aV l x.row)).map fun p=>(⟨x.row,p⟩:aw)).length<=3518437208883)=true from amA hs,amy,wrapN m0]
 ·intro s
  unfold uO;dsimp only;rw[lF_,amx]
def CB (s:ar):List aw:=(rk s.periods).map fun p=>⟨s.row,p⟩
theorem ahq (l:List aw)(h:uS l)(hg19:(ci l).length<=19):∃ R,bY l R/\xq l=some (setOf l R):=by
 obtain⟨R,hR,hr⟩:=H_ l;refine⟨R,hR,?_⟩;have hmem:∀ s∈fy l,s.periods.length<=300/\(∀ p∈s.periods,az p=true)/\s.row.length<=1000:=by
  intro s hs;rw[hr]at hs;obtain⟨r,hrR,rfl⟩:=am6.1 hs;obtain⟨f,hf,_,e⟩:=(hR.2 r).1 hrR;refine⟨Nat.le_trans (h_ l r) h.1,pZ l r,?_⟩;show r.length<=1000;rw[<- e];exact(h.2 f hf).1
 have hlen:(fy l).length<=300:=by
  have h1:=(oG gU ((ci l).map fun g=>(⟨g.f.row,g.ps⟩:ar))).length_eq;have h2:=jQ l;have h3:=h.1;show(me gU _).length<=300;rw[h1,amI];omega
 have hg:∀ s∈fy l,(CB s).length<=360600:=by
  intro s hs;unfold CB;rw[amI];have h1:=tW s.periods (by have:=(hmem s hs).1;omega);have h2:=(hmem s hs).1;omega
 have htot:((fy l).flatMap CB).length<=300*360600:=by
  have:∀ (L:List ar),(∀ s∈L,(CB s).length<=360600)->(L.flatMap CB).length<=L.length*360600:=by
   intro L
   induction L with
   |nil=>intro _;simp
   |cons s L ih =>
    intro hL;have h1:=ih fun x hx=>hL x (amU _ hx)
    have h2:=hL s m5;rw[am8,amE,amS];omega
  exact Nat.le_trans (this _ hg) (am7 _ hlen)
 have hb:setOf l R=(fy l).flatMap CB:=by
  rw[hr,List.flatMap_map];rfl
 unfold xq v8;have e1:n5 l=some (fy l):=by unfold n5;rw[if_pos ⟨h,hg19⟩]
 rw[e1,amv];generalize fy l=X at hmem hlen hg htot hb ⊢;rw[bA (l:=X) CB 3518437208883 ?_ ?_ (by unfold fuel;omega) [] (by simp only[am1];omega)]
 ·simp only[amv,mV,amB,hb]
 ·intro s i x hx hs
  have hi:=(amw.1 hx).1;obtain⟨m1,m2,m3⟩:=hmem x (amC hx);unfold jC;dsimp only;rw[aC hx,amy,gn_ hx];simp only[amv];rw[show Ag x.periods=some (rk x.periods)by unfold Ag;rw[amA (show x.periods.length<=1000 by omega)];rfl,amv];have hgl:(CB x).length=(rk x.periods).length:=by unfold CB;rw[amI]
  have hgx:=hg x (amC hx);rw[bA (l:=rk x.periods) (fun p=>[(⟨x.row,p⟩:aw)]) 3518437208883 ?_ ?_ (by unfold fuel;omega) s (by rw[fo_,amI];omega)]
  ·rw[amv,fo_]
   show some (Step.next (s++CB x,_))=_;rw[wrapN m0]
  ·intro s' j y hy hs'
   have hj:=(amw.1 hy).1;unfold jG;dsimp only;rw[aC hy,amy,gn_ hy];simp only[amv];rw[show decide (x.row.length<=4398046511104)=true from amA m0,amy,show decide (s'.length+1<=3518437208883)=true from amA (by simpa using hs'),amy,wrapN m0]
  ·intro s'
   unfold jG;dsimp only;rw[lF_,amx]
 ·intro s
  unfold jC;dsimp only;rw[lF_,amx]
theorem ahB (l:List aw)(h:uS l)(hg19:(ci l).length<=19):∃ R,bY l R/\xq l=some (setOf l R)/\uf l=some (setOf l R):=by
 obtain⟨R,h1,h2⟩:=ahq l h hg19;obtain⟨S,h3,h4,_⟩:=aeV l (by have:=h.1;omega) fun f hf=>by have:=(h.2 f hf).1;omega
 rw[<- h1.ext h3]at h4;exact⟨R,h1,h2,h4⟩
theorem aeA (a b:List Val)(ha:a.length<=1000000)(hb:b.length<=1000000):fw a b=some (decide (bQ a b=0)):=by
 unfold fw;rw[ef a b m0 m0];rfl
theorem uX {A:List (List Val)}(hA:Asc bQ A)(hl:A.length<=300)(hr:∀ r∈A,r.length<=1000000):∀ (n i:Nat) (out:List (List Val)),i<=A.length->A.length-i<n->um out->(∀ x,x∈out↔x∈A.take i)->out.length<=i ->
  ∃ R,ap (aQ A) n (out,(i:Int))=some (.inl (R,((A.length:Nat):Int)))/\um R /\ ∀ x,x∈R↔x∈A
 |0,i,_,_,h,_,_,_=>by omega
 |n+1,i,out,hi,hn,h1,h2,h3=>by
  rw[ap];by_cases hlt:i<A.length
  ·obtain⟨x,hx⟩:=gol_ hlt
   have hxm:=amC hx;by_cases hz:∃ j x0,i=j+1/\A[j]?=some x0/\bQ x0 x=0
   ·obtain⟨j,x0,rfl,hx0,he⟩:=hz
    have hb:aQ A (out,((j+1:Nat):Int))=some (.next (out,((j+1+1:Nat):Int))):=by
     unfold aQ;dsimp only;rw[aC hx,amy,amz (show ¬ ((j+1:Nat):Int)=0 by omega),amx,aS (show((j+1:Nat):Int)-1=((j:Nat):Int)by omega) m0,gn_ hx0,amv,gn_ hx,amv,aeA x0 x (hr x0 (amC hx0)) (hr x hxm),amv,amA he,Bool.not_true,amx,wrapN m0]
    rw[hb];refine uX hA hl hr n (j+1+1) out m0 m0 h1 (fun y=>?_) m0;rw[h2,bu hx];have e0:=tCr_.zero _ _ he;constructor
    ·exact fun h=>List.mem_append_left _ h
    ·intro h
     rcases amY.1 h with h|h
     ·exact h
     ·rw[am'.1 h,<- e0,bu hx0];simp
   ·have hnew:aQ A (out,(i:Int))=some (.next (out++[x],((i+1:Nat):Int))):=by
     unfold aQ;dsimp only;rw[aC hx,amy]
     cases i with
     |zero =>
      rw[amA (show((0:Nat):Int)=0 from rfl),amy,gn_ hx,amv,amA (show out.length+1<=5864062014805 by omega),amy,wrapN m0]
     |succ j =>
      obtain⟨x0,hx0⟩:=gol_ (show j<A.length by omega);have he:¬ bQ x0 x=0:=fun e=>hz ⟨j,x0,rfl,hx0,e⟩
      rw[amz (show ¬ ((j+1:Nat):Int)=0 by omega),amx,aS (show((j+1:Nat):Int)-1=((j:Nat):Int)by omega) m0,gn_ hx0,amv,gn_ hx,amv,aeA x0 x (hr x0 (amC hx0)) (hr x hxm),amv,amz he,Bool.not_false,amy,amA (show out.length+1<=5864062014805 by omega),amy,wrapN m0]
    rw[hnew];refine uX hA hl hr n (i+1) (out++[x]) m0 m0 ?_ (fun y=>?_) (by rw[amE];simp;omega)
    ·refine List.pairwise_append.2 ⟨h1,List.pairwise_singleton _ _,fun a ha b hb=>?_⟩
     rw[am'.1 hb];obtain⟨k,hk⟩:=List.getElem?_of_mem ((h2 a).1 ha);rw[am0]at hk;split at hk
     ·rename_i hki
      obtain⟨hk1,hk2⟩:=amw.1 hk;obtain⟨hi1,hi2⟩:=amw.1 hx;have hle:bQ a x<=0:=by
       have:=List.pairwise_iff_getElem.1 hA k i hk1 hi1 hki;rw[hk2,hi2]at this;exact this
      by_cases h0:bQ a x=0
      ·exfalso

       obtain⟨j,rfl⟩:∃ j,i=j+1:=⟨i-1,m0⟩;obtain⟨x0,hx0⟩:=gol_ (show j<A.length by omega);obtain⟨hj1,hj2⟩:=amw.1 hx0;refine hz ⟨j,x0,rfl,hx0,?_⟩;have q1:bQ x0 x<=0:=by
        have:=List.pairwise_iff_getElem.1 hA j (j+1) hj1 hi1 m0;rw[hj2,hi2]at this;exact this
       have q2:bQ a x0<=0:=by
        by_cases hkj:k=j
        ·subst hkj
         have:a=x0:=by rw[<- hk2,<- hj2]
         rw[this,tCr_.refl];omega
        ·have:=List.pairwise_iff_getElem.1 hA k j hk1 hj1 m0
         rw[hk2,hj2]at this;exact this
       rw[tCr_.zero _ _ h0]at q2;have:=(tCr_.anti x0 x);omega
      ·omega
     ·cases hk
    ·rw[amY,h2,bu hx,amY]
  ·have:i=A.length:=m0
   subst this;have hb:aQ A (out,((A.length:Nat):Int))=some (.exit (out,((A.length:Nat):Int))):=by
    unfold aQ;dsimp only;rw[lF_,amx]
   rw[hb];exact⟨out,rfl,h1,fun y=>by rw[h2,List.take_length]⟩
theorem afw {l:List (List Val)}(hl:l.length<=300)(hr:∀ r∈l,r.length<=1000000):∃ R,dT l=some R/\um R /\ ∀ x,x∈R↔x∈l:=by
 have hp:=si l;obtain⟨R,h1,h2,h3⟩:=uX (Ek l) (by rw[hp.length_eq];exact hl) (fun r h=>hr r (hp.mem_iff.1 h)) fuel 0 [] (amR _) (by rw[hp.length_eq];unfold fuel;omega) List.Pairwise.nil (fun x=>by simp) (amM _);refine⟨R,?_,h2,fun x=>(h3 x).trans hp.mem_iff⟩;unfold dT;rw[Ew l hl hr,amv];have h1:ap (aQ (D_ l)) fuel ([],(0:Int))=_:=h1;rw[h1];rfl
theorem MQ (l:List aw)(hl:l.length<=300)(hr:∀ f∈l,f.row.length<=1000000):∃ R,kW l=some R/\bY l R:=by
 have hfl:=jh (fun f:aw=>if az f.valid then [f.row]else []) 1 l fun f _=>by split<;>simp
 have hmem:∀ x,(x∈l.flatMap fun f:aw=>if az f.valid then [f.row]else []) ↔ ∃ f∈l,az f.valid=true/\f.row=x:=by
  intro x;rw[List.mem_flatMap];constructor
  ·rintro⟨f,hf,h⟩
   split at h
   ·rename_i hv;exact⟨f,hf,hv,(am'.1 h).symm⟩
   ·cases h
  ·rintro⟨f,hf,hv,rfl⟩
   exact⟨f,hf,by rw[if_pos hv];simp⟩
 obtain⟨R,h1,h2,h3⟩:=afw (l:=l.flatMap fun f:aw=>if az f.valid then [f.row]else []) m0 fun r h=>by
  obtain⟨f,hf,_,rfl⟩:=(hmem r).1 h;exact hr f hf
 refine⟨R,?_,h2,fun x=>(h3 x).trans (hmem x)⟩;unfold kW;rw[bA (l:=l) (fun f=>if az f.valid then [f.row]else []) 5864062014805 ?_ ?_ (by unfold fuel;omega) [] (by simp only[am1];omega)]
 ·rw[amv,amB]
  show(dT _).bind _=_;rw[h1];rfl
 ·intro o i x hx ho
  have hi:=(amw.1 hx).1;unfold jT;dsimp only;rw[aC hx,amy,gn_ hx];simp only[amv];rw[gY,amv];by_cases hv:az x.valid=true
  ·rw[if_pos hv]at ho ⊢
   rw[hv,amy,show decide (o.length+1<=5864062014805)=true from amA (by simpa using ho),amy,wrapN m0]
  ·rw[if_neg hv]
   rw[Bool.not_eq_true]at hv;rw[hv,amx,wrapN m0,am5]
 ·intro o
  unfold jT;dsimp only;rw[lF_,amx]
def wu (a b:List au):List au:=kB (fun x y=>x&&y) a b
theorem xI (a b:List au):bJ (wu a b) /\ ∀ t,cF (wu a b) t=(cF a t&&cF b t):=by
 have h:=aaw (fun x y=>x&&y) a b;refine⟨h.1,fun t=>?_⟩;show cF (kB (fun x y=>x&&y) a b) t=_;rw[h.2 t]
 cases hi:cF a t with
 |false=>simp
 |true =>
  have:=rI hi;rw[amA this.1,amA this.2];rfl
theorem J9:∀ {a b:List au},bJ a->bJ b->(∀ p∈a,∀ q∈b,p.hi<q.lo)->bJ (a++b)
 |[],b,_,hb,_=>hb
 |p::a,b,ha,hb,h=>by
  refine⟨ha.1,fun q hq=>?_,J9 ha.2.2 hb fun x hx=>h x (amU _ hx)⟩;rcases amY.1 hq with hq|hq
  ·exact ha.2.1 q hq
  ·exact h p m5 q hq
theorem agr {d:au}{S:List au}(hS:bJ S)(h:∀ t,cF S t=true->d.lo<=t/\t<d.hi):∀ p∈S,d.lo<=p.lo/\p.hi<=d.hi:=by
 intro p hp;have hv:=hS.val p hp;have:=iY hv;have h1:=h p.lo ((du S _).2 ⟨p,hp,hv,m0,m0⟩);have h2:=h (p.hi-1) ((du S _).2 ⟨p,hp,hv,m0,m0⟩);omega
theorem ajp {d:au}{c:List au}(t:Int)(h:cF (wu [d] c) t=true):d.lo<=t/\t<d.hi:=by
 rw[(xI [d] c).2,amO]at h;obtain⟨p,hp,_,h1,h2⟩:=(du [d] t).1 h.1;rw[am'.1 hp]at h1 h2;exact⟨h1,h2⟩
theorem pq (c:List au):∀ {ds:List au},bJ ds->bJ (ds.flatMap fun d=>wu [d] c)/\(∀ t,cF (ds.flatMap fun d=>wu [d] c) t=(cF ds t&&cF c t)) /\ ∀ p∈ds.flatMap (fun d=>wu [d] c),∃ d∈ds,d.lo<=p.lo/\p.hi<=d.hi
 |[],_=>⟨t7,fun t=>by simp[cF],fun p hp=>by cases hp⟩
 |d::ds,h=>by
  obtain⟨h1,h2,h3⟩:=pq c h.2.2;have hd:=xI [d] c;have hin:=agr hd.1 fun t ht=>ajp t ht
  rw[am8];refine⟨J9 hd.1 h1 fun p hp q hq=>?_,fun t=>?_,fun p hp=>?_⟩
  ·have q1:=hin p hp
   obtain⟨e,he,q2,_⟩:=h3 q hq;have q3:=h.2.1 e he;omega
  ·rw[oz,hd.2,h2,mE d ds,mE d [],lu]
   cases (az d&&inP d t)<;>cases cF ds t<;>cases cF c t<;>rfl
  ·rcases amY.1 hp with hp|hp
   ·exact⟨d,m5,hin p hp⟩
   ·obtain⟨e,he,q⟩:=h3 p hp
    exact⟨e,amU _ he,q⟩
theorem K3 (c:List au){ds:List au}(h:bJ ds):(ds.flatMap fun d=>wu [d] c)=wu ds c :=
 iI (pq c h).1 (xI ds c).1 fun t=>by rw[(pq c h).2.1,(xI ds c).2]
def xR (t:bv)(row:List Val):List Val:=t.key.map (l5 row)
theorem ae7 (row:List Val)(k:List Int)(hk:k.length<=1000):Bc row k=some (k.map (l5 row)):=by
 unfold Bc;rw[amA (show(0:Int)<=((k.length:Nat):Int)by omega),amy,amA (show(32:Int)*((k.length:Nat):Int)<=281474976710656 by omega),amy,amA (show((k.length:Nat):Int)<=9223372036854775807 by omega),amy];rw[bA (l:=k) (fun i=>[l5 row i]) 4398046511104 ?_ ?_ (by unfold fuel;omega) [] (by rw[fo_];simp;omega)]
 ·rw[amv,fo_,amB];rfl
 ·intro s i x hx hs
  have hi:=(amw.1 hx).1;unfold rF;dsimp only;rw[aC hx,amy,gn_ hx,amv,show afu row x=some (l5 row x)from(show afu row x=gAt row x from rfl).trans (K2 row x),amv,amA (show s.length+1<=4398046511104 from hs),amy,wrapN m0]
 ·intro s
  unfold rF;dsimp only;rw[lF_,amx]
theorem ad_ (row:List Val)(k:List Int)(hk:k.length<=1000):yA row k=some (k.map (l5 row)):=by
 unfold yA;rw[bA (l:=k) (fun i=>[l5 row i]) 4398046511104 ?_ ?_ (by unfold fuel;omega) [] (by rw[fo_];simp;omega)]
 ·rw[amv,fo_,amB];rfl
 ·intro s i x hx hs
  have hi:=(amw.1 hx).1;unfold rc;dsimp only;rw[aC hx,amy,gn_ hx,amv,Oe row x,amv,amA (show s.length+1<=4398046511104 from hs),amy,wrapN m0]
 ·intro s
  unfold rc;dsimp only;rw[lF_,amx]
theorem Ic (t:bv)(row:List Val)(hk:t.key.length<=1000):EG t row=some (xR t row):=by unfold EG;rw[ae7 row _ hk];rfl
theorem Dp (t:bv)(row:List Val)(hk:t.key.length<=1000):vT t row=some (xR t row):=by unfold vT;rw[ad_ row _ hk];rfl
theorem FQ (t:bv)(row:List Val):(xR t row).length=t.key.length:=amI _
theorem ahy {row:List Val}(h:∀ v∈row,KD v)(i:Int):KD (l5 row i):=by
 have hn:KD gy:=⟨⟨by decide,by decide⟩,⟨by decide,by decide⟩,by decide⟩;unfold l5;split
 ·cases hx:row[i.toNat]? with
  |none=>exact hn
  |some v=>exact h v (amC hx)
 ·exact hn
theorem Gg (t:bv)(f:aw)(hk:t.key.length<=1000):td t f=dm (xR t f.row):=by unfold td;rw[Ic t _ hk];rfl
def j_ (t:bv)(l:List aw)(row:List Val):List au:=(l.filter fun f=>decide (xR t f.row=xR t row)).map (·.valid)
theorem ua (t:bv)(l:List aw)(row:List Val):(j_ t l row).length<=l.length:=by unfold j_;rw[amI];exact List.length_filter_le _ _
def Ap (t:bv)(l:List aw)(row:List Val):List au:=nM 2 (ip (ones (j_ t l row))) []
theorem NU (t:bv)(l:List aw)(f:aw)(hk:t.key.length<=1000):FO t l (td t f)=ones (j_ t l f.row):=by
 unfold FO ones j_;rw[List.map_map];have e:(l.filter fun g=>decide (td t g=td t f))=l.filter fun g=>decide (xR t g.row=xR t f.row):=by
  refine List.filter_congr fun g _=>?_
  rw[Gg t g hk,Gg t f hk];by_cases h:xR t g.row=xR t f.row
  ·rw[amA h,amA (by rw[h])]
  ·rw[amz h,amz fun e=>h (key_inj e)]
 rw[e];rfl
theorem GT (t:bv)(l:List aw)(f:aw)(hk:t.key.length<=1000):crV t l (td t f)=Ap t l f.row:=by unfold crV Ap;rw[NU t l f hk,aiA]
theorem E1 (cs:List ji):(ip cs).length<=1+2*cs.length:=by
 unfold ip;rw[amI];have:=St.tY (cs.map toC);simpa using this
theorem Au (t:bv)(l:List aw)(row:List Val):(Ap t l row).length<=1+2*l.length:=by
 have h1:=zR 2 (ip (ones (j_ t l row)));have h2:=E1 (ones (j_ t l row));have h3:=ua t l row;have h4:(ones (j_ t l row)).length=(j_ t l row).length:=amI _;show(nM 2 (ip (ones (j_ t l row))) []).length<=_;omega
theorem acm (t:bv)(l:List aw)(row:List Val)(hk:t.key.length<=1000)(hl:l.length<=300):u9 t l (xR t row)=some (j_ t l row):=by
 unfold u9;have hfm:∀ l:List aw,(l.flatMap fun f=>if xR t f.row=xR t row then [f.valid]else [])=j_ t l row:=by
  intro l
  induction l with
  |nil=>rfl
  |cons f l ih =>
   rw[am8,ih];unfold j_;by_cases h:xR t f.row=xR t row
   ·rw[if_pos h,List.filter_cons_of_pos (p:=fun g:aw=>decide (xR t g.row=xR t row)) (amA h)];rfl
   ·rw[if_neg h,List.filter_cons_of_neg (p:=fun g:aw=>decide (xR t g.row=xR t row)) (by simpa using h)];rfl
 have hpl:=ua t l row;rw[bA (l:=l) (fun f=>if xR t f.row=xR t row then [f.valid]else []) 8796093022208 ?_ ?_ (by unfold fuel;omega) [] (by rw[hfm];simp only[am1];omega)]
 ·rw[amv,hfm,amB];rfl
 ·intro s i x hx hs
  have hi:=(amw.1 hx).1;unfold q7;dsimp only;rw[aC hx,amy,gn_ hx,amv,Dp t _ hk,amv,ef _ _ (by rw[FQ];omega) (by rw[FQ];omega),amv];by_cases h:xR t x.row=xR t row
  ·rw[if_pos h]at hs ⊢
   rw[h,tCr_.refl,amA rfl,amy,amA (show s.length+1<=8796093022208 from hs),amy,wrapN m0]
  ·rw[if_neg h,amz (fun e=>h (tCr_.zero _ _ e)),amx,wrapN m0,am5]
 ·intro s
  unfold q7;dsimp only;rw[lF_,amx]
theorem IY (t:bv)(l:List aw)(row:List Val)(hk:t.key.length<=1000)(hl:l.length<=300):pX t l (xR t row)=some (Ap t l row):=by
 unfold pX;have hpl:=ua t l row;have ho:=E1 (ones (j_ t l row));have h4:(ones (j_ t l row)).length=(j_ t l row).length:=amI _;rw[acm t l row hk hl,amv];rw[bA (l:=j_ t l row) (fun p=>[(⟨p,1⟩:ji)]) 5864062014805 ?_ ?_ (by unfold fuel;omega) [] (by rw[fo_];simp;omega)]
 ·rw[amv,fo_,amB]
  show(IM (ones (j_ t l row))).bind _=_;unfold IM;rw[amA (show(ones (j_ t l row)).length<=100000 by omega),amy,amv];unfold rV;rw[amA (show(ip (ones (j_ t l row))).length<=100000 by omega),amy];rfl
 ·intro s i x hx hs
  have hi:=(amw.1 hx).1;unfold k8;dsimp only;rw[aC hx,amy,gn_ hx,amv,amA (show s.length+1<=5864062014805 from hs),amy,wrapN m0]
 ·intro s
  unfold k8;dsimp only;rw[lF_,amx]
theorem ac9 (a b:List au)(ha:a.length<=10000)(hb:b.length<=10000):IR a b=some (wu a b):=by
 unfold IR vA;rw[amA ha,amA hb];show some (fA (px 1) a b (iW a b) [])=_;rw[show px 1=(fun x y=>x&&y)from by funext x y;exact abZ x y];rfl
def gB (t:bv)(l:List aw)(r:List Val):List bD:=(wu (rk (aV l r)) (Ap t l r)).map fun p=>⟨2,t.nm,0,r,p⟩
theorem agB (t:bv)(l:List aw)(R:List (List Val))(hk:t.key.length<=1000):pa t.nm (ivV t l) (setOf l R)=R.flatMap (gB t l):=by
 unfold pa setOf;rw[List.flatMap_assoc];congr 1;funext r;rw[List.flatMap_map];unfold gB;rw[<- K3 (Ap t l r) (sG (aV l r)).1,List.map_flatMap];congr 1;funext d;show(kB (fun x y=>x&&y) [d] (crV t l (td t ⟨r,d⟩))).map (wc t.nm ⟨r,d⟩)=_;rw[GT t l ⟨r,d⟩ hk];rfl
theorem D7 (w:Bool->Bool->Bool)(a b:List au):∀ (ps:List Int) (out:List au),(fA w a b ps out).length<=out.length+ps.length
 |[],out=>by simp[fA]
 |[x],out=>by simp[fA]
 |x::y::r,out=>by
  have h:=Ho out x y;have ih:=D7 w a b (y::r) (if w (cF a x) (cF b x)then eI out x y else out);rw[fA];have:(if w (cF a x) (cF b x)then eI out x y else out).length<=out.length+1:=by split<;>omega
  simp only[amS]at ih ⊢;omega
theorem Jh (w:Bool->Bool->Bool)(a b:List au):(kB w a b).length<=2*(1+a.length+b.length):=by
 have h1:=D7 w a b (iW a b) [];have h2:=Bt (⟨0,1099511627776⟩::(a++b)) [];have h3:(iW a b).length=(ub (⟨0,1099511627776⟩::(a++b)) []).length:=rfl;simp only[am1,amS,amE]at h1 h2;show(fA w a b (iW a b) []).length<=_;omega
theorem Fz:∀ (R:List (List Val)) (l:List aw),R.Nodup->(R.flatMap (aV l)).length<=l.length
 |[],_,_=>by simp
 |r::R,l,h=>by
  obtain⟨h1,h2⟩:=List.nodup_cons.1 h;have ih:=Fz R (l.filter fun f => !decide (f.row=r)) h2;have e:R.flatMap (aV l)=R.flatMap (aV (l.filter fun f => !decide (f.row=r))):=by
   have key:∀ L:List (List Val),(∀ x∈L,x≠r)->L.flatMap (aV l)=L.flatMap (aV (l.filter fun f => !decide (f.row=r))):=by
    intro L
    induction L with
    |nil=>intro _;rfl
    |cons x L ihL =>
     intro hx;rw[am8,am8,ihL fun y hy=>hx y (amU _ hy)];congr 1;unfold aV;rw[List.filter_filter];congr 1;refine List.filter_congr fun f _=>?_
     by_cases hf:f.row=x
     ·rw[amA hf,amz (show ¬ f.row=r from fun e=>hx x m5 (hf▸e))];simp
     ·rw[amz hf];simp
   exact key R fun x hx e=>h1 (e▸hx)
  have hp:(aV l r).length<=(l.filter fun f=>decide (f.row=r)).length:=by
   unfold aV;rw[amI,<- List.filter_filter];exact List.length_filter_le _ _
  have hs:(l.filter fun f=>decide (f.row=r)).length+(l.filter fun f => !decide (f.row=r)).length=l.length:=by
   clear ih e hp
   induction l with
   |nil=>rfl
   |cons f l ihl =>
    by_cases hf:f.row=r
    ·simp[hf]at ihl ⊢;omega
    ·simp[hf]at ihl ⊢;omega
  rw[am8,amE,e];omega
theorem ql {R:List (List Val)}(h:um R):R.Nodup:=List.Pairwise.imp (fun {a b} hab e=>by rw[e,tCr_.refl]at hab;omega) h
theorem agl {l:List aw}{R:List (List Val)}(h:bY l R):∀ r∈R,1<=(aV l r).length:=by
 intro r hr;obtain⟨f,hf,hv,e⟩:=(h.2 r).1 hr;have:f.valid∈aV l r:=am6.2 ⟨f,List.mem_filter.2 ⟨hf,by rw[hv,amA e];rfl⟩,rfl⟩;exact List.length_pos_of_mem this
theorem zY {l:List aw}{R:List (List Val)}(h:bY l R):R.length<=l.length:=by
 refine Nat.le_trans ?_ (Fz R l (ql h.1));have key:∀ L:List (List Val),(∀ r∈L,1<=(aV l r).length)->L.length<=(L.flatMap (aV l)).length:=by
  intro L
  induction L with
  |nil=>intro _;simp
  |cons x L ih =>
   intro hx;have h1:=hx x m5;have h2:=ih fun y hy=>hx y (amU _ hy)
   rw[am8,amE,amS];omega
 exact key R (agl h)
theorem gw {l:List aw}{R:List (List Val)}(h:bY l R)(hl:l.length<=1000):(setOf l R).length<=3*l.length:=by
 have h1:=zY h;have h2:=Fz R l (ql h.1);have key:∀ L:List (List Val),(setOf l L).length<=L.length+2*(L.flatMap (aV l)).length:=by
  intro L
  induction L with
  |nil=>simp[setOf]
  |cons x L ih =>
   have q1:=tW (aV l x) (by have:=h_ l x;omega);have e:setOf l (x::L)=((rk (aV l x)).map fun p=>(⟨x,p⟩:aw))++setOf l L:=rfl;rw[e,amE,amI,am8,amE,amS];omega
 have:=key R;omega
theorem jz {l:List aw}{R:List (List Val)}(h:bY l R){f:aw}(hf:f∈setOf l R):f.row∈R /\ ∃ g∈l,az g.valid=true/\g.row=f.row:=by
 obtain⟨r,hr,hm⟩:=List.mem_flatMap.1 hf;obtain⟨p,_,rfl⟩:=am6.1 hm;exact⟨hr,(h.2 r).1 hr⟩
structure Nb (l:List aw):Prop where
 len:l.length<=14
 fct:∀ f∈l,f.row.length<=60 /\ ∀ v∈f.row,KD v
theorem EX (l:List aw)(h:Nb l):uS l/\(ci l).length<=19 :=
 ⟨⟨by have:=h.len;omega,fun f hf=>⟨by have:=(h.fct f hf).1;omega,(h.fct f hf).2⟩⟩,by have:=jQ l;have:=h.len;omega⟩
theorem yD (l:List aw)(h:Nb l):∃ R,bY l R/\xq l=some (setOf l R)/\uf l=some (setOf l R):=ahB l (EX l h).1 (EX l h).2
theorem ajn (t:bv)(l:List aw)(h:Nb l)(hk:t.key.length<=1000){R:List (List Val)}(hR:bY l R)(hS:xq l=some (setOf l R)):gUV t l=some (R.flatMap (gB t l)):=by
 have hl:=h.len;have hsl:=gw hR m0;have hrow:∀ f∈setOf l R,f.row.length<=60 /\ ∀ v∈f.row,KD v:=fun f hf=>by
  obtain⟨_,g,hg,_,e⟩:=jz hR hf;rw[<- e];exact h.fct g hg
 have hcw:=fun f:aw=>Au t l f.row
 have hu:akN t l (setOf l R):=by
  refine⟨m0,m0,fun f hf=>⟨_,Ic t f.row hk,by rw[FQ];exact hk,fun v hv=>?_⟩,fun f hf=>?_,fun f hf=>?_,fun f hf=>?_,fun f hf=>?_,fun f hf=>?_⟩
  ·obtain⟨i,_,rfl⟩:=am6.1 hv
   refine ahy ?_ i;rcases hf with hf|hf
   ·exact(h.fct f hf).2
   ·exact(hrow f hf).2
  ·obtain⟨_,g,hg,_,e⟩:=jz hR hf
   exact⟨g,hg,by rw[Gg t g hk,Gg t f hk,e]⟩
  ·rw[NU t l f hk]
   have h1:=E1 (ones (j_ t l f.row));have h2:=ua t l f.row;have h4:(ones (j_ t l f.row)).length=(j_ t l f.row).length:=amI _;omega
  ·rw[GT t l f hk]
   have:=hcw f;omega
  ·have h1:=Jh (fun x y=>x&&y) [f.valid] (crV t l (td t f))
   rw[GT t l f hk]at h1;have:=hcw f;show(kB (fun x y=>x&&y) [f.valid] (crV t l (td t f))).length<=1000;rw[GT t l f hk];simp only[amS,am1]at h1;omega
  ·have:=(hrow f hf).1;omega
 unfold gUV;rw[hS,amv,if_pos hu,agB t l R hk]
theorem aeq {l:List aw}:∀ {R:List (List Val)},R.Nodup ->∀ r∈R,((setOf l R).flatMap fun f=>if f.row=r then [f.valid]else [])=rk (aV l r)
 |[],_,r,hr=>by cases hr
 |x::R,h,r,hr=>by
  obtain⟨h1,h2⟩:=List.nodup_cons.1 h;have e:setOf l (x::R)=((rk (aV l x)).map fun p=>(⟨x,p⟩:aw))++setOf l R:=rfl;rw[e,List.flatMap_append,List.flatMap_map];have hno:∀ L:List (List Val),r∉L->((setOf l L).flatMap fun f=>if f.row=r then [f.valid]else [])=[]:=by
   intro L hL;rw[List.flatMap_eq_nil_iff];intro f hf;obtain⟨y,hy,hm⟩:=List.mem_flatMap.1 hf;obtain⟨p,_,rfl⟩:=am6.1 hm;exact if_neg (show ¬ y=r from fun e=>hL (e▸hy))
  by_cases hx:x=r
  ·subst hx
   rw[hno R h1,am5];show((rk (aV l x)).flatMap fun p=>if x=x then [p]else [])=_;simp only[if_true];rw[fo_];simp
  ·have e2:((rk (aV l x)).flatMap fun p=>if (⟨x,p⟩:aw).row=r then [(⟨x,p⟩:aw).valid]else [])=[]:=by
    rw[List.flatMap_eq_nil_iff];intro p _;exact if_neg hx
   have hr2:r∈R:=by
    rcases amN.1 hr with e|e
    ·exact absurd e.symm hx
    ·exact e
   rw[aeq h2 r hr2];show((rk (aV l x)).flatMap fun p=>if (⟨x,p⟩:aw).row=r then [(⟨x,p⟩:aw).valid]else [])++_=_;rw[e2,amB]
theorem su (t:bv)(l:List aw)(hl:l.length<=14)(r:List Val):(gB t l r).length<=200:=by
 unfold gB;rw[amI];have h1:=Jh (fun x y=>x&&y) (rk (aV l r)) (Ap t l r);have h2:=Au t l r;have h3:=h_ l r;have h4:=tW (aV l r) m0;show(kB (fun x y=>x&&y) (rk (aV l r)) (Ap t l r)).length<=200;omega
theorem acd (t:bv)(l:List aw)(h:Nb l)(hk:t.key.length<=1000){R:List (List Val)}(hR:bY l R)(hS:uf l=some (setOf l R)):u7 t l=some (R.flatMap (gB t l)):=by
 have hl:=h.len;have hsl:=gw hR m0;have hrl:=zY hR;obtain⟨R2,hr1,hr2⟩:=MQ l m0 fun f hf=>by have:=(h.fct f hf).1;omega
 rw[<- hR.ext hr2]at hr1;have hrow:∀ r∈R,r.length<=60:=fun r hr=>by
  obtain⟨f,hf,_,e⟩:=(hR.2 r).1 hr;rw[<- e];exact(h.fct f hf).1
 have htot:=jh (gB t l) 200 R fun r _=>su t l hl r
 unfold u7;rw[hS,amv,hr1,amv];rw[bA (l:=R) (gB t l) 1954687338268 ?_ ?_ (by unfold fuel;omega) [] (by simp only[am1];omega)]
 ·rw[amv,amB];rfl
 ·intro s i x hx hs
  have hi:=(amw.1 hx).1;have hxm:=amC hx;have hxl:=hrow x hxm;have hdur:=aeq (l:=l) (ql hR.1) x hxm;have hpo:=h_ l x;have hso:=tW (aV l x) m0;have hin:ap (ng (setOf l R) R (i:Int)) fuel ([],(0:Int))=some (.inl (rk (aV l x),(((setOf l R).length:Nat):Int))):=by
   rw[bA (l:=setOf l R) (fun f=>if f.row=x then [f.valid]else []) 8796093022208 ?_ ?_ (by unfold fuel;omega) [] (by rw[hdur];simp only[am1];omega)]
   ·rw[hdur];rfl
   ·intro s' j y hy hs'
    have hj:=(amw.1 hy).1;have hyl:=hrow y.row (jz hR (amC hy)).1;unfold ng;dsimp only;rw[aC hy,amy,gn_ hy,amv,gn_ hx,amv,ef _ _ m0 m0,amv];by_cases e:y.row=x
    ·rw[if_pos e]at hs' ⊢
     rw[e,tCr_.refl,amA rfl,amy,amA (show s'.length+1<=8796093022208 from hs'),amy,wrapN m0]
    ·rw[if_neg e,amz (fun q=>e (tCr_.zero _ _ q)),amx,wrapN m0,am5]
   ·intro s'
    unfold ng;dsimp only;rw[lF_,amx]
  have hcl:=Au t l x;have hrv:=su t l hl x;have hal:(wu (rk (aV l x)) (Ap t l x)).length<=200:=by unfold gB at hrv;rw[amI]at hrv;exact hrv
  unfold rr;dsimp only;rw[aC hx,amy,hin,amv];unfold rE;dsimp only;rw[gn_ hx,amv,Dp t x hk,amv,IY t l x hk m0,amv,ac9 _ _ m0 m0,amv];have hls:(gB t l x).length=(wu (rk (aV l x)) (Ap t l x)).length:=amI _;rw[bA (l:=wu (rk (aV l x)) (Ap t l x)) (fun p=>[(⟨2,t.nm,0,x,p⟩:bD)]) 1954687338268 ?_ ?_ (by unfold fuel;omega) s (by rw[fo_,amI];omega)]
  ·rw[amv,fo_]
   show some (Step.next (s++gB t l x,_))=_;rw[wrapN m0]
  ·intro s' j y hy hs'
   have hj:=(amw.1 hy).1;unfold qY;dsimp only;rw[aC hy,amy,gn_ hy,amv,amA (show s'.length+1<=1954687338268 from hs'),amy,wrapN m0]
  ·intro s'
   unfold qY;dsimp only;rw[lF_,amx]
 ·intro s
  unfold rr;dsimp only;rw[lF_,amx]
