/- Parts. No condition. -/
import Derived.Test.YtlcceppoloaecaaGreatDoorKBV
set_option maxHeartbeats 8000000
set_option maxRecDepth 100000
set_option linter.unusedSimpArgs false
set_option linter.unusedVariables false
namespace Go.Proofs.YtlcceppoloaecaaGreatDoor
open _root_.List (replicate)
open _root_.ByteArray (empty)
open IntKind (i64)
open Go.RowKit Go.MapKept
structure zD (a b:a6)(e:Ex):Prop where
 A:Oa a
 B:Oa b
 la:a.facts.length<=12
 lb:b.facts.length<=12
 ka:0<a.kinds.length
 kb:0<b.kinds.length
 kab:a.kinds.length+b.kinds.length<=48
 he:gD fuel e
 chk:sj e (a.kinds++b.kinds)=some 0
theorem Ed (r:a6):∀ (n:Nat) (i:Int) (q:Bool),ao (fg r) n i=some (.inr q)->q=false
 |0,i,q,h=>by cases h
 |n+1,i,q,h=>by
  rw[ao]at h
  cases hb:fg r i with
  |none=>rw[hb]at h;cases h
  |some s =>
   rw[hb]at h
   cases s with
   |next j=>exact Ed r n j q h
   |exit j=>cases h
   |ret q' =>
    obtain rfl:q'=q:=by injection h with h;injection h
    unfold fg at hb;dsimp only at hb
    cases h1:decide (i<((r.facts.length:Nat):Int))with
    |false=>rw[h1]at hb;cases hb
    |true =>
     rw[h1,aqa]at hb;obtain⟨x,_,hb⟩:=bd_ hb;obtain⟨v,_,hb⟩:=bd_ hb
     cases v with
     |false=>cases hb;rfl
     |true =>
      obtain⟨w,_,hb⟩:=bd_ hb
      cases w with
      |false=>cases hb;rfl
      |true=>cases hb
theorem BB {r:a6}(h:uO r=some true):0<r.kinds.length:=by
 unfold uO at h;obtain⟨s,h1,h2⟩:=bd_ h
 cases s with
 |inr q =>
  have:=Ed r fuel 0 q h1;subst this
  cases h2
 |inl i =>
  unfold nz at h2;dsimp only at h2;by_cases hk:0<r.kinds.length
  ·exact hk
  ·rw[aqb (show ¬ (0:Int)<((r.kinds.length:Nat):Int)by omega)]at h2;cases h2
theorem L9 {a b:a6}(h:a.kinds.length+b.kinds.length<=1000000):qV a b=some (a.kinds++b.kinds):=by
 unfold qV mJ;rw[aqc (show a.kinds.length<=17592186044416 by omega),aqc (show a.kinds.length+b.kinds.length<=17592186044416 by omega)];rfl
theorem iM (a b:a6)(e:Ex):∃ c,iR a b e=some c/\(c=true->zD a b e):=by
 unfold iR;by_cases h1:¬ (a.facts.length<=12)
 ·rw[aqc (show(12:Int)<((a.facts.length:Nat):Int)by omega)];exact⟨false,rfl,fun h=>by cases h⟩
 have h1:=Decidable.not_not.1 h1;rw[aqb (show ¬ (12:Int)<((a.facts.length:Nat):Int)by omega),ap'];by_cases h2:¬ (b.facts.length<=12)
 ·rw[aqc (show(12:Int)<((b.facts.length:Nat):Int)by omega)];exact⟨false,rfl,fun h=>by cases h⟩
 have h2:=Decidable.not_not.1 h2;rw[aqb (show ¬ (12:Int)<((b.facts.length:Nat):Int)by omega),ap'];by_cases h3:¬ (a.kinds.length<=48)
 ·rw[aqc (show(48:Int)<((a.kinds.length:Nat):Int)by omega)];exact⟨false,rfl,fun h=>by cases h⟩
 have h3:=Decidable.not_not.1 h3;rw[aqb (show ¬ (48:Int)<((a.kinds.length:Nat):Int)by omega),ap'];by_cases h4:¬ (b.kinds.length<=48)
 ·rw[aqc (show(48:Int)<((b.kinds.length:Nat):Int)by omega)];exact⟨false,rfl,fun h=>by cases h⟩
 have h4:=Decidable.not_not.1 h4;rw[aqb (show ¬ (48:Int)<((b.kinds.length:Nat):Int)by omega),ap',show i64.wrap (((a.kinds.length:Nat):Int)+((b.kinds.length:Nat):Int))=((a.kinds.length:Nat):Int)+((b.kinds.length:Nat):Int)from a7 rfl m0];by_cases h5:¬ (a.kinds.length+b.kinds.length<=48)
 ·rw[aqc (show(48:Int)<((a.kinds.length:Nat):Int)+((b.kinds.length:Nat):Int)by omega)];exact⟨false,rfl,fun h=>by cases h⟩
 have h5:=Decidable.not_not.1 h5;rw[aqb (show ¬ (48:Int)<((a.kinds.length:Nat):Int)+((b.kinds.length:Nat):Int)by omega),ap'];obtain⟨u,hu,TN⟩:=CB (r:=a) m0 h3;obtain⟨v,hv,TO⟩:=CB (r:=b) m0 h4;rw[hu,ap9]
 cases u with
 |false=>exact⟨false,rfl,fun h=>by cases h⟩
 |true =>
  rw[aqa,hv,ap9]
  cases v with
  |false=>exact⟨false,rfl,fun h=>by cases h⟩
  |true =>
   obtain⟨w,hw,Zd⟩:=aeg [e];rw[aqa,hw,ap9]
   cases w with
   |false=>exact⟨false,rfl,fun h=>by cases h⟩
   |true =>
    have he:=afN ((Zd rfl).2 e m5);obtain⟨n,hn⟩:=abx (a.kinds++b.kinds) he;rw[aqa,L9 m0,ap9,hn,ap9];refine⟨_,rfl,fun h=>?_⟩;have h0:=aqC h;subst h0;exact⟨⟨m0,h3,(TN rfl).1,(TN rfl).2.1,(TN rfl).2.2⟩,⟨m0,h4,(TO rfl).1,(TO rfl).2.1,(TO rfl).2.2⟩,h1,h2,BB hu,BB hv,h5,he,hn⟩
section
variable {a b:a6} {e:Ex}
theorem zD.part (h:zD a b e):xN a b e:=by
 have:=h.ka;have:=h.kb;have:=h.kab;have:=h.lb;exact⟨h.la,m0,fun f hf=>by rw[h.A.row f hf];omega,fun f hf=>by rw[h.B.row f hf];omega,h.A.per,h.he,m0,m0⟩
theorem zD.left (h:zD a b e):ag8 a b e:=⟨h.part,⟨h.kb,h.B.kinds⟩,h.lb⟩
theorem anl:VOK bJ:=⟨⟨by show(-9223372036854775808:Int)<=0;omega,by show(0:Int)<=9223372036854775807;omega⟩,⟨by show(-9223372036854775808:Int)<=0;omega,by show(0:Int)<=9223372036854775807;omega⟩,aqu _⟩
theorem fY (h:zD a b e):bz (qJ e a.facts b.facts):=by
 refine⟨by have:=qn e h.la h.lb;omega,fun f hf=>?_⟩;obtain⟨x,hx,y,hy,hr⟩:=akq hf;have h1:=h.A.fcts.2 x hx;have h2:=h.B.fcts.2 y hy;have:=h.A.row x hx;have:=h.B.row y hy;have:=h.kab;rw[hr];refine⟨by rw[aqg];omega,fun v hv=>?_⟩;rcases aqB.1 hv with hv|hv
 ·exact h1.2 v hv
 ·exact h2.2 v hv
theorem tf (h:zD a b e){n:Nat}(hn:n<=48):bz (j8 e n a.facts b.facts):=by
 refine⟨by have:=o5 e n h.la h.lb h.A.per;omega,fun f hf=>?_⟩;obtain⟨x,hx,hr⟩:=acV hf;have h1:=h.A.fcts.2 x hx;have:=h.A.row x hx;have:=h.kab;rw[hr];refine⟨by rw[aqg,List.length_replicate];omega,fun v hv=>?_⟩;rcases aqB.1 hv with hv|hv
 ·exact h1.2 v hv
 ·rw[List.eq_of_mem_replicate hv];exact anl
theorem Ar (h:zD a b e):bz (Ox e a.facts b.facts):=by
 refine⟨by have:=IE e h.la h.lb h.A.per;omega,fun f hf=>?_⟩;obtain⟨x,hx,hr⟩:=ajG hf;rw[hr];exact h.A.fcts.2 x hx
theorem ll (h:zD a b e):bz (qJ e a.facts b.facts++j8 e b.kinds.length a.facts b.facts):=by
 have h1:=fY h;have h2:=tf (n:=b.kinds.length) h h.B.kinds;refine⟨?_,fun f hf=>(aqB.1 hf).elim (h1.2 f) (h2.2 f)⟩;have:=qn e h.la h.lb;have:=o5 e b.kinds.length h.la h.lb h.A.per;rw[aqg];omega
theorem LP (h:zD a b e):bz (canon (qJ e a.facts b.facts)++j8 e b.kinds.length a.facts b.facts):=by
 have h1:=bH (fY h);have h2:=tf (n:=b.kinds.length) h h.B.kinds;refine⟨?_,fun f hf=>(aqB.1 hf).elim (h1.2 f) (h2.2 f)⟩;have:=qn e h.la h.lb;have:=o5 e b.kinds.length h.la h.lb h.A.per;have:=iU (fY h).1;rw[aqg];omega
theorem aal (h:zD a b e):canon (canon (qJ e a.facts b.facts)++j8 e b.kinds.length a.facts b.facts)=canon (qJ e a.facts b.facts++j8 e b.kinds.length a.facts b.facts):=by
 refine tq (LP h).1 (ll h).1 fun t=>?_
 rw[cZ,cZ];exact List.Perm.append_right _ (jD (fY h).1 t)
theorem sT (h:zD a b e):mU a b e=some ⟨a.kinds++b.kinds,canon (qJ e a.facts b.facts)⟩:=by
 unfold mU;rw[if_pos h.part,k6 (fY h)];rfl
theorem sS (h:zD a b e):nh a b e=some ⟨a.kinds++b.kinds,canon (qJ e a.facts b.facts++j8 e b.kinds.length a.facts b.facts)⟩:=by
 unfold nh;rw[if_pos h.left,k6 (fY h),ap9,if_pos (by have:=iU (fY h).1;have:=qn e h.la h.lb;omega),k6 (LP h),aal h];rfl
theorem Le {k:List Int}{l:List ap}(hk:k.length<=1000000)(h:bz l):wE k l=some ⟨k,canon l⟩:=by
 unfold wE;rw[aqc m0,aqa,k6 h];rfl
theorem Oc {l:List ax}{row:List Val}{body:(List ap×Int)->Option (Step (List ap×Int) a6)}(h1:∀ (s:List ap) (i:Nat) p,l[i]?=some p->s.length+1<=3518437208883->body (s,(i:Int))=some (.next (s++[⟨row,p⟩],((i+1:Nat):Int))))(h2:∀ s,body (s,((l.length:Nat):Int))=some (.exit (s,((l.length:Nat):Int))))(hl:l.length<=1000000)(s:List ap)(hs:s.length<=1000000):ao body fuel (s,(0:Int))=some (.inl (s++bN row l,((l.length:Nat):Int))):=by
 have Xg:l.flatMap (fun p=>[(⟨row,p⟩:ap)])=bN row l:=by
  unfold bN;clear h1 h2 hl;induction l with|nil=>rfl|cons p l ih=>rw[aqM,ih];rfl
 have YB:(bN row l).length=l.length:=by unfold bN;rw[aqk]
 rw[cu (l:=l) (fun p=>[(⟨row,p⟩:ap)]) 3518437208883 (fun s i p hp hs=>h1 s i p hp hs) h2 (by unfold fuel;omega) s (by rw[Xg,YB];omega),Xg]
theorem xG (h:zD a b e):pQ a b e=some ⟨a.kinds,canon (Ox e a.facts b.facts)⟩:=by
 unfold pQ adt;rw[if_pos h.part,ap9];have WR:(a.facts.map (da (cT e) b.facts)).length=a.facts.length:=aqk ..;have key:∀ (n i:Nat) (s:List ap),i<=a.facts.length->a.facts.length-i<n->s.length+100*(a.facts.length-i)<=100000->ao (i_ a (a.facts.map (da (cT e) b.facts))) n (s,(i:Int))=some (.inl (s++Ox e (a.facts.drop i) b.facts,((a.facts.length:Nat):Int))):=by
  intro n
  induction n with
  |zero=>intro i s _ hn _;omega
  |succ n ih =>
   intro i s hi hn hs;rw[ao];by_cases O0:i<a.facts.length
   ·obtain⟨x,hx⟩:=gol_ O0
    have U6:=aqe hx;have hd:a.facts.drop i=x::a.facts.drop (i+1):=by rw[aqF O0,(ap_.1 hx).2]
    have TV:=AQ (cT e) b.facts x;have VT:=Jg (c:=cT e) (b:=b.facts) (h.A.per x U6);have Wv:=h.lb;have hla:=h.la;have QP:(a.facts.map (da (cT e) b.facts))[i]?=some (da (cT e) b.facts x):=by rw[aqw,hx];rfl
    have hspan:v8 (da (cT e) b.facts x)=some (ER (cT e) b.facts x):=by
     unfold v8;rw[aqc m0,aqa,ajd (h.A.per x U6)]
    have hb:i_ a (a.facts.map (da (cT e) b.facts)) (s,(i:Int))=some (.next (s++seX e b.facts x,((i+1:Nat):Int))):=by
     unfold i_;dsimp only;rw[aO QP,aqa,gn_ QP,ap9,hspan,ap9,Oc (l:=ER (cT e) b.facts x) (row:=x.row) ?_ ?_ m0 s m0,ap9]
     ·show some (Step.next (_,i64.wrap ((i:Int)+1)))=_
      rw[wrapN m0];rfl
     ·intro s j p hp hs
      unfold sZ;dsimp only;have hj:=(ap_.1 hp).1;rw[aO hp,aqa,gn_ hp,ap9,gn_ hx,ap9,aqc hs,aqa,wrapN m0]
     ·intro s
      unfold sZ;dsimp only;rw[lF_];rfl
    rw[hb];show ao _ n (s++seX e b.facts x,((i+1:Nat):Int))=_;have hsx:(seX e b.facts x).length=(ER (cT e) b.facts x).length:=by unfold seX bN;rw[aqk]
    rw[ih (i+1) _ m0 m0 (by rw[aqg,hsx];omega),hd,aqA];rfl
   ·have:i=a.facts.length:=m0
    subst this;have hb:i_ a (a.facts.map (da (cT e) b.facts)) (s,((a.facts.length:Nat):Int))=some (.exit (s,((a.facts.length:Nat):Int))):=by
     unfold i_;dsimp only;rw[WR,lF_];rfl
    rw[hb,aq4];show some (Sum.inl (s,_))=some (Sum.inl (s++[],_));rw[aqI]
 have hla:=h.la;have:=key fuel 0 [] (aqu _) (by unfold fuel;omega) m8;rw[List.drop_zero,aqd]at this;rw[show((0:Int))=((0:Nat):Int)from rfl,this,ap9];show(wE a.kinds (Ox e a.facts b.facts)).bind _=_;rw[Le (by have:=h.A.kinds;omega) (Ar h)];rfl
theorem adH (x:List Val):x++replicate 0 bJ=x:=by simp
theorem yM (h:zD a b e):pq a b e=some ⟨a.kinds,canon (j8 e 0 a.facts b.facts)⟩:=by
 unfold pq acK;rw[if_pos h.part,ap9];have WR:(a.facts.map (gm (cT e) b.facts)).length=a.facts.length:=aqk ..;have key:∀ (n i:Nat) (s:List ap),i<=a.facts.length->a.facts.length-i<n->s.length+100*(a.facts.length-i)<=100000->ao (jd a (a.facts.map (gm (cT e) b.facts))) n (s,(i:Int))=some (.inl (s++j8 e 0 (a.facts.drop i) b.facts,((a.facts.length:Nat):Int))):=by
  intro n
  induction n with
  |zero=>intro i s _ hn _;omega
  |succ n ih =>
   intro i s hi hn hs;rw[ao];by_cases O0:i<a.facts.length
   ·obtain⟨x,hx⟩:=gol_ O0
    have U6:=aqe hx;have hd:a.facts.drop i=x::a.facts.drop (i+1):=by rw[aqF O0,(ap_.1 hx).2]
    have VT:=Af (c:=cT e) (b:=b.facts) (h.A.per x U6);have Wv:=h.lb;have hla:=h.la;have QP:(a.facts.map (gm (cT e) b.facts))[i]?=some (gm (cT e) b.facts x):=by rw[aqw,hx];rfl
    have hb:jd a (a.facts.map (gm (cT e) b.facts)) (s,(i:Int))=some (.next (s++alX e 0 b.facts x,((i+1:Nat):Int))):=by
     unfold jd;dsimp only;rw[aO QP,aqa,gn_ QP,ap9,Oc (l:=gm (cT e) b.facts x) (row:=x.row) ?_ ?_ m0 s m0,ap9]
     ·show some (Step.next (_,i64.wrap ((i:Int)+1)))=_
      rw[wrapN m0];unfold alX;rw[adH]
     ·intro s j p hp hs
      unfold s7;dsimp only;have hj:=(ap_.1 hp).1;rw[aO hp,aqa,gn_ hp,ap9,gn_ hx,ap9,aqc hs,aqa,wrapN m0]
     ·intro s
      unfold s7;dsimp only;rw[lF_];rfl
    rw[hb];show ao _ n (s++alX e 0 b.facts x,((i+1:Nat):Int))=_;have hsx:(alX e 0 b.facts x).length=(gm (cT e) b.facts x).length:=by unfold alX bN;rw[aqk]
    rw[ih (i+1) _ m0 m0 (by rw[aqg,hsx];omega),hd,aqA];rfl
   ·have:i=a.facts.length:=m0
    subst this;have hb:jd a (a.facts.map (gm (cT e) b.facts)) (s,((a.facts.length:Nat):Int))=some (.exit (s,((a.facts.length:Nat):Int))):=by
     unfold jd;dsimp only;rw[WR,lF_];rfl
    rw[hb,aq4];show some (Sum.inl (s,_))=some (Sum.inl (s++[],_));rw[aqI]
 have hla:=h.la;have:=key fuel 0 [] (aqu _) (by unfold fuel;omega) m8;rw[List.drop_zero,aqd]at this;rw[show((0:Int))=((0:Nat):Int)from rfl,this,ap9];show(wE a.kinds (j8 e 0 a.facts b.facts)).bind _=_;rw[Le (by have:=h.A.kinds;omega) (tf h m0)];rfl
end
theorem ii {x y:List Val}(h1:x.length+y.length<=1000000):gG x y=some (x++y):=by
 unfold gG;rw[aqc (show x.length<=4398046511104 by omega),aqc (show x.length+y.length<=4398046511104 by omega)];rfl
theorem un {n:Nat}(h1:n<=48):oT ((n:Nat):Int)=some (replicate n bJ):=by
 have key:∀ (m i:Nat),i<=n->n-i<m->ao (jo ((n:Nat):Int)) m (replicate i bJ,(i:Int))=some (.inl (replicate n bJ,((n:Nat):Int))):=by
  intro m
  induction m with
  |zero=>intro i _ h;omega
  |succ m ih =>
   intro i hi hn;rw[ao];by_cases O0:i<n
   ·have hb:jo ((n:Nat):Int) (replicate i bJ,(i:Int))=some (.next (replicate (i+1) bJ,((i+1:Nat):Int))):=by
     unfold jo;dsimp only;rw[aqc (show(i:Int)<((n:Nat):Int)by omega),aqa,aqc (show((n:Nat):Int)<=4096 by omega),aqa,bT,ap9,List.length_replicate,aqc (show i+1<=4398046511104 by omega),aqa,wrapN m0,List.replicate_succ']
    rw[hb];exact ih (i+1) m0 m0
   ·have:i=n:=m0
    subst this;have hb:jo ((i:Nat):Int) (replicate i bJ,(i:Int))=some (.exit (replicate i bJ,(i:Int))):=by
     unfold jo;dsimp only;rw[aqb (show ¬ ((i:Int)<((i:Nat):Int))by omega),ap']
    rw[hb]
 unfold oT;have:=key fuel 0 (aqu _) (by unfold fuel;omega);rw[show(replicate 0 bJ,((0:Nat):Int))=(([],(0:Int)):List Val×Int)from rfl]at this;rw[this];rfl
noncomputable section
def vY (Pm:Int)(Ph:ax)(PK:ax):Option (Bool):=(afb Ph PK).bind fun O7=>bif O7.2 then some (decide (O7.1=Pm))else
 some false
instance gHoldsP_ok {Pm : Int} {Ph : ax} {PK : ax} {r : Bool} : OkC (vY Pm Ph PK = some r) (PTz 45 [.one (.int .i64 Pm), .agg (aN Ph), .agg (aN PK)] (.val (.one (.bool r)))) := .mk fun H => by
 unfold vY at H;refine po_ Tryz.func45 Tryz.ntmps45 ?_;exact ay H
def nW (OW:(List ap))(Pm:Int)(P6:Int)(P7:ap):((List cz)×Int)->Option (Step ((List cz)×Int) ((List cz))):=fun s=>match s with
 |(QL,U7)=>bif (decide (U7<((OW.length:Nat):Int)))then(aF OW U7).bind fun Sl=>(vY Pm P7.valid Sl.valid).bind fun Q3=>bif Q3 then bif (decide (QL.length+1<=8796093022208))then(some (.next ((QL++[(⟨P6,U7⟩:cz)]),(i64.wrap (U7+(1:Int))))))else none else
 some (.next (QL,(i64.wrap (U7+(1:Int)))))else
 some (.exit (QL,U7))
def tt (P6:Int):Sum ((List cz)×Int) ((List cz))->Option (Step ((List cz)×Int) ((List cz)))
 |.inl (QL,U7)=>some (.next (QL,(i64.wrap (P6+(1:Int)))))
 |.inr q=>some (.ret q)
def nQ (OV:(List ap))(OW:(List ap))(Pm:Int):((List cz)×Int)->Option (Step ((List cz)×Int) ((List cz))):=fun s=>match s with
 |(OZ,P6)=>bif (decide (P6<((OV.length:Nat):Int)))then(aF OV P6).bind fun P7=>(ao (nW OW Pm P6 P7) fuel (OZ,(0:Int))).bind (tt P6)else
 some (.exit (OZ,P6))
def aeV:Sum ((List cz)×Int) ((List cz))->Option (((List cz)))
 |.inl (OZ,P6)=>some OZ
 |.inr q=>some q
def uM (OV:(List ap))(OW:(List ap))(Pm:Int):Option ((List cz)):=(ao (nQ OV OW Pm) fuel ([],(0:Int))).bind (aeV)
instance gMatch_ok {OV : (List ap)} {OW : (List ap)} {Pm : Int} {r : (List cz)} : OkC (uM OV OW Pm = some r) (PTz 14 [.one (.lst (OV.map aG)), .one (.lst (OW.map aG)), .one (.int .i64 Pm)] (.val (.one (.lst (r.map g9))))) := .mk fun H => by
 unfold uM at H;refine po_ Tryz.func14 Tryz.ntmps14 ?_;refine aY ?_;refine bU 7 2 rfl ?_;refine alM_ (fun s:(List cz)×Int=>match s with|(OZ,P6)=>[(1,.one (.c (.lst (OW.map aG)))),(2,.one (.c (.int .i64 Pm))),(7,.one (.own (OZ.map g9) 0)),(12,.one (.c (.lst (OV.map aG)))),(13,.one (.c (.int .i64 ((OV.length:Nat):Int)))),(14,.one (.c (.int .i64 P6)))]) (fun s=>match s with|(OZ,P6)=>[.spare OZ.length 2]) H (fun _=>aqu _)
  (fm_ bF [] rfl bn cm) ?_
 rintro⟨OZ,P6⟩ st3 PL TS;unfold nQ at PL;dsimp only at PL ⊢;rcases aj PL with⟨Qf,PL⟩|⟨Qf,PL⟩
 ·obtain⟨P7,SG,i1,R9,PL⟩:=bw (f:=aG) PL
  refine aY ?_;refine alM_ (fun s:(List cz)×Int=>match s with|(QL,U7)=>[(1,.one (.c (.lst (OW.map aG)))),(2,.one (.c (.int .i64 Pm))),(7,.one (.own (QL.map g9) 0)),(8,.one (.c (.int .i64 P6))),(9,.one (.ptr 1 0)),(12,.one (.c (.lst (OV.map aG)))),(13,.one (.c (.int .i64 ((OV.length:Nat):Int)))),(14,.one (.c (.int .i64 P6))),(19,.one (.c (.lst (OW.map aG)))),(20,.one (.c (.int .i64 ((OW.length:Nat):Int)))),(21,.one (.c (.int .i64 U7)))]) (fun s=>match s with|(QL,U7)=>[.spare QL.length 2,.box [.c (.lst (P7.row.map cV)),.c (.int .i64 P7.valid.lo),.c (.int .i64 P7.valid.hi)]]) PL (fun _=>aqu _)
   (fm_ bF [] rfl bn cm) ?_
  rintro⟨QL,U7⟩ st4 O9 hk4;unfold nW at O9;dsimp only at O9 ⊢;rcases aj O9 with⟨SH,O9⟩|⟨SH,O9⟩
  ·obtain⟨Sl,Wq,i2,Ws,O9⟩:=bw (f:=aG) O9
   obtain⟨Q3,c3,O9⟩:=bd_ O9;replace c3:=gHoldsP_ok c3;rcases aj O9 with⟨P_,O9⟩|⟨P_,O9⟩
   ·obtain⟨g4,O9⟩:=aK O9
    cases O9;refine aY ?_;exact⟨_,rfl,fm_ qI [_] oO bn cm⟩
   cases O9;refine aY ?_;exact⟨_,rfl,fm_ qI [_] oO bn cm⟩
  cases O9;have RH:tt P6 (.inl (QL,U7))=some _:=hk4;unfold tt at RH;dsimp only at RH
  cases RH;refine aY ?_;exact⟨_,rfl,fm_ qI [_] oO bn cm⟩
 exact br PL TS
def jg (OV:(List cz))(OW:(List cz)):(Int)->Option (Step (Int) (Bool)):=fun s=>match s with
 |i_2=>bif (decide (i_2<((OV.length:Nat):Int)))then(aF OV i_2).bind fun P7=>(aF OW i_2).bind fun P3=>bif (!(cg [.c (.int .i64 P7.a),.c (.int .i64 P7.b)] [.c (.int .i64 P3.a),.c (.int .i64 P3.b)]))then some (.ret false)else
 some (.next (i64.wrap (i_2+(1:Int))))else
 some (.exit i_2)
def afx:Sum (Int) (Bool)->Option ((Bool))
 |.inl i_2=>some true
 |.inr q=>some q
def yh (OV:(List cz))(OW:(List cz)):Option (Bool):=bif (decide (((OV.length:Nat):Int)≠((OW.length:Nat):Int)))then some false else
 (ao (jg OV OW) fuel (0:Int)).bind (afx)
instance gSameP_ok {OV : (List cz)} {OW : (List cz)} {r : Bool} : OkC (yh OV OW = some r) (PTz 11 [.one (.lst (OV.map g9)), .one (.lst (OW.map g9))] (.val (.one (.bool r)))) := .mk fun H => by
 unfold yh at H;refine po_ Tryz.func11 Tryz.ntmps11 ?_;rcases aj H with⟨Qv,H⟩|⟨Qv,H⟩
 ·exact ay H
 refine aY ?_;refine alM_ (fun s:Int=>match s with|i_2=>[(0,.one (.c (.lst (OV.map g9)))),(1,.one (.c (.lst (OW.map g9)))),(5,.one (.c (.int .i64 i_2)))]) (fun s=>match s with|i_2=>[]) H (fun _=>aqu _)
  (fm_ bF [] rfl bn trivial) ?_
 rintro i_2 st1 OU Py;unfold jg at OU;dsimp only at OU ⊢;rcases aj OU with⟨Qf,OU⟩|⟨Qf,OU⟩
 ·obtain⟨P7,SG,i1,R9,OU⟩:=bw (f:=g9) OU
  obtain⟨P3,Wq,i2,Ws,OU⟩:=bw (f:=g9) OU;rcases aj OU with⟨QT,OU⟩|⟨QT,OU⟩
  ·exact br OU Py
  cases OU;refine aY ?_;exact⟨_,rfl,fm_ bF [] rfl bn trivial⟩
 exact br OU Py
end
def adz (x y:ap):Bool:=iS x.valid y.valid
noncomputable section
def xa (OV:List ap)(OW:List ap):Option (List cz):=bif (decide (OV.length<=1000))&&decide (OW.length<=1000)then some (dW adz OW OV 0)else none
theorem abW {OV:List ap}{OW:List ap}{r:List cz}(H:xa OV OW=some r):PTz 12 [.one (.lst (OV.map aG)),.one (.lst (OW.map aG))] (.val (.one (.lst (r.map g9)))):=by
 unfold xa at H
 cases h:decide (OV.length<=1000)&&decide (OW.length<=1000)with
 |false=>rw[h]at H;cases H
 |true =>
  rw[h,aqa]at H
  cases H;rw[aqr]at h;exact Et OV OW (aqC h.1) (aqC h.2)
def Df (O2:(List Int)):((List Val)×Int)->Option (Step ((List Val)×Int) (ap)):=fun s=>match s with
 |(PP,i_2)=>bif (decide (i_2<((O2.length:Nat):Int)))then(aF O2 i_2).bind fun P7=>bif (decide (P7=(9:Int)))then bif (decide (PP.length+1<=4398046511104))then(some (.next ((PP++[(⟨(0:Int),(0:Int),empty⟩:Val)]),(i64.wrap (i_2+(1:Int))))))else none else
 bif (decide (PP.length+1<=4398046511104))then(some (.next ((PP++[(⟨(1:Int),P7,empty⟩:Val)]),(i64.wrap (i_2+(1:Int))))))else none else
 some (.exit (PP,i_2))
def aa5 (Rb:Int)(Un:Int):Sum ((List Val)×Int) (ap)->Option ((ap))
 |.inl (PP,i_2)=>some (⟨PP,(⟨Rb,Un⟩:ax)⟩:ap)
 |.inr q=>some q
def cF (Rb:Int)(Un:Int)(O2:(List Int)):Option (ap):=(ao (Df O2) fuel ([],(0:Int))).bind (aa5 Rb Un)
instance gFact24_ok {Rb : Int} {Un : Int} {O2 : (List Int)} {r : ap} : OkC (cF Rb Un O2 = some r) (PTz 36 [.one (.int .i64 Rb), .one (.int .i64 Un), .one (.lst (O2.map (fun x => [AC.int .i64 x])))] (.val (.agg (aG r)))) := .mk fun H => by
 unfold cF at H;refine po_ Tryz.func36 Tryz.ntmps36 ?_;refine aY ?_;refine yJ 1 0 3 rfl rfl ?_;refine alM_ (fun s:(List Val)×Int=>match s with|(PP,i_2)=>[(2,.one (.c (.lst (O2.map (fun x=>[AC.int .i64 x]))))),(6,.one (.ptr 0 0)),(7,.one (.ptr 1 0)),(8,.one (.c (.int .i64 i_2)))]) (fun s=>match s with|(PP,i_2)=>[.box [.emp,.c (.int .i64 (0:Int)),.c (.int .i64 (0:Int))],.box [.own (PP.map cV) 2,.c (.int .i64 Rb),.c (.int .i64 Un)],.spare PP.length 3]) H (fun _=>aqu _)
  (fm_ bF [] rfl bn cm) ?_
 rintro⟨PP,i_2⟩ st1 OU Py;unfold Df at OU;dsimp only at OU ⊢;rcases aj OU with⟨Qf,OU⟩|⟨Qf,OU⟩
 ·obtain⟨P7,SG,i1,R9,OU⟩:=bw (f:=(fun x=>[AC.int .i64 x])) OU
  rcases aj OU with⟨Q6,OU⟩|⟨Q6,OU⟩
  ·obtain⟨g2,OU⟩:=aK OU
   cases OU;refine aY ?_;exact⟨_,rfl,fm_ bF [] oO bn cm⟩
  obtain⟨g3,OU⟩:=aK OU
  cases OU;refine aY ?_;exact⟨_,rfl,fm_ bF [] oO bn cm⟩
 exact br OU Py
def Jl:Option (Bool):=(cF (0:Int) (6:Int) [(1:Int)]).bind fun O7=>(cF (3:Int) (9:Int) [(2:Int)]).bind fun Qd=>(cF (4:Int) (8:Int) [(1:Int)]).bind fun PT=>(cF (5:Int) (7:Int) [(1:Int)]).bind fun Qp=>(mU (⟨[(1:Int)],[O7,Qd]⟩:a6) (⟨[(1:Int)],[PT,Qp]⟩:a6) (Ex.mk (7:Int) (0:Int) (⟨(0:Int),(0:Int),empty⟩:Val) empty [(Ex.mk (2:Int) (0:Int) (⟨(0:Int),(0:Int),empty⟩:Val) empty []),(Ex.mk (2:Int) (1:Int) (⟨(0:Int),(0:Int),empty⟩:Val) empty [])])).bind fun P2=>(cF (4:Int) (6:Int) [(1:Int),(1:Int)]).bind fun Qc=>(cF (5:Int) (6:Int) [(1:Int),(1:Int)]).bind fun QV=>(gl P2.facts [Qc,QV]).bind fun Sz=>bif Sz then(nh (⟨[(1:Int)],[O7,Qd]⟩:a6) (⟨[(1:Int)],[PT,Qp]⟩:a6) (Ex.mk (7:Int) (0:Int) (⟨(0:Int),(0:Int),empty⟩:Val) empty [(Ex.mk (2:Int) (0:Int) (⟨(0:Int),(0:Int),empty⟩:Val) empty []),(Ex.mk (2:Int) (1:Int) (⟨(0:Int),(0:Int),empty⟩:Val) empty [])])).bind fun Qr=>(cF (0:Int) (4:Int) [(1:Int),(9:Int)]).bind fun Qh=>(cF (3:Int) (9:Int) [(2:Int),(9:Int)]).bind fun PM=>(gl Qr.facts [Qh,Qc,QV,PM]).bind fun Ql=>bif Ql then(pQ (⟨[(1:Int)],[O7,Qd]⟩:a6) (⟨[(1:Int)],[PT,Qp]⟩:a6) (Ex.mk (7:Int) (0:Int) (⟨(0:Int),(0:Int),empty⟩:Val) empty [(Ex.mk (2:Int) (0:Int) (⟨(0:Int),(0:Int),empty⟩:Val) empty []),(Ex.mk (2:Int) (1:Int) (⟨(0:Int),(0:Int),empty⟩:Val) empty [])])).bind fun RE=>(cF (4:Int) (6:Int) [(1:Int)]).bind fun RJ=>(gl RE.facts [RJ]).bind fun QJ=>bif QJ then(pq (⟨[(1:Int)],[O7,Qd]⟩:a6) (⟨[(1:Int)],[PT,Qp]⟩:a6) (Ex.mk (7:Int) (0:Int) (⟨(0:Int),(0:Int),empty⟩:Val) empty [(Ex.mk (2:Int) (0:Int) (⟨(0:Int),(0:Int),empty⟩:Val) empty []),(Ex.mk (2:Int) (1:Int) (⟨(0:Int),(0:Int),empty⟩:Val) empty [])])).bind fun RF=>(cF (0:Int) (4:Int) [(1:Int)]).bind fun Q8=>(gl RF.facts [Q8,Qd]).bind fun Q9=>bif Q9 then(xa [O7,Qd] [PT,Qp]).bind fun SN=>bif (decide (((SN.length:Nat):Int)=(4:Int)))then(uM [O7,Qd] [PT,Qp] (8:Int)).bind fun TM=>(yh TM [(⟨(1:Int),(0:Int)⟩:cz),(⟨(1:Int),(1:Int)⟩:cz)]).bind fun Yb=>some Yb else
 some false else
 some false else
 some false else
 some false else
 some false
instance gAwake_ok {r : Bool} : OkC (Jl = some r) (PTz 10 [] (.val (.one (.bool r)))) := .mk fun H => by
 unfold Jl at H;refine po_ Tryz.func10 Tryz.ntmps10 ?_;obtain⟨O7,c1,H⟩:=bd_ H;replace c1:=gFact24_ok c1
 try simp only[aql,aqj,aqn,aqd,aC]at c1
 obtain⟨Qd,c2,H⟩:=bd_ H;replace c2:=gFact24_ok c2
 try simp only[aql,aqj,aqn,aqd,aC]at c2
 obtain⟨PT,c3,H⟩:=bd_ H;replace c3:=gFact24_ok c3
 try simp only[aql,aqj,aqn,aqd,aC]at c3
 obtain⟨Qp,c4,H⟩:=bd_ H;replace c4:=gFact24_ok c4
 try simp only[aql,aqj,aqn,aqd,aC]at c4
 obtain⟨P2,c5,H⟩:=bd_ H;replace c5:=sq c5
 try simp only[aql,aqj,aqn,aqd,aC]at c5
 obtain⟨Qc,c6,H⟩:=bd_ H;replace c6:=gFact24_ok c6
 try simp only[aql,aqj,aqn,aqd,aC]at c6
 obtain⟨QV,c7,H⟩:=bd_ H;replace c7:=gFact24_ok c7
 try simp only[aql,aqj,aqn,aqd,aC]at c7
 obtain⟨Sz,c8,H⟩:=bd_ H;replace c8:=gIdent_ok c8
 try simp only[aql,aqj,aqn,aqd,aC]at c8
 rcases aj H with⟨S_,H⟩|⟨S_,H⟩
 ·obtain⟨Qr,c9,H⟩:=bd_ H
  replace c9:=tc c9
  try simp only[aql,aqj,aqn,aqd,aC]at c9
  obtain⟨Qh,YE,H⟩:=bd_ H;replace YE:=gFact24_ok YE
  try simp only[aql,aqj,aqn,aqd,aC]at YE
  obtain⟨PM,WH,H⟩:=bd_ H;replace WH:=gFact24_ok WH
  try simp only[aql,aqj,aqn,aqd,aC]at WH
  obtain⟨Ql,Wu,H⟩:=bd_ H;replace Wu:=gIdent_ok Wu
  try simp only[aql,aqj,aqn,aqd,aC]at Wu
  rcases aj H with⟨Qk,H⟩|⟨Qk,H⟩
  ·obtain⟨RE,TU,H⟩:=bd_ H
   replace TU:=gSemiT_ok TU
   try simp only[aql,aqj,aqn,aqd,aC]at TU
   obtain⟨RJ,UN,H⟩:=bd_ H;replace UN:=gFact24_ok UN
   try simp only[aql,aqj,aqn,aqd,aC]at UN
   obtain⟨QJ,YF,H⟩:=bd_ H;replace YF:=gIdent_ok YF
   try simp only[aql,aqj,aqn,aqd,aC]at YF
   rcases aj H with⟨QU,H⟩|⟨QU,H⟩
   ·obtain⟨RF,c16,H⟩:=bd_ H
    replace c16:=gAntiT_ok c16
    try simp only[aql,aqj,aqn,aqd,aC]at c16
    obtain⟨Q8,YG,H⟩:=bd_ H;replace YG:=gFact24_ok YG
    try simp only[aql,aqj,aqn,aqd,aC]at YG
    obtain⟨Q9,YH,H⟩:=bd_ H;replace YH:=gIdent_ok YH
    try simp only[aql,aqj,aqn,aqd,aC]at YH
    rcases aj H with⟨Uk,H⟩|⟨Uk,H⟩
    ·obtain⟨SN,c19,H⟩:=bd_ H
     replace c19:=abW c19
     try simp only[aql,aqj,aqn,aqd,aC]at c19
     exact ay H
    exact ay H
   exact ay H
  exact ay H
 exact ay H
end
def aA:a6:=⟨[1],[(⟨[⟨1,1,empty⟩],⟨0,6⟩⟩:ap),(⟨[⟨1,2,empty⟩],⟨3,9⟩⟩:ap)]⟩
def aB:a6:=⟨[1],[(⟨[⟨1,1,empty⟩],⟨4,8⟩⟩:ap),(⟨[⟨1,1,empty⟩],⟨5,7⟩⟩:ap)]⟩
def aE:Ex:=Ex.mk 7 0 ⟨0,0,empty⟩ empty [Ex.mk 2 0 ⟨0,0,empty⟩ empty [],Ex.mk 2 1 ⟨0,0,empty⟩ empty []]
theorem aJ:zD aA aB aE:=by
 obtain⟨c,hc,Qu⟩:=iM aA aB aE;have h:iR aA aB aE=some true:=k7
 rw[h]at hc;cases hc;exact Qu rfl
def ahE (l:List ap)(R:List (List Val)):Bool:=(l.all fun f => !aq f.valid||R.any fun r=>decide (f.row=r))&&R.all fun r=>l.any fun f=>aq f.valid&&decide (f.row=r)
theorem ak1 {l X:List ap}(R:List (List Val))(h1:qO R)(h2:ahE l R=true)(h3:dw l R=X):canon l=X:=by
 rw[<- h3];unfold ahE at h2;rw[aqr]at h2;refine(wl ⟨h1,fun x=>⟨fun hx=>?_,fun⟨f,hf,hv,hr⟩=>?_⟩⟩).symm
 ·obtain⟨f,hf,hc⟩:=List.any_eq_true.1 (aqY.1 h2.2 x hx)
  rw[aqr]at hc;exact⟨f,hf,hc.1,aqC hc.2⟩
 ·have:=aqY.1 h2.1 f hf
  rw[hv,Bool.not_true,Bool.false_or]at this;obtain⟨r,SE,hc⟩:=List.any_eq_true.1 this;rw[<- hr,aqC hc];exact SE
theorem aJc:canon (qJ aE aA.facts aB.facts)=[(⟨[⟨1,1,empty⟩,⟨1,1,empty⟩],⟨4,6⟩⟩:ap),(⟨[⟨1,1,empty⟩,⟨1,1,empty⟩],⟨5,6⟩⟩:ap)]:=ak1 [[⟨1,1,empty⟩,⟨1,1,empty⟩]] (by unfold qO;decide +kernel) k7 k7
theorem aLc:canon (qJ aE aA.facts aB.facts++j8 aE aB.kinds.length aA.facts aB.facts)=[(⟨[⟨1,1,empty⟩,bJ],⟨0,4⟩⟩:ap),(⟨[⟨1,1,empty⟩,⟨1,1,empty⟩],⟨4,6⟩⟩:ap),(⟨[⟨1,1,empty⟩,⟨1,1,empty⟩],⟨5,6⟩⟩:ap),(⟨[⟨1,2,empty⟩,bJ],⟨3,9⟩⟩:ap)]:=ak1 [[⟨1,1,empty⟩,bJ],[⟨1,1,empty⟩,⟨1,1,empty⟩],[⟨1,2,empty⟩,bJ]] (by unfold qO;decide +kernel) k7 k7
theorem aSc:canon (Ox aE aA.facts aB.facts)=[(⟨[⟨1,1,empty⟩],⟨4,6⟩⟩:ap)]:=ak1 [[⟨1,1,empty⟩]] (by unfold qO;decide +kernel) k7 k7
theorem aTc:canon (j8 aE 0 aA.facts aB.facts)=[(⟨[⟨1,1,empty⟩],⟨0,4⟩⟩:ap),(⟨[⟨1,2,empty⟩],⟨3,9⟩⟩:ap)]:=ak1 [[⟨1,1,empty⟩],[⟨1,2,empty⟩]] (by unfold qO;decide +kernel) k7 k7
theorem aF0:cF 0 6 [1]=some (⟨[⟨1,1,empty⟩],⟨0,6⟩⟩:ap):=k7
theorem aF1:cF 3 9 [2]=some (⟨[⟨1,2,empty⟩],⟨3,9⟩⟩:ap):=k7
theorem aF2:cF 4 8 [1]=some (⟨[⟨1,1,empty⟩],⟨4,8⟩⟩:ap):=k7
theorem aF3:cF 5 7 [1]=some (⟨[⟨1,1,empty⟩],⟨5,7⟩⟩:ap):=k7
theorem aF4:cF 4 6 [1,1]=some (⟨[⟨1,1,empty⟩,⟨1,1,empty⟩],⟨4,6⟩⟩:ap):=k7
theorem aF5:cF 5 6 [1,1]=some (⟨[⟨1,1,empty⟩,⟨1,1,empty⟩],⟨5,6⟩⟩:ap):=k7
theorem aF6:cF 0 4 [1,9]=some (⟨[⟨1,1,empty⟩,bJ],⟨0,4⟩⟩:ap):=k7
theorem aF7:cF 3 9 [2,9]=some (⟨[⟨1,2,empty⟩,bJ],⟨3,9⟩⟩:ap):=k7
theorem aF8:cF 4 6 [1]=some (⟨[⟨1,1,empty⟩],⟨4,6⟩⟩:ap):=k7
theorem aF9:cF 0 4 [1]=some (⟨[⟨1,1,empty⟩],⟨0,4⟩⟩:ap):=k7
theorem aJi:gl [(⟨[⟨1,1,empty⟩,⟨1,1,empty⟩],⟨4,6⟩⟩:ap),(⟨[⟨1,1,empty⟩,⟨1,1,empty⟩],⟨5,6⟩⟩:ap)] [(⟨[⟨1,1,empty⟩,⟨1,1,empty⟩],⟨4,6⟩⟩:ap),(⟨[⟨1,1,empty⟩,⟨1,1,empty⟩],⟨5,6⟩⟩:ap)]=some true:=k7
theorem aLi:gl [(⟨[⟨1,1,empty⟩,bJ],⟨0,4⟩⟩:ap),(⟨[⟨1,1,empty⟩,⟨1,1,empty⟩],⟨4,6⟩⟩:ap),(⟨[⟨1,1,empty⟩,⟨1,1,empty⟩],⟨5,6⟩⟩:ap),(⟨[⟨1,2,empty⟩,bJ],⟨3,9⟩⟩:ap)] [(⟨[⟨1,1,empty⟩,bJ],⟨0,4⟩⟩:ap),(⟨[⟨1,1,empty⟩,⟨1,1,empty⟩],⟨4,6⟩⟩:ap),(⟨[⟨1,1,empty⟩,⟨1,1,empty⟩],⟨5,6⟩⟩:ap),(⟨[⟨1,2,empty⟩,bJ],⟨3,9⟩⟩:ap)]=some true:=k7
theorem aSi:gl [(⟨[⟨1,1,empty⟩],⟨4,6⟩⟩:ap)] [(⟨[⟨1,1,empty⟩],⟨4,6⟩⟩:ap)]=some true:=k7
theorem aTi:gl [(⟨[⟨1,1,empty⟩],⟨0,4⟩⟩:ap),(⟨[⟨1,2,empty⟩],⟨3,9⟩⟩:ap)] [(⟨[⟨1,1,empty⟩],⟨0,4⟩⟩:ap),(⟨[⟨1,2,empty⟩],⟨3,9⟩⟩:ap)]=some true:=k7
theorem aPs:xa aA.facts aB.facts=some [⟨0,0⟩,⟨0,1⟩,⟨1,0⟩,⟨1,1⟩]:=k7
theorem aMt:uM aA.facts aB.facts 8=some [⟨1,0⟩,⟨1,1⟩]:=k7
theorem aSm:yh [⟨1,0⟩,⟨1,1⟩] [⟨1,0⟩,⟨1,1⟩]=some true:=k7
theorem aJe:mU aA aB aE=some ⟨[1,1],[(⟨[⟨1,1,empty⟩,⟨1,1,empty⟩],⟨4,6⟩⟩:ap),(⟨[⟨1,1,empty⟩,⟨1,1,empty⟩],⟨5,6⟩⟩:ap)]⟩:=by rw[sT aJ,aJc];rfl
theorem aLe:nh aA aB aE=some ⟨[1,1],[(⟨[⟨1,1,empty⟩,bJ],⟨0,4⟩⟩:ap),(⟨[⟨1,1,empty⟩,⟨1,1,empty⟩],⟨4,6⟩⟩:ap),(⟨[⟨1,1,empty⟩,⟨1,1,empty⟩],⟨5,6⟩⟩:ap),(⟨[⟨1,2,empty⟩,bJ],⟨3,9⟩⟩:ap)]⟩:=by rw[sS aJ,aLc];rfl
theorem aSe:pQ aA aB aE=some ⟨[1],[(⟨[⟨1,1,empty⟩],⟨4,6⟩⟩:ap)]⟩:=by rw[xG aJ,aSc];rfl
theorem aTe:pq aA aB aE=some ⟨[1],[(⟨[⟨1,1,empty⟩],⟨0,4⟩⟩:ap),(⟨[⟨1,2,empty⟩],⟨3,9⟩⟩:ap)]⟩:=by rw[yM aJ,aTc];rfl
theorem LI:Jl=some true:=by
 unfold Jl;rw[aF0,ap9,aF1,ap9,aF2,ap9,aF3,ap9];change (mU aA aB aE).bind _=_;rw[aJe,ap9,aF4,ap9,aF5,ap9,aJi,ap9,aqa];change (nh aA aB aE).bind _=_;rw[aLe,ap9,aF6,ap9,aF7,ap9,aLi,ap9,aqa];change (pQ aA aB aE).bind _=_;rw[aSe,ap9,aF8,ap9,aSi,ap9,aqa];change (pq aA aB aE).bind _=_;rw[aTe,ap9,aF9,ap9,aTi,ap9,aqa];change (xa aA.facts aB.facts).bind _=_;rw[aPs,ap9];rw[show decide (((([⟨0,0⟩,⟨0,1⟩,⟨1,0⟩,⟨1,1⟩]:List cz).length:Nat):Int)=(4:Int))=true from rfl,aqa];change (uM aA.facts aB.facts 8).bind _=_;rw[aMt,ap9,aSm];rfl
theorem Aw.awake_pure:PTz 10 [] (.val (.one (.bool true))):=gAwake_ok LI
noncomputable section
def jr (OW:a6)(P2:a6):((List ap)×Int)->Option (Step ((List ap)×Int) (Bool)):=fun s=>match s with
 |(Qi,V2)=>bif (decide (V2<((P2.facts.length:Nat):Int)))then(aF P2.facts V2).bind fun Rr=>(oT ((OW.kinds.length:Nat):Int)).bind fun Qh=>(gG Rr.row Qh).bind fun PM=>bif (decide (Qi.length+1<=3518437208883))then(some (.next ((Qi++[(⟨PM,Rr.valid⟩:ap)]),(i64.wrap (V2+(1:Int))))))else none else
 some (.exit (Qi,V2))
def jA (OV:a6)(OW:a6)(OX:Ex)(Qp:a6)(P2:a6):Sum ((List ap)×Int) (Bool)->Option ((Bool))
 |.inl (Qi,V2)=>bif (decide ((576:Int)<((Qi.length:Nat):Int)))then some false else
 (sQ (Qp.facts++P2.facts) OV.facts).bind fun QW=>bif QW then(nh OV OW OX).bind fun RJ=>(sQ Qi RJ.facts).bind fun QJ=>bif QJ then some (true)else
 some false else
 some false
 |.inr q=>some q
def pw (OV:a6)(OW:a6)(OX:Ex):Option (Bool):=(iR OV OW OX).bind fun O7=>bif (!O7)then some (true)else
 (pQ OV OW OX).bind fun Qp=>(pq OV OW OX).bind fun P2=>bif (decide (Qp.facts.length<=3518437208883))then(bif (decide (Qp.facts.length+P2.facts.length<=3518437208883))then((mU OV OW OX).bind fun Qc=>bif (decide (Qc.facts.length<=3518437208883))then((ao (jr OW P2) fuel (Qc.facts,(0:Int))).bind (jA OV OW OX Qp P2))else none)else none)else none
instance gLawHalves_ok {OV : a6} {OW : a6} {OX : Ex} {r : Bool} : OkC (pw OV OW OX = some r) (PTz 7 [.agg (aU OV), .agg (aU OW), .agg (tE OX)] (.val (.one (.bool r)))) := .mk fun H => by
 unfold pw at H;rw[aC OX];refine po_ Tryz.func7 Tryz.ntmps7 ?_;obtain⟨O7,c1,H⟩:=bd_ H;replace c1:=gJoins24_ok c1
 try simp only[aql,aqj,aqn,aqd,aC]at c1
 rcases aj H with⟨Qq,H⟩|⟨Qq,H⟩
 ·have XJ:=Aw.awake_pure
  try simp only[aql,aqj,aqn,aqd,aC]at XJ
  exact ay H
 obtain⟨Qp,c2,H⟩:=bd_ H;replace c2:=gSemiT_ok c2
 try simp only[aql,aqj,aqn,aqd,aC]at c2
 obtain⟨P2,c3,H⟩:=bd_ H;replace c3:=gAntiT_ok c3
 try simp only[aql,aqj,aqn,aqd,aC]at c3
 obtain⟨g4,H⟩:=aK H;obtain⟨g5,H⟩:=aK H;obtain⟨Qc,c6,H⟩:=bd_ H;replace c6:=sq c6
 try simp only[aql,aqj,aqn,aqd,aC]at c6
 obtain⟨g7,H⟩:=aK H;refine aY ?_;refine alM_ (fun s:(List ap)×Int=>match s with|(Qi,V2)=>[(3,.one (.ptr 0 0)),(4,.one (.ptr 1 0)),(5,.one (.ptr 2 0)),(8,.one (.c (.lst (P2.facts.map aG)))),(9,.one (.own ((Qp.facts++P2.facts).map aG) 3)),(10,.one (.own (Qi.map aG) 4)),(11,.one (.c (.int .i64 V2)))]) (fun s=>match s with|(Qi,V2)=>[.box [.c (.lst (OV.kinds.map (fun x=>[AC.int .i64 x]))),.c (.lst (OV.facts.map aG))],.box [.c (.lst (OW.kinds.map (fun x=>[AC.int .i64 x]))),.c (.lst (OW.facts.map aG))],.box [.c (.int .i64 OX.op),.c (.int .i64 OX.int),.c (.int .i64 OX.v.kind),.c (.int .i64 OX.v.int),.c (.str OX.v.text),.c (.str OX.nm),.c (.lst (OX.args.map tE))],.spare (Qp.facts.length+P2.facts.length) 3,.spare Qi.length 3]) H (fun _=>aqu _)
  (fm_ ⟨rfl,rfl,rfl,rfl,(by rw[aql];rfl),rfl,rfl,t7⟩ [] oO bn cm) ?_
 rintro⟨Qi,V2⟩ st1 OU Py;unfold jr at OU;dsimp only at OU ⊢;rcases aj OU with⟨S_,OU⟩|⟨S_,OU⟩
 ·exact ahl OU
 cases OU;have O3:jA OV OW OX Qp P2 (.inl (Qi,V2))=some _:=Py;unfold jA at O3;dsimp only at O3;rcases aj O3 with⟨Si,O3⟩|⟨Si,O3⟩
 ·exact ay O3
 obtain⟨QW,Wu,O3⟩:=bd_ O3;replace Wu:=gSame22_ok Wu;rcases aj O3 with⟨Q7,O3⟩|⟨Q7,O3⟩
 ·obtain⟨RJ,TU,O3⟩:=bd_ O3
  replace TU:=tc TU
  try simp only[aql,aqj,aqn,aqd,aC]at TU
  obtain⟨QJ,UN,O3⟩:=bd_ O3;replace UN:=gSame22_ok UN;rcases aj O3 with⟨QU,O3⟩|⟨QU,O3⟩
  ·have hc_19:=Aw.awake_pure
   try simp only[aql,aqj,aqn,aqd,aC]at hc_19
   exact ay O3
  exact ay O3
 exact ay O3
end
theorem F8 {a b:List ap}(ha:bz a)(hb:bz b)(h:canon a=canon b):sQ a b=some true:=by
 unfold sQ;rw[hZ ha,ap9,hZ hb,ap9,h,rJ (bH hb)];rfl
def abS (n:Nat)(f:ap):ap:=⟨f.row++replicate n bJ,f.valid⟩
theorem ahn (n:Nat)(t:Int):∀ l:List ap,aD (l.map (abS n)) t=(aD l t).map (· ++replicate n bJ)
 |[]=>rfl
 |f::l=>by
  have ih:=ahn n t l;unfold aD at ih ⊢;rw[aqj,List.filter_cons,List.filter_cons];show(if aL f.valid t=true then _ else _:List ap).map _=_
  cases aL f.valid t with
  |false=>simp only[Bool.false_eq_true,if_false];exact ih
  |true=>simp only[if_true];rw[aqj,aqj,aqj,ih];rfl
section
variable {a b:a6} {e:Ex}
theorem amv (h:zD a b e)(n:Nat)(t:Int):aD (j8 e n a.facts b.facts) t=(aD (j8 e 0 a.facts b.facts) t).map (· ++replicate n bJ):=by
 rw[Ji e n _ _ h.A.per,Ji e 0 _ _ h.A.per,List.map_flatMap];congr 1;funext r;split<;>simp
theorem zS (a b:a6)(e:Ex):pw a b e=some true:=by
 obtain⟨c,hc,Qu⟩:=iM a b e;unfold pw;rw[hc,ap9]
 cases c with
 |false=>rfl
 |true =>
  have h:=Qu rfl;have fj:=bH (fY h);have fa:=tf (n:=0) h m0;have fs:=Ar h;have lj:=qn e h.la h.lb;have la:=o5 e 0 h.la h.lb h.A.per;have ls:=IE e h.la h.lb h.A.per;have cj:=iU (fY h).1;have ca:=iU fa.1;have cs:=iU fs.1;have hla:=h.la;have hkab:=h.kab;rw[Bool.not_true,ap',xG h,ap9,yM h,ap9,sT h];dsimp only;rw[aqc m0,aqa,aqc m0,aqa,ap9];dsimp only;rw[aqc m0,aqa];have Xg:(canon (j8 e 0 a.facts b.facts)).flatMap (fun f=>[abS b.kinds.length f])=(canon (j8 e 0 a.facts b.facts)).map (abS b.kinds.length):=by
   generalize canon (j8 e 0 a.facts b.facts)=l
   induction l with|nil=>rfl|cons f l ih=>rw[aqM,ih];rfl
  have UK:∀ f∈canon (j8 e 0 a.facts b.facts),f.row.length=a.kinds.length:=fun f hf=>by
   obtain⟨_,g,hg,hr⟩:=th fa.1 hf;obtain⟨x,hx,SE⟩:=acV hg;rw[<- hr,SE,adH];exact h.A.row x hx
  rw[cu (l:=canon (j8 e 0 a.facts b.facts)) (fun f=>[abS b.kinds.length f]) 1000000 ?_ ?_ (by unfold fuel;omega) _ (by rw[Xg,aqk];omega),Xg,ap9]
  ·unfold jA
   dsimp only;have UG:(canon (qJ e a.facts b.facts)++(canon (j8 e 0 a.facts b.facts)).map (abS b.kinds.length)).length<=300:=by rw[aqg,aqk];omega
   have fl:bz (canon (qJ e a.facts b.facts)++(canon (j8 e 0 a.facts b.facts)).map (abS b.kinds.length)):=by
    refine⟨UG,fun f hf=>?_⟩;rcases aqB.1 hf with hf|hf
    ·exact fj.2 f hf
    ·obtain⟨g,hg,rfl⟩:=aqJ.1 hf
     have h1:=(bH fa).2 g hg;have h2:=UK g hg;refine⟨by show(g.row++replicate _ bJ).length<=_;rw[aqg,List.length_replicate];omega,fun v hv=>?_⟩;rcases aqB.1 hv with hv|hv
     ·exact h1.2 v hv
     ·rw[List.eq_of_mem_replicate hv];exact anl
   rw[aqb m0,ap'];have fsa:bz (canon (Ox e a.facts b.facts)++canon (j8 e 0 a.facts b.facts)):=by
    refine⟨by rw[aqg];omega,fun f hf=>?_⟩;rcases aqB.1 hf with hf|hf
    ·exact(bH fs).2 f hf
    ·exact(bH fa).2 f hf
   have p1:canon (canon (Ox e a.facts b.facts)++canon (j8 e 0 a.facts b.facts))=canon a.facts:=by
    refine tq fsa.1 h.A.fcts.1 fun t=>?_
    have hp:=afB e a.facts b.facts h.A.per t;rw[cZ]at hp ⊢;exact(List.Perm.append (jD fs.1 t) (jD fa.1 t)).trans hp
   rw[F8 fsa h.A.fcts p1,ap9,aqa,sS h,ap9];have p2:canon (canon (qJ e a.facts b.facts)++(canon (j8 e 0 a.facts b.facts)).map (abS b.kinds.length))=canon (canon (qJ e a.facts b.facts++j8 e b.kinds.length a.facts b.facts)):=by
    rw[zF (ll h).1];refine tq fl.1 (ll h).1 fun t=>?_
    rw[cZ,cZ,ahn,amv h b.kinds.length t];exact List.Perm.append (jD (fY h).1 t) ((jD fa.1 t).map _)
   rw[F8 fl (bH (ll h)) p2];rfl
  ·intro s i x hx hs
   have hi:=(ap_.1 hx).1;have hxk:=UK x (aqe hx);unfold jr;dsimp only;rw[aO hx,aqa,gn_ hx,ap9,un h.B.kinds,ap9,ii (by rw[List.length_replicate];omega),ap9,wrapN m0,aqc (show s.length+1<=3518437208883 by have:s.length+1<=1000000:=hs;omega)];rfl
  ·intro s
   unfold jr;dsimp only;rw[lF_];rfl
end
theorem yL {a b:a6}{e:Ex}(q0:kW a)(q1:kW b)(q2:wX e):PTz 7 [.agg (aU a),.agg (aU b),.agg (tE e)] (.val (.one (.bool true))):=gLawHalves_ok (zS a b e)
