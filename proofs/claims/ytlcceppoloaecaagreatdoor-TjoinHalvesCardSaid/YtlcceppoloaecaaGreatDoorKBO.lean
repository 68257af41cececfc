/- Parts. No condition. -/
import Derived.Test.YtlcceppoloaecaaGreatDoorKBM
import Derived.Test.YtlcceppoloaecaaGreatDoorKBN
import Derived.Test.YtlcceppoloaecaaGreatDoorKZA
set_option maxHeartbeats 8000000
set_option maxRecDepth 100000
set_option linter.unusedSimpArgs false
set_option linter.unusedVariables false
namespace Go.Proofs.YtlcceppoloaecaaGreatDoor.St
open IntKind (i64)
open Go.RowKit
theorem ofR_tree (l:List ((Int×Int)×Int))(hn:l.length<=100000):PTz 210 [.one (.lst (l.map cC))] (.val (.one (.lst ((KG l).map cP)))):=by
 refine⟨⟨_,Tryz.func210,k7,k7⟩,fun R w vs hR hs hv=>?_⟩;obtain⟨v,rfl⟩:=adC hs;obtain⟨A,c,rfl,ha⟩:=amu hR (hv 0 v _ rfl rfl);refine(of_ref A _ c l w ha hn).mono ?_;rintro e w' ⟨A',m',c',rfl,ho,hg⟩;exact⟨_,_,rfl,(nU hR hg).1,(nU hR hg).2,KL hR ho⟩
end Go.Proofs.YtlcceppoloaecaaGreatDoor.St
namespace Go.Proofs.YtlcceppoloaecaaGreatDoor
open IntKind (i64)
open Go.RowKit Go.MapKept
theorem ofR_pure (l:List yD)(hn:l.length<=100000):PTz 210 [.one (.lst (l.map Fh))] (.val (.one (.lst ((vm l).map kJ)))):=by
 have:=St.ofR_tree (l.map toC) (by simpa using hn);rw[ak']at this;unfold vm;rw[ajM];exact this
theorem ain (a b:ax):NZ a b=some (St.fL (toP a) (toP b)):=by
 obtain⟨al,ah⟩:=a;obtain⟨bl,bh⟩:=b;unfold NZ St.fL toP;simp only[cg,Bool.and_true,Prod.mk.injEq];by_cases h1:al=bl<;>by_cases h2:ah=bh<;>by_cases h3:al<bl<;>by_cases h4:ah<bh<;>simp[h1,h2,h3,h4]<;>omega
def tM9 (p:ax)(q:ax):Bool:=decide (St.fL (toP q) (toP p)<=0)
def lP (l:List ax)(p:ax):List ax:=l.takeWhile (tM9 p)++p::l.dropWhile (tM9 p)
theorem BJ (l:List ax)(p:ax)(hl:l.length<=1000000):∀ (n:Nat) (r d:List ax),l=d++r->r.length<n->ao (fJ l p) n (d,(d.length:Int))=some (.inl (d++r.takeWhile (tM9 p),((d.length+(r.takeWhile (tM9 p)).length:Nat):Int)))
 |0,_,_,_,h=>by omega
 |n+1,[],d,h,_=>by
  rw[aqI]at h;subst h;rw[ao,show fJ l p (l,(l.length:Int))=some (.exit (l,(l.length:Int)))by unfold fJ;simp only;rw[lF_];rfl];simp
 |n+1,x::r,d,h,hn=>by
  have hx:l[d.length]?=some x:=by rw[h];simp
  have hd:d.length<l.length:=(ap_.1 hx).1;rw[ao,show fJ l p (d,(d.length:Int))=bif tM9 p x then some (.next (d++[x],((d.length+1:Nat):Int)))else some (.exit (d,(d.length:Int)))by
   unfold fJ;simp only;rw[aO hx,aqa,gn_ hx,ap9,ain,ap9,aqc (show d.length+1<=8796093022208 by omega),aqa,wrapN m0];rfl]
  cases hx:tM9 p x with
  |false =>
   rw[List.takeWhile_cons_of_neg (by simp[hx])];simp
  |true =>
   have:=BJ l p hl n r (d++[x]) (by rw[h,aqA];rfl) (by simp at hn;omega);rw[aqg]at this;rw[List.takeWhile_cons_of_pos hx];show ao (fJ l p) n (d++[x],((d.length+1:Nat):Int))=_;rw[show d.length+1=d.length+[x].length from rfl,this,aqA];simp only[aqv,aqE,Nat.add_assoc,Nat.add_comm,aqR];rfl
theorem ab4 (l:List ax)(p:ax)(hl:l.length<=1000000):vO l p=some (lP l p):=by
 have h:=BJ l p hl fuel l [] rfl (by unfold fuel;omega);have e:l.takeWhile (tM9 p)++l.dropWhile (tM9 p)=l:=List.takeWhile_append_dropWhile;have hle:(l.takeWhile (tM9 p)).length+(l.dropWhile (tM9 p)).length=l.length:=by rw[<- aqg,e]
 rw[aqd,show([]:List ax).length+(l.takeWhile (tM9 p)).length=(l.takeWhile (tM9 p)).length by simp]at h;unfold vO;rw[show((0:Int))=((([]:List ax).length:Nat):Int)from rfl,h,ap9];unfold jf;simp only;have hd:l.drop (l.takeWhile (tM9 p)).length=l.dropWhile (tM9 p):=by
  have:=congrArg (List.drop (l.takeWhile (tM9 p)).length) e;rw[List.drop_left]at this;exact this.symm
 have hs:ga l (((l.takeWhile (tM9 p)).length:Nat):Int) ((l.length:Nat):Int)=some (l.dropWhile (tM9 p)):=by
  unfold ga;rw[if_pos ⟨m0,m0,Int.le_refl _⟩,Int.toNat_natCast,Int.toNat_natCast,List.take_length,hd]
 rw[aqc m0,aqa,hs,ap9,aqc m0,aqa,aqA];rfl
theorem Ey (l:List ax)(p:ax):(lP l p).length=l.length+1:=by
 have e:(l.takeWhile (tM9 p)).length+(l.dropWhile (tM9 p)).length=l.length:=by rw[<- aqg,List.takeWhile_append_dropWhile]
 unfold lP;simp;omega
theorem ab6 (l:List ax)(p:ax):(lP l p).map toP=St.gS (l.map toP) (toP p):=by
 unfold lP St.gS;rw[List.takeWhile_map,List.dropWhile_map,aql];rfl
theorem CH:∀ (X l:List ax),(X.foldl lP l).map toP=(X.map toP).foldl St.gS (l.map toP)
 |[],l=>rfl
 |x::X,l=>by rw[aqj,aqZ,aqZ,<- ab6];exact CH X _
theorem EB:∀ (X l:List ax),(X.foldl lP l).length=l.length+X.length
 |[],l=>rfl
 |x::X,l=>by rw[aqZ,EB X,Ey,aqv];omega
theorem acf (r:List ax)(hr:r.length<=1000):∀ (n i:Nat) (out:List ax),i<=r.length->r.length-i<n->out.length+(r.length-i)<=900000->ao (lu r) n (out,(i:Int))=some (.inl ((r.drop i).foldl lP out,((r.length:Nat):Int)))
 |0,i,out,_,h,_=>by omega
 |n+1,i,out,hi,hn,ho=>by
  rw[ao];by_cases O0:i<r.length
  ·obtain⟨x,hx⟩:=gol_ O0
   have hd:r.drop i=x::r.drop (i+1):=by rw[aqF O0,(ap_.1 hx).2]
   rw[show lu r (out,(i:Int))=some (.next (lP out x,((i+1:Nat):Int)))by
    unfold lu;simp only;rw[aO hx,aqa,gn_ hx,ap9,ab4 _ _ m0,ap9,wrapN m0],hd]
   exact acf r hr n (i+1) _ m0 m0 (by rw[Ey];omega)
  ·have:i=r.length:=m0
   subst this;rw[show lu r (out,((r.length:Nat):Int))=some (.exit (out,((r.length:Nat):Int)))by unfold lu;simp only;rw[lF_];rfl,aq4];rfl
theorem NG (l:List ax)(p:ax):(qD l p).map toP=St.eY (l.map toP) (toP p):=by
 unfold qD St.eY;rw[List.getLast?_map]
 cases l.getLast? with
 |none=>simp
 |some q =>
  show _=if p.lo<=q.hi then _ else _
  simp only;split
  ·rw[aql,List.map_dropLast];show _++[(q.lo,zb q.hi p.hi)]=_++[(q.lo,max q.hi p.hi)];rw[show zb q.hi p.hi=max q.hi p.hi by unfold zb;split<;>omega]
  ·simp
theorem acn (n:Int):∀ (l:List Stp) (out:List ax),(Fo n l out).map toP=(St.kC (l.map toS)).foldl (St.cE n) (out.map toP)
 |[],out=>rfl
 |[x],out=>by
  show(if n<=x.n then qD out ⟨x.lo,1099511627776⟩else out).map toP=if n<=x.n then _ else _
  split
  ·exact NG _ _
  ·rfl
 |x::y::r,out=>by
  show(Fo n (y::r) _).map toP=((St.kC ((y::r).map toS)).foldl (St.cE n) (if n<=x.n then _ else _));rw[acn n (y::r)];congr 1;split
  ·exact NG _ _
  ·rfl
theorem JC (n:Int)(l:List Stp):(Fo n l []).map toP=St.DI (l.map toS) n:=acn n l []
theorem B6 {n:Int}{l:List Stp}:Fo n l []=[] ↔ ∀ s∈l,s.n<n:=by
 rw[<- List.map_eq_nil_iff (f:=toP),JC,St.AK];simp[toS]
theorem agY (n:Int)(l:List Stp):(Fo n l []).length<=l.length:=by
 have:=St.acg (l.map toS) n;rw[<- JC]at this;simpa using this
theorem N3 (l:List Stp)(hl:l.length<=1000)(hM:∀ s∈l,s.n<=600):∀ (d k n:Nat) (out:List ax),k+d=600->d<n->out.length<=k*1000 ->
  (ao (ld l) n (out,((k:Nat):Int)+1)).bind oM=some (((List.range' k d).flatMap fun j:Nat=>Fo ((j:Int)+1) l []).foldl lP out)
 |d,k,0,out,hk,hn,ho=>by omega
 |d,k,n+1,out,hk,hn,ho=>by
  rw[ao];have Px:NJ l (((k:Nat):Int)+1)=some (Fo (((k:Nat):Int)+1) l []):=by unfold NJ;rw[aqc m0];rfl
  have hlen:=agY (((k:Nat):Int)+1) l;by_cases he:Fo (((k:Nat):Int)+1) l []=[]
  ·have hz:((List.range' k d).flatMap fun j:Nat=>Fo ((j:Int)+1) l [])=[]:=by
    rw[List.flatMap_eq_nil_iff];intro j hj;have:=List.mem_range'_1.1 hj;exact B6.2 fun s hs=>by have:=B6.1 he s hs;omega
   rw[hz,show ld l (out,((k:Nat):Int)+1)=some (.ret out)by
    unfold ld;simp only;rw[aqc m0,aqa,Px,he];rfl]
   rfl
  ·match d,hk,hn with
   |0,hk,_=>exact absurd (B6.2 fun s hs=>by have:=hM s hs;omega) he
   |d+1,hk,hn =>
    have Pn:¬ (((Fo (((k:Nat):Int)+1) l []).length:Nat):Int)=0:=fun h=>he (aqz m0)
    have SD:=acf (Fo (((k:Nat):Int)+1) l []) m0 fuel 0 out (aqu _) (by unfold fuel;omega) m0;rw[List.drop_zero]at SD;rw[show ld l (out,((k:Nat):Int)+1)=some (.next ((Fo (((k:Nat):Int)+1) l []).foldl lP out,((k+1:Nat):Int)+1))by
     unfold ld;simp only;rw[aqc m0,aqa,Px,ap9,aqb Pn,ap',show((0:Int))=((0:Nat):Int)from rfl,SD,ap9];unfold wG;simp only;rw[show((k:Nat):Int)+1=((k+1:Nat):Int)from rfl,wrapN m0];rfl]
    rw[List.range'_succ,aqM,List.foldl_append];exact N3 l hl hM d (k+1) n _ m0 m0 (by rw[EB,Nat.add_mul];omega)
theorem aee (l:List Stp)(h:N9 l):PTz 94 [.one (.lst (l.map kJ))] (.val (.one (.lst ((yu l).map aN)))):=by
 have e:=N3 l h.len h.low 600 0 fuel [] rfl (by unfold fuel;omega) m5;have g:adx l=some (yu l):=by
  unfold adx;refine Eq.trans e (congrArg some ?_);have hp:=CH ((List.range' 0 600).flatMap fun j:Nat=>Fo ((j:Int)+1) l []) [];have hm:((List.range' 0 600).flatMap fun j:Nat=>Fo ((j:Int)+1) l []).map toP=St.gq (l.map toS):=by
   unfold St.gq;rw[List.map_flatMap,List.range_eq_range'];congr 1;funext j;exact JC _ _
  rw[hm]at hp;unfold yu St.qG;rw[show(([]:List (Int×Int)))=([]:List ax).map toP from rfl,<- hp,List.map_map];exact(List.map_id'' (fun _=>rfl) _).symm
 exact ail g
def agN (l:List yD):Option (List Stp):=bif decide (l.length<=100000)then some (vm l)else none
theorem akm {l:List yD}{r:List Stp}(H:agN l=some r):PTz 207 [.one (.lst (l.map Fh))] (.val (.one (.lst (r.map kJ)))):=by
 unfold agN at H;obtain⟨g,H⟩:=gK H;obtain rfl:=aqG H;exact akI l (aqC g)
def agL (l:List yD):Option (List Stp):=bif decide (l.length<=100000)then some (vm l)else none
theorem ak7 {l:List yD}{r:List Stp}(H:agL l=some r):PTz 210 [.one (.lst (l.map Fh))] (.val (.one (.lst (r.map kJ)))):=by
 unfold agL at H;obtain⟨g,H⟩:=gK H;obtain rfl:=aqG H;exact ofR_pure l (aqC g)
open Classical in
noncomputable def acZ (l:List Stp):Option (List ax):=if N9 l then some (yu l)else none
theorem aik {l:List Stp}{r:List ax}(H:acZ l=some r):PTz 147 [.one (.lst (l.map kJ))] (.val (.one (.lst (r.map aN)))):=by
 unfold acZ at H;split at H
 ·rename_i h;obtain rfl:=aqG H;exact agb l h
 ·cases H
open Classical in
noncomputable def KV (l:List Stp):Option (List ax):=if N9 l then some (yu l)else none
theorem ahL {l:List Stp}{r:List ax}(H:KV l=some r):PTz 94 [.one (.lst (l.map kJ))] (.val (.one (.lst (r.map aN)))):=by
 unfold KV at H;split at H
 ·rename_i h;obtain rfl:=aqG H;exact aee l h
 ·cases H
def bz (l:List ap):Prop:=l.length<=300 /\ ∀ f∈l,f.row.length<=1000 /\ ∀ v∈f.row,VOK v
open Classical in
noncomputable def wA (l:List ap):Option (List ac):=if bz l then some (lR l)else none
theorem BM {l:List ap}{r:List ac}(H:wA l=some r):PTz 202 [.one (.lst (l.map aG))] (.val (.one (.lst (r.map af)))):=by
 unfold wA at H;split at H
 ·rename_i h;obtain rfl:=aqG H;exact ae2 l h.1 h.2
 ·cases H
noncomputable section
def mo (a_l:(List ax)):((List yD)×Int)->Option (Step ((List yD)×Int) ((List Stp))):=fun s=>match s with
 |(PP,P6)=>bif (decide (P6<((a_l.length:Nat):Int)))then
  (aF a_l P6).bind fun P7=>bif (decide (PP.length+1<=5864062014805))then(some (.next ((PP++[(⟨P7,(1:Int)⟩:yD)]),(i64.wrap (P6+(1:Int))))))else none
 else
  some (.exit (PP,P6))
def qP:Sum ((List yD)×Int) ((List Stp))->Option (((List Stp)))
 |.inl (PP,P6)=>(agN PP).bind fun P2=>some P2
 |.inr q=>some q
def ri (a_l:(List ax)):Option ((List Stp)):=(ao (mo a_l) fuel ([],(0:Int))).bind (qP)
instance gCounted_ok {a_l : (List ax)} {r : (List Stp)} : OkC (ri a_l = some r) (PTz 148 [.one (.lst (a_l.map aN))] (.val (.one (.lst (r.map kJ))))) := .mk fun H => by
 unfold ri at H;refine po_ Tryz.func148 Tryz.ntmps148 ?_
 repeat' (first|refine gs_ ?_|fail)
 refine bU 3 3 rfl ?_;refine alM_ (fun s:(List yD)×Int=>match s with|(PP,P6)=>[(3,.one (.own (PP.map Fh) 0)),(6,.one (.c (.lst (a_l.map aN)))),(7,.one (.c (.int .i64 ((a_l.length:Nat):Int)))),(8,.one (.c (.int .i64 P6)))]) (fun s=>match s with|(PP,P6)=>[.spare PP.length 3]) H (fun _=>aqu _)
  (fm_ ⟨rfl,rfl,rfl,rfl,t7⟩ [] rfl ⟨by show 0<1;omega,t7,t7,t7,t7⟩ ⟨t7,t7⟩) ?_
 rintro⟨PP,P6⟩ st1 OU Py;unfold mo at OU;dsimp only at OU ⊢;rcases Bool.eq_false_or_eq_true (decide (P6<((a_l.length:Nat):Int)))with Qf|Qf
 ·rw[Qf,aqa]at OU
  obtain⟨P7,i1,OU⟩:=bd_ OU;obtain⟨SG,i1⟩:=iZ i1;have R9:=ak9 (f:=aN) i1;obtain⟨g2,OU⟩:=gK OU;replace g2:=aqC g2;obtain rfl:=aqG OU
  repeat' (first|refine gs_ ?_|fail)
  exact⟨_,rfl,fm_ ⟨(by simp only[aql,aqj,aqn,aqd]<;>rfl),rfl,rfl,rfl,t7⟩ [_] (by simp only[aqg,aqv,aqE,aqR,aql,aqj,aqn]<;>rfl) ⟨by show 0<1;omega,t7,t7,t7,t7⟩ ⟨t7,t7⟩⟩
 ·rw[Qf,ap']at OU
  obtain rfl:=aqG OU;have O3:qP (.inl (PP,P6))=some _:=Py;unfold qP at O3;dsimp only at O3;obtain⟨P2,c3,O3⟩:=bd_ O3;replace c3:=akm c3
  try simp only[aql,aqj,aqn,aqd,aC]at c3
  obtain rfl:=aqG O3;exact Fa
def LH (Ph:(List ax)):Option ((List ax)):=bif (decide (((Ph.length:Nat):Int)=(1:Int)))then
 some Ph
 else
 (ri Ph).bind fun Qd=>(acZ Qd).bind fun PT=>some PT
instance gBag1_ok {Ph : (List ax)} {r : (List ax)} : OkC (LH Ph = some r) (PTz 146 [.one (.lst (Ph.map aN))] (.val (.one (.lst (r.map aN))))) := .mk fun H => by
 unfold LH at H;refine po_ Tryz.func146 Tryz.ntmps146 ?_;rcases Bool.eq_false_or_eq_true (decide (((Ph.length:Nat):Int)=(1:Int)))with Qv|Qv
 ·rw[Qv,aqa]at H
  obtain rfl:=aqG H;exact Fa
 ·rw[Qv,ap']at H
  obtain⟨Qd,c1,H⟩:=bd_ H;replace c1:=gCounted_ok c1
  try simp only[aql,aqj,aqn,aqd,aC]at c1
  obtain⟨PT,c2,H⟩:=bd_ H;replace c2:=aik c2
  try simp only[aql,aqj,aqn,aqd,aC]at c2
  obtain rfl:=aqG H;exact Fa
def oh (P3:ac)(Qc:(List ax)):((List ap)×Int)->Option (Step ((List ap)×Int) ((List ap))):=fun s=>match s with
 |(P1,SL)=>bif (decide (SL<((Qc.length:Nat):Int)))then
  (aF Qc SL).bind fun Rr=>bif (decide (P3.row.length<=4398046511104))then(bif (decide (P1.length+1<=3518437208883))then(some (.next ((P1++[(⟨P3.row,Rr⟩:ap)]),(i64.wrap (SL+(1:Int))))))else none)else none
 else
  some (.exit (P1,SL))
def oz (PY:Int):Sum ((List ap)×Int) ((List ap))->Option (Step ((List ap)×Int) ((List ap)))
 |.inl (P1,SL)=>some (.next (P1,(i64.wrap (PY+(1:Int)))))
 |.inr q=>some (.ret q)
def nR (Yy:(List ax)->Option ((List ax)))(O7:(List ac)):((List ap)×Int)->Option (Step ((List ap)×Int) ((List ap))):=fun s=>match s with
 |(O4,PY)=>bif (decide (PY<((O7.length:Nat):Int)))then
  (aF O7 PY).bind fun P3=>(Yy P3.periods).bind fun Qc=>(ao (oh P3 Qc) fuel (O4,(0:Int))).bind (oz PY)
 else
  some (.exit (O4,PY))
def kK:Sum ((List ap)×Int) ((List ap))->Option (((List ap)))
 |.inl (O4,PY)=>some O4
 |.inr q=>some q
def xR (a_l:(List ap))(Yy:(List ax)->Option ((List ax))):Option ((List ap)):=(wA a_l).bind fun O7=>(ao (nR Yy O7) fuel ([],(0:Int))).bind (kK)
theorem ae' {a_l:(List ap)}{Yy:(List ax)->Option ((List ax))}{r:(List ap)}{F_a_f:FuncId}{caps_a_f:List AC}(XZ:∀ (y0:(List ax)) (r:(List ax)),Yy y0=some r->PTz F_a_f ([.one (.lst (y0.map aN))]++caps_a_f.map .one) (.val (.one (.lst (r.map aN)))))(H:xR a_l Yy=some r):PTz 145 [.one (.lst (a_l.map aG)),.one (.fn F_a_f caps_a_f)] (.val (.one (.lst (r.map aG)))):=by
 unfold xR at H;refine po_ Tryz.func145 Tryz.ntmps145 ?_;obtain⟨O7,c1,H⟩:=bd_ H;replace c1:=BM c1
 try simp only[aql,aqj,aqn,aqd,aC]at c1
 repeat' (first|refine gs_ ?_|fail)
 refine bU 5 3 rfl ?_;refine alM_ (fun s:(List ap)×Int=>match s with|(O4,PY)=>[(1,.one (.c (.fn F_a_f caps_a_f))),(5,.one (.own (O4.map aG) 0)),(11,.one (.c (.lst (O7.map af)))),(12,.one (.c (.int .i64 ((O7.length:Nat):Int)))),(13,.one (.c (.int .i64 PY)))]) (fun s=>match s with|(O4,PY)=>[.spare O4.length 3]) H (fun _=>aqu _)
  (fm_ ⟨rfl,rfl,rfl,rfl,rfl,t7⟩ [] rfl ⟨t7,by show 0<1;omega,t7,t7,t7,t7⟩ ⟨t7,t7⟩) ?_
 rintro⟨O4,PY⟩ st3 PL TS;unfold nR at PL;dsimp only at PL ⊢;rcases Bool.eq_false_or_eq_true (decide (PY<((O7.length:Nat):Int)))with P9|P9
 ·rw[P9,aqa]at PL
  obtain⟨P3,i2,PL⟩:=bd_ PL;obtain⟨Wq,i2⟩:=iZ i2;have Ws:=ak9 (f:=af) i2;obtain⟨Qc,c3,PL⟩:=bd_ PL;replace c3:=XZ _ _ c3
  try simp only[aql,aqj,aqn,aqd,aC]at c3
  repeat' (first|refine gs_ ?_|fail)
  refine alM_ (fun s:(List ap)×Int=>match s with|(P1,SL)=>[(1,.one (.c (.fn F_a_f caps_a_f))),(5,.one (.own (P1.map aG) 0)),(7,.one (.ptr 1 0)),(11,.one (.c (.lst (O7.map af)))),(12,.one (.c (.int .i64 ((O7.length:Nat):Int)))),(13,.one (.c (.int .i64 PY))),(20,.one (.c (.lst (Qc.map aN)))),(21,.one (.c (.int .i64 ((Qc.length:Nat):Int)))),(22,.one (.c (.int .i64 SL)))]) (fun s=>match s with|(P1,SL)=>[.spare P1.length 3,.box [.c (.lst (P3.row.map cV)),.c (.lst (P3.periods.map aN))]]) PL (fun _=>aqu _)
   (fm_ ⟨rfl,rfl,rfl,rfl,rfl,rfl,rfl,rfl,rfl,t7⟩ [] rfl ⟨t7,by show 0<2;omega,by show 1<2;omega,t7,t7,t7,t7,t7,t7,t7⟩ ⟨t7,gH r5,t7⟩) ?_
  rintro⟨P1,SL⟩ st4 O9 hk4;unfold oh at O9;dsimp only at O9 ⊢;rcases Bool.eq_false_or_eq_true (decide (SL<((Qc.length:Nat):Int)))with S_|S_
  ·rw[S_,aqa]at O9
   obtain⟨Rr,i4,O9⟩:=bd_ O9;obtain⟨Ys,i4⟩:=iZ i4;have W_:=ak9 (f:=aN) i4;obtain⟨g5,O9⟩:=gK O9;replace g5:=aqC g5;obtain⟨g6,O9⟩:=gK O9;replace g6:=aqC g6;obtain rfl:=aqG O9
   repeat' (first|refine gs_ ?_|fail)
   exact⟨_,rfl,fm_ ⟨rfl,(by simp only[aql,aqj,aqn,aqd]<;>rfl),rfl,rfl,rfl,rfl,rfl,rfl,rfl,t7⟩ [_,_] (by simp only[aqg,aqv,aqE,aqR,aql,aqj,aqn]<;>rfl) ⟨t7,by show 0<2;omega,by show 1<2;omega,t7,t7,t7,t7,t7,t7,t7⟩ ⟨t7,gH r5,t7⟩⟩
  ·rw[S_,ap']at O9
   obtain rfl:=aqG O9;have RH:oz PY (.inl (P1,SL))=some _:=hk4;unfold oz at RH;dsimp only at RH;obtain rfl:=aqG RH
   repeat' (first|refine gs_ ?_|fail)
   exact⟨_,rfl,fm_ ⟨rfl,(by simp only[aql,aqj,aqn,aqd]<;>rfl),rfl,rfl,rfl,t7⟩ [_] (by simp only[aqg,aqv,aqE,aqR,aql,aqj,aqn]<;>rfl) ⟨t7,by show 0<1;omega,t7,t7,t7,t7⟩ ⟨t7,t7⟩⟩
 ·rw[P9,ap']at PL
  obtain rfl:=aqG PL;have Tn:kK (.inl (O4,PY))=some _:=TS;unfold kK at Tn;dsimp only at Tn;obtain rfl:=aqG Tn;exact Fa
def pi (a_l:(List ap)):Option ((List ap)):=(xR a_l (fun x0=>LH x0)).bind fun O7=>some O7
instance gBag_ok {a_l : (List ap)} {r : (List ap)} : OkC (pi a_l = some r) (PTz 92 [.one (.lst (a_l.map aG))] (.val (.one (.lst (r.map aG))))) := .mk fun H => by
 unfold pi at H;refine po_ Tryz.func92 Tryz.ntmps92 ?_;obtain⟨O7,c1,H⟩:=bd_ H;replace c1:=ae' (F_a_f:=146) (caps_a_f:=[]) (fun x0 r h=>gBag1_ok h) c1
 try simp only[aql,aqj,aqn,aqd,aC]at c1
 obtain rfl:=aqG H;exact Fa
end
def po (rec:List (List Val)->List Fb->Option (List (List Val)))(a_l:(List (List Val)))(Yz:(List Fb)):Option ((List (List Val))):=bif (decide (((a_l.length:Nat):Int)=(0:Int)))then some []else
 bif (decide (((a_l.length:Nat):Int)=(1:Int)))then(aF a_l (0:Int)).bind fun RV=>bif (decide (RV.length<=4398046511104))then(some [RV])else none else
 bif (decide ((2:Int)≠0))then((ga a_l (0:Int) (i64.wrap (((a_l.length:Nat):Int).tdiv (2:Int)))).bind fun ZS=>(rec ZS Yz).bind fun P2=>(ga a_l (i64.wrap (((a_l.length:Nat):Int).tdiv (2:Int))) ((a_l.length:Nat):Int)).bind fun s_6=>(rec s_6 Yz).bind fun QV=>(wj P2 QV Yz).bind fun Sz=>some Sz)else none
theorem aa_ {rec:List (List Val)->List Fb->Option (List (List Val))}  (Pi:∀ {x:List (List Val)} {y:List Fb} {r:List (List Val)},rec x y=some r->PTz 107 [.one (.lst (x.map (fun x=>[AC.lst (x.map cV)]))),.one (.lst (y.map zY))] (.val (.one (.lst (r.map (fun x=>[AC.lst (x.map cV)])))))){a_l:(List (List Val))}{Yz:(List Fb)}{r:(List (List Val))}(H:po rec a_l Yz=some r):PTz 107 [.one (.lst (a_l.map (fun x=>[AC.lst (x.map cV)]))),.one (.lst (Yz.map zY))] (.val (.one (.lst (r.map (fun x=>[AC.lst (x.map cV)]))))):=by
 unfold po at H;refine po_ Tryz.func107 Tryz.ntmps107 ?_;rcases aj H with⟨Qv,H⟩|⟨Qv,H⟩
 ·exact ay H
 rcases aj H with⟨Qq,H⟩|⟨Qq,H⟩
 ·exact ay H
 obtain⟨g3,H⟩:=aK H;obtain⟨ZS,u4,H⟩:=bd_ H;obtain⟨⟨u4a,u4b,u4c⟩,u4⟩:=cR u4;have u4x:=wo (f:=(fun x=>[AC.lst (x.map cV)])) u4;obtain⟨P2,c5,H⟩:=bd_ H;replace c5:=Pi c5;obtain⟨s_6,u6,H⟩:=bd_ H;obtain⟨⟨u6a,u6b,u6c⟩,u6⟩:=cR u6;have u6x:=wo (f:=(fun x=>[AC.lst (x.map cV)])) u6;obtain⟨QV,c7,H⟩:=bd_ H;replace c7:=Pi c7;obtain⟨Sz,c8,H⟩:=bd_ H;replace c8:=gMerged_ok c8
 cases H
 repeat' (first|refine gs_ ?_|rw[u4x]|rw[u6x]|rw[show((0:Nat):Int)=0 from rfl])
 refine aZ (bg rfl ?_ ?_)
 ·repeat' (first|exact t7|rfl|exact aqi rfl|omega|apply And.intro)
 ·first|rfl|(simp only[aql,aqj,aqn,aqd]<;>rfl)
def xP:Nat->List (List Val)->List Fb->Option (List (List Val))
 |0,_,_=>none
 |n+1,a,b=>po (xP n) a b
theorem Hg:∀ (n:Nat) {x:List (List Val)} {y:List Fb} {r:List (List Val)},xP n x y=some r->PTz 107 [.one (.lst (x.map (fun x=>[AC.lst (x.map cV)]))),.one (.lst (y.map zY))] (.val (.one (.lst (r.map (fun x=>[AC.lst (x.map cV)])))))
 |0,_,_,_,h=>nomatch h
 |n+1,_,_,_,h=>aa_ (Hg n) h
def ut (a_l:(List (List Val))):Option ((List (List Val))):=(xP 301 a_l ([]:(List Fb))).bind fun O7=>some O7
instance gSortR_ok {a_l : (List (List Val))} {r : (List (List Val))} : OkC (ut a_l = some r) (PTz 71 [.one (.lst (a_l.map (fun x => [AC.lst (x.map cV)])))] (.val (.one (.lst (r.map (fun x => [AC.lst (x.map cV)])))))) := .mk fun H => by
 unfold ut at H;refine po_ Tryz.func71 Tryz.ntmps71 ?_;obtain⟨O7,c1,H⟩:=bd_ H;replace c1:=Hg 301 c1
 try simp only[aql,aqj,aqn,aqd,aC]at c1
 exact ay H
noncomputable section
def dh (Ph:ax):Option (Bool):=bif (decide ((0:Int)<=Ph.lo))then bif (decide (Ph.lo<Ph.hi))then some (decide (Ph.hi<=(1099511627776:Int)))else
 some false else
 some false
instance gValid1_ok {Ph : ax} {r : Bool} : OkC (dh Ph = some r) (PTz 33 [.agg (aN Ph)] (.val (.one (.bool r)))) := .mk fun H => by
 unfold dh at H;refine po_ Tryz.func33 Tryz.ntmps33 ?_;exact ay H
def bR (O7:(List (List Val))):((List (List Val))×Int)->Option (Step ((List (List Val))×Int) ((List (List Val)))):=fun s=>match s with
 |(O4,Qx)=>bif (decide (Qx<((O7.length:Nat):Int)))then bif (decide (Qx=(0:Int)))then(aF O7 Qx).bind fun SI=>bif (decide (O4.length+1<=5864062014805))then(some (.next ((O4++[SI]),(i64.wrap (Qx+(1:Int))))))else none else
 (aF O7 (i64.wrap (Qx-(1:Int)))).bind fun RY=>(aF O7 Qx).bind fun Sl=>(iB RY Sl).bind fun Q3=>bif (!Q3)then bif (decide (O4.length+1<=5864062014805))then(some (.next ((O4++[Sl]),(i64.wrap (Qx+(1:Int))))))else none else
 some (.next (O4,(i64.wrap (Qx+(1:Int)))))else
 some (.exit (O4,Qx))
def nj:Sum ((List (List Val))×Int) ((List (List Val)))->Option (((List (List Val))))
 |.inl (O4,Qx)=>some O4
 |.inr q=>some q
def jn (a_l:(List (List Val))):Option ((List (List Val))):=(ut a_l).bind fun O7=>(ao (bR O7) fuel ([],(0:Int))).bind (nj)
instance gDistinct8_ok {a_l : (List (List Val))} {r : (List (List Val))} : OkC (jn a_l = some r) (PTz 209 [.one (.lst (a_l.map (fun x => [AC.lst (x.map cV)])))] (.val (.one (.lst (r.map (fun x => [AC.lst (x.map cV)])))))) := .mk fun H => by
 unfold jn at H;refine po_ Tryz.func209 Tryz.ntmps209 ?_;obtain⟨O7,c1,H⟩:=bd_ H;replace c1:=gSortR_ok c1;refine aY ?_;refine bU 4 1 rfl ?_;refine alM_ (fun s:(List (List Val))×Int=>match s with|(O4,Qx)=>[(3,.one (.c (.lst (O7.map (fun x=>[AC.lst (x.map cV)]))))),(4,.one (.own (O4.map (fun x=>[AC.lst (x.map cV)])) 0)),(5,.one (.c (.int .i64 Qx)))]) (fun s=>match s with|(O4,Qx)=>[.spare O4.length 1]) H (fun _=>aqu _)
  (fm_ bF [] rfl bn cm) ?_
 rintro⟨O4,Qx⟩ st1 OU Py;exact br OU Py
def uU (a_l:(List ap)):((List (List Val))×Int)->Option (Step ((List (List Val))×Int) ((List (List Val)))):=fun s=>match s with
 |(OZ,i_2)=>bif (decide (i_2<((a_l.length:Nat):Int)))then(aF a_l i_2).bind fun P7=>(dh P7.valid).bind fun P2=>bif P2 then bif (decide (OZ.length+1<=5864062014805))then(some (.next ((OZ++[P7.row]),(i64.wrap (i_2+(1:Int))))))else none else
 some (.next (OZ,(i64.wrap (i_2+(1:Int)))))else
 some (.exit (OZ,i_2))
def Oz:Sum ((List (List Val))×Int) ((List (List Val)))->Option (((List (List Val))))
 |.inl (OZ,i_2)=>(jn OZ).bind fun QV=>some QV
 |.inr q=>some q
def vz (a_l:(List ap)):Option ((List (List Val))):=(ao (uU a_l) fuel ([],(0:Int))).bind (Oz)
instance gRows22_ok {a_l : (List ap)} {r : (List (List Val))} : OkC (vz a_l = some r) (PTz 150 [.one (.lst (a_l.map aG))] (.val (.one (.lst (r.map (fun x => [AC.lst (x.map cV)])))))) := .mk fun H => by
 unfold vz at H;refine po_ Tryz.func150 Tryz.ntmps150 ?_;refine aY ?_;refine bU 3 1 rfl ?_;refine alM_ (fun s:(List (List Val))×Int=>match s with|(OZ,i_2)=>[(0,.one (.c (.lst (a_l.map aG)))),(3,.one (.own (OZ.map (fun x=>[AC.lst (x.map cV)])) 0)),(4,.one (.c (.int .i64 i_2)))]) (fun s=>match s with|(OZ,i_2)=>[.spare OZ.length 1]) H (fun _=>aqu _)
  (fm_ bF [] rfl bn cm) ?_
 rintro⟨OZ,i_2⟩ st1 OU Py;exact br OU Py
def kB (a_l:(List ap))(O2:(List Val)):((List yD)×Int)->Option (Step ((List yD)×Int) ((List Stp))):=fun s=>match s with
 |(PP,i_2)=>bif (decide (i_2<((a_l.length:Nat):Int)))then(aF a_l i_2).bind fun P7=>(nK P7.row O2).bind fun P2=>bif (decide (P2=(0:Int)))then bif (decide (PP.length+1<=5864062014805))then(some (.next ((PP++[(⟨P7.valid,(1:Int)⟩:yD)]),(i64.wrap (i_2+(1:Int))))))else none else
 some (.next (PP,(i64.wrap (i_2+(1:Int)))))else
 some (.exit (PP,i_2))
def pO:Sum ((List yD)×Int) ((List Stp))->Option (((List Stp)))
 |.inl (PP,i_2)=>(agL PP).bind fun QV=>some QV
 |.inr q=>some q
def nY (a_l:(List ap))(O2:(List Val)):Option ((List Stp)):=(ao (kB a_l O2) fuel ([],(0:Int))).bind (pO)
instance gCounts22_ok {a_l : (List ap)} {O2 : (List Val)} {r : (List Stp)} : OkC (nY a_l O2 = some r) (PTz 151 [.one (.lst (a_l.map aG)), .one (.lst (O2.map cV))] (.val (.one (.lst (r.map kJ))))) := .mk fun H => by
 unfold nY at H;refine po_ Tryz.func151 Tryz.ntmps151 ?_;refine aY ?_;refine bU 5 3 rfl ?_;refine alM_ (fun s:(List yD)×Int=>match s with|(PP,i_2)=>[(0,.one (.c (.lst (a_l.map aG)))),(1,.one (.c (.lst (O2.map cV)))),(5,.one (.own (PP.map Fh) 0)),(6,.one (.c (.int .i64 i_2)))]) (fun s=>match s with|(PP,i_2)=>[.spare PP.length 3]) H (fun _=>aqu _)
  (fm_ bF [] rfl bn cm) ?_
 rintro⟨PP,i_2⟩ st1 OU Py;unfold kB at OU;dsimp only at OU ⊢;rcases aj OU with⟨Qf,OU⟩|⟨Qf,OU⟩
 ·exact ahl OU
 cases OU;have O3:pO (.inl (PP,i_2))=some _:=Py;unfold pO at O3;dsimp only at O3;obtain⟨QV,c4,O3⟩:=bd_ O3;replace c4:=ak7 c4;exact ay O3
def uW (O2:(List Val))(Ph:(List ax)):((List ap)×Int)->Option (Step ((List ap)×Int) ((List ap))):=fun s=>match s with
 |(OZ,i_2)=>bif (decide (i_2<((Ph.length:Nat):Int)))then(aF Ph i_2).bind fun P7=>bif (decide (OZ.length+1<=3518437208883))then(some (.next ((OZ++[(⟨O2,P7⟩:ap)]),(i64.wrap (i_2+(1:Int))))))else none else
 some (.exit (OZ,i_2))
def abE:Sum ((List ap)×Int) ((List ap))->Option (((List ap)))
 |.inl (OZ,i_2)=>some OZ
 |.inr q=>some q
def kH (O2:(List Val))(Ph:(List ax)):Option ((List ap)):=(ao (uW O2 Ph) fuel ([],(0:Int))).bind (abE)
instance gDuring_ok {O2 : (List Val)} {Ph : (List ax)} {r : (List ap)} : OkC (kH O2 Ph = some r) (PTz 64 [.one (.lst (O2.map cV)), .one (.lst (Ph.map aN))] (.val (.one (.lst (r.map aG))))) := .mk fun H => by
 unfold kH at H;refine po_ Tryz.func64 Tryz.ntmps64 ?_;refine aY ?_;refine bU 5 3 rfl ?_;refine alM_ (fun s:(List ap)×Int=>match s with|(OZ,i_2)=>[(0,.one (.c (.lst (O2.map cV)))),(1,.one (.c (.lst (Ph.map aN)))),(5,.one (.own (OZ.map aG) 0)),(6,.one (.c (.int .i64 i_2)))]) (fun s=>match s with|(OZ,i_2)=>[.spare OZ.length 3]) H (fun _=>aqu _)
  (fm_ bF [] rfl bn cm) ?_
 rintro⟨OZ,i_2⟩ st1 OU Py;exact br OU Py
def cJ (OV:(List ap))(OW:(List ap)):((List ap)×Int×Int)->Option (Step ((List ap)×Int×Int) ((List ap))):=fun s=>match s with
 |(OZ,i_2,Tt)=>bif (decide (i_2<((OV.length:Nat):Int)))then bif (decide (i_2=((OV.length:Nat):Int)))then(aF OW Tt).bind fun SI=>bif (decide (OZ.length+1<=3518437208883))then(some (.next ((OZ++[SI]),i_2,(i64.wrap (Tt+(1:Int))))))else none else
 bif (decide (Tt<((OW.length:Nat):Int)))then(aF OW Tt).bind fun Sl=>(aF OV i_2).bind fun U5=>(nK Sl.row U5.row).bind fun Qr=>bif (decide (Qr<(0:Int)))then bif (decide (OZ.length+1<=3518437208883))then(some (.next ((OZ++[Sl]),i_2,(i64.wrap (Tt+(1:Int))))))else none else
 bif (decide (OZ.length+1<=3518437208883))then(some (.next ((OZ++[U5]),(i64.wrap (i_2+(1:Int))),Tt)))else none else
 (aF OV i_2).bind fun TJ=>bif (decide (OZ.length+1<=3518437208883))then(some (.next ((OZ++[TJ]),(i64.wrap (i_2+(1:Int))),Tt)))else none else
 bif (decide (Tt<((OW.length:Nat):Int)))then bif (decide (i_2=((OV.length:Nat):Int)))then(aF OW Tt).bind fun x_15=>bif (decide (OZ.length+1<=3518437208883))then(some (.next ((OZ++[x_15]),i_2,(i64.wrap (Tt+(1:Int))))))else none else
 (aF OW Tt).bind fun Uh=>(aF OV i_2).bind fun ZT=>(nK Uh.row ZT.row).bind fun r_18=>bif (decide (r_18<(0:Int)))then bif (decide (OZ.length+1<=3518437208883))then(some (.next ((OZ++[Uh]),i_2,(i64.wrap (Tt+(1:Int))))))else none else
 bif (decide (OZ.length+1<=3518437208883))then(some (.next ((OZ++[ZT]),(i64.wrap (i_2+(1:Int))),Tt)))else none else
 some (.exit (OZ,i_2,Tt))
def wa:Sum ((List ap)×Int×Int) ((List ap))->Option (((List ap)))
 |.inl (OZ,i_2,Tt)=>some OZ
 |.inr q=>some q
def n8 (OV:(List ap))(OW:(List ap)):Option ((List ap)):=(ao (cJ OV OW) fuel ([],(0:Int),(0:Int))).bind (wa)
instance gMerged22_ok {OV : (List ap)} {OW : (List ap)} {r : (List ap)} : OkC (n8 OV OW = some r) (PTz 208 [.one (.lst (OV.map aG)), .one (.lst (OW.map aG))] (.val (.one (.lst (r.map aG))))) := .mk fun H => by
 unfold n8 at H;refine po_ Tryz.func208 Tryz.ntmps208 ?_;refine aY ?_;refine bU 5 3 rfl ?_;refine alM_ (fun s:(List ap)×Int×Int=>match s with|(OZ,i_2,Tt)=>[(0,.one (.c (.lst (OV.map aG)))),(1,.one (.c (.lst (OW.map aG)))),(5,.one (.own (OZ.map aG) 0)),(6,.one (.c (.int .i64 i_2))),(7,.one (.c (.int .i64 Tt)))]) (fun s=>match s with|(OZ,i_2,Tt)=>[.spare OZ.length 3]) H (fun _=>aqu _)
  (fm_ bF [] rfl bn cm) ?_
 rintro⟨OZ,i_2,Tt⟩ st1 OU Py;exact br OU Py
def nG (rec:List ap->Option (List ap))(a_l:(List ap)):Option ((List ap)):=bif (decide (((a_l.length:Nat):Int)<(2:Int)))then some a_l else
 bif (decide ((2:Int)≠0))then((ga a_l (0:Int) (i64.wrap (((a_l.length:Nat):Int).tdiv (2:Int)))).bind fun U0=>(rec U0).bind fun PT=>(ga a_l (i64.wrap (((a_l.length:Nat):Int).tdiv (2:Int))) ((a_l.length:Nat):Int)).bind fun ZS=>(rec ZS).bind fun P2=>(n8 PT P2).bind fun Qc=>some Qc)else none
theorem Iz {rec:List ap->Option (List ap)}  (Pi:∀ {x:List ap} {r:List ap},rec x=some r->PTz 149 [.one (.lst (x.map aG))] (.val (.one (.lst (r.map aG))))){a_l:(List ap)}{r:(List ap)}(H:nG rec a_l=some r):PTz 149 [.one (.lst (a_l.map aG))] (.val (.one (.lst (r.map aG)))):=by
 unfold nG at H;refine po_ Tryz.func149 Tryz.ntmps149 ?_;rcases aj H with⟨Qv,H⟩|⟨Qv,H⟩
 ·exact ay H
 obtain⟨g1,H⟩:=aK H;obtain⟨U0,u2,H⟩:=bd_ H;obtain⟨⟨u2a,u2b,u2c⟩,u2⟩:=cR u2;have u2x:=wo (f:=aG) u2;obtain⟨PT,c3,H⟩:=bd_ H;replace c3:=Pi c3;obtain⟨ZS,u4,H⟩:=bd_ H;obtain⟨⟨u4a,u4b,u4c⟩,u4⟩:=cR u4;have u4x:=wo (f:=aG) u4;obtain⟨P2,c5,H⟩:=bd_ H;replace c5:=Pi c5;obtain⟨Qc,c6,H⟩:=bd_ H;replace c6:=gMerged22_ok c6
 cases H
 repeat' (first|refine gs_ ?_|rw[u2x]|rw[u4x]|rw[show((0:Nat):Int)=0 from rfl])
 refine aZ (bg rfl ?_ ?_)
 ·repeat' (first|exact t7|rfl|exact aqi rfl|omega|apply And.intro)
 ·first|rfl|(simp only[aql,aqj,aqn,aqd]<;>rfl)
def qL:Nat->List ap->Option (List ap)
 |0,_=>none
 |n+1,a=>nG (qL n) a
theorem zJ:∀ (n:Nat) {x:List ap} {r:List ap},qL n x=some r->PTz 149 [.one (.lst (x.map aG))] (.val (.one (.lst (r.map aG))))
 |0,_,_,h=>nomatch h
 |n+1,_,_,h=>Iz (zJ n) h
def fZ (UR:(List ap))(PM:(List (List Val))):((List bQ)×Int)->Option (Step ((List bQ)×Int) ((List bQ))):=fun s=>match s with
 |(PX,Q_)=>bif (decide (Q_<((PM.length:Nat):Int)))then(aF PM Q_).bind fun Uh=>(nY UR Uh).bind fun QJ=>bif (decide (PX.length+1<=2932031007402))then(some (.next ((PX++[(⟨Uh,QJ⟩:bQ)]),(i64.wrap (Q_+(1:Int))))))else none else
 some (.exit (PX,Q_))
def f_ (k_5:Int):Sum ((List bQ)×Int) ((List bQ))->Option (Step ((List bQ)×Int) ((List bQ)))
 |.inl (PX,Q_)=>some (.next (PX,k_5))
 |.inr q=>some (.ret q)
def eQ (O7:(List ap))(Qx:Int):(Int)->Option (Step (Int) ((List bQ))):=fun s=>match s with
 |k_5=>bif (decide (k_5<((O7.length:Nat):Int)))then(aF O7 k_5).bind fun RY=>(aF O7 Qx).bind fun Sl=>(nK RY.row Sl.row).bind fun Q3=>bif (decide (Q3=(0:Int)))then some (.next (i64.wrap (k_5+(1:Int))))else
 some (.exit k_5)else
 some (.exit k_5)
def iN (O7:(List ap))(O4:(List bQ))(Qx:Int):Sum (Int) ((List bQ))->Option (Step ((List bQ)×Int) ((List bQ)))
 |.inl k_5=>(ga O7 Qx k_5).bind fun UR=>(vz UR).bind fun PM=>(ao (fZ UR PM) fuel (O4,(0:Int))).bind (f_ k_5)
 |.inr q=>some (.ret q)
def dF (O7:(List ap)):((List bQ)×Int)->Option (Step ((List bQ)×Int) ((List bQ))):=fun s=>match s with
 |(O4,Qx)=>bif (decide (Qx<((O7.length:Nat):Int)))then(ao (eQ O7 Qx) fuel Qx).bind (iN O7 O4 Qx)else
 some (.exit (O4,Qx))
def J9:Sum ((List bQ)×Int) ((List bQ))->Option (((List bQ)))
 |.inl (O4,Qx)=>some O4
 |.inr q=>some q
def oj (a_l:(List ap)):Option ((List bQ)):=(qL 640 a_l).bind fun O7=>(ao (dF O7) fuel ([],(0:Int))).bind (J9)
instance gGroups22_ok {a_l : (List ap)} {r : (List bQ)} : OkC (oj a_l = some r) (PTz 93 [.one (.lst (a_l.map aG))] (.val (.one (.lst (r.map ju))))) := .mk fun H => by
 unfold oj at H;refine po_ Tryz.func93 Tryz.ntmps93 ?_;obtain⟨O7,c1,H⟩:=bd_ H;replace c1:=zJ 640 c1;refine aY ?_;refine bU 4 2 rfl ?_;refine alM_ (fun s:(List bQ)×Int=>match s with|(O4,Qx)=>[(3,.one (.c (.lst (O7.map aG)))),(4,.one (.own (O4.map ju) 0)),(5,.one (.c (.int .i64 Qx)))]) (fun s=>match s with|(O4,Qx)=>[.spare O4.length 2]) H (fun _=>aqu _)
  (fm_ bF [] rfl bn cm) ?_
 rintro⟨O4,Qx⟩ st5 QB hk5;unfold dF at QB;dsimp only at QB ⊢;rcases aj QB with⟨P9,QB⟩|⟨P9,QB⟩
 ·refine aY ?_
  refine alM_ (fun s:Int=>match s with|k_5=>[(3,.one (.c (.lst (O7.map aG)))),(4,.one (.own (O4.map ju) 0)),(5,.one (.c (.int .i64 Qx))),(6,.one (.c (.int .i64 k_5)))]) (fun s=>match s with|k_5=>[.spare O4.length 2]) QB (fun _=>aqu _)
   (fm_ bF [] rfl bn cm) ?_
  rintro k_5 st6 QC hk6;unfold eQ at QC;dsimp only at QC ⊢;rcases aj QC with⟨QT,QC⟩|⟨QT,QC⟩
  ·obtain⟨RY,Wq,i2,Ws,QC⟩:=bw (f:=aG) QC
   obtain⟨Sl,i3z,i3,Ze,QC⟩:=bw (f:=aG) QC;obtain⟨Q3,c4,QC⟩:=bd_ QC;replace c4:=gCmp8_ok c4;rcases aj QC with⟨P_,QC⟩|⟨P_,QC⟩
   ·cases QC
    refine aY ?_;exact⟨_,rfl,fm_ bF [] rfl bn cm⟩
   cases QC;have O_:iN O7 O4 Qx (.inl k_5)=some _:=hk6;unfold iN at O_;dsimp only at O_;obtain⟨UR,u5,O_⟩:=bd_ O_;obtain⟨⟨u5a,u5b,u5c⟩,u5⟩:=cR u5;have VA:=wo (f:=aG) u5;obtain⟨PM,c6,O_⟩:=bd_ O_;replace c6:=gRows22_ok c6
   repeat' (first|refine gs_ ?_|rw[VA]|rw[show((0:Nat):Int)=0 from rfl])
   refine alM_ (fun s:(List bQ)×Int=>match s with|(PX,Q_)=>[(3,.one (.c (.lst (O7.map aG)))),(4,.one (.own (PX.map ju) 0)),(5,.one (.c (.int .i64 Qx))),(6,.one (.c (.int .i64 k_5))),(7,.one (.c (.lst (PM.map (fun x=>[AC.lst (x.map cV)]))))),(8,.one (.c (.int .i64 Q_)))]) (fun s=>match s with|(PX,Q_)=>[.spare PX.length 2]) O_ (fun _=>aqu _)
    (fm_ bF [] rfl bn cm) ?_
   rintro⟨PX,Q_⟩ st7 RI hk7;unfold fZ at RI;dsimp only at RI ⊢;rcases aj RI with⟨Q7,RI⟩|⟨Q7,RI⟩
   ·obtain⟨Uh,i7z,i7,i7x,RI⟩:=bw (f:=(fun x=>[AC.lst (x.map cV)])) RI
    obtain⟨QJ,c8,RI⟩:=bd_ RI;replace c8:=gCounts22_ok c8;obtain⟨g9,RI⟩:=aK RI
    cases RI
    repeat' (first|refine gs_ ?_|rw[VA]|rw[show((0:Nat):Int)=0 from rfl])
    exact⟨_,rfl,fm_ qI [] oO bn cm⟩
   cases RI;have X3:f_ k_5 (.inl (PX,Q_))=some _:=hk7;unfold f_ at X3;dsimp only at X3
   cases X3
   repeat' (first|refine gs_ ?_|rw[VA]|rw[show((0:Nat):Int)=0 from rfl])
   exact⟨_,rfl,fm_ qI [] oO bn cm⟩
  cases QC;have O_:iN O7 O4 Qx (.inl k_5)=some _:=hk6;unfold iN at O_;dsimp only at O_;obtain⟨UR,XK,O_⟩:=bd_ O_;obtain⟨⟨u10a,u10b,u10c⟩,XK⟩:=cR XK;have TG:=wo (f:=aG) XK;obtain⟨PM,WH,O_⟩:=bd_ O_;replace WH:=gRows22_ok WH
  repeat' (first|refine gs_ ?_|rw[TG]|rw[show((0:Nat):Int)=0 from rfl])
  refine alM_ (fun s:(List bQ)×Int=>match s with|(PX,Q_)=>[(3,.one (.c (.lst (O7.map aG)))),(4,.one (.own (PX.map ju) 0)),(5,.one (.c (.int .i64 Qx))),(6,.one (.c (.int .i64 k_5))),(7,.one (.c (.lst (PM.map (fun x=>[AC.lst (x.map cV)]))))),(8,.one (.c (.int .i64 Q_)))]) (fun s=>match s with|(PX,Q_)=>[.spare PX.length 2]) O_ (fun _=>aqu _)
   (fm_ bF [] rfl bn cm) ?_
  rintro⟨PX,Q_⟩ st7 RI hk7;unfold fZ at RI;dsimp only at RI ⊢;rcases aj RI with⟨Q7,RI⟩|⟨Q7,RI⟩
  ·obtain⟨Uh,i12z,i12,i12x,RI⟩:=bw (f:=(fun x=>[AC.lst (x.map cV)])) RI
   obtain⟨QJ,TU,RI⟩:=bd_ RI;replace TU:=gCounts22_ok TU;obtain⟨g14,RI⟩:=aK RI
   cases RI
   repeat' (first|refine gs_ ?_|rw[TG]|rw[show((0:Nat):Int)=0 from rfl])
   exact⟨_,rfl,fm_ qI [] oO bn cm⟩
  cases RI;have X3:f_ k_5 (.inl (PX,Q_))=some _:=hk7;unfold f_ at X3;dsimp only at X3
  cases X3
  repeat' (first|refine gs_ ?_|rw[TG]|rw[show((0:Nat):Int)=0 from rfl])
  exact⟨_,rfl,fm_ qI [] oO bn cm⟩
 exact br QB hk5
def ww (O7:(List bQ)):((List ap)×Int)->Option (Step ((List ap)×Int) ((List ap))):=fun s=>match s with
 |(O4,Qx)=>bif (decide (Qx<((O7.length:Nat):Int)))then(aF O7 Qx).bind fun P3=>(KV P3.steps).bind fun Qc=>(kH P3.row Qc).bind fun QV=>bif (decide (O4.length+QV.length<=3518437208883))then(some (.next ((O4++QV),(i64.wrap (Qx+(1:Int))))))else none else
 some (.exit (O4,Qx))
def ahT:Sum ((List ap)×Int) ((List ap))->Option (((List ap)))
 |.inl (O4,Qx)=>some O4
 |.inr q=>some q
def lT (a_l:(List ap)):Option ((List ap)):=(oj a_l).bind fun O7=>(ao (ww O7) fuel ([],(0:Int))).bind (ahT)
instance gBagR_ok {a_l : (List ap)} {r : (List ap)} : OkC (lT a_l = some r) (PTz 56 [.one (.lst (a_l.map aG))] (.val (.one (.lst (r.map aG))))) := .mk fun H => by
 unfold lT at H;refine po_ Tryz.func56 Tryz.ntmps56 ?_;obtain⟨O7,c1,H⟩:=bd_ H;replace c1:=gGroups22_ok c1;refine aY ?_;refine bU 4 3 rfl ?_;refine alM_ (fun s:(List ap)×Int=>match s with|(O4,Qx)=>[(3,.one (.c (.lst (O7.map ju)))),(4,.one (.own (O4.map aG) 0)),(5,.one (.c (.int .i64 Qx)))]) (fun s=>match s with|(O4,Qx)=>[.spare O4.length 3]) H (fun _=>aqu _)
  (fm_ bF [] rfl bn cm) ?_
 rintro⟨O4,Qx⟩ st1 OU Py;unfold ww at OU;dsimp only at OU ⊢;rcases aj OU with⟨P9,OU⟩|⟨P9,OU⟩
 ·obtain⟨P3,Wq,i2,Ws,OU⟩:=bw (f:=ju) OU
  obtain⟨Qc,c3,OU⟩:=bd_ OU;replace c3:=ahL c3;exact ahl OU
 exact br OU Py
def iu (OV:(List ap))(OW:(List ap)):(Int)->Option (Step (Int) (Bool)):=fun s=>match s with
 |i_2=>bif (decide (i_2<((OV.length:Nat):Int)))then(aF OV i_2).bind fun P7=>(aF OW i_2).bind fun P3=>bif (!(cg [.c (.int .i64 P7.valid.lo),.c (.int .i64 P7.valid.hi)] [.c (.int .i64 P3.valid.lo),.c (.int .i64 P3.valid.hi)]))then some (.ret false)else
 (nK P7.row P3.row).bind fun QV=>bif (decide (QV≠(0:Int)))then some (.ret false)else
 some (.next (i64.wrap (i_2+(1:Int))))else
 some (.exit i_2)
def aeE:Sum (Int) (Bool)->Option ((Bool))
 |.inl i_2=>some true
 |.inr q=>some q
def gl (OV:(List ap))(OW:(List ap)):Option (Bool):=bif (decide (((OV.length:Nat):Int)≠((OW.length:Nat):Int)))then some false else
 (ao (iu OV OW) fuel (0:Int)).bind (aeE)
instance gIdent_ok {OV : (List ap)} {OW : (List ap)} {r : Bool} : OkC (gl OV OW = some r) (PTz 37 [.one (.lst (OV.map aG)), .one (.lst (OW.map aG))] (.val (.one (.bool r)))) := .mk fun H => by
 unfold gl at H;refine po_ Tryz.func37 Tryz.ntmps37 ?_;rcases aj H with⟨Qv,H⟩|⟨Qv,H⟩
 ·exact ay H
 refine aY ?_;refine alM_ (fun s:Int=>match s with|i_2=>[(0,.one (.c (.lst (OV.map aG)))),(1,.one (.c (.lst (OW.map aG)))),(5,.one (.c (.int .i64 i_2)))]) (fun s=>match s with|i_2=>[]) H (fun _=>aqu _)
  (fm_ bF [] rfl bn trivial) ?_
 rintro i_2 st1 OU Py;unfold iu at OU;dsimp only at OU ⊢;rcases aj OU with⟨Qf,OU⟩|⟨Qf,OU⟩
 ·obtain⟨P7,SG,i1,R9,OU⟩:=bw (f:=aG) OU
  obtain⟨P3,Wq,i2,Ws,OU⟩:=bw (f:=aG) OU;rcases aj OU with⟨QT,OU⟩|⟨QT,OU⟩
  ·exact br OU Py
  obtain⟨QV,c3,OU⟩:=bd_ OU;replace c3:=gCmp8_ok c3;rcases aj OU with⟨RX,OU⟩|⟨RX,OU⟩
  ·exact br OU Py
  cases OU;refine aY ?_;exact⟨_,rfl,fm_ bF [] rfl bn trivial⟩
 exact br OU Py
end
def EU (S9:ByteArray):Option (Val):=(pn (⟨(2:Int),(0:Int),S9⟩:Val)).bind fun O7=>some O7
instance gTextR_ok {S9 : ByteArray} {r : Val} : OkC (EU S9 = some r) (PTz 221 [.one (.str S9)] (.val (.agg (cV r)))) := .mk fun H => by
 unfold EU at H;refine po_ Tryz.func221 Tryz.ntmps221 ?_;exact ay H
def pN (OW:Bool):Option (Val):=bif OW then some (⟨(3:Int),(1:Int),ByteArray.empty⟩:Val)else
 some (⟨(3:Int),(0:Int),ByteArray.empty⟩:Val)
instance gBoolR_ok {OW : Bool} {r : Val} : OkC (pN OW = some r) (PTz 161 [.one (.bool OW)] (.val (.agg (cV r)))) := .mk fun H => by
 unfold pN at H;refine po_ Tryz.func161 Tryz.ntmps161 ?_;exact ay H
def tI (OV:Val)(OW:Val)(Ti:Bool):Option (Int):=bif (decide (OV.kind=(0:Int)))then some (1:Int)else
 bif (decide (OV.kind≠OW.kind))then some (1:Int)else
 bif Ti then some (2:Int)else
 some (0:Int)
instance gtruthR_ok {OV : Val} {OW : Val} {Ti : Bool} {r : Int} : OkC (tI OV OW Ti = some r) (PTz 247 [.agg (cV OV), .agg (cV OW), .one (.bool Ti)] (.val (.one (.int .i64 r)))) := .mk fun H => by
 unfold tI at H;refine po_ Tryz.func247 Tryz.ntmps247 ?_;exact ay H
def ae4 (OV:Val)(OW:Val):Option (Int):=(tY OV OW).bind fun O7=>(tI OV OW (decide (O7=(0:Int)))).bind fun Qd=>some Qd
instance gEqR_ok {OV : Val} {OW : Val} {r : Int} : OkC (ae4 OV OW = some r) (PTz 218 [.agg (cV OV), .agg (cV OW)] (.val (.one (.int .i64 r)))) := .mk fun H => by
 unfold ae4 at H;refine po_ Tryz.func218 Tryz.ntmps218 ?_;exact ay H
def rV (OV:Val)(OW:Val):Option (Int):=(tY OV OW).bind fun O7=>(tI OV OW (decide (O7<(0:Int)))).bind fun Qd=>some Qd
instance gLessR_ok {OV : Val} {OW : Val} {r : Int} : OkC (rV OV OW = some r) (PTz 219 [.agg (cV OV), .agg (cV OW)] (.val (.one (.int .i64 r)))) := .mk fun H => by
 unfold rV at H;refine po_ Tryz.func219 Tryz.ntmps219 ?_;exact ay H
def Bh (OV:Int):Option (Int):=bif (decide (OV=(2:Int)))then some (0:Int)else
 bif (decide (OV=(0:Int)))then some (2:Int)else
 some (1:Int)
instance gNotR_ok {OV : Int} {r : Int} : OkC (Bh OV = some r) (PTz 165 [.one (.int .i64 OV)] (.val (.one (.int .i64 r)))) := .mk fun H => by
 unfold Bh at H;refine po_ Tryz.func165 Tryz.ntmps165 ?_;exact ay H
def DU (OV:Int)(OW:Int):Option (Int):=bif (decide (OV=(0:Int)))then some (0:Int)else
 bif (decide (OW=(0:Int)))then some (0:Int)else
 bif (decide (OV=(2:Int)))then bif (decide (OW=(2:Int)))then some (2:Int)else
 some (1:Int)else
 some (1:Int)
instance gAndR_ok {OV : Int} {OW : Int} {r : Int} : OkC (DU OV OW = some r) (PTz 216 [.one (.int .i64 OV), .one (.int .i64 OW)] (.val (.one (.int .i64 r)))) := .mk fun H => by
 unfold DU at H;refine po_ Tryz.func216 Tryz.ntmps216 ?_;exact ay H
def abB (OV:Int)(OW:Int):Option (Int):=bif (decide (OV=(2:Int)))then some (2:Int)else
 bif (decide (OW=(2:Int)))then some (2:Int)else
 bif (decide (OV=(0:Int)))then bif (decide (OW=(0:Int)))then some (0:Int)else
 some (1:Int)else
 some (1:Int)
instance gOrR_ok {OV : Int} {OW : Int} {r : Int} : OkC (abB OV OW = some r) (PTz 217 [.one (.int .i64 OV), .one (.int .i64 OW)] (.val (.one (.int .i64 r)))) := .mk fun H => by
 unfold abB at H;refine po_ Tryz.func217 Tryz.ntmps217 ?_;exact ay H
def fq (Qw:Val):Option (Int):=(pN true).bind fun O7=>bif (cg [.c (.int .i64 Qw.kind),.c (.int .i64 Qw.int),.c (.str Qw.text)] [.c (.int .i64 O7.kind),.c (.int .i64 O7.int),.c (.str O7.text)])then some (2:Int)else
 (pN false).bind fun PT=>bif (cg [.c (.int .i64 Qw.kind),.c (.int .i64 Qw.int),.c (.str Qw.text)] [.c (.int .i64 PT.kind),.c (.int .i64 PT.int),.c (.str PT.text)])then some (0:Int)else
 some (1:Int)
instance gTruth7_ok {Qw : Val} {r : Int} : OkC (fq Qw = some r) (PTz 105 [.agg (cV Qw)] (.val (.one (.int .i64 r)))) := .mk fun H => by
 unfold fq at H;refine po_ Tryz.func105 Tryz.ntmps105 ?_;exact ay H
def zQ (SZ:Int):Option (Val):=bif (decide (SZ=(2:Int)))then(pN (decide (SZ=(2:Int)))).bind fun Qd=>some Qd else
 bif (decide (SZ=(0:Int)))then(pN (decide (SZ=(2:Int)))).bind fun Qp=>some Qp else
 (du ).bind fun P2=>some P2
instance gOf7_ok {SZ : Int} {r : Val} : OkC (zQ SZ = some r) (PTz 164 [.one (.int .i64 SZ)] (.val (.agg (cV r)))) := .mk fun H => by
 unfold zQ at H;refine po_ Tryz.func164 Tryz.ntmps164 ?_;exact ay H
def qY (O1:Int):Option (Int×Int):=bif (decide (O1=(1:Int)))then some ((0:Int),(0:Int))else
 bif (decide (O1=(2:Int)))then some ((0:Int),(0:Int))else
 bif (decide (O1=(4:Int)))then some ((1:Int),(1:Int))else
 bif (decide (O1=(18:Int)))then some ((1:Int),(1:Int))else
 bif (decide (O1=(20:Int)))then some ((1:Int),(1:Int))else
 bif (decide (O1=(21:Int)))then some ((1:Int),(1:Int))else
 bif (decide (O1=(5:Int)))then some ((2:Int),(1099511627776:Int))else
 bif (decide (O1=(6:Int)))then some ((2:Int),(1099511627776:Int))else
 bif (decide (O1=(7:Int)))then some ((2:Int),(2:Int))else
 bif (decide (O1=(8:Int)))then some ((2:Int),(2:Int))else
 bif (decide (O1=(9:Int)))then some ((2:Int),(2:Int))else
 bif (decide (O1=(10:Int)))then some ((2:Int),(2:Int))else
 bif (decide (O1=(11:Int)))then some ((2:Int),(2:Int))else
 bif (decide (O1=(12:Int)))then some ((2:Int),(2:Int))else
 bif (decide (O1=(13:Int)))then some ((2:Int),(2:Int))else
 bif (decide (O1=(14:Int)))then some ((2:Int),(2:Int))else
 bif (decide (O1=(15:Int)))then some ((2:Int),(2:Int))else
 bif (decide (O1=(16:Int)))then some ((2:Int),(2:Int))else
 bif (decide (O1=(17:Int)))then some ((2:Int),(2:Int))else
 bif (decide (O1=(19:Int)))then some ((2:Int),(2:Int))else
 bif (decide (O1=(22:Int)))then some ((3:Int),(3:Int))else
 bif (decide (O1=(23:Int)))then some ((1:Int),(1099511627776:Int))else
 bif (decide (O1=(24:Int)))then some ((4:Int),(4:Int))else
 some ((-1:Int),(0:Int))
instance gArity_ok {O1 : Int} {r : Int × Int} : OkC (qY O1 = some r) (PTz 200 [.one (.int .i64 O1)] (.tup [.one (.int .i64 r.1), .one (.int .i64 r.2)])) := .mk fun H => by
 unfold qY at H;refine po_ Tryz.func200 Tryz.ntmps200 ?_;rcases aj H with⟨Qv,H⟩|⟨Qv,H⟩
 ·exact ay H
 rcases aj H with⟨Qq,H⟩|⟨Qq,H⟩
 ·exact ay H
 refine aY ?_;rcases aj H with⟨Qf,H⟩|⟨Qf,H⟩
 ·exact ay H
 rcases aj H with⟨P9,H⟩|⟨P9,H⟩
 ·exact ay H
 rcases aj H with⟨Q6,H⟩|⟨Q6,H⟩
 ·exact ay H
 refine aY ?_;rcases aj H with⟨QT,H⟩|⟨QT,H⟩
 ·exact ay H
 rcases aj H with⟨SH,H⟩|⟨SH,H⟩
 ·exact ay H
 rcases aj H with⟨RX,H⟩|⟨RX,H⟩
 ·exact ay H
 refine aY ?_;rcases aj H with⟨S_,H⟩|⟨S_,H⟩
 ·exact ay H
 rcases aj H with⟨P_,H⟩|⟨P_,H⟩
 ·exact ay H
 rcases aj H with⟨Ta,H⟩|⟨Ta,H⟩
 ·exact ay H
 refine aY ?_;rcases aj H with⟨RD,H⟩|⟨RD,H⟩
 ·exact ay H
 rcases aj H with⟨Si,H⟩|⟨Si,H⟩
 ·exact ay H
 rcases aj H with⟨Qk,H⟩|⟨Qk,H⟩
 ·exact ay H
 refine aY ?_;rcases aj H with⟨Q7,H⟩|⟨Q7,H⟩
 ·exact ay H
 rcases aj H with⟨Uc,H⟩|⟨Uc,H⟩
 ·exact ay H
 rcases aj H with⟨Td,H⟩|⟨Td,H⟩
 ·exact ay H
 refine aY ?_;rcases aj H with⟨QU,H⟩|⟨QU,H⟩
 ·exact ay H
 rcases aj H with⟨Vy,H⟩|⟨Vy,H⟩
 ·exact ay H
 rcases aj H with⟨Tf,H⟩|⟨Tf,H⟩
 ·exact ay H
 refine aY ?_;exact ay H
def iO (OX:Ex):Option (Bool):=(qY OX.op).bind fun O7=>bif (decide (O7.1<(0:Int)))then some false else
 bif (decide (((OX.args.length:Nat):Int)<O7.1))then some false else
 bif (decide (O7.2<((OX.args.length:Nat):Int)))then some false else
 bif (!(OX.nm.toList==(⟨#[]⟩:ByteArray).toList))then some false else
 bif (decide (OX.op=(1:Int)))then bif (decide (OX.int=(0:Int)))then(dc OX.v).bind fun Sz=>some Sz else
 some false else
 bif (decide (OX.op=(2:Int)))then(du ).bind fun Qr=>some (cg [.c (.int .i64 OX.v.kind),.c (.int .i64 OX.v.int),.c (.str OX.v.text)] [.c (.int .i64 Qr.kind),.c (.int .i64 Qr.int),.c (.str Qr.text)])else
 bif (decide (OX.op=(24:Int)))then(du ).bind fun PM=>bif (cg [.c (.int .i64 OX.v.kind),.c (.int .i64 OX.v.int),.c (.str OX.v.text)] [.c (.int .i64 PM.kind),.c (.int .i64 PM.int),.c (.str PM.text)])then bif (decide ((0:Int)<=OX.int))then some (decide (OX.int<(13:Int)))else
 some false else
 some false else
 bif (decide (OX.int=(0:Int)))then(du ).bind fun RJ=>some (cg [.c (.int .i64 OX.v.kind),.c (.int .i64 OX.v.int),.c (.str OX.v.text)] [.c (.int .i64 RJ.kind),.c (.int .i64 RJ.int),.c (.str RJ.text)])else
 some false
instance gFormedR_ok {OX : Ex} {r : Bool} : OkC (iO OX = some r) (PTz 162 [.agg (tE OX)] (.val (.one (.bool r)))) := .mk fun H => by
 unfold iO at H;rw[aC OX];refine po_ Tryz.func162 Tryz.ntmps162 ?_;obtain⟨O7,c1,H⟩:=bd_ H;replace c1:=gArity_ok c1;rcases aj H with⟨Qq,H⟩|⟨Qq,H⟩
 ·exact ay H
 rcases aj H with⟨Qf,H⟩|⟨Qf,H⟩
 ·exact ay H
 refine aY ?_;rcases aj H with⟨P9,H⟩|⟨P9,H⟩
 ·exact ay H
 rcases aj H with⟨Q6,H⟩|⟨Q6,H⟩
 ·exact ay H
 rcases aj H with⟨QT,H⟩|⟨QT,H⟩
 ·refine aY ?_
  exact ay H
 refine aY ?_;rcases aj H with⟨S_,H⟩|⟨S_,H⟩
 ·exact ay H
 rcases aj H with⟨Ta,H⟩|⟨Ta,H⟩
 ·obtain⟨PM,c4,H⟩:=bd_ H
  replace c4:=gNullR_ok c4;rcases aj H with⟨Si,H⟩|⟨Si,H⟩
  ·refine aY ?_
   exact ay H
  exact ay H
 exact ay H
def fh (O1:Int)(OV:Val)(OW:Val):Option (Int):=bif (decide (O1=(7:Int)))then(ae4 OV OW).bind fun Qd=>some Qd else
 bif (decide (O1=(8:Int)))then(ae4 OV OW).bind fun Qp=>(Bh Qp).bind fun P2=>some P2 else
 bif (decide (O1=(9:Int)))then(rV OV OW).bind fun QV=>some QV else
 bif (decide (O1=(11:Int)))then(rV OW OV).bind fun Q3=>some Q3 else
 bif (decide (O1=(10:Int)))then(rV OW OV).bind fun Qh=>(Bh Qh).bind fun PM=>some PM else
 (rV OV OW).bind fun Ql=>(Bh Ql).bind fun QW=>some QW
instance gCompared_ok {O1 : Int} {OV : Val} {OW : Val} {r : Int} : OkC (fh O1 OV OW = some r) (PTz 167 [.one (.int .i64 O1), .agg (cV OV), .agg (cV OW)] (.val (.one (.int .i64 r)))) := .mk fun H => by
 unfold fh at H;refine po_ Tryz.func167 Tryz.ntmps167 ?_;rcases aj H with⟨Qv,H⟩|⟨Qv,H⟩
 ·exact ay H
 rcases aj H with⟨Qf,H⟩|⟨Qf,H⟩
 ·exact ay H
 refine aY ?_;exact ay H
def afq (PQ:Int):Option (Int):=some (zb PQ (i64.wrap (0-PQ)))
instance gAbs_ok {PQ : Int} {r : Int} : OkC (afq PQ = some r) (PTz 223 [.one (.int .i64 PQ)] (.val (.one (.int .i64 r)))) := .mk fun H => by
 unfold afq at H;refine po_ Tryz.func223 Tryz.ntmps223 ?_;exact ay H
def cW (O1:Int)(OV:Int)(OW:Int):Option (Val):=bif (decide (O1=(13:Int)))then(mi (i64.wrap (OV+OW))).bind fun Qd=>some Qd else
 bif (decide (O1=(14:Int)))then(mi (i64.wrap (OV-OW))).bind fun Qp=>some Qp else
 bif (decide (O1=(15:Int)))then bif (decide (OV≠(0:Int)))then(afq OW).bind fun QV=>(afq OV).bind fun Sz=>bif (decide (Sz≠0))then(bif (decide ((i64.wrap ((1125899906842624:Int).tdiv Sz))<QV))then(du ).bind fun Qr=>some Qr else
 (mi (i64.wrap (OV*OW))).bind fun Qh=>some Qh)else none else
 (mi (i64.wrap (OV*OW))).bind fun PM=>some PM else
 bif (decide (OW=(0:Int)))then(du ).bind fun QW=>some QW else
 bif (decide (O1=(16:Int)))then bif (decide (OW≠0))then((mi (i64.wrap (OV.tdiv OW))).bind fun RJ=>some RJ)else none else
 bif (decide (OW≠0))then((mi (OV.tmod OW)).bind fun QJ=>some QJ)else none
instance gComputed_ok {O1 : Int} {OV : Int} {OW : Int} {r : Val} : OkC (cW O1 OV OW = some r) (PTz 173 [.one (.int .i64 O1), .one (.int .i64 OV), .one (.int .i64 OW)] (.val (.agg (cV r)))) := .mk fun H => by
 unfold cW at H;refine po_ Tryz.func173 Tryz.ntmps173 ?_;rcases aj H with⟨Qv,H⟩|⟨Qv,H⟩
 ·exact ay H
 rcases aj H with⟨Qf,H⟩|⟨Qf,H⟩
 ·exact ay H
 refine aY ?_;exact ay H
def AM (a_l:(List Val))(P4:Int):(Int)->Option (Step (Int) (Bool)):=fun s=>match s with
 |i_1=>bif (decide (i_1<((a_l.length:Nat):Int)))then(aF a_l i_1).bind fun RV=>bif (decide (RV.kind≠P4))then some (.ret false)else
 some (.next (i64.wrap (i_1+(1:Int))))else
 some (.exit i_1)
def ajU:Sum (Int) (Bool)->Option ((Bool))
 |.inl i_1=>some true
 |.inr q=>some q
def NL (a_l:(List Val))(P4:Int):Option (Bool):=(ao (AM a_l P4) fuel (0:Int)).bind (ajU)
instance gAre_ok {a_l : (List Val)} {P4 : Int} {r : Bool} : OkC (NL a_l P4 = some r) (PTz 168 [.one (.lst (a_l.map cV)), .one (.int .i64 P4)] (.val (.one (.bool r)))) := .mk fun H => by
 unfold NL at H;refine po_ Tryz.func168 Tryz.ntmps168 ?_;refine aY ?_;refine alM_ (fun s:Int=>match s with|i_1=>[(0,.one (.c (.lst (a_l.map cV)))),(1,.one (.c (.int .i64 P4))),(5,.one (.c (.int .i64 i_1)))]) (fun s=>match s with|i_1=>[]) H (fun _=>aqu _)
  (fm_ bF [] rfl bn trivial) ?_
 rintro i_1 st1 OU Py;unfold AM at OU;dsimp only at OU ⊢;rcases aj OU with⟨Qq,OU⟩|⟨Qq,OU⟩
 ·obtain⟨RV,SG,i1,R9,OU⟩:=bw (f:=cV) OU
  rcases aj OU with⟨P9,OU⟩|⟨P9,OU⟩
  ·exact br OU Py
  cases OU;refine aY ?_;exact⟨_,rfl,fm_ bF [] rfl bn trivial⟩
 exact br OU Py
def lW (O1:Int)(a_l:(List Val)):(Int×Int)->Option (Step (Int×Int) (Val)):=fun s=>match s with
 |(WI,VH)=>bif (decide (VH<((a_l.length:Nat):Int)))then bif (decide (O1=(5:Int)))then(aF a_l VH).bind fun RY=>(fq RY).bind fun Sz=>(DU WI Sz).bind fun Q3=>some (.next (Q3,(i64.wrap (VH+(1:Int)))))else
 (aF a_l VH).bind fun Rr=>(fq Rr).bind fun Qh=>(abB WI Qh).bind fun PM=>some (.next (PM,(i64.wrap (VH+(1:Int)))))else
 some (.exit (WI,VH))
def aax:Sum (Int×Int) (Val)->Option ((Val))
 |.inl (WI,VH)=>(zQ WI).bind fun Ql=>some Ql
 |.inr q=>some q
def sY (O1:Int)(a_l:(List Val)):Option (Val):=(aF a_l (0:Int)).bind fun Zf=>(fq Zf).bind fun Qd=>(ao (lW O1 a_l) fuel (Qd,(1:Int))).bind (aax)
instance gLogicR_ok {O1 : Int} {a_l : (List Val)} {r : Val} : OkC (sY O1 a_l = some r) (PTz 166 [.one (.int .i64 O1), .one (.lst (a_l.map cV))] (.val (.agg (cV r)))) := .mk fun H => by
 unfold sY at H;refine po_ Tryz.func166 Tryz.ntmps166 ?_;obtain⟨Zf,SG,i1,R9,H⟩:=bw (f:=cV) H;obtain⟨Qd,c2,H⟩:=bd_ H;replace c2:=gTruth7_ok c2;refine aY ?_;refine alM_ (fun s:Int×Int=>match s with|(WI,VH)=>[(0,.one (.c (.int .i64 O1))),(1,.one (.c (.lst (a_l.map cV)))),(4,.one (.ptr 0 0)),(5,.one (.c (.int .i64 WI))),(6,.one (.c (.int .i64 VH)))]) (fun s=>match s with|(WI,VH)=>[.box [.c (.int .i64 (0:Int)),.c (.int .i64 (0:Int)),.c (.str ByteArray.empty)]]) H (fun _=>aqu _)
  (fm_ bF [] rfl bn cm) ?_
 rintro⟨WI,VH⟩ st1 OU Py;unfold lW at OU;dsimp only at OU ⊢;rcases aj OU with⟨Q6,OU⟩|⟨Q6,OU⟩
 ·rcases aj OU with⟨QT,OU⟩|⟨QT,OU⟩
  ·obtain⟨RY,i3z,i3,Ze,OU⟩:=bw (f:=cV) OU
   obtain⟨Sz,c4,OU⟩:=bd_ OU;replace c4:=gTruth7_ok c4;obtain⟨Q3,c5,OU⟩:=bd_ OU;replace c5:=gAndR_ok c5
   cases OU;refine aY ?_;exact⟨_,rfl,fm_ bF [] rfl bn cm⟩
  obtain⟨Rr,i6z,i6,i6x,OU⟩:=bw (f:=cV) OU;obtain⟨Qh,c7,OU⟩:=bd_ OU;replace c7:=gTruth7_ok c7;obtain⟨PM,c8,OU⟩:=bd_ OU;replace c8:=gOrR_ok c8
  cases OU;refine aY ?_;exact⟨_,rfl,fm_ bF [] rfl bn cm⟩
 exact br OU Py
def gJ (Pm:Int)(Ph:ax)(PK:ax):Option (Bool):=bif (decide (Pm=(0:Int)))then some (decide (Ph.hi<PK.lo))else
 bif (decide (Pm=(1:Int)))then some (decide (Ph.hi=PK.lo))else
 bif (decide (Pm=(2:Int)))then bif (decide (Ph.lo<PK.lo))then bif (decide (PK.lo<Ph.hi))then some (decide (Ph.hi<PK.hi))else
 some false else
 some false else
 bif (decide (Pm=(3:Int)))then bif (decide (Ph.lo=PK.lo))then some (decide (Ph.hi<PK.hi))else
 some false else
 bif (decide (Pm=(4:Int)))then bif (decide (PK.lo<Ph.lo))then some (decide (Ph.hi<PK.hi))else
 some false else
 bif (decide (Pm=(5:Int)))then bif (decide (Ph.hi=PK.hi))then some (decide (PK.lo<Ph.lo))else
 some false else
 bif (decide (Pm=(6:Int)))then some (cg [.c (.int .i64 Ph.lo),.c (.int .i64 Ph.hi)] [.c (.int .i64 PK.lo),.c (.int .i64 PK.hi)])else
 bif (decide (Pm=(7:Int)))then bif (decide (Ph.hi=PK.hi))then some (decide (Ph.lo<PK.lo))else
 some false else
 bif (decide (Pm=(8:Int)))then bif (decide (Ph.lo<PK.lo))then some (decide (PK.hi<Ph.hi))else
 some false else
 bif (decide (Pm=(9:Int)))then bif (decide (Ph.lo=PK.lo))then some (decide (PK.hi<Ph.hi))else
 some false else
 bif (decide (Pm=(10:Int)))then bif (decide (PK.lo<Ph.lo))then bif (decide (Ph.lo<PK.hi))then some (decide (PK.hi<Ph.hi))else
 some false else
 some false else
 bif (decide (Pm=(11:Int)))then some (decide (PK.hi=Ph.lo))else
 bif (decide (Pm=(12:Int)))then some (decide (PK.hi<Ph.lo))else
 some false
instance gIs2_ok {Pm : Int} {Ph : ax} {PK : ax} {r : Bool} : OkC (gJ Pm Ph PK = some r) (PTz 85 [.one (.int .i64 Pm), .agg (aN Ph), .agg (aN PK)] (.val (.one (.bool r)))) := .mk fun H => by
 unfold gJ at H;refine po_ Tryz.func85 Tryz.ntmps85 ?_;rcases aj H with⟨Qv,H⟩|⟨Qv,H⟩
 ·exact ay H
 rcases aj H with⟨Qq,H⟩|⟨Qq,H⟩
 ·exact ay H
 refine aY ?_;rcases aj H with⟨Qf,H⟩|⟨Qf,H⟩
 ·exact ay H
 rcases aj H with⟨QT,H⟩|⟨QT,H⟩
 ·exact ay H
 rcases aj H with⟨RX,H⟩|⟨RX,H⟩
 ·refine aY ?_
  exact ay H
 refine aY ?_;rcases aj H with⟨P_,H⟩|⟨P_,H⟩
 ·exact ay H
 rcases aj H with⟨RD,H⟩|⟨RD,H⟩
 ·exact ay H
 rcases aj H with⟨Si,H⟩|⟨Si,H⟩
 ·refine aY ?_
  exact ay H
 refine aY ?_;rcases aj H with⟨Q7,H⟩|⟨Q7,H⟩
 ·exact ay H
 rcases aj H with⟨Td,H⟩|⟨Td,H⟩
 ·exact ay H
 rcases aj H with⟨Vy,H⟩|⟨Vy,H⟩
 ·refine aY ?_
  exact ay H
 refine aY ?_;exact ay H
def pe (Pm:Int)(Ph:ax)(PK:ax):Option (Bool):=(dh Ph).bind fun O7=>bif O7 then(dh PK).bind fun PT=>bif PT then(gJ Pm Ph PK).bind fun P2=>some P2 else
 some false else
 some false
instance gHolds2_ok {Pm : Int} {Ph : ax} {PK : ax} {r : Bool} : OkC (pe Pm Ph PK = some r) (PTz 46 [.one (.int .i64 Pm), .agg (aN Ph), .agg (aN PK)] (.val (.one (.bool r)))) := .mk fun H => by
 unfold pe at H;refine po_ Tryz.func46 Tryz.ntmps46 ?_;exact ay H
def nZ (Ph:ax)(PK:ax):(Int)->Option (Step (Int) (Int×Bool)):=fun s=>match s with
 |rel_1=>bif (decide (rel_1<(13:Int)))then(pe rel_1 Ph PK).bind fun PT=>bif PT then some (.ret (rel_1,true))else
 some (.next (i64.wrap (rel_1+(1:Int))))else
 some (.exit rel_1)
def ahH:Sum (Int) (Int×Bool)->Option ((Int×Bool))
 |.inl rel_1=>some ((0:Int),false)
 |.inr q=>some q
def MM (Ph:ax)(PK:ax):Option (Int×Bool):=(ao (nZ Ph PK) fuel (0:Int)).bind (ahH)
instance gRel2_ok {Ph : ax} {PK : ax} {r : Int × Bool} : OkC (MM Ph PK = some r) (PTz 222 [.agg (aN Ph), .agg (aN PK)] (.tup [.one (.int .i64 r.1), .one (.bool r.2)])) := .mk fun H => by
 unfold MM at H;refine po_ Tryz.func222 Tryz.ntmps222 ?_;refine aY ?_;refine alM_ (fun s:Int=>match s with|rel_1=>[(2,.one (.ptr 0 0)),(3,.one (.ptr 1 0)),(6,.one (.c (.int .i64 rel_1)))]) (fun s=>match s with|rel_1=>[.box [.c (.int .i64 Ph.lo),.c (.int .i64 Ph.hi)],.box [.c (.int .i64 PK.lo),.c (.int .i64 PK.hi)]]) H (fun _=>aqu _)
  (fm_ bF [] rfl bn cm) ?_
 rintro rel_1 st1 OU Py;unfold nZ at OU;dsimp only at OU ⊢;rcases aj OU with⟨Qq,OU⟩|⟨Qq,OU⟩
 ·obtain⟨PT,c1,OU⟩:=bd_ OU
  replace c1:=gHolds2_ok c1;rcases aj OU with⟨P9,OU⟩|⟨P9,OU⟩
  ·exact br OU Py
  cases OU;refine aY ?_;exact⟨_,rfl,fm_ bF [] rfl bn cm⟩
 exact br OU Py
def n9 (Pm:Int)(a_l:(List Val)):Option (Val):=(NL a_l (1:Int)).bind fun O7=>bif (!O7)then(du ).bind fun PT=>some PT else
 (aF a_l (0:Int)).bind fun P7=>(aF a_l (1:Int)).bind fun P3=>(aF a_l (2:Int)).bind fun SI=>(aF a_l (3:Int)).bind fun RY=>(MM (⟨P7.int,P3.int⟩:ax) (⟨SI.int,RY.int⟩:ax)).bind fun Sz=>bif (!Sz.2)then(du ).bind fun Qr=>some Qr else
 (pN (decide (Sz.1=Pm))).bind fun Qh=>some Qh
instance gRelatedR_ok {Pm : Int} {a_l : (List Val)} {r : Val} : OkC (n9 Pm a_l = some r) (PTz 172 [.one (.int .i64 Pm), .one (.lst (a_l.map cV))] (.val (.agg (cV r)))) := .mk fun H => by
 unfold n9 at H;refine po_ Tryz.func172 Tryz.ntmps172 ?_;exact ay H
def qM (O1:Int)(a_l:(List Val)):Option (Val):=(NL a_l (2:Int)).bind fun O7=>bif (!O7)then(du ).bind fun PT=>some PT else
 bif (decide (O1=(19:Int)))then(aF a_l (0:Int)).bind fun P3=>(aF a_l (1:Int)).bind fun SI=>bif (decide (P3.text.size+SI.text.size<=9223372036854775807))then((EU (P3.text++SI.text)).bind fun QV=>some QV)else none else
 (aF a_l (0:Int)).bind fun Sl=>(mi ((Sl.text.size:Nat):Int)).bind fun Q3=>some Q3
instance gTexts_ok {O1 : Int} {a_l : (List Val)} {r : Val} : OkC (qM O1 a_l = some r) (PTz 170 [.one (.int .i64 O1), .one (.lst (a_l.map cV))] (.val (.agg (cV r)))) := .mk fun H => by
 unfold qM at H;refine po_ Tryz.func170 Tryz.ntmps170 ?_;exact ay H
def pW (a_l:(List Val)):(Int)->Option (Step (Int) (Val)):=fun s=>match s with
 |i_7=>bif (decide (i_7<((a_l.length:Nat):Int)))then(aF a_l i_7).bind fun U5=>bif (decide (U5.kind≠(0:Int)))then some (.ret U5)else
 some (.next (i64.wrap (i_7+(1:Int))))else
 some (.exit i_7)
def ab2:Sum (Int) (Val)->Option ((Val))
 |.inl i_7=>(du ).bind fun Qh=>some Qh
 |.inr q=>some q
def pd (O1:Int)(a_l:(List Val)):Option (Val):=bif (decide (O1=(22:Int)))then(aF a_l (0:Int)).bind fun x_2=>(fq x_2).bind fun PT=>bif (decide (PT=(2:Int)))then(aF a_l (1:Int)).bind fun P3=>some P3 else
 (aF a_l (2:Int)).bind fun SI=>some SI else
 (ao (pW a_l) fuel (0:Int)).bind (ab2)
instance gChosen_ok {O1 : Int} {a_l : (List Val)} {r : Val} : OkC (pd O1 a_l = some r) (PTz 171 [.one (.int .i64 O1), .one (.lst (a_l.map cV))] (.val (.agg (cV r)))) := .mk fun H => by
 unfold pd at H;refine po_ Tryz.func171 Tryz.ntmps171 ?_;rcases aj H with⟨Qv,H⟩|⟨Qv,H⟩
 ·exact ay H
 refine aY ?_;refine alM_ (fun s:Int=>match s with|i_7=>[(1,.one (.c (.lst (a_l.map cV)))),(4,.one (.ptr 0 0)),(5,.one (.c (.int .i64 i_7)))]) (fun s=>match s with|i_7=>[.box [.c (.int .i64 (0:Int)),.c (.int .i64 (0:Int)),.c (.str ByteArray.empty)]]) H (fun _=>aqu _)
  (fm_ bF [] rfl bn cm) ?_
 rintro i_7 st1 OU Py;unfold pW at OU;dsimp only at OU ⊢;rcases aj OU with⟨RX,OU⟩|⟨RX,OU⟩
 ·obtain⟨U5,i5z,i5,i5x,OU⟩:=bw (f:=cV) OU
  rcases aj OU with⟨P_,OU⟩|⟨P_,OU⟩
  ·exact br OU Py
  cases OU;refine aY ?_;exact⟨_,rfl,fm_ bF [] rfl bn cm⟩
 cases OU;have hQ:ab2 (.inl i_7)=some _:=Py;unfold ab2 at hQ;dsimp only at hQ;exact ay hQ
def y8 (OX:Ex)(O2:(List Val)):Option (Val):=bif (decide (OX.op=(2:Int)))then(abZ O2 OX.int).bind fun Qd=>(dc Qd).bind fun PT=>bif (!PT)then(du ).bind fun P2=>some P2 else
 some Qd else
 (dc OX.v).bind fun Qc=>bif (!Qc)then(du ).bind fun Sz=>some Sz else
 some OX.v
instance gLeaf_ok {OX : Ex} {O2 : (List Val)} {r : Val} : OkC (y8 OX O2 = some r) (PTz 163 [.agg (tE OX), .one (.lst (O2.map cV))] (.val (.agg (cV r)))) := .mk fun H => by
 unfold y8 at H;rw[aC OX];refine po_ Tryz.func163 Tryz.ntmps163 ?_;exact ay H
def Bw (B:List (List Val))(x:List Val):Nat->Nat
 |0=>0
 |j+1=>match B[j]? with
  |some y=>if bK x y<0 then Bw B x j else j+1
  |none=>j+1
def Nv (B:List (List Val))(x:List Val):List (List Val):=B.take (Bw B x B.length)++x::B.drop (Bw B x B.length)
def gf (l:List (List Val)):List (List Val):=l.foldl Nv []
theorem Gj (B:List (List Val))(x:List Val):∀ j,j<=B.length->Bw B x j<=j/\(∀ i y,Bw B x j<=i->i<j->B[i]?=some y->bK x y<0)/\(∀ q,Bw B x j=q+1 ->∃ y,B[q]?=some y /\ ¬ bK x y<0)
 |0,_=>⟨aqo _,fun i y _ h=>by omega,fun q h=>by simp[Bw]at h⟩
 |j+1,hj=>by
  obtain⟨y,hy⟩:=gol_ (show j<B.length by omega);have e:Bw B x (j+1)=if bK x y<0 then Bw B x j else j+1:=by rw[Bw,hy]
  rw[e];by_cases h:bK x y<0
  ·rw[if_pos h]
   obtain⟨h1,h2,h3⟩:=Gj B x j m0;refine⟨m0,fun i z hi S3 hz=>?_,h3⟩;by_cases hij':i<j
   ·exact h2 i z hi hij' hz
   ·have:i=j:=m0
    subst this;rw[hy]at hz;obtain rfl:=aqG hz;exact h
  ·rw[if_neg h]
   refine⟨aqo _,fun i z hi S3=>by omega,fun q hq=>?_⟩;obtain rfl:j=q:=m0
   exact⟨y,hy,h⟩
theorem afO (B:List (List Val))(x:List Val):(Nv B x).Perm (x::B):=by
 unfold Nv;refine List.perm_middle.trans ?_;rw[aqU]
theorem agq {B:List (List Val)}(x:List Val)(h:Asc bK B):Asc bK (Nv B x):=by
 obtain⟨h1,h2,h3⟩:=Gj B x B.length (aqo _);unfold Nv;generalize Bw B x B.length=p at h1 h2 h3;have hB:Asc bK (B.take p++B.drop p):=by rw[aqU];exact h
 obtain⟨ht,hd,hc⟩:=List.pairwise_append.1 hB;have hx:∀ b∈B.drop p,bK x b<=0:=by
  intro b hb;obtain⟨i,hi⟩:=List.getElem?_of_mem hb;rw[aqV]at hi;have:=h2 (p+i) b m0 (ap_.1 hi).1 hi;omega
 have hl:∀ a∈B.take p,bK a x<=0:=by
  intro a ha
  cases p with
  |zero=>simp at ha
  |succ q =>
   obtain⟨y,hy,hn⟩:=h3 q rfl;have hyx:bK y x<=0:=by
    have:=tCr_.anti x y;have:=tCr_.anti y x;omega
   have hq:q<B.length:=(ap_.1 hy).1;have ey:=(ap_.1 hy).2;rw[List.take_succ_eq_append_getElem hq,ey]at ha ht;rcases aqB.1 ha with ha|ha
   ·exact tCr_.le_trans ((List.pairwise_append.1 ht).2.2 a ha y m5) hyx
   ·obtain rfl:a=y:=by simpa using ha
    exact hyx
 refine List.pairwise_append.2 ⟨ht,aq5.2 ⟨hx,hd⟩,fun a ha b hb=>?_⟩;rcases aqp.1 hb with rfl|hb
 ·exact hl a ha
 ·exact hc a ha b hb
theorem xT:∀ (l B:List (List Val)),Asc bK B->Asc bK (l.foldl Nv B)/\(l.foldl Nv B).Perm (l++B)
 |[],B,h=>⟨h,List.Perm.refl _⟩
 |x::l,B,h=>by
  obtain⟨h1,h2⟩:=xT l (Nv B x) (agq x h);refine⟨h1,h2.trans ?_⟩;refine((afO B x).append_left l).trans ?_;exact List.perm_middle
theorem xJ (l:List (List Val)):Asc bK (gf l):=(xT l [] List.Pairwise.nil).1
theorem cY (l:List (List Val)):(gf l).Perm l:=by
 have:=(xT l [] List.Pairwise.nil).2;rwa[aqI]at this
theorem Iu {l r:List (List Val)}(h1:Asc bK r)(h2:r.Perm l):gf l=r:=uo tCr_ (xJ l) h1 ((cY l).trans h2.symm)
def push {α β ρ:Type}(g:α->β)(N:Nat)(s:List β)(x:α):Option (Sum (List β) ρ):=bif decide (s.length+1<=N)then some (.inl (s++[g x]))else none
theorem G_ {α β ρ:Type}(g:α->β)(N:Nat):∀ (l:List α) (s:List β),s.length+l.length<=N->cn (ρ:=ρ) (push g N) s l=some (.inl (s++l.map g))
 |[],s,_=>by simp[cn]
 |x::l,s,h=>by
  have h':s.length+(l.length+1)<=N:=by simpa using h
  have e:push (ρ:=ρ) g N s x=some (.inl (s++[g x])):=by unfold push;rw[show decide (s.length+1<=N)=true from aqc m0];rfl
  rw[cn,e];have:=G_ (ρ:=ρ) g N l (s++[g x]) m8;simpa using this
theorem J1 {α σ ρ:Type}{f:σ->α->Option (Sum σ ρ)}:∀ (l:List α) (s:σ),(∀ s x,x∈l ->∃ r,f s x=some r) ->∃ r,cn f s l=some r
 |[],s,_=>⟨_,rfl⟩
 |x::l,s,h=>by
  obtain⟨r,hr⟩:=h s x (aqW ..);rw[cn,hr]
  cases r with
  |inl s'=>exact J1 l s' fun s y hy=>h s y (aqx _ hy)
  |inr r=>exact⟨_,rfl⟩
