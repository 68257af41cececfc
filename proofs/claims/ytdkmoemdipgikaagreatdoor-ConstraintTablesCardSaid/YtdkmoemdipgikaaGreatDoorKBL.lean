/- Parts. No condition. -/
import Derived.Test.YtdkmoemdipgikaaGreatDoorKBK
import Derived.Test.YtdkmoemdipgikaaGreatDoorKBH
set_option maxHeartbeats 8000000
set_option maxRecDepth 100000
set_option linter.unusedSimpArgs false
set_option linter.unusedVariables false
namespace Go.Proofs.YtdkmoemdipgikaaGreatDoor
open IntKind (i64)
open Go.RowKit Go.MapKept
theorem F7 (a b:Int):Gk a b=max a b:=by unfold Gk;split<;>omega
def nV (p:au):List SV:=[.c (.int .i64 p.lo),.c (.int .i64 p.hi)]
def vQ (n:Nat):Nat:=45+65536+65536*n
theorem Ky (l:List au):eA (l.map nV)=some (l.map aH):=by
 have:=qF (l.map aH);rw[List.map_map]at this;exact this
theorem bB (n v k:Nat)(l:List au):(Ob.row v (l.map nV) k).below n:=by
 intro e he x hx;obtain⟨y,_,rfl⟩:=am6.1 he;simp[nV]at hx;rcases hx with rfl|rfl<;>trivial
theorem abD {at_:Int}{e:E3}{l:List E3}{na nb:Int}(h:e.1≠at_):jq at_ (e::l) na nb=(e::l,na,nb):=by rw[jq,if_neg h]
theorem drop_at {E:List E3}{i:Nat}{e:E3}(h:E[i]?=some e):E.drop i=e::E.drop (i+1):=by
 obtain⟨hlt,h2⟩:=amw.1 h;rw[am2 hlt,h2]
theorem g7 (l:List au)(p:au)(a b:Int):eI (l++[p]) a b=if p.hi=a then l++[⟨p.lo,b⟩]else(l++[p])++[⟨a,b⟩]:=by
 unfold eI;rw[List.getLast?_concat];simp only[List.dropLast_concat]
theorem yE (a b:Int):eI [] a b=[⟨a,b⟩]:=rfl
theorem tg (l:List au)(p:au)(b:Int)(i:Nat)(hi:i=l.length):((l++[p]).map nV).set i (splice (nV p) 1 [.c (.int .i64 b)])=(l++[(⟨p.lo,b⟩:au)]).map nV:=by
 subst hi;rw[amJ,List.set_append_right _ _ m5,amI,Nat.sub_self,amJ];rfl
structure SwS where
 n:Nat
 i:Nat
 at_:Int
 na:Int
 nb:Int
 out:List au
 c:Nat
structure agi (keep:Bool->Bool->Bool)(E:List E3)(F:List au)(s:SwS):Prop where
 fin:iQ keep s.n (E.drop s.i) s.at_ s.na s.nb s.out=F
 inv:EH keep E (E.drop s.i) s.at_ s.na s.nb s.out
 fuel:vJ s.n (E.drop s.i) s.at_
 ile:s.i<=E.length
 na : -(s.i:Int)<=s.na/\s.na<=s.i
 nb : -(s.i:Int)<=s.nb/\s.nb<=s.i
 out:s.out.length+s.n<=E.length+2
theorem agi.next {keep:Bool->Bool->Bool}{E:List E3}{F:List au}{s:SwS}(h:agi keep E F s)(ha:s.at_<1099511627776){j:Nat}{na nb:Int}(hj:j<=E.length)(hr:jq s.at_ (E.drop s.i) s.na s.nb=(E.drop j,na,nb))(h1 : -(j:Int)<=na/\na<=j)(h2 : -(j:Int)<=nb/\nb<=j){nx:Int}(hx:i_ (E.drop j)=nx){out:List au}(c:Nat)(ho:(if keep (decide (0<na)) (decide (0<nb))=true then eI s.out s.at_ nx else s.out)=out)(hl:out.length<=s.out.length+1) :
  agi keep E F ⟨s.n-1,j,nx,na,nb,out,c⟩/\s.n-1<s.n:=by
 obtain⟨n,i,at_,na0,nb0,out0,c0⟩:=s;obtain⟨f1,f2,f3,f4,f5,f6,f7⟩:=h;dsimp only at *;have hn:0<n:=by have:=f3 ha;split at this<;>omega
 obtain⟨n,rfl⟩:∃ m,n=m+1:=⟨n-1,m0⟩;have g1:=(f2.step ha).1;have g2:=f3.step (na:=na0) (nb:=nb0) f2.srt (fun e he=>(f2.low e he).1) ha;rw[iQ,if_pos ha]at f1;dsimp only at f1;rw[hr]at f1 g1 g2;dsimp only at f1 g1 g2;rw[hx]at f1 g1 g2;rw[ho]at f1 g1;exact⟨⟨f1,g1,g2,hj,h1,h2,by show out.length+(n+1-1)<=_;omega⟩,m0⟩
def WT (E:List E3)(K:SV)(s:SwS):Tm:=[(2,.one K),(7,.one (.c (.lst (E.map cEd)))),(8,.one (.sl 0 (vQ s.c) 0 s.out.length)),(9,.one (.c (.int .i64 s.na))),(10,.one (.c (.int .i64 s.nb))),(11,.one (.c (.int .i64 s.i))),(12,.one (.c (.int .i64 s.at_)))]
theorem gG (E:List E3){K:SV}(hK:K.below 1)(s:SwS):eF 1 (WT E K s):=⟨hK,t7,(by show 0<1;omega),t7,t7,t7,t7,t7⟩
def WT2 (E:List E3)(K:SV)(s:SwS)(j:Nat)(na nb:Int):Tm:=[(2,.one K),(7,.one (.c (.lst (E.map cEd)))),(8,.one (.sl 0 (vQ s.c) 0 s.out.length)),(9,.one (.c (.int .i64 na))),(10,.one (.c (.int .i64 nb))),(11,.one (.c (.int .i64 j))),(12,.one (.c (.int .i64 s.at_)))]
theorem DZ (E:List E3){K:SV}(hK:K.below 1)(s:SwS)(j:Nat)(na nb:Int):eF 1 (WT2 E K s j na nb):=⟨hK,t7,(by show 0<1;omega),t7,t7,t7,t7,t7⟩
theorem sK (keep:Bool->Bool->Bool)(F:FuncId)(caps:List AC)(hk:∀ x y:Bool,PTz F ([.one (.bool x),.one (.bool y)]++caps.map .one) (.val (.one (.bool (keep x y)))))(a b:List au)(E:List E3)(hp:E.Perm (tP a b))(hs:oZ E)(hE:E.length<=4000)
  (hed:PTz 180 [.one (LB a),.one (LB b)] (.val (.one (.lst (E.map cEd))))):PTz 125 [.one (LB a),.one (LB b),.one (.fn F caps)] (.val (.one (.lst ((iQ keep (E.length+2) E 0 0 0 []).map aH)))):=by
 have hran:∀ e∈E,0<=e.1/\e.1<=1099511627776 /\ -1<=e.2.1/\e.2.1<=1 /\ -1<=e.2.2/\e.2.2<=1:=fun e he=>n_ a b e (hp.mem_iff.1 he)
 have hKb:(SV.c (AC.fn F caps)).below 1:=trivial;generalize hF:iQ keep (E.length+2) E 0 0 0 []=R;refine pa_ ae Tryz.func125 rfl rfl Tryz.ntmps125 m5 ?_;simp only[argT,PV.av,amH,amL]
 repeat' (first|refine aF rfl rfl rfl rfl hed rfl ?_|refine gw_ ae tabS_ok ?_|refine gi_ (fun hb=>?_) (fun hb=>?_)|fail)
 refine vH 8 (vQ 0) 2 rfl (by unfold vQ;omega) ?_;refine cK (WT E (.c (.fn F caps))) (fun s=>[.row (vQ s.c) (s.out.map nV) 2]) (agi keep E R) (fun s=>s.n) ⟨E.length+2,0,0,0,0,[],0⟩ ⟨hF,Ig keep hs fun e he=>⟨(hran e he).1,(hran e he).2.1⟩,fun _=>by rw[List.drop_zero];show E.length+_<=E.length+2;split<;>omega,amR _,by show -((0:Nat):Int)<=0/\(0:Int)<=((0:Nat):Int);omega,by show -((0:Nat):Int)<=0/\(0:Int)<=((0:Nat):Int);omega,m5⟩ (fun _ _=>amR _)
  (fm_ ⟨rfl,rfl,rfl,rfl,rfl,rfl,rfl,t7⟩ [] rfl (gG E hKb _) ⟨bB _ _ _ _,t7⟩) ?_
 intro s hok;have hz:=hok.inv.zero;have hout:=hok.out;have hv1:vQ (s.c+1)=vQ s.c+65536:=by unfold vQ;omega
 have hol:(s.out.map nV).length=s.out.length:=amI ..;by_cases hat:s.at_<1099511627776
 ·have hA:decide (s.at_<1099511627776)=true:=amA hat
  unfold WT
  repeat' (first|rw[hA]|refine gw_ ae tabS_ok ?_|refine gi_ (fun hb=>?_) (fun hb=>?_)|fail)
  refine cK (fun r:Nat×Int×Int=>WT2 E (.c (.fn F caps)) s r.1 r.2.1 r.2.2) (fun _=>[.row (vQ s.c) (s.out.map nV) 2]) (fun r=>r.1<=E.length/\jq s.at_ (E.drop s.i) s.na s.nb=jq s.at_ (E.drop r.1) r.2.1 r.2.2/\(-(r.1:Int)<=r.2.1/\r.2.1<=r.1)/\(-(r.1:Int)<=r.2.2/\r.2.2<=r.1)) (fun r=>E.length-r.1) (s.i,s.na,s.nb) ⟨hok.ile,rfl,hok.na,hok.nb⟩ (fun _ _=>amR _)
   (fm_ ⟨rfl,rfl,rfl,rfl,rfl,rfl,rfl,t7⟩ [] rfl (DZ E hKb _ _ _ _) ⟨bB _ _ _ _,t7⟩) ?_
  rintro⟨j,na,nb⟩ ⟨hj,hrun,hna,hnb⟩;dsimp only at hj hrun hna hnb;unfold WT2;dsimp only;by_cases hlt:j<E.length
  ·obtain⟨e,he⟩:=gol_ hlt
   have hG:decide ((j:Int)<(E.length:Int))=true:=amA m0;have her:=hran e (amC he);rw[drop_at he]at hrun;by_cases hq:e.1=s.at_
   ·have hq1:decide (e.1=s.at_)=true:=amA hq
    rw[jq,if_pos hq]at hrun
    repeat' (first|rw[amI]|rw[hG]|rw[hq1]|(refine aZ rfl rfl rfl rfl rfl rfl rfl rfl (aU he) ?_ ?_;· exact⟨m0,rfl⟩)|refine gw_ ae tabS_ok ?_|refine gi_ (fun hb=>?_) (fun hb=>?_)|fail)
    exact⟨(j+1,na+e.2.1,nb+e.2.2),⟨by show j+1<=_;omega,hrun,by show -((j+1:Nat):Int)<=na+e.2.1/\na+e.2.1<=((j+1:Nat):Int);omega,by show -((j+1:Nat):Int)<=nb+e.2.2/\nb+e.2.2<=((j+1:Nat):Int);omega⟩,by show E.length-(j+1)<E.length-j;omega,fm_ ⟨rfl,rfl,rfl,aM (show i64.wrap (na+e.2.1)=na+e.2.1 from aS m0 m0),aM (show i64.wrap (nb+e.2.2)=nb+e.2.2 from aS m0 m0),aM (show i64.wrap ((j:Int)+1)=((j+1:Nat):Int)from aS m0 m0),rfl,t7⟩ [] rfl (DZ E hKb _ _ _ _) ⟨bB _ _ _ _,t7⟩⟩
   ·have hq1:decide (e.1=s.at_)=false:=amz hq
    rw[abD hq,<- drop_at he]at hrun;have hnx:i_ (E.drop j)=e.1:=by rw[drop_at he];rfl
    have hnr:0<=e.1/\e.1<=1099511627776:=⟨her.1,her.2.1⟩;have hkk:=hk (decide (0<na)) (decide (0<nb));have hnext:=fun {out:List au} (c:Nat)=>hok.next (out:=out) hat hj hrun hna hnb hnx c
    cases hkb:keep (decide (0<na)) (decide (0<nb))with
    |false =>
     rw[hkb]at hkk hnext
     repeat' (first|rw[amI]|rw[hG]|rw[hq1]|(refine aZ rfl rfl rfl rfl rfl rfl rfl rfl (aU he) ?_ ?_;· exact⟨m0,rfl⟩)|refine aF rfl rfl rfl rfl hkk rfl ?_|refine gw_ ae tabS_ok ?_|refine gi_ (fun hb=>?_) (fun hb=>?_)|fail)
     have hn2:=hnext (out:=s.out) s.c (if_neg m5) m0;exact⟨_,hn2.1,hn2.2,fm_ ⟨rfl,rfl,rfl,rfl,rfl,rfl,rfl,t7⟩ [] rfl (gG E hKb _) ⟨bB _ _ _ _,t7⟩⟩
    |true =>
     rw[hkb]at hkk hnext;rcases dY s.out with ho|⟨o0,p,ho⟩
     ·rw[ho]at hol hnext ⊢
      repeat' (first|(refine bL rfl rfl rfl rfl rfl (dD ae (k:=2) (by_:=16) (xs:=[nV ⟨s.at_,e.1⟩]) rfl rfl rfl rfl ⟨rfl,_,rfl,by intro e he;simp at he;subst he;rfl⟩ rfl (by unfold vQ;omega) rfl rfl rfl m9 rfl (by simp only[List.length_singleton,am1];omega) (by simp only[List.length_singleton,am1];omega)) ?_)|rw[amI]|rw[hG]|rw[hq1]|(refine aZ rfl rfl rfl rfl rfl rfl rfl rfl (aU he) ?_ ?_;· exact⟨m0,rfl⟩)|refine aF rfl rfl rfl rfl hkk rfl ?_|refine gw_ ae tabS_ok ?_|refine gi_ (fun hb=>?_) (fun hb=>?_)|fail)
      have hn2:=hnext (out:=[⟨s.at_,e.1⟩]) (s.c+1) (yE s.at_ e.1) m5;exact⟨_,hn2.1,hn2.2,fm_ ⟨rfl,rfl,(by show _=some (AV.one (.sl 0 (vQ (s.c+1)) 0 1));rw[hv1];rfl),rfl,rfl,rfl,rfl,t7⟩ [] (by show _=[Ob.row (vQ (s.c+1)) _ 2];rw[hv1];rfl) (gG E hKb _) ⟨bB _ _ _ _,t7⟩⟩
     ·have hlen:s.out.length=o0.length+1:=by rw[ho];simp
      have hadd:=g7 o0 p s.at_ e.1;have hge:((o0++[p]).map nV)[0+((o0.length:Nat):Int).toNat]?=some (nV p):=by rw[anb,Int.toNat_natCast,amJ,amD m5];simp
      have hw1:i64.wrap (((o0.length+1:Nat):Int)-1)=((o0.length:Nat):Int):=aS m0 m0;have hg0:decide ((0:Int)<((o0.length+1:Nat):Int))=true:=amA m0;rw[hlen,ho]at hol ⊢;rw[ho]at hnext;by_cases hph:p.hi=s.at_
      ·have hp1:decide (p.hi=s.at_)=true:=amA hph
       rw[if_pos hph]at hadd
       repeat' (first|(refine kn rfl rfl rfl rfl rfl rfl rfl (e:=nV p) (by exact hge) rfl ?_)|(refine iV rfl rfl rfl rfl rfl rfl (e:=nV p) (by exact hge) ⟨amG rfl,rfl⟩ rfl ?_)|rw[hw1]|rw[hg0]|rw[hp1]|rw[amI]|rw[hG]|rw[hq1]|(refine aZ rfl rfl rfl rfl rfl rfl rfl rfl (aU he) ?_ ?_;· exact⟨m0,rfl⟩)|refine aF rfl rfl rfl rfl hkk rfl ?_|refine gw_ ae tabS_ok ?_|refine gi_ (fun hb=>?_) (fun hb=>?_)|fail)
       have hn2:=hnext s.c hadd m5;exact⟨_,hn2.1,hn2.2,fm_ ⟨rfl,rfl,(by show _=some (AV.one (.sl 0 (vQ s.c) 0 (o0++[_]).length));rw[amE];rfl),rfl,rfl,rfl,rfl,t7⟩ [] (by rw[tg o0 p e.1 _ m5];rfl) (gG E hKb _) ⟨bB _ _ _ _,t7⟩⟩
      ·have hp1:decide (p.hi=s.at_)=false:=amz hph
       rw[if_neg hph]at hadd
       repeat' (first|(refine kn rfl rfl rfl rfl rfl rfl rfl (e:=nV p) (by exact hge) rfl ?_)|(refine bL rfl rfl rfl rfl rfl (dD ae (k:=2) (by_:=16) (xs:=[nV ⟨s.at_,e.1⟩]) rfl rfl rfl rfl ⟨rfl,_,rfl,by intro e he;simp at he;subst he;rfl⟩ rfl (by unfold vQ;omega) rfl rfl rfl m9 hol (by simp only[List.length_singleton,am1];omega) (by simp only[List.length_singleton,am1];omega)) ?_)|rw[hw1]|rw[hg0]|rw[hp1]|rw[amI]|rw[hG]|rw[hq1]|(refine aZ rfl rfl rfl rfl rfl rfl rfl rfl (aU he) ?_ ?_;· exact⟨m0,rfl⟩)|refine aF rfl rfl rfl rfl hkk rfl ?_|refine gw_ ae tabS_ok ?_|refine gi_ (fun hb=>?_) (fun hb=>?_)|fail)
       have hn2:=hnext (s.c+1) hadd m5;exact⟨_,hn2.1,hn2.2,fm_ ⟨rfl,rfl,(by show _=some (AV.one (.sl 0 (vQ (s.c+1)) 0 (o0++[p]++[_]).length));rw[hv1,amE,amE];rfl),rfl,rfl,rfl,rfl,t7⟩ [] (by show _=[Ob.row (vQ (s.c+1)) _ 2];rw[hv1,amJ (l₁:=o0++[p])];rfl) (gG E hKb _) ⟨bB _ _ _ _,t7⟩⟩
  ·have hj2:j=E.length:=m0
   have hG:decide ((j:Int)<(E.length:Int))=false:=amz m0;have hnil:E.drop j=[]:=by rw[hj2,anq]
   have hrun:jq s.at_ (E.drop s.i) s.na s.nb=(E.drop j,na,nb):=by rw[hrun,hnil];rfl
   have hnx:i_ (E.drop j)=1099511627776:=by rw[hnil];rfl
   have hkk:=hk (decide (0<na)) (decide (0<nb));have hnext:=fun {out:List au} (c:Nat)=>hok.next (out:=out) hat hj hrun hna hnb hnx c
   cases hkb:keep (decide (0<na)) (decide (0<nb))with
   |false =>
    rw[hkb]at hkk hnext
    repeat' (first|rw[amI]|rw[hG]|refine aF rfl rfl rfl rfl hkk rfl ?_|refine gw_ ae tabS_ok ?_|refine gi_ (fun hb=>?_) (fun hb=>?_)|fail)
    have hn2:=hnext (out:=s.out) s.c (if_neg m5) m0;exact⟨_,hn2.1,hn2.2,fm_ ⟨rfl,rfl,rfl,rfl,rfl,rfl,rfl,t7⟩ [] rfl (gG E hKb _) ⟨bB _ _ _ _,t7⟩⟩
   |true =>
    rw[hkb]at hkk hnext;rcases dY s.out with ho|⟨o0,p,ho⟩
    ·rw[ho]at hol hnext ⊢
     repeat' (first|(refine bL rfl rfl rfl rfl rfl (dD ae (k:=2) (by_:=16) (xs:=[nV ⟨s.at_,1099511627776⟩]) rfl rfl rfl rfl ⟨rfl,_,rfl,by intro e he;simp at he;subst he;rfl⟩ rfl (by unfold vQ;omega) rfl rfl rfl m9 rfl (by simp only[List.length_singleton,am1];omega) (by simp only[List.length_singleton,am1];omega)) ?_)|rw[amI]|rw[hG]|refine aF rfl rfl rfl rfl hkk rfl ?_|refine gw_ ae tabS_ok ?_|refine gi_ (fun hb=>?_) (fun hb=>?_)|fail)
     have hn2:=hnext (out:=[⟨s.at_,1099511627776⟩]) (s.c+1) (yE s.at_ 1099511627776) m5;exact⟨_,hn2.1,hn2.2,fm_ ⟨rfl,rfl,(by show _=some (AV.one (.sl 0 (vQ (s.c+1)) 0 1));rw[hv1];rfl),rfl,rfl,rfl,rfl,t7⟩ [] (by show _=[Ob.row (vQ (s.c+1)) _ 2];rw[hv1];rfl) (gG E hKb _) ⟨bB _ _ _ _,t7⟩⟩
    ·have hlen:s.out.length=o0.length+1:=by rw[ho];simp
     have hadd:=g7 o0 p s.at_ 1099511627776;have hge:((o0++[p]).map nV)[0+((o0.length:Nat):Int).toNat]?=some (nV p):=by rw[anb,Int.toNat_natCast,amJ,amD m5];simp
     have hw1:i64.wrap (((o0.length+1:Nat):Int)-1)=((o0.length:Nat):Int):=aS m0 m0;have hg0:decide ((0:Int)<((o0.length+1:Nat):Int))=true:=amA m0;rw[hlen,ho]at hol ⊢;rw[ho]at hnext;by_cases hph:p.hi=s.at_
     ·have hp1:decide (p.hi=s.at_)=true:=amA hph
      rw[if_pos hph]at hadd
      repeat' (first|(refine kn rfl rfl rfl rfl rfl rfl rfl (e:=nV p) (by exact hge) rfl ?_)|(refine iV rfl rfl rfl rfl rfl rfl (e:=nV p) (by exact hge) ⟨amG rfl,rfl⟩ rfl ?_)|rw[hw1]|rw[hg0]|rw[hp1]|rw[amI]|rw[hG]|refine aF rfl rfl rfl rfl hkk rfl ?_|refine gw_ ae tabS_ok ?_|refine gi_ (fun hb=>?_) (fun hb=>?_)|fail)
      have hn2:=hnext s.c hadd m5;exact⟨_,hn2.1,hn2.2,fm_ ⟨rfl,rfl,(by show _=some (AV.one (.sl 0 (vQ s.c) 0 (o0++[_]).length));rw[amE];rfl),rfl,rfl,rfl,rfl,t7⟩ [] (by rw[tg o0 p 1099511627776 _ m5];rfl) (gG E hKb _) ⟨bB _ _ _ _,t7⟩⟩
     ·have hp1:decide (p.hi=s.at_)=false:=amz hph
      rw[if_neg hph]at hadd
      repeat' (first|(refine kn rfl rfl rfl rfl rfl rfl rfl (e:=nV p) (by exact hge) rfl ?_)|(refine bL rfl rfl rfl rfl rfl (dD ae (k:=2) (by_:=16) (xs:=[nV ⟨s.at_,1099511627776⟩]) rfl rfl rfl rfl ⟨rfl,_,rfl,by intro e he;simp at he;subst he;rfl⟩ rfl (by unfold vQ;omega) rfl rfl rfl m9 hol (by simp only[List.length_singleton,am1];omega) (by simp only[List.length_singleton,am1];omega)) ?_)|rw[hw1]|rw[hg0]|rw[hp1]|rw[amI]|rw[hG]|refine aF rfl rfl rfl rfl hkk rfl ?_|refine gw_ ae tabS_ok ?_|refine gi_ (fun hb=>?_) (fun hb=>?_)|fail)
      have hn2:=hnext (s.c+1) hadd m5;exact⟨_,hn2.1,hn2.2,fm_ ⟨rfl,rfl,(by show _=some (AV.one (.sl 0 (vQ (s.c+1)) 0 (o0++[p]++[_]).length));rw[hv1,amE,amE];rfl),rfl,rfl,rfl,rfl,t7⟩ [] (by show _=[Ob.row (vQ (s.c+1)) _ 2];rw[hv1,amJ (l₁:=o0++[p])];rfl) (gG E hKb _) ⟨bB _ _ _ _,t7⟩⟩
 ·have hA:decide (s.at_<1099511627776)=false:=amz hat
  have hfin:s.out=R:=by
   have:=hok.fin
   cases hn:s.n with
   |zero=>rw[hn]at this;exact this
   |succ n=>rw[hn,iQ,if_neg hat]at this;exact this
  unfold WT;refine sI 0 8 (cs:=s.out.map aH) rfl (Ky _) rfl m5 ?_
  repeat' (first|rw[hA]|refine gw_ ae tabS_ok ?_|refine gi_ (fun hb=>?_) (fun hb=>?_)|fail)
  rw[hfin];refine⟨.inr rfl,?_⟩
  first|exact⟨t7,rfl⟩|exact⟨⟨t7,t7⟩,rfl⟩|(refine⟨?_,rfl⟩;repeat' (first|exact t7|rfl|apply And.intro))
def nR (n:Int):List Int->List Int
 |[]=>[n]
 |x::l=>if x<n then x::nR n l else if n<x then n::x::l else x::l
def ub:List au->List Int->List Int
 |[],out=>out
 |p::l,out=>ub l (bif az p then nR p.hi (nR p.lo out)else out)
theorem tR (n:Int):∀ (l:List Int) (x:Int),x∈nR n l↔x=n\/x∈l
 |[],x=>by simp[nR]
 |y::l,x=>by
  rw[nR];by_cases h1:y<n
  ·rw[if_pos h1,amN,tR n l x,amN]
   constructor
   ·rintro(h|h|h)
    ·exact .inr (.inl h)
    ·exact .inl h
    ·exact .inr (.inr h)
   ·rintro(h|h|h)
    ·exact .inr (.inl h)
    ·exact .inl h
    ·exact .inr (.inr h)
  ·rw[if_neg h1]
   by_cases h2:n<y
   ·rw[if_pos h2,amN]
   ·rw[if_neg h2]
    have:n=y:=m0
    subst this;constructor
    ·exact .inr
    ·rintro(h|h)
     ·subst h;exact ani ..
     ·exact h
theorem yj (n:Int):∀ {l:List Int},l.Pairwise (· < ·)->(nR n l).Pairwise (· < ·)
 |[],_=>anr.2 ⟨fun x hx=>(by cases hx),List.Pairwise.nil⟩
 |y::l,h=>by
  have h':=anr.1 h;rw[nR];by_cases h1:y<n
  ·rw[if_pos h1,anr]
   refine⟨fun x hx=>?_,yj n h'.2⟩;rcases(tR n l x).1 hx with rfl|hx
   ·exact h1
   ·exact h'.1 x hx
  ·rw[if_neg h1]
   by_cases h2:n<y
   ·rw[if_pos h2,anr]
    refine⟨fun x hx=>?_,h⟩;rcases amN.1 hx with rfl|hx
    ·exact h2
    ·have:=h'.1 x hx;omega
   ·rw[if_neg h2];exact h
theorem pY (n:Int):∀ l:List Int,(nR n l).length<=l.length+1
 |[]=>amM _
 |y::l=>by
  have:=pY n l;rw[nR];split
  ·simp;omega
  ·split<;>simp
theorem zL:∀ (l:List au) {out:List Int},out.Pairwise (· < ·)->(ub l out).Pairwise (· < ·)
 |[],_,h=>h
 |p::l,out,h=>by
  rw[ub];refine zL l ?_
  cases az p with
  |false=>exact h
  |true=>exact yj _ (yj _ h)
theorem BF:∀ (l:List au) (out:List Int) (x:Int),x∈ub l out↔x∈out \/ ∃ p∈l,az p=true/\(x=p.lo\/x=p.hi)
 |[],out,x=>by simp[ub]
 |p::l,out,x=>by
  rw[ub,BF l]
  cases hp:az p with
  |false =>
   rw[amx];constructor
   ·rintro(h|⟨q,hq,h⟩)
    ·exact .inl h
    ·exact .inr ⟨q,amU _ hq,h⟩
   ·rintro(h|⟨q,hq,h⟩)
    ·exact .inl h
    ·rcases amN.1 hq with rfl|hq
     ·rw[hp]at h;exact absurd h.1 m5
     ·exact .inr ⟨q,hq,h⟩
  |true =>
   rw[amy,tR,tR];constructor
   ·rintro((h|h|h)|⟨q,hq,h⟩)
    ·exact .inr ⟨p,ani .., hp,.inr h⟩
    ·exact .inr ⟨p,ani .., hp,.inl h⟩
    ·exact .inl h
    ·exact .inr ⟨q,amU _ hq,h⟩
   ·rintro(h|⟨q,hq,h0,h⟩)
    ·exact .inl (.inr (.inr h))
    ·rcases amN.1 hq with rfl|hq
     ·rcases h with h|h
      ·exact .inl (.inr (.inl h))
      ·exact .inl (.inl h)
     ·exact .inr ⟨q,hq,h0,h⟩
theorem Bt:∀ (l:List au) (out:List Int),(ub l out).length<=out.length+2*l.length
 |[],_=>amM _
 |p::l,out=>by
  have h1:=Bt l (bif az p then nR p.hi (nR p.lo out)else out);have h2:=pY p.hi (nR p.lo out);have h3:=pY p.lo out;rw[ub,amS]
  cases hp:az p<;>rw[hp]at h1<;>simp only[amy,amx]at h1 ⊢ <;>omega
def fA (w:Bool->Bool->Bool)(a b:List au):List Int->List au->List au
 |[],out=>out
 |[_],out=>out
 |x::y::ps,out=>fA w a b (y::ps) (if w (cF a x) (cF b x)then eI out x y else out)
def Calm (l:List au)(x y:Int):Prop :=∀ p∈l,az p=true->(p.lo<=x\/y<=p.lo)/\(p.hi<=x\/y<=p.hi)
theorem Calm.eq {l:List au}{x y t:Int}(h:Calm l x y)(h1:x<=t)(h2:t<y):cF l t=cF l x:=by
 rw[Bool.eq_iff_iff,du,du];constructor
 ·rintro⟨p,hp,hv,a,b⟩
  have:=h p hp hv;exact⟨p,hp,hv,m0,m0⟩
 ·rintro⟨p,hp,hv,a,b⟩
  have:=h p hp hv;exact⟨p,hp,hv,m0,m0⟩
theorem J6 (w:Bool->Bool->Bool)(a b:List au):∀ (ps:List Int) (x:Int) (out:List au),(x::ps).Pairwise (· < ·)->(∀ y∈x::ps,0<=y/\y<=1099511627776)->1099511627776∈x::ps ->
  (∀ p∈a,az p=true->(p.lo<=x\/p.lo∈ps)/\(p.hi<=x\/p.hi∈ps))->(∀ p∈b,az p=true->(p.lo<=x\/p.lo∈ps)/\(p.hi<=x\/p.hi∈ps)) ->
  bJ out->(∀ p∈out,p.hi<=x)->(∀ t,cF out t=((decide (0<=t)&&decide (t<x))&&w (cF a t) (cF b t))) ->
  bJ (fA w a b (x::ps) out) /\ ∀ t,cF (fA w a b (x::ps) out) t=((decide (0<=t)&&decide (t<1099511627776))&&w (cF a t) (cF b t))
 |[],x,out,_,_,hf,_,_,h1,_,h3=>by
  have:x=1099511627776:=(am'.1 hf).symm;subst this;exact⟨h1,h3⟩
 |y::ps,x,out,hs,hr,hf,ha,hb,h1,h2,h3=>by
  have hs':=anr.1 hs;have hs2:=anr.1 hs'.2;have hxy:=hs'.1 y (ani ..);have hx:=hr x (ani ..);have hy:=hr y (amU _ (ani ..));have hcalm:∀ l:List au,(∀ p∈l,az p=true->(p.lo<=x\/p.lo∈y::ps)/\(p.hi<=x\/p.hi∈y::ps))->Calm l x y /\ ∀ p∈l,az p=true->(p.lo<=y\/p.lo∈ps)/\(p.hi<=y\/p.hi∈ps):=fun l hl=>by
   have key:∀ z:Int,(z<=x\/z∈y::ps)->(z<=x\/y<=z)/\(z<=y\/z∈ps):=fun z hz=>by
    rcases hz with hz|hz
    ·exact⟨.inl hz,.inl m0⟩
    ·rcases amN.1 hz with rfl|hz
     ·exact⟨.inr (Int.le_refl _),.inl (Int.le_refl _)⟩
     ·exact⟨.inr (by have:=hs2.1 z hz;omega),.inr hz⟩
   exact⟨fun p hp hv=>⟨(key _ (hl p hp hv).1).1,(key _ (hl p hp hv).2).1⟩,fun p hp hv=>⟨(key _ (hl p hp hv).1).2,(key _ (hl p hp hv).2).2⟩⟩
  obtain⟨ca,ca'⟩:=hcalm a ha;obtain⟨cb,cb'⟩:=hcalm b hb;have hf':1099511627776∈y::ps:=by
   rcases amN.1 hf with h|h
   ·omega
   ·exact h
  rw[fA];have hw:∀ t,x<=t->t<y->w (cF a t) (cF b t)=w (cF a x) (cF b x):=fun t e1 e2=>by rw[ca.eq e1 e2,cb.eq e1 e2]
  refine J6 w a b ps y _ hs'.2 (fun z hz=>hr z (amU _ hz)) hf' ca' cb' ?_ ?_ ?_
  ·split
   ·exact(fV h1 h2 hx.1 hxy hy.2).1
   ·exact h1
  ·split
   ·exact(fV h1 h2 hx.1 hxy hy.2).2.1
   ·exact fun p hp=>by have:=h2 p hp;omega
  ·intro t
   by_cases hlt:t<x
   ·have e2:cF (if w (cF a x) (cF b x)then eI out x y else out) t=cF out t:=by
     split
     ·rw[(fV h1 h2 hx.1 hxy hy.2).2.2,amz (show ¬ x<=t by omega),Bool.false_and,Bool.or_false]
     ·rfl
    rw[e2,h3 t,amA hlt,amA (show t<y by omega)]
   ·have e0:cF out t=false:=by rw[h3 t,amz hlt,Bool.and_false,Bool.false_and]
    by_cases hty:t<y
    ·rw[hw t m0 hty,amA (show 0<=t by omega),amA hty,am4,am4]
     cases hk:w (cF a x) (cF b x)with
     |true=>rw[if_pos rfl,(fV h1 h2 hx.1 hxy hy.2).2.2,e0,amA (show x<=t by omega),amA hty];rfl
     |false=>rw[if_neg m5,e0]
    ·rw[amz hty,Bool.and_false,Bool.false_and]
     split
     ·rw[(fV h1 h2 hx.1 hxy hy.2).2.2,e0,amz hty,Bool.and_false];rfl
     ·exact e0
def iW (a b:List au):List Int:=ub (⟨0,1099511627776⟩::(a++b)) []
theorem D9 (w:Bool->Bool->Bool)(a b:List au):bJ (fA w a b (iW a b) []) /\ ∀ t,cF (fA w a b (iW a b) []) t=((decide (0<=t)&&decide (t<1099511627776))&&w (cF a t) (cF b t)):=by
 have h0:az ⟨0,1099511627776⟩=true:=by decide
 have hm:∀ x,x∈iW a b ↔ ∃ p∈(⟨0,1099511627776⟩::(a++b):List au),az p=true/\(x=p.lo\/x=p.hi):=fun x=>by
  unfold iW;rw[BF];simp
 have hasc:(iW a b).Pairwise (· < ·):=zL _ List.Pairwise.nil;have hr:∀ y∈iW a b,0<=y/\y<=1099511627776:=fun y hy=>by
  obtain⟨p,_,hv,h⟩:=(hm y).1 hy;have:=iY hv;omega
 have hz:(0:Int)∈iW a b:=(hm 0).2 ⟨_,ani .., h0,.inl rfl⟩;have hF:(1099511627776:Int)∈iW a b:=(hm _).2 ⟨_,ani .., h0,.inr rfl⟩;have hall:∀ p∈a++b,az p=true->p.lo∈iW a b/\p.hi∈iW a b:=fun p hp hv=>⟨(hm _).2 ⟨p,amU _ hp,hv,.inl rfl⟩,(hm _).2 ⟨p,amU _ hp,hv,.inr rfl⟩⟩
 generalize iW a b=P at hasc hr hz hF hall
 cases P with
 |nil=>cases hz
 |cons x ps =>
  have hx0:x=0:=by
   rcases amN.1 hz with h|h
   ·exact h.symm
   ·have:=(anr.1 hasc).1 0 h
    have:=hr x (ani ..);omega
  subst hx0;have hin:∀ z∈(0:Int)::ps,z<=0\/z∈ps:=fun z hz=>by
   rcases amN.1 hz with rfl|h
   ·exact .inl (Int.le_refl _)
   ·exact .inr h
  refine J6 w a b ps 0 [] hasc hr hF (fun p hp hv=>?_) (fun p hp hv=>?_) trivial (fun p hp=>by cases hp) fun t=>?_
  ·have:=hall p (List.mem_append_left _ hp) hv
   exact⟨hin _ this.1,hin _ this.2⟩
  ·have:=hall p (List.mem_append_right _ hp) hv
   exact⟨hin _ this.1,hin _ this.2⟩
  ·have:(decide (0<=t)&&decide (t<0))=false:=by
    by_cases h:t<0
    ·rw[amz (show ¬ 0<=t by omega),Bool.false_and]
    ·rw[amz h,Bool.and_false]
   rw[this,Bool.false_and,lu]
theorem sn (keep:Bool->Bool->Bool){a b c d:List au}{w:Bool->Bool->Bool}{E:List E3}(hp:E.Perm (tP a b))(hs:oZ E){n:Nat}(hn:E.length+2<=n)
  (h:∀ t,0<=t->t<1099511627776->keep (cF a t) (cF b t)=w (cF c t) (cF d t)):iQ keep n E 0 0 0 []=fA w c d (iW c d) []:=by
 obtain⟨h1,h2⟩:=LA keep hp hs hn;obtain⟨h3,h4⟩:=D9 w c d;refine iI h1 h3 fun t=>?_
 rw[h2,h4];by_cases q1:0<=t
 ·by_cases q2:t<1099511627776
  ·rw[h t q1 q2]
  ·rw[amz q2,Bool.and_false,Bool.false_and,Bool.false_and]
 ·rw[amz q1,Bool.false_and,Bool.false_and,Bool.false_and]
noncomputable section
def gv (a_l:(List au))(a_t:Int):(Int)->Option (Step (Int) (Bool)):=fun s=>match s with
 |i_1=>bif (decide (i_1<((a_l.length:Nat):Int)))then(aq a_l i_1).bind fun x_3=>(dU x_3 a_t).bind fun r_4=>bif r_4 then some (.ret true)else
 some (.next (i64.wrap (i_1+(1:Int))))else
 some (.exit i_1)
def vM:Sum (Int) (Bool)->Option ((Bool))
 |.inl i_1=>some false
 |.inr q=>some q
def K6 (a_l:(List au))(a_t:Int):Option (Bool):=(ap (gv a_l a_t) fuel (0:Int)).bind (vM)
instance gCont3_ok {a_l : (List au)} {a_t : Int} {r : Bool} : OkC (K6 a_l a_t = some r) (PTz 187 [.one (.lst (a_l.map aH)), .one (.int .i64 a_t)] (.val (.one (.bool r)))) := .mk fun H => by
 unfold K6 at H;refine po_ Tryz.func187 Tryz.ntmps187 ?_;refine aX ?_;refine alM_ (fun s:Int=>match s with|i_1=>[(0,.one (.c (.lst (a_l.map aH)))),(1,.one (.c (.int .i64 a_t))),(5,.one (.c (.int .i64 i_1)))]) (fun s=>match s with|i_1=>[]) H (fun _=>amR _)
  (fm_ bH [] rfl a8 trivial) ?_
 rintro i_1 st1 hb1 hk1;unfold gv at hb1;dsimp only at hb1 ⊢;rcases af hb1 with⟨q_2,hb1⟩|⟨q_2,hb1⟩
 ·obtain⟨x_3,i1z,i1,i1x,hb1⟩:=aY (f:=aH) hb1
  obtain⟨r_4,c2,hb1⟩:=bd_ hb1;replace c2:=gContains1_ok c2;rcases af hb1 with⟨q_5,hb1⟩|⟨q_5,hb1⟩
  ·exact cL hb1 hk1
  cases hb1;refine aX ?_;exact⟨_,rfl,fm_ bH [] rfl a8 trivial⟩
 exact cL hb1 hk1
def Ak (a_kind:Int)(a_a:Bool)(a_b:Bool):Option (Bool):=bif (decide (a_kind=(1:Int)))then bif a_a then some a_b else
 some false else
 bif (decide (a_kind=(2:Int)))then bif a_a then some true else
 some a_b else
 bif (decide (a_kind=(3:Int)))then bif a_a then some (!a_b)else
 some false else
 bif (!a_a)then some (!a_b)else
 some false
instance gWant3_ok {a_kind : Int} {a_a : Bool} {a_b : Bool} {r : Bool} : OkC (Ak a_kind a_a a_b = some r) (PTz 186 [.one (.int .i64 a_kind), .one (.bool a_a), .one (.bool a_b)] (.val (.one (.bool r)))) := .mk fun H => by
 unfold Ak at H;refine po_ Tryz.func186 Tryz.ntmps186 ?_;exact ax H
def j8 (a_l:(List au)):((List Int)×Int)->Option (Step ((List Int)×Int) ((List Int))):=fun s=>match s with
 |(out_1,i_2)=>bif (decide (i_2<((a_l.length:Nat):Int)))then(aq a_l i_2).bind fun x_4=>(dw x_4).bind fun r_5=>bif r_5 then(o6 out_1 x_4.lo).bind fun r_7=>(o6 r_7 x_4.hi).bind fun r_8=>some (.next (r_8,(i64.wrap (i_2+(1:Int)))))else
 some (.next (out_1,(i64.wrap (i_2+(1:Int)))))else
 some (.exit (out_1,i_2))
def I1:Sum ((List Int)×Int) ((List Int))->Option (((List Int)))
 |.inl (out_1,i_2)=>some out_1
 |.inr q=>some q
def ae0 (a_l:(List au)):Option ((List Int)):=(ap (j8 a_l) fuel ([],(0:Int))).bind (I1)
instance gPts3_ok {a_l : (List au)} {r : (List Int)} : OkC (ae0 a_l = some r) (PTz 185 [.one (.lst (a_l.map aH))] (.val (.one (.lst (r.map (fun x => [AC.int .i64 x])))))) := .mk fun H => by
 unfold ae0 at H;refine po_ Tryz.func185 Tryz.ntmps185 ?_;refine aX ?_;refine OD 3 rfl rfl ?_;refine alM_ (fun s:(List Int)×Int=>match s with|(out_1,i_2)=>[(0,.one (.c (.lst (a_l.map aH)))),(3,.one (.c (.lst (out_1.map (fun x=>[AC.int .i64 x]))))),(4,.one (.c (.int .i64 i_2)))]) (fun s=>match s with|(out_1,i_2)=>[]) H (fun _=>amR _)
  (fm_ bH [] rfl a8 trivial) ?_
 rintro⟨out_1,i_2⟩ st1 hb1 hk1;unfold j8 at hb1;dsimp only at hb1 ⊢;rcases af hb1 with⟨q_3,hb1⟩|⟨q_3,hb1⟩
 ·obtain⟨x_4,i1z,i1,i1x,hb1⟩:=aY (f:=aH) hb1
  obtain⟨r_5,c2,hb1⟩:=bd_ hb1;replace c2:=gValid1_ok c2;rcases af hb1 with⟨q_6,hb1⟩|⟨q_6,hb1⟩
  ·obtain⟨r_7,c3,hb1⟩:=bd_ hb1
   replace c3:=gIns3_ok c3;obtain⟨r_8,c4,hb1⟩:=bd_ hb1;replace c4:=gIns3_ok c4
   cases hb1;refine aX ?_;exact⟨_,rfl,fm_ jb [] rfl a8 trivial⟩
  cases hb1;refine aX ?_;exact⟨_,rfl,fm_ jb [] rfl a8 trivial⟩
 exact cL hb1 hk1
end
theorem Dz (l:List au)(t:Int)(hl:l.length<=1000000):K6 l t=some (cF l t):=by
 have key:∀ (n i:Nat),i<=l.length->l.length-i<n->(ap (gv l t) n (i:Int)).bind vM=some (cF (l.drop i) t):=by
  intro n
  induction n with
  |zero=>intro i _ h;omega
  |succ n ih =>
   intro i hi hn;rw[ap];by_cases hlt:i<l.length
   ·obtain⟨x,hx⟩:=gol_ hlt
    have hd:l.drop i=x::l.drop (i+1):=by rw[am2 hlt,(amw.1 hx).2]
    have hb:gv l t (i:Int)=bif (az x&&inP x t)then some (.ret true)else some (.next ((i+1:Nat):Int)):=by
     unfold gv;simp only;rw[aC hx,amy,gn_ hx,amv,CG,amv,wrapN m0];rfl
    rw[hb,hd,mE]
    cases az x&&inP x t with
    |true=>rfl
    |false =>
     show(ap (gv l t) n ((i+1:Nat):Int)).bind vM=_;rw[ih (i+1) m0 m0,Bool.false_or]
   ·have:i=l.length:=m0
    subst this;have hb:gv l t ((l.length:Nat):Int)=some (.exit ((l.length:Nat):Int)):=by
     unfold gv;simp only;rw[lF_];rfl
    rw[hb,anq];rfl
 have:=key fuel 0 (amR _) (by unfold fuel;omega);rw[List.drop_zero]at this;exact this
theorem Ov (n:Int):∀ l:List Int,nR n l=St.ins n l
 |[]=>rfl
 |x::l=>by rw[nR,St.ins,Ov n l]
theorem Kz (l:List Int)(n:Int)(hl:l.length<=1000000):o6 l n=some (nR n l):=by rw[Ac l n hl,Ov]
theorem ac_ (l:List au)(hl:l.length<=100000):ae0 l=some (ub l []):=by
 have key:∀ (n i:Nat) (out:List Int),i<=l.length->l.length-i<n->out.length+2*(l.length-i)<=900000->(ap (j8 l) n (out,(i:Int))).bind I1=some (ub (l.drop i) out):=by
  intro n
  induction n with
  |zero=>intro i out _ h _;omega
  |succ n ih =>
   intro i out hi hn ho;rw[ap];by_cases hlt:i<l.length
   ·obtain⟨x,hx⟩:=gol_ hlt
    have hd:l.drop i=x::l.drop (i+1):=by rw[am2 hlt,(amw.1 hx).2]
    have h1:=pY x.lo out;have h2:=pY x.hi (nR x.lo out);have hb:j8 l (out,(i:Int))=some (.next (bif az x then nR x.hi (nR x.lo out)else out,((i+1:Nat):Int))):=by
     unfold j8;simp only;rw[aC hx,amy,gn_ hx,amv,show dw x=gPV x from rfl,vg,amv,wrapN m0]
     cases az x with
     |false=>rfl
     |true=>rw[amy,amy,Kz _ _ m0,amv,Kz _ _ m0,amv]
    rw[hb,hd,ub];exact ih (i+1) _ m0 m0 (by cases az x<;>simp<;>omega)
   ·have:i=l.length:=m0
    subst this;have hb:j8 l (out,((l.length:Nat):Int))=some (.exit (out,((l.length:Nat):Int))):=by
     unfold j8;simp only;rw[lF_];rfl
    rw[hb,anq];rfl
 have:=key fuel 0 [] (amR _) (by unfold fuel;omega) m8;rw[List.drop_zero]at this;exact this
def kB (w:Bool->Bool->Bool)(a b:List au):List au:=fA w a b (iW a b) []
theorem aaw (w:Bool->Bool->Bool)(a b:List au):bJ (kB w a b) /\ ∀ t,cF (kB w a b) t=((decide (0<=t)&&decide (t<1099511627776))&&w (cF a t) (cF b t)):=D9 w a b
theorem ahm (x y:Bool):PTz 153 ([.one (.bool x),.one (.bool y)]++([]:List AC).map .one) (.val (.one (.bool (x)))):=by
 refine pa_ tab_ok Tryz.func153 rfl rfl Tryz.ntmps153 m5 ?_;simp only[argT,PV.av,amH,amL,am5]
 cases x<;>cases y
 ·skip
  repeat' (first|refine gw_ tab_ok tabS_ok ?_|refine gi_ (fun hb=>?_) (fun hb=>?_)|fail)
  exact⟨.inr rfl,⟨t7,t7⟩,rfl⟩
 ·skip
  repeat' (first|refine gw_ tab_ok tabS_ok ?_|refine gi_ (fun hb=>?_) (fun hb=>?_)|fail)
  exact⟨.inr rfl,⟨t7,t7⟩,rfl⟩
 ·skip
  repeat' (first|refine gw_ tab_ok tabS_ok ?_|refine gi_ (fun hb=>?_) (fun hb=>?_)|fail)
  exact⟨.inr rfl,⟨t7,t7⟩,rfl⟩
 ·skip
  repeat' (first|refine gw_ tab_ok tabS_ok ?_|refine gi_ (fun hb=>?_) (fun hb=>?_)|fail)
  exact⟨.inr rfl,⟨t7,t7⟩,rfl⟩
theorem ahr (a:List au)(ha:a.length<=1000):PTz 97 [.one (.lst (a.map aH))] (.val (.one (.lst ((kB (fun x y=>x) a []).map aH)))):=by
 obtain⟨E,hp,hs,hed⟩:=sy a [] ha m5;have hE:E.length<=4000:=by
  rw[hp.length_eq];have:=zJ a [];try simp at this
  omega
 have hsw:=sK (fun x y=>x) 153 [] ahm a [] E hp hs hE hed;rw[sn (w:=fun x y=>x) (c:=a) (d:=[]) (fun x y=>x) hp hs (amM _) (fun _ _ _=>rfl)]at hsw;change Pure _ _ _ (.val (.one (.lst ((kB (fun x y=>x) a []).map aH))))at hsw;generalize kB (fun x y=>x) a []=r at hsw ⊢;refine po_ Tryz.func97 Tryz.ntmps97 ?_
 repeat' (first|refine aF rfl rfl rfl rfl hsw rfl ?_|refine gw_ tab_ok tabS_ok ?_|refine gi_ (fun hb=>?_) (fun hb=>?_)|fail)
 exact⟨.inr rfl,⟨t7,t7⟩,rfl⟩
def Ag (a:List au):Option (List au):=bif decide (a.length<=1000)then some (kB (fun x y=>x) a [])else none
theorem ach {a r:List au}(H:Ag a=some r):PTz 97 [.one (.lst (a.map aH))] (.val (.one (.lst (r.map aH)))):=by
 unfold Ag at H;obtain⟨g,H⟩:=bo H
 cases H;exact ahr a g
theorem afh (x y:Bool):PTz 126 ([.one (.bool x),.one (.bool y)]++([]:List AC).map .one) (.val (.one (.bool (x&&y)))):=by
 refine pa_ tab_ok Tryz.func126 rfl rfl Tryz.ntmps126 m5 ?_;simp only[argT,PV.av,amH,amL,am5]
 cases x<;>cases y
 ·skip
  repeat' (first|refine gw_ tab_ok tabS_ok ?_|refine gi_ (fun hb=>?_) (fun hb=>?_)|fail)
  exact⟨.inr rfl,⟨t7,t7⟩,rfl⟩
 ·skip
  repeat' (first|refine gw_ tab_ok tabS_ok ?_|refine gi_ (fun hb=>?_) (fun hb=>?_)|fail)
  exact⟨.inr rfl,⟨t7,t7⟩,rfl⟩
 ·skip
  repeat' (first|refine gw_ tab_ok tabS_ok ?_|refine gi_ (fun hb=>?_) (fun hb=>?_)|fail)
  exact⟨.inr rfl,⟨t7,t7⟩,rfl⟩
 ·skip
  repeat' (first|refine gw_ tab_ok tabS_ok ?_|refine gi_ (fun hb=>?_) (fun hb=>?_)|fail)
  exact⟨.inr rfl,⟨t7,t7⟩,rfl⟩
theorem adU (a b:List au)(ha:a.length<=1000)(hb:b.length<=1000):PTz 71 [.one (.lst (a.map aH)),.one (.lst (b.map aH))] (.val (.one (.lst ((kB (fun x y=>x&&y) a b).map aH)))):=by
 obtain⟨E,hp,hs,hed⟩:=sy a b ha hb;have hE:E.length<=4000:=by
  rw[hp.length_eq];have:=zJ a b;try simp at this
  omega
 have hsw:=sK (fun x y=>x&&y) 126 [] afh a b E hp hs hE hed;rw[sn (w:=fun x y=>x&&y) (c:=a) (d:=b) (fun x y=>x&&y) hp hs (amM _) (fun _ _ _=>rfl)]at hsw;change Pure _ _ _ (.val (.one (.lst ((kB (fun x y=>x&&y) a b).map aH))))at hsw;generalize kB (fun x y=>x&&y) a b=r at hsw ⊢;refine po_ Tryz.func71 Tryz.ntmps71 ?_
 repeat' (first|refine aF rfl rfl rfl rfl hsw rfl ?_|refine gw_ tab_ok tabS_ok ?_|refine gi_ (fun hb=>?_) (fun hb=>?_)|fail)
 exact⟨.inr rfl,⟨t7,t7⟩,rfl⟩
def F9 (a b:List au):Option (List au):=bif decide (a.length<=1000/\b.length<=1000)then some (kB (fun x y=>x&&y) a b)else none
theorem M_ {a b r:List au}(H:F9 a b=some r):PTz 71 [.one (.lst (a.map aH)),.one (.lst (b.map aH))] (.val (.one (.lst (r.map aH)))):=by
 unfold F9 at H;obtain⟨g,H⟩:=bo H
 cases H;exact adU a b g.1 g.2
noncomputable section
def ui (a_e:Ex)(a_row:(List Val)):Option (Int):=(th (hgt a_e) a_e a_row).bind fun r_1=>(iw r_1).bind fun r_2=>some r_2
theorem Ni {a_e:Ex}{a_row:(List Val)}{r:Int}(H:ui a_e a_row=some r):PTz 39 [.agg (tE a_e),.one (.lst (a_row.map cV))] (.val (.one (.int .i64 r))):=by
 unfold ui at H;rw[aN a_e];refine po_ Tryz.func39 Tryz.ntmps39 ?_;obtain⟨r_1,c1,H⟩:=bd_ H;replace c1:=HB _ c1
 try simp only[amJ,amH,amL,amB,aN]at c1
 obtain⟨r_2,c2,H⟩:=bd_ H;replace c2:=gTruthV_ok c2
 cases H;exact bV
def zT (a_row:(List Val))(v_0:Int):Option (Bool):=bif (decide (v_0<((a_row.length:Nat):Int)))then(aq a_row v_0).bind fun x_2=>some (bT [.c (.int .i64 x_2.kind),.c (.int .i64 x_2.int),.c (.str x_2.text)] [.c (.int .i64 (0:Int)),.c (.int .i64 (0:Int)),.c (.str ByteArray.empty)])else
 some false
theorem aeQ {a_row:(List Val)}{v_0:Int}{r:Bool}(H:zT a_row v_0=some r):PTz 35 [.one (.lst (a_row.map cV)),.one (.ref [.int .i64 v_0])] (.val (.one (.bool r))):=by
 unfold zT at H;refine po_ Tryz.func35 Tryz.ntmps35 ?_;rcases af H with⟨q_1,H⟩|⟨q_1,H⟩
 ·obtain⟨x_2,i1z,i1,i1x,H⟩:=aY (f:=cV) H
  cases H;exact bV
 cases H;exact bV
def EM (a_row:(List Val))(v_0:Ex):Option (Bool):=(ui v_0 a_row).bind fun r_1=>some (decide (r_1=(0:Int)))
theorem aeS {a_row:(List Val)}{v_0:Ex}{r:Bool}(H:EM a_row v_0=some r):PTz 38 [.one (.lst (a_row.map cV)),.one (.ref [.int .i64 v_0.op,.int .i64 v_0.int,.int .i64 v_0.v.kind,.int .i64 v_0.v.int,.str v_0.v.text,.str v_0.nm,.lst (v_0.args.map tE)])] (.val (.one (.bool r))):=by
 unfold EM at H;refine po_ Tryz.func38 Tryz.ntmps38 ?_;obtain⟨r_1,c1,H⟩:=bd_ H;replace c1:=Ni c1
 try simp only[amJ,amH,amL,amB,aN]at c1
 cases H;exact bV
def afu (a_row:(List Val))(a_i:Int):Option (Val):=bif (decide (a_i<(0:Int)))then(gD ).bind fun r_2=>some r_2 else
 bif (decide (((a_row.length:Nat):Int)<=a_i))then(gD ).bind fun r_4=>some r_4 else
 (aq a_row a_i).bind fun x_5=>some x_5
theorem af5 {a_row:(List Val)}{a_i:Int}{r:Val}(H:afu a_row a_i=some r):PTz 183 [.one (.lst (a_row.map cV)),.one (.int .i64 a_i)] (.val (.agg (cV r))):=by
 unfold afu at H;refine po_ Tryz.func183 Tryz.ntmps183 ?_;rcases af H with⟨q_1,H⟩|⟨q_1,H⟩
 ·obtain⟨r_2,c1,H⟩:=bd_ H
  replace c1:=gNull_ok c1
  cases H;exact bV
 rcases af H with⟨q_3,H⟩|⟨q_3,H⟩
 ·obtain⟨r_4,c2,H⟩:=bd_ H
  replace c2:=gNull_ok c2
  cases H;exact bV
 obtain⟨x_5,i3z,i3,i3x,H⟩:=aY (f:=cV) H
 cases H;exact bV
def rF (a_row:(List Val))(a_l:(List Int)):((List Val)×Int)->Option (Step ((List Val)×Int) ((List Val))):=fun s=>match s with
 |(out_1,v_2)=>bif (decide (v_2<((a_l.length:Nat):Int)))then(aq a_l v_2).bind fun x_4=>(afu a_row x_4).bind fun r_5=>bif (decide (out_1.length+1<=4398046511104))then(some (.next ((out_1++[r_5]),(i64.wrap (v_2+(1:Int))))))else none else
 some (.exit (out_1,v_2))
def wn:Sum ((List Val)×Int) ((List Val))->Option (((List Val)))
 |.inl (out_1,v_2)=>some out_1
 |.inr q=>some q
def Bc (a_row:(List Val))(a_l:(List Int)):Option ((List Val)):=bif (decide (0<=((a_l.length:Nat):Int)))then(bif (decide ((32:Int)*((a_l.length:Nat):Int)<=281474976710656))then(bif (decide (((a_l.length:Nat):Int)<=9223372036854775807))then((ap (rF a_row a_l) fuel ([],(0:Int))).bind (wn))else none)else none)else none
theorem Jw {p q:Prop}(k:q)(h:Bx q->p:=by
 intro hq
 repeat' (first|refine bL rfl rfl rfl rfl rfl (iC tab_ok (k:=3) (by_:=32) rfl rfl rfl rfl rfl rfl m9 m0 m0 m0) ?_|refine gs_ ?_|fail)
 exact hq.out):p:=h ⟨k⟩
theorem adt {p:Prop}(h:p:=by
 repeat' (first|refine bL rfl rfl rfl rfl rfl (iC tab_ok (k:=3) (by_:=32) rfl rfl rfl rfl rfl rfl m9 m0 m0 m0) ?_|refine gs_ ?_|fail)
 refine aJ (aO rfl ?_ ?_)
 ·repeat' (first|exact t7|rfl|exact amG rfl|omega|apply And.intro)
 ·first|rfl|(simp only[amJ,amH,amL,amB]<;>rfl)):p:=h
theorem abn {a_row:(List Val)}{a_l:(List Int)}{r:(List Val)}(H:Bc a_row a_l=some r):PTz 131 [.one (.lst (a_row.map cV)),.one (.lst (a_l.map (fun x=>[AC.int .i64 x])))] (.val (.one (.lst (r.map cV)))):=by
 unfold Bc at H;refine po_ Tryz.func131 Tryz.ntmps131 ?_;obtain⟨g1,H⟩:=bo H;obtain⟨g2,H⟩:=bo H;obtain⟨g3,H⟩:=bo H;refine Jw ?_;refine alM_ (fun s:(List Val)×Int=>match s with|(out_1,v_2)=>[(0,.one (.c (.lst (a_row.map cV)))),(5,.one (.own (out_1.map cV) 0)),(11,.one (.c (.lst (a_l.map (fun x=>[AC.int .i64 x]))))),(12,.one (.c (.int .i64 ((a_l.length:Nat):Int)))),(13,.one (.c (.int .i64 v_2)))]) (fun s=>match s with|(out_1,v_2)=>[.spare out_1.length 3]) H (fun _=>amR _)
  (fm_ bH [] rfl a8 bZ) ?_
 rintro⟨out_1,v_2⟩ st1 hb1 hk1;unfold rF at hb1;dsimp only at hb1 ⊢;rcases af hb1 with⟨q_3,hb1⟩|⟨q_3,hb1⟩
 ·obtain⟨x_4,i4z,i4,i4x,hb1⟩:=aY (f:=(fun x=>[AC.int .i64 x])) hb1
  obtain⟨r_5,c5,hb1⟩:=bd_ hb1;replace c5:=af5 c5;obtain⟨g6,hb1⟩:=bo hb1
  cases hb1;refine Jw ?_;exact⟨_,rfl,fm_ jb [] nk a8 bZ⟩
 cases hb1;have hx1:wn (.inl (out_1,v_2))=some _:=hk1;unfold wn at hx1;dsimp only at hx1
 cases hx1;exact adt
def EG (a_t:bv)(a_row:(List Val)):Option ((List Val)):=(Bc a_row a_t.key).bind fun r_1=>some r_1
theorem ac1 {a_t:bv}{a_row:(List Val)}{r:(List Val)}(H:EG a_t a_row=some r):PTz 73 [.agg (bn a_t),.one (.lst (a_row.map cV))] (.val (.one (.lst (r.map cV)))):=by
 unfold EG at H;refine po_ Tryz.func73 Tryz.ntmps73 ?_;obtain⟨r_1,c1,H⟩:=bd_ H;replace c1:=abn c1
 cases H;exact bV
def MG (a_p:au)(a_t:Int):Option (Bool):=(gPV a_p).bind fun r_1=>bif r_1 then bif (decide (a_p.lo<=a_t))then some (decide (a_t<a_p.hi))else
 some false else
 some false
theorem aaT {a_p:au}{a_t:Int}{r:Bool}(H:MG a_p a_t=some r):PTz 48 [.agg (aH a_p),.one (.int .i64 a_t)] (.val (.one (.bool r))):=by
 unfold MG at H;refine po_ Tryz.func48 Tryz.ntmps48 ?_;obtain⟨r_1,c1,H⟩:=bd_ H;replace c1:=gPV_ok c1;rcases af H with⟨q_2,H⟩|⟨q_2,H⟩
 ·rcases af H with⟨q_3,H⟩|⟨q_3,H⟩
  ·cases H
   exact bV
  cases H;exact bV
 cases H;exact bV
def xq (a_l:(List aw)):Option ((List aw)):=(v8 a_l (fun x0=>Ag x0)).bind fun r_1=>some r_1
theorem Gm {a_l:(List aw)}{r:(List aw)}(H:xq a_l=some r):PTz 64 [.one (.lst (a_l.map aA))] (.val (.one (.lst (r.map aA)))):=by
 unfold xq at H;refine po_ Tryz.func64 Tryz.ntmps64 ?_;obtain⟨r_1,c1,H⟩:=bd_ H;replace c1:=ED (F_a_f:=97) (caps_a_f:=[]) (fun x0 r h=>ach h) c1
 try simp only[amJ,amH,amL,amB,aN]at c1
 cases H;exact bV
def xx (a_l:(List bD)):Option (Int):=bif (decide (((a_l.length:Nat):Int)=(0:Int)))then some (0:Int)else
 (aq a_l (0:Int)).bind fun x_2=>bif (decide (x_2.kind=(1:Int)))then some (12:Int)else
 bif (decide (x_2.kind=(2:Int)))then some (16:Int)else
 bif (decide (x_2.kind=(3:Int)))then some (17:Int)else
 bif (decide (x_2.kind=(4:Int)))then some (18:Int)else
 some (8:Int)
theorem Nn {a_l:(List bD)}{r:Int}(H:xx a_l=some r):PTz 33 [.one (.lst (a_l.map bN))] (.val (.one (.int .i64 r))):=by
 unfold xx at H;refine po_ Tryz.func33 Tryz.ntmps33 ?_;rcases af H with⟨q_1,H⟩|⟨q_1,H⟩
 ·cases H
  exact bV
 obtain⟨x_2,i1z,i1,i1x,H⟩:=aY (f:=bN) H;rcases af H with⟨q_3,H⟩|⟨q_3,H⟩
 ·cases H
  exact bV
 rcases af H with⟨q_4,H⟩|⟨q_4,H⟩
 ·cases H
  exact bV
 rcases af H with⟨q_5,H⟩|⟨q_5,H⟩
 ·cases H
  exact bV
 rcases af H with⟨q_6,H⟩|⟨q_6,H⟩
 ·cases H
  exact bV
 cases H;exact bV
end
def Io (n:Int):List Stp->List au->List au
 |[],out=>out
 |[x],out=>if x.n<n then out else eI out x.lo 1099511627776
 |x::y::r,out=>Io n (y::r) (if x.n<n then out else eI out x.lo y.lo)
theorem afE {n:Int}{l:List Stp}{i:Nat}{x:Stp}(hx:l[i]?=some x)(out:List au):Io n (l.drop i) out=Io n (l.drop (i+1)) (if x.n<n then out else eI out x.lo (((l[i+1]?).map (·.lo)).getD 1099511627776)):=by
 obtain⟨h1,h2⟩:=amw.1 hx;rw[am2 h1,h2];by_cases h:i+1<l.length
 ·rw[am2 h,amF h];rfl
 ·rw[List.drop_eq_nil_of_le m0,anj m0];rfl
theorem Ho (out:List au)(a b:Int):(eI out a b).length<=out.length+1:=by
 rcases dY out with rfl|⟨m,p,rfl⟩
 ·rw[yE];simp
 ·rw[g7];split<;>simp
structure AtS where
 i:Nat
 out:List au
 c:Nat
def AtT (l:List Stp)(n:Int)(s:AtS):Tm:=[(0,.one (.c (.lst (l.map dM)))),(1,.one (.c (.int .i64 n))),(5,.one (.sl 0 (vQ s.c) 0 s.out.length)),(10,.one (.c (.lst (l.map dM)))),(11,.one (.c (.int .i64 l.length))),(12,.one (.c (.int .i64 s.i)))]
theorem fp (l:List Stp)(n:Int)(s:AtS):eF 1 (AtT l n s):=⟨t7,t7,(by show 0<1;omega),t7,t7,t7,t7⟩
theorem aet (l:List Stp)(n:Int)(hl:l.length<=100000):PTz 123 [.one (.lst (l.map dM)),.one (.int .i64 n)] (.val (.one (.lst ((Io n l []).map aH)))):=by
 generalize hR:Io n l []=R;refine pa_ ae Tryz.func123 rfl rfl Tryz.ntmps123 m5 ?_;simp only[argT,PV.av,amH,amL]
 repeat' (first|refine gw_ ae tabS_ok ?_|refine gi_ (fun hb=>?_) (fun hb=>?_)|fail)
 refine vH 5 (vQ 0) 2 rfl (by unfold vQ;omega) ?_;refine cK (AtT l n) (fun s=>[.row (vQ s.c) (s.out.map nV) 2]) (fun s=>s.i<=l.length/\Io n (l.drop s.i) s.out=R/\s.out.length<=s.i) (fun s=>l.length-s.i) ⟨0,[],0⟩ ⟨amR _,hR,amM _⟩ (fun _ _=>amR _)
  (fm_ ⟨rfl,rfl,rfl,rfl,aM m5,rfl,t7⟩ [] rfl (fp _ _ _) ⟨bB _ _ _ _,t7⟩) ?_
 rintro⟨i,out,c⟩ ⟨h1,h2,h3⟩;dsimp only at h1 h2 h3;have hv1:vQ (c+1)=vQ c+65536:=by unfold vQ;omega
 have hol:(out.map nV).length=out.length:=amI ..;unfold AtT;dsimp only;by_cases hlt:i<l.length
 ·obtain⟨x,hx⟩:=gol_ hlt
  have hG:decide (((i:Nat):Int)<((l.length:Nat):Int))=true:=amA m0;have hw1:i64.wrap (((i:Nat):Int)+1)=((i+1:Nat):Int):=aS m0 m0;rw[afE hx]at h2;generalize hy:((l[i+1]?).map (·.lo)).getD 1099511627776=y at h2;have hal:=Ho out x.lo y;by_cases hl2:i+1<l.length
  ·obtain⟨z,hz⟩:=gol_ hl2
   have hG2:decide (((i+1:Nat):Int)<((l.length:Nat):Int))=true:=amA m0;rw[hz]at hy;obtain rfl:z.lo=y:=hy;by_cases hk:x.n<n
   ·have hK:decide (x.n<n)=true:=amA hk
    rw[if_pos hk]at h2
    repeat' (first|rw[amI]|rw[hG]|rw[hw1]|rw[hG2]|rw[hK]|(refine aZ rfl rfl rfl rfl rfl rfl rfl rfl (aU hx) ?_ ?_;· exact⟨m0,rfl⟩)|(refine aZ rfl rfl rfl rfl rfl rfl rfl rfl (aU hz) ?_ ?_;· exact⟨m0,rfl⟩)|refine gw_ ae tabS_ok ?_|refine gi_ (fun hb=>?_) (fun hb=>?_)|fail)
    exact⟨⟨i+1,out,c⟩,⟨hlt,h2,by show out.length<=i+1;omega⟩,by show l.length-(i+1)<l.length-i;omega,fm_ ⟨rfl,rfl,rfl,rfl,rfl,rfl,t7⟩ [_] rfl (fp _ _ _) ⟨bB _ _ _ _,t7⟩⟩
   have hK:decide (x.n<n)=false:=amz hk;rw[if_neg hk]at h2;rcases dY out with ho|⟨o0,p,ho⟩
   ·subst ho
    repeat' (first|(refine bL rfl rfl rfl rfl rfl (dD ae (k:=2) (by_:=16) (xs:=[nV ⟨x.lo,z.lo⟩]) rfl rfl rfl rfl ⟨rfl,_,rfl,by intro e he;simp at he;subst he;rfl⟩ rfl (by unfold vQ;omega) rfl rfl rfl m9 rfl (by simp only[List.length_singleton,am1];omega) (by simp only[List.length_singleton,am1];omega)) ?_)|rw[amI]|rw[hG]|rw[hw1]|rw[hG2]|rw[hK]|(refine aZ rfl rfl rfl rfl rfl rfl rfl rfl (aU hx) ?_ ?_;· exact⟨m0,rfl⟩)|(refine aZ rfl rfl rfl rfl rfl rfl rfl rfl (aU hz) ?_ ?_;· exact⟨m0,rfl⟩)|refine gw_ ae tabS_ok ?_|refine gi_ (fun hb=>?_) (fun hb=>?_)|fail)
    exact⟨⟨i+1,eI [] x.lo z.lo,c+1⟩,⟨hlt,h2,by show(eI [] x.lo z.lo).length<=i+1;omega⟩,by show l.length-(i+1)<l.length-i;omega,fm_ ⟨rfl,rfl,(by show _=some (AV.one (.sl 0 (vQ (c+1)) 0 1));rw[hv1];rfl),rfl,rfl,rfl,t7⟩ [_] (by show _=[Ob.row (vQ (c+1)) _ 2]++[_];rw[hv1];rfl) (fp _ _ _) ⟨bB _ _ _ _,t7⟩⟩
   ·have hlen:out.length=o0.length+1:=by rw[ho];simp
    have hadd:=g7 o0 p x.lo z.lo;have hge:((o0++[p]).map nV)[0+((o0.length:Nat):Int).toNat]?=some (nV p):=by rw[anb,Int.toNat_natCast,amJ,amD m5];simp
    have hw2:i64.wrap (((o0.length+1:Nat):Int)-1)=((o0.length:Nat):Int):=aS m0 m0;have hg0:decide ((0:Int)<((o0.length+1:Nat):Int))=true:=amA m0;rw[hlen,ho]at hol ⊢;rw[ho]at h2 hal;by_cases hph:p.hi=x.lo
    ·have hp1:decide (p.hi=x.lo)=true:=amA hph
     rw[if_pos hph]at hadd
     repeat' (first|(refine kn rfl rfl rfl rfl rfl rfl rfl (e:=nV p) (by exact hge) rfl ?_)|(refine iV rfl rfl rfl rfl rfl rfl (e:=nV p) (by exact hge) ⟨amG rfl,rfl⟩ rfl ?_)|rw[hw2]|rw[hg0]|rw[hp1]|rw[amI]|rw[hG]|rw[hw1]|rw[hG2]|rw[hK]|(refine aZ rfl rfl rfl rfl rfl rfl rfl rfl (aU hx) ?_ ?_;· exact⟨m0,rfl⟩)|(refine aZ rfl rfl rfl rfl rfl rfl rfl rfl (aU hz) ?_ ?_;· exact⟨m0,rfl⟩)|refine gw_ ae tabS_ok ?_|refine gi_ (fun hb=>?_) (fun hb=>?_)|fail)
     exact⟨⟨i+1,o0++[⟨p.lo,z.lo⟩],c⟩,⟨hlt,by rw[hadd]at h2;exact h2,by show(o0++[_]).length<=i+1;rw[amE];show o0.length+1<=i+1;omega⟩,by show l.length-(i+1)<l.length-i;omega,fm_ ⟨rfl,rfl,(by show _=some (AV.one (.sl 0 (vQ c) 0 (o0++[_]).length));rw[amE];rfl),rfl,rfl,rfl,t7⟩ [_] (by rw[tg o0 p z.lo _ m5];rfl) (fp _ _ _) ⟨bB _ _ _ _,t7⟩⟩
    ·have hp1:decide (p.hi=x.lo)=false:=amz hph
     rw[if_neg hph]at hadd
     repeat' (first|(refine kn rfl rfl rfl rfl rfl rfl rfl (e:=nV p) (by exact hge) rfl ?_)|(refine bL rfl rfl rfl rfl rfl (dD ae (k:=2) (by_:=16) (xs:=[nV ⟨x.lo,z.lo⟩]) rfl rfl rfl rfl ⟨rfl,_,rfl,by intro e he;simp at he;subst he;rfl⟩ rfl (by unfold vQ;omega) rfl rfl rfl m9 hol (by simp only[List.length_singleton,am1];omega) (by simp only[List.length_singleton,am1];omega)) ?_)|rw[hw2]|rw[hg0]|rw[hp1]|rw[amI]|rw[hG]|rw[hw1]|rw[hG2]|rw[hK]|(refine aZ rfl rfl rfl rfl rfl rfl rfl rfl (aU hx) ?_ ?_;· exact⟨m0,rfl⟩)|(refine aZ rfl rfl rfl rfl rfl rfl rfl rfl (aU hz) ?_ ?_;· exact⟨m0,rfl⟩)|refine gw_ ae tabS_ok ?_|refine gi_ (fun hb=>?_) (fun hb=>?_)|fail)
     exact⟨⟨i+1,o0++[p]++[⟨x.lo,z.lo⟩],c+1⟩,⟨hlt,by rw[hadd]at h2;exact h2,by rw[hadd]at hal;show(o0++[p]++[_]).length<=i+1;simp at hal ⊢;omega⟩,by show l.length-(i+1)<l.length-i;omega,fm_ ⟨rfl,rfl,(by show _=some (AV.one (.sl 0 (vQ (c+1)) 0 (o0++[p]++[_]).length));rw[hv1,amE,amE];rfl),rfl,rfl,rfl,t7⟩ [_] (by show _=[Ob.row (vQ (c+1)) _ 2]++[_];rw[hv1,amJ (l₁:=o0++[p])];rfl) (fp _ _ _) ⟨bB _ _ _ _,t7⟩⟩
  ·have hG2:decide (((i+1:Nat):Int)<((l.length:Nat):Int))=false:=amz m0
   rw[anj m0]at hy;obtain rfl:1099511627776=y:=hy;by_cases hk:x.n<n
   ·have hK:decide (x.n<n)=true:=amA hk
    rw[if_pos hk]at h2
    repeat' (first|rw[amI]|rw[hG]|rw[hw1]|rw[hG2]|rw[hK]|(refine aZ rfl rfl rfl rfl rfl rfl rfl rfl (aU hx) ?_ ?_;· exact⟨m0,rfl⟩)|refine gw_ ae tabS_ok ?_|refine gi_ (fun hb=>?_) (fun hb=>?_)|fail)
    exact⟨⟨i+1,out,c⟩,⟨hlt,h2,by show out.length<=i+1;omega⟩,by show l.length-(i+1)<l.length-i;omega,fm_ ⟨rfl,rfl,rfl,rfl,rfl,rfl,t7⟩ [_] rfl (fp _ _ _) ⟨bB _ _ _ _,t7⟩⟩
   have hK:decide (x.n<n)=false:=amz hk;rw[if_neg hk]at h2;rcases dY out with ho|⟨o0,p,ho⟩
   ·subst ho
    repeat' (first|(refine bL rfl rfl rfl rfl rfl (dD ae (k:=2) (by_:=16) (xs:=[nV ⟨x.lo,1099511627776⟩]) rfl rfl rfl rfl ⟨rfl,_,rfl,by intro e he;simp at he;subst he;rfl⟩ rfl (by unfold vQ;omega) rfl rfl rfl m9 rfl (by simp only[List.length_singleton,am1];omega) (by simp only[List.length_singleton,am1];omega)) ?_)|rw[amI]|rw[hG]|rw[hw1]|rw[hG2]|rw[hK]|(refine aZ rfl rfl rfl rfl rfl rfl rfl rfl (aU hx) ?_ ?_;· exact⟨m0,rfl⟩)|refine gw_ ae tabS_ok ?_|refine gi_ (fun hb=>?_) (fun hb=>?_)|fail)
    exact⟨⟨i+1,eI [] x.lo 1099511627776,c+1⟩,⟨hlt,h2,by show(eI [] x.lo 1099511627776).length<=i+1;omega⟩,by show l.length-(i+1)<l.length-i;omega,fm_ ⟨rfl,rfl,(by show _=some (AV.one (.sl 0 (vQ (c+1)) 0 1));rw[hv1];rfl),rfl,rfl,rfl,t7⟩ [_] (by show _=[Ob.row (vQ (c+1)) _ 2]++[_];rw[hv1];rfl) (fp _ _ _) ⟨bB _ _ _ _,t7⟩⟩
   ·have hlen:out.length=o0.length+1:=by rw[ho];simp
    have hadd:=g7 o0 p x.lo 1099511627776;have hge:((o0++[p]).map nV)[0+((o0.length:Nat):Int).toNat]?=some (nV p):=by rw[anb,Int.toNat_natCast,amJ,amD m5];simp
    have hw2:i64.wrap (((o0.length+1:Nat):Int)-1)=((o0.length:Nat):Int):=aS m0 m0;have hg0:decide ((0:Int)<((o0.length+1:Nat):Int))=true:=amA m0;rw[hlen,ho]at hol ⊢;rw[ho]at h2 hal;by_cases hph:p.hi=x.lo
    ·have hp1:decide (p.hi=x.lo)=true:=amA hph
     rw[if_pos hph]at hadd
     repeat' (first|(refine kn rfl rfl rfl rfl rfl rfl rfl (e:=nV p) (by exact hge) rfl ?_)|(refine iV rfl rfl rfl rfl rfl rfl (e:=nV p) (by exact hge) ⟨amG rfl,rfl⟩ rfl ?_)|rw[hw2]|rw[hg0]|rw[hp1]|rw[amI]|rw[hG]|rw[hw1]|rw[hG2]|rw[hK]|(refine aZ rfl rfl rfl rfl rfl rfl rfl rfl (aU hx) ?_ ?_;· exact⟨m0,rfl⟩)|refine gw_ ae tabS_ok ?_|refine gi_ (fun hb=>?_) (fun hb=>?_)|fail)
     exact⟨⟨i+1,o0++[⟨p.lo,1099511627776⟩],c⟩,⟨hlt,by rw[hadd]at h2;exact h2,by show(o0++[_]).length<=i+1;rw[amE];show o0.length+1<=i+1;omega⟩,by show l.length-(i+1)<l.length-i;omega,fm_ ⟨rfl,rfl,(by show _=some (AV.one (.sl 0 (vQ c) 0 (o0++[_]).length));rw[amE];rfl),rfl,rfl,rfl,t7⟩ [_] (by rw[tg o0 p 1099511627776 _ m5];rfl) (fp _ _ _) ⟨bB _ _ _ _,t7⟩⟩
    ·have hp1:decide (p.hi=x.lo)=false:=amz hph
     rw[if_neg hph]at hadd
     repeat' (first|(refine kn rfl rfl rfl rfl rfl rfl rfl (e:=nV p) (by exact hge) rfl ?_)|(refine bL rfl rfl rfl rfl rfl (dD ae (k:=2) (by_:=16) (xs:=[nV ⟨x.lo,1099511627776⟩]) rfl rfl rfl rfl ⟨rfl,_,rfl,by intro e he;simp at he;subst he;rfl⟩ rfl (by unfold vQ;omega) rfl rfl rfl m9 hol (by simp only[List.length_singleton,am1];omega) (by simp only[List.length_singleton,am1];omega)) ?_)|rw[hw2]|rw[hg0]|rw[hp1]|rw[amI]|rw[hG]|rw[hw1]|rw[hG2]|rw[hK]|(refine aZ rfl rfl rfl rfl rfl rfl rfl rfl (aU hx) ?_ ?_;· exact⟨m0,rfl⟩)|refine gw_ ae tabS_ok ?_|refine gi_ (fun hb=>?_) (fun hb=>?_)|fail)
     exact⟨⟨i+1,o0++[p]++[⟨x.lo,1099511627776⟩],c+1⟩,⟨hlt,by rw[hadd]at h2;exact h2,by rw[hadd]at hal;show(o0++[p]++[_]).length<=i+1;simp at hal ⊢;omega⟩,by show l.length-(i+1)<l.length-i;omega,fm_ ⟨rfl,rfl,(by show _=some (AV.one (.sl 0 (vQ (c+1)) 0 (o0++[p]++[_]).length));rw[hv1,amE,amE];rfl),rfl,rfl,rfl,t7⟩ [_] (by show _=[Ob.row (vQ (c+1)) _ 2]++[_];rw[hv1,amJ (l₁:=o0++[p])];rfl) (fp _ _ _) ⟨bB _ _ _ _,t7⟩⟩
 ·have hG:decide (((i:Nat):Int)<((l.length:Nat):Int))=false:=amz m0
  have e:i=l.length:=m0
  rw[e,anq]at h2;have h2:out=R:=h2;refine sI 0 5 (cs:=out.map aH) rfl (Ky _) rfl m5 ?_
  repeat' (first|rw[hG]|refine gw_ ae tabS_ok ?_|refine gi_ (fun hb=>?_) (fun hb=>?_)|fail)
  rw[h2];refine⟨.inr rfl,?_⟩
  first|exact⟨t7,rfl⟩|exact⟨⟨t7,t7⟩,rfl⟩|(refine⟨?_,rfl⟩;repeat' (first|exact t7|rfl|apply And.intro))
noncomputable section
def td (t:bv)(f:aw):ByteArray:=dm ((EG t f.row).getD [])
def FO (t:bv)(l:List aw)(s:ByteArray):List ji:=(l.filter fun g=>decide (td t g=s)).map fun f=>⟨f.valid,1⟩
def crV (t:bv)(l:List aw)(s:ByteArray):List au:=Io 2 (ip (FO t l s)) []
def ivV (t:bv)(l:List aw)(f:aw):List au:=kB (fun x y=>x&&y) [f.valid] (crV t l (td t f))
structure akN (t:bv)(l S:List aw):Prop where
 len:l.length<=1000
 slen:S.length<=10000
 key:∀ f,f∈l\/f∈S ->∃ k,EG t f.row=some k/\k.length<=1000 /\ ∀ v∈k,KD v
 mem:∀ f∈S,∃ g∈l,td t g=td t f
 st:∀ f∈l,(ip (FO t l (td t f))).length<=100000
 cr:∀ f∈S,(crV t l (td t f)).length<=1000
 iv:∀ f∈S,(ivV t l f).length<=1000
 row:∀ f∈S,f.row.length<=1000000
theorem ifC {p:Prop}{d:Decidable p}{α:Type}{x r:α}(H:(if p then some x else none)=some r):p/\x=r:=by
 by_cases h:p
 ·rw[if_pos h]at H;exact⟨h,am3 H⟩
 ·rw[if_neg h]at H;cases H
def gUV (t:bv)(l:List aw):Option (List bD):=(xq l).bind fun S=>open Classical in if akN t l S then some (pa t.nm (ivV t l) S)else none
theorem ai5 {t:bv}{l:List aw}{r:List bD}(H:gUV t l=some r):PTz 41 [.agg (bn t),.one (.lst (l.map aA))] (.val (.one (.lst (r.map bN)))):=by
 unfold gUV at H;obtain⟨S,hS,H⟩:=bd_ H;obtain⟨h,rfl⟩:=ifC H;have hk:∀ f,f∈l\/f∈S ->∃ ks:List Val,PTz 73 [.agg (bn t),.one (.lst (f.row.map cV))] (.val (.one (.lst (ks.map cV))))/\PTz 72 [.one (.lst (ks.map cV))] (.val (.one (.str (td t f)))):=by
  intro f hf;obtain⟨k,h1,h2,h3⟩:=h.key f hf;refine⟨k,ac1 h1,?_⟩;unfold td;rw[h1];exact aaJ k h2 h3
 have hof:∀ f∈l,∃ st:List Stp,PTz 124 [.one (.lst ((l.filter fun g=>decide (td t g=td t f)).map KC))] (.val (.one (.lst (st.map dM))))/\PTz 123 [.one (.lst (st.map dM)),.one (.int .i64 2)] (.val (.one (.lst ((crV t l (td t f)).map aH)))):=by
  intro f hf;have hlc:(FO t l (td t f)).length<=100000:=by
   unfold FO;rw[amI];have:=List.length_filter_le (fun g=>decide (td t g=td t f)) l;have:=h.len;omega
  refine⟨ip (FO t l (td t f)),?_,aet _ 2 (h.st f hf)⟩;have e:(l.filter fun g=>decide (td t g=td t f)).map KC=(FO t l (td t f)).map ol:=by unfold FO;rw[List.map_map];rfl
  rw[e];exact aad (by unfold abf;rw[amA hlc];rfl)
 exact abP t l S (td t) (crV t l) (ivV t l) (Gm hS) (M3 t l (td t) (crV t l) (fun f hf=>hk f (.inl hf)) hof h.len) (fun f hf=>hk f (.inr hf)) h.mem
  (fun f hf=>M_ (a:=[f.valid]) (b:=crV t l (td t f)) (by unfold F9;rw[amA ⟨m5,h.cr f hf⟩];rfl)) h.slen h.iv h.row
def aeu (i:Nat)(row:List Val):Bool:=(zT row i).getD false
def agD (e:Ex)(row:List Val):Bool:=(EM row e).getD false
def tp (t:bv)(l:List aw):Option (List bD):=(xq l).bind fun S=>open Classical in if S.length<=100/\t.columns.length<=1000/\(∀ f∈S,f.row.length<=1000000)/\(∀ f∈S,∀ i:Nat,(zT f.row i).isSome=true)then some (iN (vP t S aeu) t.columns.length)else none
theorem wU {α:Type}{x:Option α}{d:α}(h:x.isSome=true):x=some (x.getD d):=by
 cases x with
 |none=>cases h
 |some y=>rfl
theorem EZ {t:bv}{l:List aw}{r:List bD}(H:tp t l=some r):RTz 12 [] [.agg ((bn t).map SV.c),.one (.c (.lst (l.map aA)))] [.spare r.length 6] (.one (.own (r.map bN) 0)):=by
 unfold tp at H;obtain⟨S,hS,H⟩:=bd_ H;obtain⟨⟨h1,h2,h3,h4⟩,rfl⟩:=ifC H;exact aa4 t l S aeu (Gm hS) (fun i f hf=>aeQ (wU (h4 f hf i))) h1 h2 h3
theorem afx {t:bv}{l:List aw}{r:List bD}(H:tp t l=some r):PTz 12 [.agg (bn t),.one (.lst (l.map aA))] (.val (.one (.lst (r.map bN)))):=xb (EZ H) rfl
def uG (t:bv)(l:List aw):Option (List bD):=(xq l).bind fun S=>open Classical in if S.length<=100/\t.checks.length<=1000/\(∀ f∈S,f.row.length<=1000000)/\(∀ e∈t.checks,∀ f∈S,(EM f.row e).isSome=true)then some (iN (v6 t S agD) t.checks.length)else none
theorem DD {t:bv}{l:List aw}{r:List bD}(H:uG t l=some r):RTz 14 [] [.agg ((bn t).map SV.c),.one (.c (.lst (l.map aA)))] [.spare r.length 6] (.one (.own (r.map bN) 0)):=by
 unfold uG at H;obtain⟨S,hS,H⟩:=bd_ H;obtain⟨⟨h1,h2,h3,h4⟩,rfl⟩:=ifC H;exact MA t l S agD (Gm hS) (fun e he f hf=>aeS (wU (h4 e he f hf))) h1 h2 h3
theorem ac8 {t:bv}{l:List aw}{r:List bD}(H:uG t l=some r):PTz 14 [.agg (bn t),.one (.lst (l.map aA))] (.val (.one (.lst (r.map bN)))):=xb (DD H) rfl
def tq (t:bv)(l:List aw):Option (List bD):=(tp t l).bind fun vn=>(gUV t l).bind fun vu=>(uG t l).bind fun vc=>bif decide (vn.length<=10000000/\vu.length<=10000000/\vc.length<=10000000)then some (vn++vu++vc)else none
theorem Br {t:bv}{l:List aw}{r:List bD}(H:tq t l=some r):PTz 16 [.agg (bn t),.one (.lst (l.map aA))] (.val (.one (.lst (r.map bN)))):=by
 unfold tq at H;obtain⟨vn,c1,H⟩:=bd_ H;obtain⟨vu,c2,H⟩:=bd_ H;obtain⟨vc,c3,H⟩:=bd_ H;obtain⟨⟨h1,h2,h3⟩,H⟩:=bo H
 cases H;exact JK t l vn vu vc (EZ c1) (ai5 c2) (DD c3) h1 h2 h3
end
noncomputable section
def ahY (a_t:bv)(a_k:Int)(a_l:List aw)(a_p:bv)(a_f:List aw):Option (List bD):=none
theorem adx {a_t:bv}{a_k:Int}{a_l:List aw}{a_p:bv}{a_f:List aw}{r:List bD}(H:ahY a_t a_k a_l a_p a_f=some r):PTz 46 [.agg (bn a_t),.one (.int .i64 a_k),.one (.lst (a_l.map aA)),.agg (bn a_p),.one (.lst (a_f.map aA))] (.val (.one (.lst (r.map bN)))):=nomatch H
def ahU (a_t:(List bv))(a_l:(List (List aw)))(a_name:ByteArray):Option (bv×(List aw)):=none
theorem adE {a_t:(List bv)}{a_l:(List (List aw))}{a_name:ByteArray}{r:bv×(List aw)}(H:ahU a_t a_l a_name=some r):PTz 45 [.one (.lst (a_t.map bn)),.one (.lst (a_l.map (fun x=>[AC.lst (x.map aA)]))),.one (.str a_name)] (.tup [.agg (bn r.1),.one (.lst (r.2.map aA))]):=nomatch H
def oF (a_t:(List bv))(a_l:(List (List aw)))(x_4:bv)(x_6:(List aw)):((List bD)×Int)->Option (Step ((List bD)×Int) ((List bD))):=fun s=>match s with
 |(out_8,v_9)=>bif (decide (v_9<((x_4.foreigns.length:Nat):Int)))then(aq x_4.foreigns v_9).bind fun x_11=>(ahU a_t a_l x_11.table).bind fun r_12=>(ahY x_4 v_9 x_6 r_12.1 r_12.2).bind fun r_13=>bif (decide (out_8.length+r_13.length<=1954687338268))then(some (.next ((out_8++r_13),(i64.wrap (v_9+(1:Int))))))else none else
 some (.exit (out_8,v_9))
def s7 (v_2:Int):Sum ((List bD)×Int) ((List bD))->Option (Step ((List bD)×Int) ((List bD)))
 |.inl (out_8,v_9)=>some (.next (out_8,(i64.wrap (v_2+(1:Int)))))
 |.inr q=>some (.ret q)
def sQ (a_t:(List bv))(a_l:(List (List aw))):((List bD)×Int)->Option (Step ((List bD)×Int) ((List bD))):=fun s=>match s with
 |(out_1,v_2)=>bif (decide (v_2<((a_t.length:Nat):Int)))then(aq a_t v_2).bind fun x_4=>bif (decide (((a_l.length:Nat):Int)<=v_2))then some (.exit (out_1,v_2))else
 (aq a_l v_2).bind fun x_6=>(tq x_4 x_6).bind fun r_7=>bif (decide (out_1.length+r_7.length<=1954687338268))then((ap (oF a_t a_l x_4 x_6) fuel ((out_1++r_7),(0:Int))).bind (s7 v_2))else none else
 some (.exit (out_1,v_2))
def ku:Sum ((List bD)×Int) ((List bD))->Option (((List bD)))
 |.inl (out_1,v_2)=>some out_1
 |.inr q=>some q
def tk (a_t:(List bv))(a_l:(List (List aw))):Option ((List bD)):=(ap (sQ a_t a_l) fuel ([],(0:Int))).bind (ku)
theorem Nl {a_t:(List bv)}{a_l:(List (List aw))}{r:(List bD)}(H:tk a_t a_l=some r):PTz 19 [.one (.lst (a_t.map bn)),.one (.lst (a_l.map (fun x=>[AC.lst (x.map aA)])))] (.val (.one (.lst (r.map bN)))):=by
 unfold tk at H;refine po_ Tryz.func19 Tryz.ntmps19 ?_;refine aX ?_;refine bK 5 6 rfl ?_;refine alM_ (fun s:(List bD)×Int=>match s with|(out_1,v_2)=>[(0,.one (.c (.lst (a_t.map bn)))),(1,.one (.c (.lst (a_l.map (fun x=>[AC.lst (x.map aA)]))))),(5,.one (.own (out_1.map bN) 0)),(12,.one (.c (.lst (a_t.map bn)))),(13,.one (.c (.int .i64 ((a_t.length:Nat):Int)))),(14,.one (.c (.int .i64 v_2)))]) (fun s=>match s with|(out_1,v_2)=>[.spare out_1.length 6]) H (fun _=>amR _)
  (fm_ bH [] rfl a8 bZ) ?_
 rintro⟨out_1,v_2⟩ st3 hb3 hk3;unfold sQ at hb3;dsimp only at hb3 ⊢;rcases af hb3 with⟨q_3,hb3⟩|⟨q_3,hb3⟩
 ·obtain⟨x_4,i1z,i1,i1x,hb3⟩:=aY (f:=bn) hb3
  rcases af hb3 with⟨q_5,hb3⟩|⟨q_5,hb3⟩
  ·cases hb3
   have hx3:ku (.inl (out_1,v_2))=some _:=hk3;unfold ku at hx3;dsimp only at hx3
   cases hx3;exact bV
  obtain⟨x_6,i2z,i2,i2x,hb3⟩:=aY (f:=(fun x=>[AC.lst (x.map aA)])) hb3;obtain⟨r_7,c3,hb3⟩:=bd_ hb3;replace c3:=Br c3;obtain⟨g4,hb3⟩:=bo hb3;refine aX ?_;refine alM_ (fun s:(List bD)×Int=>match s with|(out_8,v_9)=>[(0,.one (.c (.lst (a_t.map bn)))),(1,.one (.c (.lst (a_l.map (fun x=>[AC.lst (x.map aA)]))))),(5,.one (.own (out_8.map bN) 0)),(6,.one (.c (.int .i64 v_2))),(7,.one (.ptr 1 0)),(12,.one (.c (.lst (a_t.map bn)))),(13,.one (.c (.int .i64 ((a_t.length:Nat):Int)))),(14,.one (.c (.int .i64 v_2))),(32,.one (.c (.lst (x_4.foreigns.map fY)))),(33,.one (.c (.int .i64 ((x_4.foreigns.length:Nat):Int)))),(34,.one (.c (.int .i64 v_9)))]) (fun s=>match s with|(out_8,v_9)=>[.spare out_8.length 6,.box [.c (.str x_4.nm),.c (.lst (x_4.columns.map ez)),.c (.lst (x_4.key.map (fun x=>[AC.int .i64 x]))),.c (.lst (x_4.foreigns.map fY)),.c (.lst (x_4.checks.map tE))]]) hb3 (fun _=>amR _)
   (fm_ jb [] nk a8 bZ) ?_
  rintro⟨out_8,v_9⟩ st4 hb4 hk4;unfold oF at hb4;dsimp only at hb4 ⊢;rcases af hb4 with⟨q_10,hb4⟩|⟨q_10,hb4⟩
  ·obtain⟨x_11,i5z,i5,i5x,hb4⟩:=aY (f:=fY) hb4
   obtain⟨r_12,c6,hb4⟩:=bd_ hb4;replace c6:=adE c6;obtain⟨r_13,c7,hb4⟩:=bd_ hb4;replace c7:=adx c7;obtain⟨g8,hb4⟩:=bo hb4
   cases hb4;refine aX ?_;exact⟨_,rfl,fm_ jb [_,_] nk a8 bZ⟩
  cases hb4;have hx4:s7 v_2 (.inl (out_8,v_9))=some _:=hk4;unfold s7 at hx4;dsimp only at hx4
  cases hx4;refine aX ?_;exact⟨_,rfl,fm_ jb [_] nk a8 bZ⟩
 cases hb3;have hx3:ku (.inl (out_1,v_2))=some _:=hk3;unfold ku at hx3;dsimp only at hx3
 cases hx3;exact bV
def DW (a_at:Int)(r_1:(List bD)):(Int)->Option (Step (Int) (Bool)):=fun s=>match s with
 |v_2=>bif (decide (v_2<((r_1.length:Nat):Int)))then(aq r_1 v_2).bind fun x_4=>(MG x_4.valid a_at).bind fun r_5=>bif r_5 then some (.ret false)else
 some (.next (i64.wrap (v_2+(1:Int))))else
 some (.exit v_2)
def mJ:Sum (Int) (Bool)->Option ((Bool))
 |.inl v_2=>some true
 |.inr q=>some q
def lZ (a_t:(List bv))(a_l:(List (List aw)))(a_at:Int):Option (Bool):=(tk a_t a_l).bind fun r_1=>(ap (DW a_at r_1) fuel (0:Int)).bind (mJ)
theorem Ey {a_t:(List bv)}{a_l:(List (List aw))}{a_at:Int}{r:Bool}(H:lZ a_t a_l a_at=some r):PTz 21 [.one (.lst (a_t.map bn)),.one (.lst (a_l.map (fun x=>[AC.lst (x.map aA)]))),.one (.int .i64 a_at)] (.val (.one (.bool r))):=by
 unfold lZ at H;refine po_ Tryz.func21 Tryz.ntmps21 ?_;obtain⟨r_1,c1,H⟩:=bd_ H;replace c1:=Nl c1;refine aX ?_;refine alM_ (fun s:Int=>match s with|v_2=>[(2,.one (.c (.int .i64 a_at))),(11,.one (.c (.lst (r_1.map bN)))),(12,.one (.c (.int .i64 ((r_1.length:Nat):Int)))),(13,.one (.c (.int .i64 v_2)))]) (fun s=>match s with|v_2=>[]) H (fun _=>amR _)
  (fm_ bH [] rfl a8 trivial) ?_
 rintro v_2 st1 hb1 hk1;unfold DW at hb1;dsimp only at hb1 ⊢;rcases af hb1 with⟨q_3,hb1⟩|⟨q_3,hb1⟩
 ·obtain⟨x_4,i2z,i2,i2x,hb1⟩:=aY (f:=bN) hb1
  obtain⟨r_5,c3,hb1⟩:=bd_ hb1;replace c3:=aaT c3;rcases af hb1 with⟨q_6,hb1⟩|⟨q_6,hb1⟩
  ·cases hb1
   have hx1:mJ (.inr false)=some _:=hk1;unfold mJ at hx1;dsimp only at hx1
   cases hx1;exact bV
  cases hb1;refine aX ?_;exact⟨_,rfl,fm_ bH [_] rfl a8 trivial⟩
 cases hb1;have hx1:mJ (.inl v_2)=some _:=hk1;unfold mJ at hx1;dsimp only at hx1
 cases hx1;exact bV
end
