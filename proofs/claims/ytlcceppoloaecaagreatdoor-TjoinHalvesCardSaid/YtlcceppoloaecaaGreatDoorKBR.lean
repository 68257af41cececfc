/- Parts. No condition. -/
import Derived.Test.YtlcceppoloaecaaGreatDoorKBQ
set_option maxHeartbeats 8000000
set_option maxRecDepth 100000
set_option linter.unusedSimpArgs false
set_option linter.unusedVariables false
namespace Go.Proofs.YtlcceppoloaecaaGreatDoor
open IntKind (i64)
open Go.RowKit Go.MapKept
theorem AP (a b:Int):zb a b=max a b:=by unfold zb;split<;>omega
theorem acy (a b:Int):mnI a b=min a b:=by unfold mnI;split<;>omega
def Ba (p:ax):List SV:=[.c (.int .i64 p.lo),.c (.int .i64 p.hi)]
def vQ (n:Nat):Nat:=53+65536+65536*n
theorem ag' (l:List ax):dV (l.map Ba)=some (l.map aN):=by
 have:=iC (l.map aN);rw[List.map_map]at this;exact this
theorem dr (n v k:Nat)(l:List ax):(Ob.row v (l.map Ba) k).below n:=by
 intro e he x hx;obtain⟨y,_,rfl⟩:=aqJ.1 he;simp[Ba]at hx;rcases hx with rfl|rfl<;>trivial
theorem ad9 {at_:Int}{e:E3}{l:List E3}{na nb:Int}(h:e.1≠at_):kr at_ (e::l) na nb=(e::l,na,nb):=by rw[kr,if_neg h]
theorem drop_at {E:List E3}{i:Nat}{e:E3}(h:E[i]?=some e):E.drop i=e::E.drop (i+1):=by
 obtain⟨O0,h2⟩:=ap_.1 h;rw[aqF O0,h2]
theorem yG (l:List ax)(p:ax)(a b:Int):o_ (l++[p]) a b=if p.hi=a then l++[⟨p.lo,b⟩]else(l++[p])++[⟨a,b⟩]:=by
 unfold o_;rw[List.getLast?_concat];simp only[List.dropLast_concat]
theorem M7 (a b:Int):o_ [] a b=[⟨a,b⟩]:=rfl
theorem Na (l:List ax)(p:ax)(b:Int)(i:Nat)(hi:i=l.length):((l++[p]).map Ba).set i (splice (Ba p) 1 [.c (.int .i64 b)])=(l++[(⟨p.lo,b⟩:ax)]).map Ba:=by
 subst hi;rw[aql,List.set_append_right _ _ m5,aqk,Nat.sub_self,aql];rfl
structure SwS where
 n:Nat
 i:Nat
 at_:Int
 na:Int
 nb:Int
 out:List ax
 c:Nat
structure akQ (Pq:Bool->Bool->Bool)(E:List E3)(F:List ax)(s:SwS):Prop where
 fin:ic Pq s.n (E.drop s.i) s.at_ s.na s.nb s.out=F
 inv:HO Pq E (E.drop s.i) s.at_ s.na s.nb s.out
 fuel:yO s.n (E.drop s.i) s.at_
 ile:s.i<=E.length
 na : -(s.i:Int)<=s.na/\s.na<=s.i
 nb : -(s.i:Int)<=s.nb/\s.nb<=s.i
 out:s.out.length+s.n<=E.length+2
theorem akQ.next {Pq:Bool->Bool->Bool}{E:List E3}{F:List ax}{s:SwS}(h:akQ Pq E F s)(ha:s.at_<1099511627776){j:Nat}{na nb:Int}(hj:j<=E.length)(hr:kr s.at_ (E.drop s.i) s.na s.nb=(E.drop j,na,nb))(h1 : -(j:Int)<=na/\na<=j)(h2 : -(j:Int)<=nb/\nb<=j){nx:Int}(hx:kp (E.drop j)=nx){out:List ax}(c:Nat)(ho:(if Pq (decide (0<na)) (decide (0<nb))=true then o_ s.out s.at_ nx else s.out)=out)(hl:out.length<=s.out.length+1) :
  akQ Pq E F ⟨s.n-1,j,nx,na,nb,out,c⟩/\s.n-1<s.n:=by
 obtain⟨n,i,at_,na0,nb0,out0,c0⟩:=s;obtain⟨f1,f2,f3,f4,f5,f6,f7⟩:=h;dsimp only at *;have hn:0<n:=by have:=f3 ha;split at this<;>omega
 obtain⟨n,rfl⟩:∃ m,n=m+1:=⟨n-1,m0⟩;have g1:=(f2.step ha).1;have g2:=f3.step (na:=na0) (nb:=nb0) f2.srt (fun e he=>(f2.low e he).1) ha;rw[ic,if_pos ha]at f1;dsimp only at f1;rw[hr]at f1 g1 g2;dsimp only at f1 g1 g2;rw[hx]at f1 g1 g2;rw[ho]at f1 g1;exact⟨⟨f1,g1,g2,hj,h1,h2,by show out.length+(n+1-1)<=_;omega⟩,m0⟩
def WT (E:List E3)(K:SV)(s:SwS):Tm:=[(2,.one K),(7,.one (.c (.lst (E.map cEd)))),(8,.one (.sl 0 (vQ s.c) 0 s.out.length)),(9,.one (.c (.int .i64 s.na))),(10,.one (.c (.int .i64 s.nb))),(11,.one (.c (.int .i64 s.i))),(12,.one (.c (.int .i64 s.at_)))]
theorem iQ (E:List E3){K:SV}(hK:K.below 1)(s:SwS):gk 1 (WT E K s):=⟨hK,t7,(by show 0<1;omega),t7,t7,t7,t7,t7⟩
def WT2 (E:List E3)(K:SV)(s:SwS)(j:Nat)(na nb:Int):Tm:=[(2,.one K),(7,.one (.c (.lst (E.map cEd)))),(8,.one (.sl 0 (vQ s.c) 0 s.out.length)),(9,.one (.c (.int .i64 na))),(10,.one (.c (.int .i64 nb))),(11,.one (.c (.int .i64 j))),(12,.one (.c (.int .i64 s.at_)))]
theorem HU (E:List E3){K:SV}(hK:K.below 1)(s:SwS)(j:Nat)(na nb:Int):gk 1 (WT2 E K s j na nb):=⟨hK,t7,(by show 0<1;omega),t7,t7,t7,t7,t7⟩
theorem B7 (Pq:Bool->Bool->Bool)(F:FuncId)(caps:List AC)(hk:∀ x y:Bool,PTz F ([.one (.bool x),.one (.bool y)]++caps.map .one) (.val (.one (.bool (Pq x y)))))(a b:List ax)(E:List E3)(hp:E.Perm (rW a b))(hs:lM E)(hE:E.length<=4000)
  (Xz:PTz 156 [.one (MR a),.one (MR b)] (.val (.one (.lst (E.map cEd))))):PTz 100 [.one (MR a),.one (MR b),.one (.fn F caps)] (.val (.one (.lst ((ic Pq (E.length+2) E 0 0 0 []).map aN)))):=by
 have X4:∀ e∈E,0<=e.1/\e.1<=1099511627776 /\ -1<=e.2.1/\e.2.1<=1 /\ -1<=e.2.2/\e.2.2<=1:=fun e he=>qh a b e (hp.mem_iff.1 he)
 have VJ:(SV.c (AC.fn F caps)).below 1:=trivial;generalize hF:ic Pq (E.length+2) E 0 0 0 []=R;refine pa_ am Tryz.func100 rfl rfl Tryz.ntmps100 m5 ?_;simp only[argT,PV.av,aqj,aqn]
 repeat' (first|refine aM rfl rfl rfl rfl Xz rfl ?_|refine gw_ am tabS_ok ?_|refine gi_ (fun hb=>?_) (fun hb=>?_)|fail)
 refine tw 8 (vQ 0) 2 rfl (by unfold vQ;omega) ?_;refine cA (WT E (.c (.fn F caps))) (fun s=>[.row (vQ s.c) (s.out.map Ba) 2]) (akQ Pq E R) (fun s=>s.n) ⟨E.length+2,0,0,0,0,[],0⟩ ⟨hF,Ln Pq hs fun e he=>⟨(X4 e he).1,(X4 e he).2.1⟩,fun _=>by rw[List.drop_zero];show E.length+_<=E.length+2;split<;>omega,aqu _,by show -((0:Nat):Int)<=0/\(0:Int)<=((0:Nat):Int);omega,by show -((0:Nat):Int)<=0/\(0:Int)<=((0:Nat):Int);omega,m5⟩ (fun _ _=>aqu _)
  (fm_ ⟨rfl,rfl,rfl,rfl,rfl,rfl,rfl,t7⟩ [] rfl (iQ E VJ _) ⟨dr _ _ _ _,t7⟩) ?_
 intro s Qu;have hz:=Qu.inv.zero;have hout:=Qu.out;have QY:vQ (s.c+1)=vQ s.c+65536:=by unfold vQ;omega
 have YD:(s.out.map Ba).length=s.out.length:=aqk ..;by_cases Px:s.at_<1099511627776
 ·have hA:decide (s.at_<1099511627776)=true:=aqc Px
  unfold WT
  repeat' (first|rw[hA]|refine gw_ am tabS_ok ?_|refine gi_ (fun hb=>?_) (fun hb=>?_)|fail)
  refine cA (fun r:Nat×Int×Int=>WT2 E (.c (.fn F caps)) s r.1 r.2.1 r.2.2) (fun _=>[.row (vQ s.c) (s.out.map Ba) 2]) (fun r=>r.1<=E.length/\kr s.at_ (E.drop s.i) s.na s.nb=kr s.at_ (E.drop r.1) r.2.1 r.2.2/\(-(r.1:Int)<=r.2.1/\r.2.1<=r.1)/\(-(r.1:Int)<=r.2.2/\r.2.2<=r.1)) (fun r=>E.length-r.1) (s.i,s.na,s.nb) ⟨Qu.ile,rfl,Qu.na,Qu.nb⟩ (fun _ _=>aqu _)
   (fm_ ⟨rfl,rfl,rfl,rfl,rfl,rfl,rfl,t7⟩ [] rfl (HU E VJ _ _ _ _) ⟨dr _ _ _ _,t7⟩) ?_
  rintro⟨j,na,nb⟩ ⟨hj,O8,hna,SC⟩;dsimp only at hj O8 hna SC;unfold WT2;dsimp only;by_cases O0:j<E.length
  ·obtain⟨e,he⟩:=gol_ O0
   have hG:decide ((j:Int)<(E.length:Int))=true:=aqc m0;have her:=X4 e (aqe he);rw[drop_at he]at O8;by_cases hq:e.1=s.at_
   ·have SX:decide (e.1=s.at_)=true:=aqc hq
    rw[kr,if_pos hq]at O8
    repeat' (first|rw[aqk]|rw[hG]|rw[SX]|(refine bB rfl rfl rfl rfl rfl rfl rfl rfl (bq he) ?_ ?_;· exact⟨m0,rfl⟩)|refine gw_ am tabS_ok ?_|refine gi_ (fun hb=>?_) (fun hb=>?_)|fail)
    exact⟨(j+1,na+e.2.1,nb+e.2.2),⟨by show j+1<=_;omega,O8,by show -((j+1:Nat):Int)<=na+e.2.1/\na+e.2.1<=((j+1:Nat):Int);omega,by show -((j+1:Nat):Int)<=nb+e.2.2/\nb+e.2.2<=((j+1:Nat):Int);omega⟩,by show E.length-(j+1)<E.length-j;omega,fm_ ⟨rfl,rfl,rfl,aT (show i64.wrap (na+e.2.1)=na+e.2.1 from a7 m0 m0),aT (show i64.wrap (nb+e.2.2)=nb+e.2.2 from a7 m0 m0),aT (show i64.wrap ((j:Int)+1)=((j+1:Nat):Int)from a7 m0 m0),rfl,t7⟩ [] rfl (HU E VJ _ _ _ _) ⟨dr _ _ _ _,t7⟩⟩
   ·have SX:decide (e.1=s.at_)=false:=aqb hq
    rw[ad9 hq,<- drop_at he]at O8;have Qo:kp (E.drop j)=e.1:=by rw[drop_at he];rfl
    have hnr:0<=e.1/\e.1<=1099511627776:=⟨her.1,her.2.1⟩;have RL:=hk (decide (0<na)) (decide (0<nb));have Qg:=fun {out:List ax} (c:Nat)=>Qu.next (out:=out) Px hj O8 hna SC Qo c
    cases hkb:Pq (decide (0<na)) (decide (0<nb))with
    |false =>
     rw[hkb]at RL Qg
     repeat' (first|rw[aqk]|rw[hG]|rw[SX]|(refine bB rfl rfl rfl rfl rfl rfl rfl rfl (bq he) ?_ ?_;· exact⟨m0,rfl⟩)|refine aM rfl rfl rfl rfl RL rfl ?_|refine gw_ am tabS_ok ?_|refine gi_ (fun hb=>?_) (fun hb=>?_)|fail)
     have PR:=Qg (out:=s.out) s.c (if_neg m5) m0;exact⟨_,PR.1,PR.2,fm_ ⟨rfl,rfl,rfl,rfl,rfl,rfl,rfl,t7⟩ [] rfl (iQ E VJ _) ⟨dr _ _ _ _,t7⟩⟩
    |true =>
     rw[hkb]at RL Qg;rcases tj s.out with ho|⟨o0,p,ho⟩
     ·rw[ho]at YD Qg ⊢
      repeat' (first|(refine b7 rfl rfl rfl rfl rfl (dX am (k:=2) (by_:=16) (xs:=[Ba ⟨s.at_,e.1⟩]) rfl rfl rfl rfl ⟨rfl,_,rfl,by intro e he;simp at he;subst he;rfl⟩ rfl (by unfold vQ;omega) rfl rfl rfl m9 rfl (by simp only[List.length_singleton,aqE];omega) (by simp only[List.length_singleton,aqE];omega)) ?_)|rw[aqk]|rw[hG]|rw[SX]|(refine bB rfl rfl rfl rfl rfl rfl rfl rfl (bq he) ?_ ?_;· exact⟨m0,rfl⟩)|refine aM rfl rfl rfl rfl RL rfl ?_|refine gw_ am tabS_ok ?_|refine gi_ (fun hb=>?_) (fun hb=>?_)|fail)
      have PR:=Qg (out:=[⟨s.at_,e.1⟩]) (s.c+1) (M7 s.at_ e.1) m5;exact⟨_,PR.1,PR.2,fm_ ⟨rfl,rfl,(by show _=some (AV.one (.sl 0 (vQ (s.c+1)) 0 1));rw[QY];rfl),rfl,rfl,rfl,rfl,t7⟩ [] (by show _=[Ob.row (vQ (s.c+1)) _ 2];rw[QY];rfl) (iQ E VJ _) ⟨dr _ _ _ _,t7⟩⟩
     ·have hlen:s.out.length=o0.length+1:=by rw[ho];simp
      have R6:=yG o0 p s.at_ e.1;have SU:((o0++[p]).map Ba)[0+((o0.length:Nat):Int).toNat]?=some (Ba p):=by rw[aqR,Int.toNat_natCast,aql,aqf m5];simp
      have UQ:i64.wrap (((o0.length+1:Nat):Int)-1)=((o0.length:Nat):Int):=a7 m0 m0;have UE:decide ((0:Int)<((o0.length+1:Nat):Int))=true:=aqc m0;rw[hlen,ho]at YD ⊢;rw[ho]at Qg;by_cases WJ:p.hi=s.at_
      ·have UY:decide (p.hi=s.at_)=true:=aqc WJ
       rw[if_pos WJ]at R6
       repeat' (first|(refine kR rfl rfl rfl rfl rfl rfl rfl (e:=Ba p) (by exact SU) rfl ?_)|(refine m_ rfl rfl rfl rfl rfl rfl (e:=Ba p) (by exact SU) ⟨aqi rfl,rfl⟩ rfl ?_)|rw[UQ]|rw[UE]|rw[UY]|rw[aqk]|rw[hG]|rw[SX]|(refine bB rfl rfl rfl rfl rfl rfl rfl rfl (bq he) ?_ ?_;· exact⟨m0,rfl⟩)|refine aM rfl rfl rfl rfl RL rfl ?_|refine gw_ am tabS_ok ?_|refine gi_ (fun hb=>?_) (fun hb=>?_)|fail)
       have PR:=Qg s.c R6 m5;exact⟨_,PR.1,PR.2,fm_ ⟨rfl,rfl,(by show _=some (AV.one (.sl 0 (vQ s.c) 0 (o0++[_]).length));rw[aqg];rfl),rfl,rfl,rfl,rfl,t7⟩ [] (by rw[Na o0 p e.1 _ m5];rfl) (iQ E VJ _) ⟨dr _ _ _ _,t7⟩⟩
      ·have UY:decide (p.hi=s.at_)=false:=aqb WJ
       rw[if_neg WJ]at R6
       repeat' (first|(refine kR rfl rfl rfl rfl rfl rfl rfl (e:=Ba p) (by exact SU) rfl ?_)|(refine b7 rfl rfl rfl rfl rfl (dX am (k:=2) (by_:=16) (xs:=[Ba ⟨s.at_,e.1⟩]) rfl rfl rfl rfl ⟨rfl,_,rfl,by intro e he;simp at he;subst he;rfl⟩ rfl (by unfold vQ;omega) rfl rfl rfl m9 YD (by simp only[List.length_singleton,aqE];omega) (by simp only[List.length_singleton,aqE];omega)) ?_)|rw[UQ]|rw[UE]|rw[UY]|rw[aqk]|rw[hG]|rw[SX]|(refine bB rfl rfl rfl rfl rfl rfl rfl rfl (bq he) ?_ ?_;· exact⟨m0,rfl⟩)|refine aM rfl rfl rfl rfl RL rfl ?_|refine gw_ am tabS_ok ?_|refine gi_ (fun hb=>?_) (fun hb=>?_)|fail)
       have PR:=Qg (s.c+1) R6 m5;exact⟨_,PR.1,PR.2,fm_ ⟨rfl,rfl,(by show _=some (AV.one (.sl 0 (vQ (s.c+1)) 0 (o0++[p]++[_]).length));rw[QY,aqg,aqg];rfl),rfl,rfl,rfl,rfl,t7⟩ [] (by show _=[Ob.row (vQ (s.c+1)) _ 2];rw[QY,aql (l₁:=o0++[p])];rfl) (iQ E VJ _) ⟨dr _ _ _ _,t7⟩⟩
  ·have V_:j=E.length:=m0
   have hG:decide ((j:Int)<(E.length:Int))=false:=aqb m0;have Qe:E.drop j=[]:=by rw[V_,aq4]
   have O8:kr s.at_ (E.drop s.i) s.na s.nb=(E.drop j,na,nb):=by rw[O8,Qe];rfl
   have Qo:kp (E.drop j)=1099511627776:=by rw[Qe];rfl
   have RL:=hk (decide (0<na)) (decide (0<nb));have Qg:=fun {out:List ax} (c:Nat)=>Qu.next (out:=out) Px hj O8 hna SC Qo c
   cases hkb:Pq (decide (0<na)) (decide (0<nb))with
   |false =>
    rw[hkb]at RL Qg
    repeat' (first|rw[aqk]|rw[hG]|refine aM rfl rfl rfl rfl RL rfl ?_|refine gw_ am tabS_ok ?_|refine gi_ (fun hb=>?_) (fun hb=>?_)|fail)
    have PR:=Qg (out:=s.out) s.c (if_neg m5) m0;exact⟨_,PR.1,PR.2,fm_ ⟨rfl,rfl,rfl,rfl,rfl,rfl,rfl,t7⟩ [] rfl (iQ E VJ _) ⟨dr _ _ _ _,t7⟩⟩
   |true =>
    rw[hkb]at RL Qg;rcases tj s.out with ho|⟨o0,p,ho⟩
    ·rw[ho]at YD Qg ⊢
     repeat' (first|(refine b7 rfl rfl rfl rfl rfl (dX am (k:=2) (by_:=16) (xs:=[Ba ⟨s.at_,1099511627776⟩]) rfl rfl rfl rfl ⟨rfl,_,rfl,by intro e he;simp at he;subst he;rfl⟩ rfl (by unfold vQ;omega) rfl rfl rfl m9 rfl (by simp only[List.length_singleton,aqE];omega) (by simp only[List.length_singleton,aqE];omega)) ?_)|rw[aqk]|rw[hG]|refine aM rfl rfl rfl rfl RL rfl ?_|refine gw_ am tabS_ok ?_|refine gi_ (fun hb=>?_) (fun hb=>?_)|fail)
     have PR:=Qg (out:=[⟨s.at_,1099511627776⟩]) (s.c+1) (M7 s.at_ 1099511627776) m5;exact⟨_,PR.1,PR.2,fm_ ⟨rfl,rfl,(by show _=some (AV.one (.sl 0 (vQ (s.c+1)) 0 1));rw[QY];rfl),rfl,rfl,rfl,rfl,t7⟩ [] (by show _=[Ob.row (vQ (s.c+1)) _ 2];rw[QY];rfl) (iQ E VJ _) ⟨dr _ _ _ _,t7⟩⟩
    ·have hlen:s.out.length=o0.length+1:=by rw[ho];simp
     have R6:=yG o0 p s.at_ 1099511627776;have SU:((o0++[p]).map Ba)[0+((o0.length:Nat):Int).toNat]?=some (Ba p):=by rw[aqR,Int.toNat_natCast,aql,aqf m5];simp
     have UQ:i64.wrap (((o0.length+1:Nat):Int)-1)=((o0.length:Nat):Int):=a7 m0 m0;have UE:decide ((0:Int)<((o0.length+1:Nat):Int))=true:=aqc m0;rw[hlen,ho]at YD ⊢;rw[ho]at Qg;by_cases WJ:p.hi=s.at_
     ·have UY:decide (p.hi=s.at_)=true:=aqc WJ
      rw[if_pos WJ]at R6
      repeat' (first|(refine kR rfl rfl rfl rfl rfl rfl rfl (e:=Ba p) (by exact SU) rfl ?_)|(refine m_ rfl rfl rfl rfl rfl rfl (e:=Ba p) (by exact SU) ⟨aqi rfl,rfl⟩ rfl ?_)|rw[UQ]|rw[UE]|rw[UY]|rw[aqk]|rw[hG]|refine aM rfl rfl rfl rfl RL rfl ?_|refine gw_ am tabS_ok ?_|refine gi_ (fun hb=>?_) (fun hb=>?_)|fail)
      have PR:=Qg s.c R6 m5;exact⟨_,PR.1,PR.2,fm_ ⟨rfl,rfl,(by show _=some (AV.one (.sl 0 (vQ s.c) 0 (o0++[_]).length));rw[aqg];rfl),rfl,rfl,rfl,rfl,t7⟩ [] (by rw[Na o0 p 1099511627776 _ m5];rfl) (iQ E VJ _) ⟨dr _ _ _ _,t7⟩⟩
     ·have UY:decide (p.hi=s.at_)=false:=aqb WJ
      rw[if_neg WJ]at R6
      repeat' (first|(refine kR rfl rfl rfl rfl rfl rfl rfl (e:=Ba p) (by exact SU) rfl ?_)|(refine b7 rfl rfl rfl rfl rfl (dX am (k:=2) (by_:=16) (xs:=[Ba ⟨s.at_,1099511627776⟩]) rfl rfl rfl rfl ⟨rfl,_,rfl,by intro e he;simp at he;subst he;rfl⟩ rfl (by unfold vQ;omega) rfl rfl rfl m9 YD (by simp only[List.length_singleton,aqE];omega) (by simp only[List.length_singleton,aqE];omega)) ?_)|rw[UQ]|rw[UE]|rw[UY]|rw[aqk]|rw[hG]|refine aM rfl rfl rfl rfl RL rfl ?_|refine gw_ am tabS_ok ?_|refine gi_ (fun hb=>?_) (fun hb=>?_)|fail)
      have PR:=Qg (s.c+1) R6 m5;exact⟨_,PR.1,PR.2,fm_ ⟨rfl,rfl,(by show _=some (AV.one (.sl 0 (vQ (s.c+1)) 0 (o0++[p]++[_]).length));rw[QY,aqg,aqg];rfl),rfl,rfl,rfl,rfl,t7⟩ [] (by show _=[Ob.row (vQ (s.c+1)) _ 2];rw[QY,aql (l₁:=o0++[p])];rfl) (iQ E VJ _) ⟨dr _ _ _ _,t7⟩⟩
 ·have hA:decide (s.at_<1099511627776)=false:=aqb Px
  have US:s.out=R:=by
   have:=Qu.fin
   cases hn:s.n with
   |zero=>rw[hn]at this;exact this
   |succ n=>rw[hn,ic,if_neg Px]at this;exact this
  unfold WT;refine iV 0 8 (cs:=s.out.map aN) rfl (ag' _) rfl m5 ?_
  repeat' (first|rw[hA]|refine gw_ am tabS_ok ?_|refine gi_ (fun hb=>?_) (fun hb=>?_)|fail)
  rw[US];refine⟨.inr rfl,?_⟩
  first|exact⟨t7,rfl⟩|exact⟨⟨t7,t7⟩,rfl⟩|(refine⟨?_,rfl⟩;repeat' (first|exact t7|rfl|apply And.intro))
def oa (n:Int):List Int->List Int
 |[]=>[n]
 |x::l=>if x<n then x::oa n l else if n<x then n::x::l else x::l
def xy:List ax->List Int->List Int
 |[],out=>out
 |p::l,out=>xy l (bif aq p then oa p.hi (oa p.lo out)else out)
theorem vD (n:Int):∀ (l:List Int) (x:Int),x∈oa n l↔x=n\/x∈l
 |[],x=>by simp[oa]
 |y::l,x=>by
  rw[oa];by_cases h1:y<n
  ·rw[if_pos h1,aqp,vD n l x,aqp]
   constructor
   ·rintro(h|h|h)
    ·exact .inr (.inl h)
    ·exact .inl h
    ·exact .inr (.inr h)
   ·rintro(h|h|h)
    ·exact .inr (.inl h)
    ·exact .inl h
    ·exact .inr (.inr h)
  ·rw[if_neg h1]
   by_cases h2:n<y
   ·rw[if_pos h2,aqp]
   ·rw[if_neg h2]
    have:n=y:=m0
    subst this;constructor
    ·exact .inr
    ·rintro(h|h)
     ·subst h;exact aqW ..
     ·exact h
theorem CQ (n:Int):∀ {l:List Int},l.Pairwise (· < ·)->(oa n l).Pairwise (· < ·)
 |[],_=>aq5.2 ⟨fun x hx=>(by cases hx),List.Pairwise.nil⟩
 |y::l,h=>by
  have h':=aq5.1 h;rw[oa];by_cases h1:y<n
  ·rw[if_pos h1,aq5]
   refine⟨fun x hx=>?_,CQ n h'.2⟩;rcases(vD n l x).1 hx with rfl|hx
   ·exact h1
   ·exact h'.1 x hx
  ·rw[if_neg h1]
   by_cases h2:n<y
   ·rw[if_pos h2,aq5]
    refine⟨fun x hx=>?_,h⟩;rcases aqp.1 hx with rfl|hx
    ·exact h2
    ·have:=h'.1 x hx;omega
   ·rw[if_neg h2];exact h
theorem EX:∀ (l:List ax) {out:List Int},out.Pairwise (· < ·)->(xy l out).Pairwise (· < ·)
 |[],_,h=>h
 |p::l,out,h=>by
  rw[xy];refine EX l ?_
  cases aq p with
  |false=>exact h
  |true=>exact CQ _ (CQ _ h)
theorem E4:∀ (l:List ax) (out:List Int) (x:Int),x∈xy l out↔x∈out \/ ∃ p∈l,aq p=true/\(x=p.lo\/x=p.hi)
 |[],out,x=>by simp[xy]
 |p::l,out,x=>by
  rw[xy,E4 l]
  cases hp:aq p with
  |false =>
   rw[ap'];constructor
   ·rintro(h|⟨q,hq,h⟩)
    ·exact .inl h
    ·exact .inr ⟨q,aqx _ hq,h⟩
   ·rintro(h|⟨q,hq,h⟩)
    ·exact .inl h
    ·rcases aqp.1 hq with rfl|hq
     ·rw[hp]at h;exact absurd h.1 m5
     ·exact .inr ⟨q,hq,h⟩
  |true =>
   rw[aqa,vD,vD];constructor
   ·rintro((h|h|h)|⟨q,hq,h⟩)
    ·exact .inr ⟨p,aqW .., hp,.inr h⟩
    ·exact .inr ⟨p,aqW .., hp,.inl h⟩
    ·exact .inl h
    ·exact .inr ⟨q,aqx _ hq,h⟩
   ·rintro(h|⟨q,hq,h0,h⟩)
    ·exact .inl (.inr (.inr h))
    ·rcases aqp.1 hq with rfl|hq
     ·rcases h with h|h
      ·exact .inl (.inr (.inl h))
      ·exact .inl (.inl h)
     ·exact .inr ⟨q,hq,h0,h⟩
def gv (w:Bool->Bool->Bool)(a b:List ax):List Int->List ax->List ax
 |[],out=>out
 |[_],out=>out
 |x::y::ps,out=>gv w a b (y::ps) (if w (dR a x) (dR b x)then o_ out x y else out)
def Calm (l:List ax)(x y:Int):Prop :=∀ p∈l,aq p=true->(p.lo<=x\/y<=p.lo)/\(p.hi<=x\/y<=p.hi)
theorem Calm.eq {l:List ax}{x y t:Int}(h:Calm l x y)(h1:x<=t)(h2:t<y):dR l t=dR l x:=by
 rw[Bool.eq_iff_iff,cS,cS];constructor
 ·rintro⟨p,hp,hv,a,b⟩
  have:=h p hp hv;exact⟨p,hp,hv,m0,m0⟩
 ·rintro⟨p,hp,hv,a,b⟩
  have:=h p hp hv;exact⟨p,hp,hv,m0,m0⟩
theorem NE (w:Bool->Bool->Bool)(a b:List ax):∀ (ps:List Int) (x:Int) (out:List ax),(x::ps).Pairwise (· < ·)->(∀ y∈x::ps,0<=y/\y<=1099511627776)->1099511627776∈x::ps ->
  (∀ p∈a,aq p=true->(p.lo<=x\/p.lo∈ps)/\(p.hi<=x\/p.hi∈ps))->(∀ p∈b,aq p=true->(p.lo<=x\/p.lo∈ps)/\(p.hi<=x\/p.hi∈ps)) ->
  b9 out->(∀ p∈out,p.hi<=x)->(∀ t,dR out t=((decide (0<=t)&&decide (t<x))&&w (dR a t) (dR b t))) ->
  b9 (gv w a b (x::ps) out) /\ ∀ t,dR (gv w a b (x::ps) out) t=((decide (0<=t)&&decide (t<1099511627776))&&w (dR a t) (dR b t))
 |[],x,out,_,_,hf,_,_,h1,_,h3=>by
  have:x=1099511627776:=(aqP.1 hf).symm;subst this;exact⟨h1,h3⟩
 |y::ps,x,out,hs,hr,hf,ha,hb,h1,h2,h3=>by
  have YC:=aq5.1 hs;have Zb:=aq5.1 YC.2;have SQ:=YC.1 y (aqW ..);have hx:=hr x (aqW ..);have hy:=hr y (aqx _ (aqW ..));have Xj:∀ l:List ax,(∀ p∈l,aq p=true->(p.lo<=x\/p.lo∈y::ps)/\(p.hi<=x\/p.hi∈y::ps))->Calm l x y /\ ∀ p∈l,aq p=true->(p.lo<=y\/p.lo∈ps)/\(p.hi<=y\/p.hi∈ps):=fun l hl=>by
   have key:∀ z:Int,(z<=x\/z∈y::ps)->(z<=x\/y<=z)/\(z<=y\/z∈ps):=fun z hz=>by
    rcases hz with hz|hz
    ·exact⟨.inl hz,.inl m0⟩
    ·rcases aqp.1 hz with rfl|hz
     ·exact⟨.inr (Int.le_refl _),.inl (Int.le_refl _)⟩
     ·exact⟨.inr (by have:=Zb.1 z hz;omega),.inr hz⟩
   exact⟨fun p hp hv=>⟨(key _ (hl p hp hv).1).1,(key _ (hl p hp hv).2).1⟩,fun p hp hv=>⟨(key _ (hl p hp hv).1).2,(key _ (hl p hp hv).2).2⟩⟩
  obtain⟨ca,ca'⟩:=Xj a ha;obtain⟨cb,cb'⟩:=Xj b hb;have YL:1099511627776∈y::ps:=by
   rcases aqp.1 hf with h|h
   ·omega
   ·exact h
  rw[gv];have hw:∀ t,x<=t->t<y->w (dR a t) (dR b t)=w (dR a x) (dR b x):=fun t e1 e2=>by rw[ca.eq e1 e2,cb.eq e1 e2]
  refine NE w a b ps y _ YC.2 (fun z hz=>hr z (aqx _ hz)) YL ca' cb' ?_ ?_ ?_
  ·split
   ·exact(jz h1 h2 hx.1 SQ hy.2).1
   ·exact h1
  ·split
   ·exact(jz h1 h2 hx.1 SQ hy.2).2.1
   ·exact fun p hp=>by have:=h2 p hp;omega
  ·intro t
   by_cases O0:t<x
   ·have e2:dR (if w (dR a x) (dR b x)then o_ out x y else out) t=dR out t:=by
     split
     ·rw[(jz h1 h2 hx.1 SQ hy.2).2.2,aqb (show ¬ x<=t by omega),Bool.false_and,Bool.or_false]
     ·rfl
    rw[e2,h3 t,aqc O0,aqc (show t<y by omega)]
   ·have e0:dR out t=false:=by rw[h3 t,aqb O0,Bool.and_false,Bool.false_and]
    by_cases ZX:t<y
    ·rw[hw t m0 ZX,aqc (show 0<=t by omega),aqc ZX,aqH,aqH]
     cases hk:w (dR a x) (dR b x)with
     |true=>rw[if_pos rfl,(jz h1 h2 hx.1 SQ hy.2).2.2,e0,aqc (show x<=t by omega),aqc ZX];rfl
     |false=>rw[if_neg m5,e0]
    ·rw[aqb ZX,Bool.and_false,Bool.false_and]
     split
     ·rw[(jz h1 h2 hx.1 SQ hy.2).2.2,e0,aqb ZX,Bool.and_false];rfl
     ·exact e0
def jF (a b:List ax):List Int:=xy (⟨0,1099511627776⟩::(a++b)) []
theorem si (w:Bool->Bool->Bool)(a b:List ax):b9 (gv w a b (jF a b) []) /\ ∀ t,dR (gv w a b (jF a b) []) t=((decide (0<=t)&&decide (t<1099511627776))&&w (dR a t) (dR b t)):=by
 have h0:aq ⟨0,1099511627776⟩=true:=by decide
 have hm:∀ x,x∈jF a b ↔ ∃ p∈(⟨0,1099511627776⟩::(a++b):List ax),aq p=true/\(x=p.lo\/x=p.hi):=fun x=>by
  unfold jF;rw[E4];simp
 have X5:(jF a b).Pairwise (· < ·):=EX _ List.Pairwise.nil;have hr:∀ y∈jF a b,0<=y/\y<=1099511627776:=fun y hy=>by
  obtain⟨p,_,hv,h⟩:=(hm y).1 hy;have:=gg hv;omega
 have hz:(0:Int)∈jF a b:=(hm 0).2 ⟨_,aqW .., h0,.inl rfl⟩;have hF:(1099511627776:Int)∈jF a b:=(hm _).2 ⟨_,aqW .., h0,.inr rfl⟩;have PE:∀ p∈a++b,aq p=true->p.lo∈jF a b/\p.hi∈jF a b:=fun p hp hv=>⟨(hm _).2 ⟨p,aqx _ hp,hv,.inl rfl⟩,(hm _).2 ⟨p,aqx _ hp,hv,.inr rfl⟩⟩
 generalize jF a b=P at X5 hr hz hF PE
 cases P with
 |nil=>cases hz
 |cons x ps =>
  have YO:x=0:=by
   rcases aqp.1 hz with h|h
   ·exact h.symm
   ·have:=(aq5.1 X5).1 0 h
    have:=hr x (aqW ..);omega
  subst YO;have SD:∀ z∈(0:Int)::ps,z<=0\/z∈ps:=fun z hz=>by
   rcases aqp.1 hz with rfl|h
   ·exact .inl (Int.le_refl _)
   ·exact .inr h
  refine NE w a b ps 0 [] X5 hr hF (fun p hp hv=>?_) (fun p hp hv=>?_) trivial (fun p hp=>by cases hp) fun t=>?_
  ·have:=PE p (List.mem_append_left _ hp) hv
   exact⟨SD _ this.1,SD _ this.2⟩
  ·have:=PE p (List.mem_append_right _ hp) hv
   exact⟨SD _ this.1,SD _ this.2⟩
  ·have:(decide (0<=t)&&decide (t<0))=false:=by
    by_cases h:t<0
    ·rw[aqb (show ¬ 0<=t by omega),Bool.false_and]
    ·rw[aqb h,Bool.and_false]
   rw[this,Bool.false_and,js]
theorem Ce (Pq:Bool->Bool->Bool){a b c d:List ax}{w:Bool->Bool->Bool}{E:List E3}(hp:E.Perm (rW a b))(hs:lM E){n:Nat}(hn:E.length+2<=n)
  (h:∀ t,0<=t->t<1099511627776->Pq (dR a t) (dR b t)=w (dR c t) (dR d t)):ic Pq n E 0 0 0 []=gv w c d (jF c d) []:=by
 obtain⟨h1,h2⟩:=D7 Pq hp hs hn;obtain⟨h3,h4⟩:=si w c d;refine mF h1 h3 fun t=>?_
 rw[h2,h4];by_cases q1:0<=t
 ·by_cases q2:t<1099511627776
  ·rw[h t q1 q2]
  ·rw[aqb q2,Bool.and_false,Bool.false_and,Bool.false_and]
 ·rw[aqb q1,Bool.false_and,Bool.false_and,Bool.false_and]
def iy {α:Type}(q:α->Bool):List α->Nat->List Int
 |[],_=>[]
 |y::b,k=>(bif q y then [(k:Int)]else [])++iy q b (k+1)
def kX {α:Type}(q:α->Bool)(i:Int)(b:List α)(k:Nat):List cz:=(iy q b k).map fun j=>⟨i,j⟩
def dW {α:Type}(q:α->α->Bool)(b:List α):List α->Nat->List cz
 |[],_=>[]
 |x::a,i=>kX (q x) (i:Int) b 0++dW q b a (i+1)
theorem AW {α:Type}(q:α->Bool):∀ (b:List α) (k:Nat) (j:Int),j∈iy q b k->(k:Int)<=j/\j<((k+b.length:Nat):Int)
 |[],_,_,h=>by cases h
 |y::b,k,j,h=>by
  rw[iy,aqB]at h;rcases h with h|h
  ·cases hq:q y with
   |false=>rw[hq]at h;cases h
   |true=>rw[hq,aqa,aqP]at h;subst h;simp;omega
  ·have:=AW q b (k+1) j h
   simp only[aqv];omega
theorem EE {α:Type}(q:α->Bool):∀ (b:List α) (k:Nat),(iy q b k).Pairwise (· < ·)
 |[],_=>List.Pairwise.nil
 |y::b,k=>by
  rw[iy]
  cases q y with
  |false=>exact EE q b (k+1)
  |true =>
   rw[aqa,List.singleton_append,aq5];exact⟨fun j hj=>by have:=(AW q b (k+1) j hj).1;omega,EE q b (k+1)⟩
theorem Bm {α:Type}(q:α->Bool):∀ (b:List α) (k:Nat),(iy q b k).length=b.countP q
 |[],_=>rfl
 |y::b,k=>by
  rw[iy,aqg,Bm q b (k+1),List.countP_cons]
  cases q y<;>simp<;>omega
theorem vX {α:Type}(q:α->Bool)(b:List α)(k:Nat):(iy q b k).length<=b.length:=by rw[Bm];exact List.countP_le_length
theorem adh {α:Type}(q:α->Bool)(b0:List α):∀ (b pre:List α),b0=pre++b ->∀ j∈iy q b pre.length,∃ y,b0[j.toNat]?=some y/\q y=true/\0<=j
 |[],_,_,j,h=>by cases h
 |y::b,pre,e,j,h=>by
  rw[iy,aqB]at h;rcases h with h|h
  ·cases hq:q y with
   |false=>rw[hq]at h;cases h
   |true =>
    rw[hq,aqa,aqP]at h;subst h;refine⟨y,?_,hq,m0⟩;rw[e,Int.toNat_natCast,aqf (aqo _),Nat.sub_self];rfl
  ·have:=adh q b0 b (pre++[y]) (by rw[e];simp) j (by rw[aqg];exact h)
   exact this
theorem y7 {α:Type}(q r:α->Bool)(p:Int->Bool)(b0:List α):∀ (b pre:List α),b0=pre++b->(∀ (j:Nat) y,b0[j]?=some y->p (j:Int)=r y)->(iy q b pre.length).filter p=iy (fun y=>q y&&r y) b pre.length
 |[],_,_,_=>rfl
 |y::b,pre,e,hp=>by
  rw[iy,iy,List.filter_append];have h1:=y7 q r p b0 b (pre++[y]) (by rw[e];simp) hp;rw[aqg,List.length_singleton]at h1;rw[h1];congr 1;have hy:b0[pre.length]?=some y:=by rw[e,aqf (aqo _),Nat.sub_self];rfl
  cases hq:q y with
  |false=>simp
  |true=>rw[aqa,List.filter_cons,List.filter_nil,hp _ y hy,aqH];cases r y<;>rfl
theorem Nx:∀ {l m:List Int},l.Pairwise (fun x y =>¬ y<x)->m.Pairwise (· < ·)->l.Perm m->l=m
 |[],m,_,_,h=>(List.nil_perm.1 h).symm▸rfl
 |x::l,[],_,_,h=>absurd h.length_eq m5
 |x::l,y::m,hl,hm,h=>by
  rw[aq5]at hl hm;have SQ:x=y:=by
   rcases aqp.1 (h.mem_iff.1 (aqW ..))with e|e
   ·exact e
   ·rcases aqp.1 (h.mem_iff.2 (aqW ..))with e'|e'
    ·exact e'.symm
    ·exact absurd (hm.1 x e) (hl.1 y e')
  subst SQ;rw[Nx hl.2 hm.2 (List.Perm.cons_inv h)]
theorem vS (lo:Int->Int)(t:Int):∀ {l:List Int},l.Pairwise (fun x y =>¬ lo y<lo x)->l.takeWhile (fun k=>decide (lo k<t))=l.filter fun k=>decide (lo k<t)
 |[],_=>rfl
 |x::l,h=>by
  rw[aq5]at h;rw[List.takeWhile_cons,List.filter_cons];by_cases hx:lo x<t
  ·rw[if_pos (aqc hx),if_pos (aqc hx),vS lo t h.2]
  ·rw[if_neg (by simp[hx]),if_neg (by simp[hx])]
   symm;rw[List.filter_eq_nil_iff];intro y hy;have:=h.1 y hy;simp;omega
def iS (p q:ax):Bool:=(aq p&&aq q)&&(decide (p.lo<q.hi)&&decide (q.lo<p.hi))
def fP (b:List ap)(k:Int):ax:=match b[k.toNat]? with
 |some y=>y.valid
 |none=>⟨0,0⟩
def adp (b:List ap)(ord:List Int)(f:ax):List Int:=(ord.takeWhile fun k=>decide ((fP b k).lo<f.hi)).filter fun k=>decide (f.lo<(fP b k).hi)
theorem aeF {b:List ap}{ord:List Int}(hp:ord.Perm (iy (fun y=>aq y.valid) b 0))(hs:ord.Pairwise fun x y =>¬ (fP b y).lo<(fP b x).lo){f:ax}(hf:aq f=true) :
  (adp b ord f).Perm (iy (fun y=>iS f y.valid) b 0):=by
 unfold adp;rw[vS (fun k=>(fP b k).lo) f.hi hs,List.filter_filter];have h1:=y7 (fun y:ap=>aq y.valid) (fun y=>decide (f.lo<y.valid.hi)&&decide (y.valid.lo<f.hi)) (fun k=>decide (f.lo<(fP b k).hi)&&decide ((fP b k).lo<f.hi)) b b [] rfl
  (fun j y hy=>by unfold fP;rw[Int.toNat_natCast,hy])
 refine(hp.filter _).trans ?_;rw[aqE]at h1;rw[h1];have:(fun y:ap=>aq y.valid&&(decide (f.lo<y.valid.hi)&&decide (y.valid.lo<f.hi)))=fun y=>iS f y.valid:=by
  funext y;unfold iS;rw[hf,aqH]
 rw[this]
theorem afp {i:Int}{ks m:List Int}{r:List cz}(h1:r.Perm (ks.map fun j=>(⟨i,j⟩:cz)))(h2:r.Pairwise fun x y =>¬ y.b<x.b)(h3:ks.Perm m)(h4:m.Pairwise (· < ·)):r=m.map fun j=>⟨i,j⟩:=by
 have e1:r=(r.map cz.b).map fun j=>(⟨i,j⟩:cz):=by
  rw[List.map_map];conv=>lhs;rw[<- List.map_id r]
  refine List.map_congr_left fun x hx=>?_
  obtain⟨j,_,rfl⟩:=aqJ.1 (h1.mem_iff.1 hx);rfl
 have e2:r.map cz.b=m:=by
  refine Nx ?_ h4 ?_
  ·rw[List.pairwise_map];exact h2
  ·have:=h1.map cz.b
   rw[List.map_map]at this;exact(this.trans (by rw[show(cz.b∘fun j:Int=>(⟨i,j⟩:cz))=id from rfl,List.map_id])).trans h3
 rw[e1,e2]
theorem sum_nil {α:Type}:∀ b:List α,(b.map fun _=>0).sum=0
 |[]=>rfl
 |y::b=>by rw[aqj,List.sum_cons,sum_nil b]
def nk (p q:ax):ax:=⟨max p.lo q.lo,min p.hi q.hi⟩
def da (c:ap->ap->Bool)(b:List ap)(x:ap):List ax:=b.flatMap fun y=>bif iS x.valid y.valid&&c x y then [nk x.valid y.valid]else []
def zW (c:ap->ap->Bool)(b:List ap)(x:ap):List ax:=b.flatMap fun y=>bif c x y then [y.valid]else []
theorem sW (p q:ax):iS p q=true↔aq p=true/\aq q=true/\p.lo<q.hi/\q.lo<p.hi:=by
 unfold iS;generalize aq p=u;generalize aq q=v;rw[aqr,aqr,aqr,decide_eq_true_eq,decide_eq_true_eq];constructor
 ·rintro⟨⟨a,b⟩,c,d⟩;exact⟨a,b,c,d⟩
 ·rintro⟨a,b,c,d⟩;exact⟨⟨a,b⟩,c,d⟩
theorem JS {p q:ax}(h:iS p q=true):aq (nk p q)=true:=by
 obtain⟨h1,h2,h3,h4⟩:=(sW p q).1 h;have:=gg h1;have:=gg h2;have a1:0<=max p.lo q.lo:=m0
 have a2:max p.lo q.lo<min p.hi q.hi:=m0
 have a3:min p.hi q.hi<=1099511627776:=m0
 show(decide (0<=max p.lo q.lo)&&decide (max p.lo q.lo<min p.hi q.hi)&&decide (min p.hi q.hi<=1099511627776))=true;rw[aqc a1,aqc a2,aqc a3];rfl
theorem ac1 {c:ap->ap->Bool}{b:List ap}{x:ap}{p:ax}:p∈da c b x ↔ ∃ y∈b,iS x.valid y.valid=true/\c x y=true/\p=nk x.valid y.valid:=by
 unfold da;rw[List.mem_flatMap];constructor
 ·rintro⟨y,hy,h⟩
  cases h1:iS x.valid y.valid&&c x y with
  |false=>rw[h1]at h;cases h
  |true =>
   rw[h1,aqa,aqP]at h;rw[aqr]at h1;exact⟨y,hy,h1.1,h1.2,h⟩
 ·rintro⟨y,hy,h1,h2,rfl⟩
  exact⟨y,hy,by rw[h1,h2];exact aqP.2 rfl⟩
theorem ac_ {c:ap->ap->Bool}{b:List ap}{x:ap}{p:ax}:p∈zW c b x ↔ ∃ y∈b,c x y=true/\p=y.valid:=by
 unfold zW;rw[List.mem_flatMap];constructor
 ·rintro⟨y,hy,h⟩
  cases h1:c x y with
  |false=>rw[h1]at h;cases h
  |true =>
   rw[h1,aqa,aqP]at h;exact⟨y,hy,h1,h⟩
 ·rintro⟨y,hy,h2,rfl⟩
  exact⟨y,hy,by rw[h2];exact aqP.2 rfl⟩
theorem vA {α β:Type}(g:α->List β)(h:∀ x,(g x).length<=1):∀ l:List α,(l.flatMap g).length<=l.length
 |[]=>aqo _
 |x::l=>by
  have h1:=h x;have h2:=vA g h l;rw[aqM,aqg,aqv];omega
theorem AQ (c:ap->ap->Bool)(b:List ap)(x:ap):(da c b x).length<=b.length:=vA _ (fun y=>by cases iS x.valid y.valid&&c x y<;>simp) b
theorem Au {c:ap->ap->Bool}{b:List ap}{x:ap}(hx:aq x.valid=true)(t:Int):dR (da c b x) t=(zR x.valid t&&dR (zW c b x) t):=by
 rw[Bool.eq_iff_iff,aqr,cS,cS,fw];constructor
 ·rintro⟨p,hp,hv,h1,h2⟩
  obtain⟨y,hy,ho,hc,rfl⟩:=ac1.1 hp;obtain⟨q1,q2,q3,q4⟩:=(sW _ _).1 ho;simp only[nk]at h1 h2;exact⟨m0,y.valid,ac_.2 ⟨y,hy,hc,rfl⟩,q2,m0,m0⟩
 ·rintro⟨⟨h1,h2⟩,p,hp,hv,h3,h4⟩
  obtain⟨y,hy,hc,rfl⟩:=ac_.1 hp;have ho:iS x.valid y.valid=true:=(sW _ _).2 ⟨hx,hv,m0,m0⟩;refine⟨_,ac1.2 ⟨y,hy,ho,hc,rfl⟩,JS ho,?_,?_⟩<;>simp only[nk]<;>omega
theorem xo {p:ax}(h:aq p=true)(t:Int):dR [p] t=zR p t:=by rw[lN,js,h,aqH,Bool.or_false]
def gm (c:ap->ap->Bool)(b:List ap)(x:ap):List ax:=gv (fun p q=>p && !q) [x.valid] (zW c b x) (jF [x.valid] (zW c b x)) []
def ER (c:ap->ap->Bool)(b:List ap)(x:ap):List ax:=gv (fun p q=>p&&q) [x.valid] (zW c b x) (jF [x.valid] (zW c b x)) []
theorem adZ {c:ap->ap->Bool}{b:List ap}{x:ap}(hx:aq x.valid=true){E:List E3}(hp:E.Perm (rW [x.valid] (da c b x)))(hs:lM E){n:Nat}(hn:E.length+2<=n) :
  ic (fun p q=>p && !q) n E 0 0 0 []=gm c b x:=by
 refine Ce (fun p q=>p && !q) hp hs hn fun t _ _=>?_
 rw[xo hx,Au hx]
 cases zR x.valid t<;>simp
theorem Ld {c:ap->ap->Bool}{b:List ap}{x:ap}(hx:aq x.valid=true):b9 (gm c b x) /\ ∀ t,dR (gm c b x) t=(zR x.valid t && !dR (da c b x) t):=by
 obtain⟨h1,h2⟩:=si (fun p q=>p && !q) [x.valid] (zW c b x);refine⟨h1,fun t=>?_⟩;unfold gm;rw[h2,xo hx,Au hx];have:=gg hx
 cases h:zR x.valid t with
 |false=>simp
 |true =>
  rw[fw]at h;rw[aqc (show 0<=t by omega),aqc (show t<1099511627776 by omega)];simp
theorem wn {c:ap->ap->Bool}{b:List ap}{x:ap}(hx:aq x.valid=true):b9 (ER c b x) /\ ∀ t,dR (ER c b x) t=dR (da c b x) t:=by
 obtain⟨h1,h2⟩:=si (fun p q=>p&&q) [x.valid] (zW c b x);refine⟨h1,fun t=>?_⟩;unfold ER;rw[h2,xo hx,Au hx];have:=gg hx
 cases h:zR x.valid t with
 |false=>simp
 |true =>
  rw[fw]at h;rw[aqc (show 0<=t by omega),aqc (show t<1099511627776 by omega)];simp
theorem aa0:∀ {l m:List Int},l.Pairwise (· < ·)->(∀ x∈l,x∈m)->l.length<=m.length
 |[],m,_,_=>aqu _
 |x::l,m,h,hm=>by
  rw[aq5]at h;have hx:=hm x (aqW ..);have h1:=aa0 (l:=l) (m:=m.erase x) h.2 fun y hy=>by
   have:=h.1 y hy;rw[List.mem_erase_of_ne m0];exact hm y (aqx _ hy)
  rw[List.length_erase_of_mem hx]at h1;have:0<m.length:=List.length_pos_of_mem hx;rw[aqv];omega
theorem Eo:∀ {l:List ax},b9 l->(l.map ax.lo).Pairwise (· < ·)
 |[],_=>List.Pairwise.nil
 |p::l,h=>by
  rw[aqj,aq5];refine⟨fun y hy=>?_,Eo h.2.2⟩;obtain⟨q,hq,rfl⟩:=aqJ.1 hy;have:=h.2.1 q hq;have:=gg h.1;omega
theorem rU:∀ {l:List ax},b9 l ->∀ p∈l,dR l p.lo=true/\dR l (p.lo-1)=false
 |[],_,p,hp=>by cases hp
 |q::l,h,p,hp=>by
  have hv:=h.val p hp;have hl:=gg hv;refine⟨(cS _ _).2 ⟨p,hp,hv,m0,m0⟩,?_⟩;rw[Bool.eq_false_iff];intro ht;obtain⟨r,hr,ZY,h1,h2⟩:=(cS _ _).1 ht;rcases aqp.1 hp with e|hp2
  ·subst e
   rcases aqp.1 hr with e|SE
   ·subst e;omega
   ·have:=h.2.1 r SE;omega
  ·rcases aqp.1 hr with e|SE
   ·subst e;have:=h.2.1 p hp2;omega
   ·have:=(rU h.2.2 p hp2).2
    rw[(cS _ _).2 ⟨r,SE,ZY,h1,h2⟩]at this
    cases this
theorem Af {c:ap->ap->Bool}{b:List ap}{x:ap}(hx:aq x.valid=true):(gm c b x).length<=b.length+1:=by
 obtain⟨h1,h2⟩:=Ld (c:=c) (b:=b) hx;have h3:=aa0 (m:=x.valid.lo::(da c b x).map ax.hi) (Eo h1) fun y hy=>by
  obtain⟨p,hp,rfl⟩:=aqJ.1 hy;obtain⟨q1,q2⟩:=rU h1 p hp;rw[h2,aqr,fw]at q1;by_cases he:p.lo=x.valid.lo
  ·rw[he];exact aqW ..
  ·refine aqx _ ?_
   have SD:zR x.valid (p.lo-1)=true:=(fw _ _).2 m0;rw[h2,SD,aqH,Bool.not_eq_false']at q2;obtain⟨r,hr,ZY,h5,h6⟩:=(cS _ _).1 q2;refine aqJ.2 ⟨r,hr,?_⟩;rcases(show p.lo<r.hi\/r.hi<=p.lo by omega)with h7|h7
   ·have:dR (da c b x) p.lo=true:=(cS _ _).2 ⟨r,hr,ZY,m0,h7⟩
    rw[this]at q1;exact absurd q1.2 m5
   ·omega
 rw[aqk,aqv,aqk]at h3;have:=AQ c b x;omega
theorem Jg {c:ap->ap->Bool}{b:List ap}{x:ap}(hx:aq x.valid=true):(ER c b x).length<=b.length:=by
 obtain⟨h1,h2⟩:=wn (c:=c) (b:=b) hx;have h3:=aa0 (m:=(da c b x).map ax.lo) (Eo h1) fun y hy=>by
  obtain⟨p,hp,rfl⟩:=aqJ.1 hy;obtain⟨q1,q2⟩:=rU h1 p hp;rw[h2]at q1 q2;obtain⟨r,hr,ZY,h5,h6⟩:=(cS _ _).1 q1;refine aqJ.2 ⟨r,hr,?_⟩;rcases(show r.lo<p.lo\/p.lo<=r.lo by omega)with h7|h7
  ·rw[(cS _ _).2 ⟨r,hr,ZY,m0,m0⟩]at q2
   cases q2
  ·omega
 rw[aqk,aqk]at h3;have:=AQ c b x;omega
def tF (l:List ap):AC := .lst (l.map aG)
theorem Hy {α:Type}(q:α->Bool)(y:α):∀ (b:List α) (k:Nat),iy q (b++[y]) k=iy q b k++(bif q y then [((k+b.length:Nat):Int)]else [])
 |[],k=>by simp[iy]
 |x::b,k=>by
  rw[List.cons_append,iy,iy,Hy q y b (k+1),aqA,aqv,show k+1+b.length=k+(b.length+1)by omega]
theorem lh (n v k:Nat)(l:List Int):(Ob.row v (l.map gI) k).below n:=by
 intro e he x hx;obtain⟨y,_,rfl⟩:=aqJ.1 he;simp[gI]at hx;subst hx;trivial
theorem uE (n v k:Nat)(l:List cz):(Ob.row v (l.map M_) k).below n:=by
 intro e he x hx;obtain⟨y,_,rfl⟩:=aqJ.1 he;simp[M_]at hx;rcases hx with rfl|rfl<;>trivial
theorem LR (σ:List Nat)(v:Nat)(l:List Int):(Ob.row v (l.map gI) 1).ren σ=Ob.row v (l.map gI) 1:=by
 simp only[Ob.ren,List.map_map];rfl
theorem rfI {L:List Ob}{v:Nat}{l:List Int}{id:Nat}{x:AV}{xs:List AV}(h0:L[id]?=some (Ob.row v (l.map gI) 1))(hx:∀ y∈x::xs,y.below 1):fS [id] [Ob.row v (l.map gI) 1] (x::xs) L:=by
 refine⟨rfl,m5,fun i y hy=>?_,bv ⟨lh _ _ _ _,t7⟩,hx⟩
 match i,hy with
 |0,hy=>simp at hy;subst hy;rw[LR];exact h0
 |i+1,hy=>simp at hy
theorem jI {L L':List Ob}{v:Nat}{l:List Int}{id:Nat}(h:L.set id (Ob.row v (l.map gI) 1)=L'):joinL [id] L [Ob.row v (l.map gI) 1]=L':=by
 subst h;simp[joinL,join,db,b6,fo,LR]
def vI (n:Nat):Nat:=3+65536+65536*n
def vP (n:Nat):Nat:=63+65536+65536*n
theorem aeb (l:List cz):dV (l.map M_)=some (l.map g9):=by
 have:=iC (l.map g9);rw[List.map_map]at this;exact this
def jU (b:List ap)(f:ax)(o:List Int)(j:Nat):List Int:=(o.take j).filter fun k=>decide (f.lo<(fP b k).hi)
theorem abn {b:List ap}{f:ax}{o:List Int}{j:Nat}{k:Int}(h:o[j]?=some k):jU b f o (j+1)=jU b f o j++(bif decide (f.lo<(fP b k).hi)then [k]else []):=by
 unfold jU;rw[bO h,List.filter_append]
 cases hd:decide (f.lo<(fP b k).hi)<;>simp[List.filter,hd]
theorem aej (b:List ap)(f:ax)(o:List Int)(j:Nat):(jU b f o j).length<=o.length:=by
 unfold jU;refine Nat.le_trans (List.length_filter_le _ _) ?_;rw[aq0];exact Nat.min_le_right _ _
theorem alj (p:Int->Bool):∀ (o:List Int) (j:Nat),(∀ k∈o.take j,p k=true)->(∀ k,o[j]?=some k->p k=false)->o.takeWhile p=o.take j
 |[],j,_,_=>by simp
 |x::o,0,_,h=>by simp[List.takeWhile,h x rfl]
 |x::o,j+1,h1,h2=>by
  rw[List.take_succ_cons,List.takeWhile,h1 x m5];show x::_=_;rw[alj p o j (fun k hk=>h1 k (by simp[hk])) (fun k hk=>h2 k (by simpa using hk))]
theorem ahd {b:List ap}{o:List Int}{x:ap}{i j:Nat}{d:List cz}(Q4:o.Perm (iy (fun y:ap=>aq y.valid) b 0))(XF:o.Pairwise fun x y =>¬ ot b y<ot b x)(hv:aq x.valid=true)
  (h1:∀ k∈o.take j,(fP b k).lo<x.valid.hi) (h2:∀ k,o[j]?=some k ->¬ (fP b k).lo<x.valid.hi) (hp:d.Perm ((jU b x.valid o j).map fun k=>(⟨i,k⟩:cz))) (hs:d.Pairwise fun x y =>¬ y.b<x.b):d=kX (fun y:ap=>iS x.valid y.valid) i b 0:=by
 have e:adp b o x.valid=jU b x.valid o j:=by
  unfold adp jU;rw[alj (fun k=>decide ((fP b k).lo<x.valid.hi)) o j (fun k hk=>by simpa using h1 k hk) (fun k hk=>by simpa using h2 k hk)]
 have Po:∀ k,ot b k=(fP b k).lo:=fun k=>by unfold ot fP;cases b[k.toNat]?<;>rfl
 refine afp hp hs (e▸aeF Q4 ?_ hv) (EE _ _ _);refine XF.imp ?_;intro x y h;rw[<- Po,<- Po];exact h
theorem LW (σ:List Nat)(v:Nat)(l:List cz):(Ob.row v (l.map M_) 2).ren σ=Ob.row v (l.map M_) 2:=by
 simp only[Ob.ren,List.map_map];rfl
theorem rfP {L:List Ob}{v:Nat}{l:List cz}{id:Nat}{x:AV}{xs:List AV}(h0:L[id]?=some (Ob.row v (l.map M_) 2))(hx:∀ y∈x::xs,y.below 1):fS [id] [Ob.row v (l.map M_) 2] (x::xs) L:=by
 refine⟨rfl,m5,fun i y hy=>?_,bv ⟨uE 1 _ _ _,t7⟩,hx⟩
 match i,hy with
 |0,hy=>simp at hy;subst hy;rw[LW];exact h0
 |i+1,hy=>simp at hy
theorem jP {L L':List Ob}{v:Nat}{l:List cz}{id:Nat}(h:L.set id (Ob.row v (l.map M_) 2)=L'):joinL [id] L [Ob.row v (l.map M_) 2]=L':=by
 subst h;simp[joinL,join,db,b6,fo,LW]
def IT (a b:List ap)(n p m i j:Nat):Tm:=[(3,.one (.c (.ref [tF b]))),(5,.one (.sl 1 (vI n) 0 n)),(8,.one (.sl 2 (vP m) 0 m)),(9,.one (.c (.int .i64 i))),(10,.one (.ptr 3 0)),(11,.one (.c (.int .i64 p))),(32,.one (.c (tF a))),(33,.one (.c (.int .i64 a.length))),(34,.one (.c (.int .i64 i))),(45,.one (.sl 1 (vI n) 0 n)),(46,.one (.c (.int .i64 n))),(47,.one (.c (.int .i64 j)))]
theorem DJ (a b:List ap)(n p m i j:Nat):gk 4 (IT a b n p m i j):=⟨t7,(by show 1<4;omega),(by show 2<4;omega),t7,(by show 3<4;omega),t7,t7,t7,t7,(by show 1<4;omega),t7,t7,t7⟩
theorem Bn (v w:Nat)(o:List Int)(p:List cz)(x:ap):mT 4 [.dead,.row v (o.map gI) 1,.row w (p.map M_) 2,.box ((aG x).map SV.c)]:=⟨t7,lh _ _ _ _,uE _ _ _ _,(by intro y hy;obtain⟨z,_,rfl⟩:=aqJ.1 hy;trivial),t7⟩
def prK (a b:List ap)(i:Nat):List cz:=dW (fun x y:ap=>iS x.valid y.valid) b (a.take i) 0
theorem Ib {α:Type}{q:α->Bool}(h:∀ y,q y=false):∀ (b:List α) (k:Nat),iy q b k=[]
 |[],_=>rfl
 |x::b,k=>by rw[iy,h,Ib h b];rfl
theorem Hj {α:Type}(q:α->α->Bool)(b:List α)(x:α):∀ (a:List α) (k:Nat),dW q b (a++[x]) k=dW q b a k++kX (q x) ((k+a.length:Nat):Int) b 0
 |[],k=>by simp[dW]
 |y::a,k=>by
  rw[List.cons_append,dW,dW,Hj q b x a (k+1),aqA,aqv,show k+1+a.length=k+(a.length+1)by omega]
theorem ahm {a b:List ap}{i:Nat}{x:ap}(hx:a[i]?=some x):prK a b (i+1)=prK a b i++kX (fun y:ap=>iS x.valid y.valid) i b 0:=by
 unfold prK;have hi:i<a.length:=by
  rcases Nat.lt_or_ge i a.length with h|h
  ·exact h
  ·rw[aqX h]at hx;cases hx
 rw[bO hx,Hj,aq0,aqR,Nat.min_eq_left m0]
theorem D1 {α:Type}(q:α->α->Bool)(b:List α):∀ (a:List α) (k:Nat),(dW q b a k).length<=a.length*b.length
 |[],_=>aqu _
 |x::a,k=>by
  rw[dW,aqg,aqv,Nat.succ_mul];have h1:=D1 q b a (k+1);have h2:(kX (q x) (k:Int) b 0).length<=b.length:=by unfold kX;rw[aqk];exact vX _ _ _
  omega
theorem ajX {a b:List ap}{i:Nat}(hi:i<a.length)(hb:b.length<=1000):(prK a b i).length<=i*1000:=by
 have:=D1 (fun x y:ap=>iS x.valid y.valid) b (a.take i) 0;rw[aq0,Nat.min_eq_left m0]at this;exact Nat.le_trans this (Nat.mul_le_mul_left _ hb)
def OT (a b:List ap)(n m i:Nat):Tm:=[(3,.one (.c (.ref [tF b]))),(5,.one (.sl 1 (vI n) 0 n)),(8,.one (.sl 2 (vP m) 0 m)),(32,.one (.c (tF a))),(33,.one (.c (.int .i64 a.length))),(34,.one (.c (.int .i64 i)))]
theorem wH (a b:List ap)(n m i k:Nat):gk (k+3) (OT a b n m i):=⟨t7,(by show 1<k+3;omega),(by show 2<k+3;omega),t7,t7,t7,t7⟩
theorem xh (v w:Nat)(o:List Int)(p:List cz):mT 3 [.dead,.row v (o.map gI) 1,.row w (p.map M_) 2]:=⟨t7,lh _ _ _ _,uE _ _ _ _,t7⟩
def kZ (b:List ap)(i:Nat):List Int:=iy (fun y:ap=>aq y.valid) (b.take i) 0
theorem Et (a b:List ap)(ha:a.length<=1000)(hb:b.length<=1000):PTz 12 [.one (tF a),.one (tF b)] (.val (.one (.lst ((dW (fun x y:ap=>iS x.valid y.valid) b a 0).map g9)))):=by
 have hB:=hb;refine pa_ am Tryz.func12 rfl rfl Tryz.ntmps12 m5 ?_;simp only[argT,PV.av,aqj,aqn]
 repeat' (first|refine gw_ am tabS_ok ?_|refine gi_ (fun hb=>?_) (fun hb=>?_)|fail)
 refine tw 5 (vI 0) 1 rfl (by unfold vI;omega) ?_;refine cA (fun i:Nat=>[(0,.one (.c (tF a))),(3,.one (.ptr 0 0)),(5,.one (.sl 1 (vI (kZ b i).length) 0 (kZ b i).length)),(14,.one (.c (tF b))),(15,.one (.c (.int .i64 b.length))),(16,.one (.c (.int .i64 i)))])
  (fun i=>[.box [.c (tF b)],.row (vI (kZ b i).length) ((kZ b i).map gI) 1]) (fun i=>i<=b.length) (fun i=>b.length-i) 0 m0 (fun _ _=>aqu _)
  (fm_ ⟨rfl,rfl,rfl,rfl,aT m5,rfl,t7⟩ [] rfl ⟨t7,(by show 0<2;omega),(by show 1<2;omega),t7,t7,t7,t7⟩ ⟨(by intro x hx;simp at hx;subst hx;trivial),lh _ _ _ _,t7⟩) ?_
 ·intro i hi
  have ZZ:∀ j,gk 2 [(0,AV.one (.c (tF a))),(3,.one (.ptr 0 0)),(5,.one (.sl 1 (vI (kZ b j).length) 0 (kZ b j).length)),(14,.one (.c (tF b))),(15,.one (.c (.int .i64 b.length))),(16,.one (.c (.int .i64 j)))]:=fun j=>⟨t7,(by show 0<2;omega),(by show 1<2;omega),t7,t7,t7,t7⟩
  have Z1:∀ j,mT 2 [Ob.box [.c (tF b)],.row (vI (kZ b j).length) ((kZ b j).map gI) 1]:=fun j=>⟨(by intro x hx;simp at hx;subst hx;trivial),lh _ _ _ _,t7⟩
  by_cases O0:i<b.length
  ·obtain⟨x,hx⟩:=gol_ O0
   have Qs:=gPV_ok (iP x.valid);have Qo:kZ b (i+1)=kZ b i++(bif aq x.valid then [(i:Int)]else []):=by
    unfold kZ;rw[bO hx,Hy,aq0,aqR,Nat.min_eq_left m0]
   have hle:(kZ b i).length<=1000:=by have:=vX (fun y:ap=>aq y.valid) (b.take i) 0;rw[aq0]at this;unfold kZ;omega
   generalize kZ b i=o at Qo hle
   cases hv:aq x.valid with
   |true =>
    rw[hv]at Qs Qo;rw[aqa]at Qo;have hl:(kZ b (i+1)).length=o.length+1:=by rw[Qo];simp
    have QY:vI (o.length+1)=vI o.length+65536:=by unfold vI;omega
    have hm:(o.map gI).length=o.length:=by simp
    repeat' (first|(refine b7 rfl rfl rfl rfl rfl (dX am (k:=1) (by_:=8) (xs:=[gI i]) rfl rfl rfl rfl ⟨rfl,_,rfl,by intro e he;simp at he;subst he;rfl⟩ rfl (by unfold vI;omega) rfl rfl rfl m9 hm (by simp only[List.length_singleton];omega) (by simp only[List.length_singleton];omega)) ?_)|(refine bB rfl rfl rfl rfl rfl rfl rfl rfl (bq hx) ?_ ?_;· exact⟨m0,rfl⟩)|refine aM rfl rfl rfl rfl Qs rfl ?_|refine gw_ am tabS_ok ?_|refine gi_ (fun hb=>?_) (fun hb=>?_)|fail)
    exact⟨i+1,m0,m0,fm_ ⟨rfl,rfl,(by rw[hl,QY];rfl),rfl,rfl,aT (a7 m0 m0),t7⟩ [_] (by rw[hl,QY,Qo,aql];rfl) (ZZ _) (Z1 _)⟩
   |false =>
    rw[hv]at Qs Qo;rw[ap',aqI]at Qo
    repeat' (first|(refine bB rfl rfl rfl rfl rfl rfl rfl rfl (bq hx) ?_ ?_;· exact⟨m0,rfl⟩)|refine aM rfl rfl rfl rfl Qs rfl ?_|refine gw_ am tabS_ok ?_|refine gi_ (fun hb=>?_) (fun hb=>?_)|fail)
    exact⟨i+1,m0,m0,fm_ ⟨rfl,rfl,(by rw[Qo];rfl),rfl,rfl,aT (a7 m0 m0),t7⟩ [_] (by rw[Qo];rfl) (ZZ _) (Z1 _)⟩
  ·have QE:i=b.length:=m0
   subst QE;have ho:kZ b b.length=iy (fun y:ap=>aq y.valid) b 0:=by unfold kZ;rw[List.take_length]
   have hor:∀ k∈kZ b b.length,0<=k/\k<(b.length:Int):=fun k hk=>by
    rw[ho]at hk;have:=AW _ b 0 k hk;omega
   have hle:(kZ b b.length).length<=1000:=by rw[ho];have:=vX (fun y:ap=>aq y.valid) b 0;omega
   obtain⟨o,Q4,XF,UA⟩:=Me hb hor (vI (kZ b b.length).length) (kZ b b.length).length rfl m0;rw[ho]at Q4;have Yo:o.length=(kZ b b.length).length:=by rw[ho];exact Q4.length_eq
   generalize kZ b b.length=o0 at UA hle Yo ⊢
   repeat' (first|(refine aS 0 (cs:=[.c (tF b)]) (ts:=[tF b]) rfl rfl ?_)|(refine cI [1] rfl rfl rfl rfl UA rfl (rfI rfl (bW ⟨(by show 0<1;omega),t7,t7⟩)) rfl (jI rfl) ?_)|refine gw_ am tabS_ok ?_|refine gi_ (fun hb=>?_) (fun hb=>?_)|fail)
   refine tw 8 (vP 0) 2 rfl (by unfold vP;omega) ?_;refine cA (fun i:Nat=>OT a b o0.length (prK a b i).length i) (fun i=>[.dead,.row (vI o0.length) (o.map gI) 1,.row (vP (prK a b i).length) ((prK a b i).map M_) 2]) (fun i=>i<=a.length) (fun i=>a.length-i) 0 m0 (fun _ _=>aqu _)
    (fm_ ⟨rfl,rfl,rfl,rfl,aT m5,rfl,t7⟩ [] rfl (wH a b _ _ _ 0) (xh _ _ _ _)) ?_
   intro i hi;by_cases O0:i<a.length
   ·obtain⟨x,hx⟩:=gol_ O0
    have Qs:=gPV_ok (iP x.valid);have Qo:=ahm (b:=b) hx;have TV:=ajX O0 hB;unfold OT;generalize prK a b i=pr at Qo TV ⊢
    cases hv:aq x.valid with
    |false =>
     rw[hv]at Qs
     repeat' (first|(refine bB rfl rfl rfl rfl rfl rfl rfl rfl (bq hx) ?_ ?_;· exact⟨m0,rfl⟩)|refine aM rfl rfl rfl rfl Qs rfl ?_|refine gw_ am tabS_ok ?_|refine gi_ (fun hb=>?_) (fun hb=>?_)|refine rK ?_|refine rM ?_|fail)
     have hz:prK a b (i+1)=pr:=by
      rw[Qo,kX,Ib (q:=fun y:ap=>iS x.valid y.valid) (fun y=>by unfold iS;rw[hv];rfl)];simp
     exact⟨i+1,m0,m0,fm_ ⟨rfl,rfl,(by rw[hz];rfl),rfl,rfl,aT (a7 m0 m0),t7⟩ [_] (by rw[hz];rfl) (wH a b _ _ _ 0) (xh _ _ _ _)⟩
    |true =>
     rw[hv]at Qs
     repeat' (first|(refine bB rfl rfl rfl rfl rfl rfl rfl rfl (bq hx) ?_ ?_;· exact⟨m0,rfl⟩)|refine aM rfl rfl rfl rfl Qs rfl ?_|refine gw_ am tabS_ok ?_|refine gi_ (fun hb=>?_) (fun hb=>?_)|refine rK ?_|refine rM ?_|fail)
     refine cA (fun j:Nat=>IT a b o0.length pr.length (pr.length+(jU b x.valid o j).length) i j) (fun j=>[.dead,.row (vI o0.length) (o.map gI) 1,.row (vP (pr.length+(jU b x.valid o j).length)) ((pr++(jU b x.valid o j).map fun k=>(⟨i,k⟩:cz)).map M_) 2,.box ((aG x).map SV.c)])
      (fun j=>j<=o0.length /\ ∀ k∈o.take j,(fP b k).lo<x.valid.hi) (fun j=>o0.length-j) 0 ⟨m0,by intro k hk;simp at hk⟩ (fun _ _=>aqu _)
      (fm_ ⟨rfl,rfl,rfl,rfl,rfl,rfl,rfl,rfl,rfl,rfl,rfl,aT m5,t7⟩ [] (by simp[jU];rfl) (DJ _ _ _ _ _ _ _) (Bn _ _ _ _ _)) ?_
     rintro j ⟨hj,X6⟩;have VT:=aej b x.valid o j;have VI:=fun k=>abn (b:=b) (f:=x.valid) (o:=o) (j:=j) (k:=k)
     obtain⟨d,hdp,R5,O8⟩:=ON pr ((jU b x.valid o j).map fun k=>(⟨i,k⟩:cz)) (vP (pr.length+(jU b x.valid o j).length)) (0+pr.length) (pr.length+(jU b x.valid o j).length-pr.length) m5 m5 m0;have US:=fun h2=>ahd Q4 XF hv X6 h2 hdp R5
     have VU:=hdp.length_eq;rw[aqk]at VU;unfold IT;generalize jU b x.valid o j=ss at VT VI O8 VU ⊢;by_cases Y7:j<o0.length
     ·obtain⟨k,hk⟩:=gol_ (l:=o) (i:=j) m0
      have hkr:0<=k/\k<(b.length:Int):=by
       have h1:=Q4.mem_iff.1 (aqe hk);have:=AW _ b 0 k h1;omega
      obtain⟨Vd,hkb⟩:=hkr;obtain⟨y,hy⟩:=gol_ (l:=b) (i:=k.toNat) m0;have Z2:fP b k=y.valid:=by unfold fP;rw[hy]
      have hgk:(o.map gI)[0+j]?=some (gI k):=by rw[aqR,aqw,hk];rfl
      have QY:vP (pr.length+ss.length+1)=vP (pr.length+ss.length)+65536:=by unfold vP;omega
      have hm:((pr++ss.map fun k=>(⟨i,k⟩:cz)).map M_).length=pr.length+ss.length:=by simp
      repeat' (first
       |refine st_nil ?_
       |(refine b7 rfl rfl rfl rfl rfl (dX am (k:=2) (by_:=16) (xs:=[M_ ⟨i,k⟩]) rfl rfl rfl rfl ⟨rfl,_,rfl,by intro e he;simp at he;subst he;rfl⟩ rfl (by unfold vP;omega) rfl rfl rfl m9 hm (by simp only[List.length_singleton];omega) (by simp only[List.length_singleton];omega)) ?_)
       |(refine kR rfl rfl rfl rfl rfl rfl rfl (e:=gI k) (by exact hgk) rfl ?_)
       |(refine st_pop rfl rfl rfl rfl ?_ ?_;· (repeat' (first|exact t7|rfl|exact aqi rfl|omega|exact wideI (by intro _;rfl) _|(intro e he;simp at he;subst he;rfl)|apply And.intro)))
       |(refine bB rfl rfl rfl rfl rfl rfl rfl rfl (bq hy) ?_ ?_;· exact⟨m0,rfl⟩)
       |(refine st_lop rfl rfl rfl rfl ?_ ?_;· (repeat' (first|exact t7|rfl|exact aqi rfl|omega|exact wideI (by intro _;rfl) _|(intro e he;simp at he;subst he;rfl)|apply And.intro)))
       |(refine sS_ rfl rfl rfl ?_ ?_;· (repeat' (first|exact t7|rfl|exact aqi rfl|omega|exact wideI (by intro _;rfl) _|(intro e he;simp at he;subst he;rfl)|apply And.intro)))
       |(refine st_lit rfl rfl rfl rfl ?_ ?_;· (repeat' (first|exact t7|rfl|exact aqi rfl|omega|exact wideI (by intro _;rfl) _|(intro e he;simp at he;subst he;rfl)|apply And.intro)))
       |refine st_skip rfl rfl rfl ?_
       |refine sk0_ rfl rfl ?_
       |(refine cI [2] rfl rfl rfl rfl O8 rfl (rfP rfl (bW ⟨(by show 0<1;omega),t7,t7⟩)) rfl (jP rfl) ?_)
       |(refine st_if rfl (fun hb=>?_) (fun hb=>?_)<;>(first|exact(fx_ hb).elim|rw[hb]))
       |refine aw_seq ?_
       |refine aw_region am _ rfl ?_
       |refine aw_drawn2 tabS_ok _ rfl mixed (by decide +kernel) ?_
       |(refine aw_cond rfl (fun hb=>?_) (fun hb=>?_)<;>(try exact(fx_ hb).elim))
       |refine aw_block ?_
       |refine aw_exit ?_
       |refine aw_ret ?_
       |refine aw_skip ?_
       |refine rK ?_
       |refine rM ?_)
      ·have Vb:=US fun k' Vp=>by
        have:k'=k:=aqG (Vp.symm.trans hk);subst this;rw[Z2];have:=aqC hb;omega
       rw[<- Vb]at Qo;have VK:(prK a b (i+1)).length=pr.length+ss.length:=by rw[Qo,aqg,VU]
       exact⟨i+1,m0,m0,fm_ ⟨rfl,rfl,(by rw[VK];rfl),rfl,rfl,aT (a7 m0 m0),t7⟩ [_] (by rw[VK,Qo];rfl) (wH a b _ _ _ 0) (xh _ _ _ _)⟩
      ·rename_i h1 h2
       have hc:decide (x.valid.lo<(fP b k).hi)=true:=by rw[Z2];exact hb
       have hs:=VI k hk;rw[hc,aqa]at hs;have Vi:∀ k'∈o.take (j+1),(fP b k').lo<x.valid.hi:=by
        intro k' Vp;rw[bO hk,aqB]at Vp;rcases Vp with h|h
        ·exact X6 k' h
        ·simp at h;subst h;rw[Z2];have:=of_decide_eq_false h2;omega
       have hl:(jU b x.valid o (j+1)).length=ss.length+1:=by rw[hs];simp
       exact⟨j+1,⟨m0,Vi⟩,m0,fm_ ⟨rfl,rfl,(by rw[hl,<- Nat.add_assoc,QY];rfl),rfl,rfl,rfl,rfl,rfl,rfl,rfl,rfl,aT (a7 m0 m0),t7⟩ [] (by rw[hl,<- Nat.add_assoc,QY,hs];simp) (DJ _ _ _ _ _ _ _) (Bn _ _ _ _ _)⟩
      ·rename_i h1 h2
       have hc:decide (x.valid.lo<(fP b k).hi)=false:=by rw[Z2];exact hb
       have hs:=VI k hk;rw[hc,ap',aqI]at hs;have Vi:∀ k'∈o.take (j+1),(fP b k').lo<x.valid.hi:=by
        intro k' Vp;rw[bO hk,aqB]at Vp;rcases Vp with h|h
        ·exact X6 k' h
        ·simp at h;subst h;rw[Z2];have:=of_decide_eq_false h2;omega
       exact⟨j+1,⟨m0,Vi⟩,m0,fm_ ⟨rfl,rfl,(by rw[hs];rfl),rfl,rfl,rfl,rfl,rfl,rfl,rfl,rfl,aT (a7 m0 m0),t7⟩ [] (by rw[hs];simp) (DJ _ _ _ _ _ _ _) (Bn _ _ _ _ _)⟩
     ·have V_:j=o0.length:=m0
      subst V_
      repeat' (first|(refine cI [2] rfl rfl rfl rfl O8 rfl (rfP rfl (bW ⟨(by show 0<1;omega),t7,t7⟩)) rfl (jP rfl) ?_)|refine gw_ am tabS_ok ?_|refine gi_ (fun hb=>?_) (fun hb=>?_)|refine rK ?_|refine rM ?_|fail)
      have Vb:=US fun k hk=>by rw[aqX m0]at hk;cases hk
      rw[<- Vb]at Qo;have VK:(prK a b (i+1)).length=pr.length+ss.length:=by rw[Qo,aqg,VU]
      exact⟨i+1,m0,m0,fm_ ⟨rfl,rfl,(by rw[VK];rfl),rfl,rfl,aT (a7 m0 m0),t7⟩ [_] (by rw[VK,Qo];rfl) (wH a b _ _ _ 0) (xh _ _ _ _)⟩
   ·have QE:i=a.length:=m0
    subst QE;unfold OT;refine iV 2 8 (cs:=(prK a b a.length).map g9) rfl (aeb _) rfl m5 ?_
    repeat' (first|refine gw_ am tabS_ok ?_|refine gi_ (fun hb=>?_) (fun hb=>?_)|fail)
    have hz:prK a b a.length=dW (fun x y:ap=>iS x.valid y.valid) b a 0:=by unfold prK;rw[List.take_length]
    rw[hz];refine⟨.inr rfl,?_⟩
    first|exact⟨t7,rfl⟩|exact⟨⟨t7,t7⟩,rfl⟩|(refine⟨?_,rfl⟩;repeat' (first|exact t7|rfl|apply And.intro))
def Ae (rec:Ex->List Val->Option Val)(OX:Ex)(O2:(List Val)):Option (Int):=(rec OX O2).bind fun O7=>(jv O7).bind fun Qd=>some Qd
theorem aaf {rec:Ex->List Val->Option Val}  (Pi:∀ {x:Ex} {y:List Val} {r:Val},rec x y=some r->PTz 74 [.agg (tE x),.one (.lst (y.map cV))] (.val (.agg (cV r)))){OX:Ex}{O2:(List Val)}{r:Int}(H:Ae rec OX O2=some r):PTz 90 [.agg (tE OX),.one (.lst (O2.map cV))] (.val (.one (.int .i64 r))):=by
 unfold Ae at H;rw[aC OX];refine po_ Tryz.func90 Tryz.ntmps90 ?_;obtain⟨O7,c1,H⟩:=bd_ H;replace c1:=Pi c1
 try simp only[aql,aqj,aqn,aqd,aC]at c1
 exact ay H
def oH (PZ:(List Val)):(Int)->Option (Step (Int) (Val)):=fun s=>match s with
 |v_30=>bif (decide (v_30<((PZ.length:Nat):Int)))then(aF PZ v_30).bind fun Uf=>bif (decide (Uf.kind≠(0:Int)))then some (.ret Uf)else
 some (.next (i64.wrap (v_30+(1:Int))))else
 some (.exit v_30)
def kO:Sum (Int) (Val)->Option ((Val))
 |.inl v_30=>(jS ).bind fun VL=>some VL
 |.inr q=>some q
def nD (OX:Ex)(O2:(List Val))(rec:Ex->List Val->Option Val):((List Val)×Int)->Option (Step ((List Val)×Int) (Val)):=fun s=>match s with
 |(PZ,Ru)=>bif (decide (Ru<((OX.args.length:Nat):Int)))then(aF OX.args Ru).bind fun VE=>(rec VE O2).bind fun RF=>bif (decide (0<=Ru))then(bif (decide (Ru<((OX.args.length:Nat):Int)))then(bif (decide ((0+Ru.toNat)<PZ.length))then(some (.next ((PZ.set (0+Ru.toNat) RF),(i64.wrap (Ru+(1:Int))))))else none)else none)else none else
 some (.exit (PZ,Ru))
def bu (OX:Ex):Sum ((List Val)×Int) (Val)->Option ((Val))
 |.inl (PZ,Ru)=>bif (decide (PZ.length=OX.args.length))then(bif (decide (OX.op=(4:Int)))then(l5 OX.op PZ).bind fun Q9=>some Q9 else
 bif (decide (OX.op=(5:Int)))then(l5 OX.op PZ).bind fun SN=>some SN else
 bif (decide (OX.op=(6:Int)))then(l5 OX.op PZ).bind fun TM=>some TM else
 bif (decide (OX.op=(21:Int)))then(aF PZ (0:Int)).bind fun Z3=>(qU (decide (Z3.kind=(0:Int)))).bind fun Z4=>some Z4 else
 bif (decide (OX.op=(23:Int)))then(ao (oH PZ) fuel (0:Int)).bind (kO)else
 bif (decide (OX.op=(24:Int)))then(qQ OX.int PZ).bind fun WL=>some WL else
 bif (decide (OX.op=(19:Int)))then(rH OX.op PZ).bind fun Z5=>some Z5 else
 bif (decide (OX.op=(20:Int)))then(rH OX.op PZ).bind fun WM=>some WM else
 bif (decide (OX.op=(13:Int)))then(kg OX.op PZ).bind fun Z6=>some Z6 else
 bif (decide (OX.op=(14:Int)))then(kg OX.op PZ).bind fun VM=>some VM else
 bif (decide (OX.op=(15:Int)))then(kg OX.op PZ).bind fun Uj=>some Uj else
 bif (decide (OX.op=(16:Int)))then(kg OX.op PZ).bind fun Z7=>some Z7 else
 bif (decide (OX.op=(17:Int)))then(kg OX.op PZ).bind fun WN=>some WN else
 bif (decide (OX.op=(18:Int)))then(kg OX.op PZ).bind fun Z8=>some Z8 else
 (aF PZ (0:Int)).bind fun Z9=>(aF PZ (1:Int)).bind fun Z_=>(jQ OX.op Z9 Z_).bind fun WO=>(wb WO).bind fun r_56=>some r_56)else none
 |.inr q=>some q
def yd (rec:Ex->List Val->Option Val)(OX:Ex)(O2:(List Val)):Option (Val):=(mP OX).bind fun O7=>bif (!O7)then(jS ).bind fun PT=>some PT else
 bif (decide (OX.op=(1:Int)))then some OX.v else
 bif (decide (OX.op=(2:Int)))then(xp O2 OX.int).bind fun Qc=>some Qc else
 bif (decide (OX.op=(22:Int)))then(aF OX.args (0:Int)).bind fun Sl=>(Ae rec Sl O2).bind fun Q3=>bif (decide (Q3=(2:Int)))then(aF OX.args (1:Int)).bind fun Sj=>(rec Sj O2).bind fun PM=>some PM else
 (aF OX.args (2:Int)).bind fun VD=>(rec VD O2).bind fun QW=>some QW else
 bif (decide (0<=((OX.args.length:Nat):Int)))then(bif (decide ((32:Int)*((OX.args.length:Nat):Int)<=281474976710656))then(bif (decide (((OX.args.length:Nat):Int)<=9223372036854775807))then((ao (nD OX O2 rec) fuel ((List.replicate OX.args.length ((⟨(0:Int),(0:Int),ByteArray.empty⟩:Val))),(0:Int))).bind (bu OX))else none)else none)else none
theorem fA {p q:Prop}(k:q)(h:Bx q->p:=by
 intro hq
 repeat' (first|refine b7 rfl rfl rfl rfl rfl (sg tab_ok (k:=3) (by_:=32) rfl rfl rfl m9 rfl rfl rfl rfl rfl m9 m0 m0 m0) ?_|refine AA (enc:=cV) rfl rfl rfl rfl rfl m0 rfl (fun _=>rfl) rfl ?_|refine gs_ ?_|fail)
 exact hq.out):p:=h ⟨k⟩
theorem bY {p:Prop}(h:p:=by
 repeat' (first|refine b7 rfl rfl rfl rfl rfl (sg tab_ok (k:=3) (by_:=32) rfl rfl rfl m9 rfl rfl rfl rfl rfl m9 m0 m0 m0) ?_|refine AA (enc:=cV) rfl rfl rfl rfl rfl m0 rfl (fun _=>rfl) rfl ?_|refine gs_ ?_|fail)
 refine aZ (bg rfl ?_ ?_)
 ·repeat' (first|exact t7|rfl|exact aqi rfl|omega|apply And.intro)
 ·first|rfl|(simp only[aql,aqj,aqn,aqd]<;>rfl)):p:=h
theorem adS {rec:Ex->List Val->Option Val}  (Pi:∀ {x:Ex} {y:List Val} {r:Val},rec x y=some r->PTz 74 [.agg (tE x),.one (.lst (y.map cV))] (.val (.agg (cV r)))){OX:Ex}{O2:(List Val)}{r:Val}(H:yd rec OX O2=some r):PTz 74 [.agg (tE OX),.one (.lst (O2.map cV))] (.val (.agg (cV r))):=by
 unfold yd at H;rw[aC OX];refine po_ Tryz.func74 Tryz.ntmps74 ?_;obtain⟨O7,c1,H⟩:=bd_ H;replace c1:=gFormed_ok c1
 try simp only[aql,aqj,aqn,aqd,aC]at c1
 rcases aj H with⟨Qq,H⟩|⟨Qq,H⟩
 ·obtain⟨PT,c2,H⟩:=bd_ H
  replace c2:=gNull_ok c2
  cases H;exact bY
 rcases aj H with⟨P9,H⟩|⟨P9,H⟩
 ·cases H
  exact bY
 refine fA ?_;rcases aj H with⟨Q6,H⟩|⟨Q6,H⟩
 ·obtain⟨Qc,c3,H⟩:=bd_ H
  replace c3:=gColumn_ok c3
  cases H;exact bY
 rcases aj H with⟨SH,H⟩|⟨SH,H⟩
 ·obtain⟨Sl,Ys,i4,W_,H⟩:=bw (f:=tE) H
  simp only[aql,aqj,aqn,aqd,aC]at W_;obtain⟨Q3,c5,H⟩:=bd_ H;replace c5:=aaf Pi c5
  try simp only[aql,aqj,aqn,aqd,aC]at c5
  rcases aj H with⟨P_,H⟩|⟨P_,H⟩
  ·obtain⟨Sj,i6z,i6,i6x,H⟩:=bw (f:=tE) H
   simp only[aql,aqj,aqn,aqd,aC]at i6x;obtain⟨PM,c7,H⟩:=bd_ H;replace c7:=Pi c7
   try simp only[aql,aqj,aqn,aqd,aC]at c7
   cases H;exact bY
  obtain⟨VD,i8z,i8,i8x,H⟩:=bw (f:=tE) H;simp only[aql,aqj,aqn,aqd,aC]at i8x;obtain⟨QW,c9,H⟩:=bd_ H;replace c9:=Pi c9
  try simp only[aql,aqj,aqn,aqd,aC]at c9
  cases H;exact bY
 obtain⟨g10,H⟩:=aK H;obtain⟨g11,H⟩:=aK H;obtain⟨g12,H⟩:=aK H;refine fA ?_;refine alM_ (fun s:(List Val)×Int=>match s with|(PZ,Ru)=>[(1,.one (.c (.lst (O2.map cV)))),(2,.one (.ptr 0 0)),(4,.one (.ptr 1 0)),(5,.one (.sl 2 (33+65536) 0 OX.args.length)),(52,.one (.c (.lst (OX.args.map tE)))),(53,.one (.c (.int .i64 ((OX.args.length:Nat):Int)))),(54,.one (.c (.int .i64 Ru)))]) (fun s=>match s with|(PZ,Ru)=>[.box [.c (.int .i64 OX.op),.c (.int .i64 OX.int),.c (.int .i64 OX.v.kind),.c (.int .i64 OX.v.int),.c (.str OX.v.text),.c (.str OX.nm),.c (.lst (OX.args.map tE))],.box [.c (.int .i64 (0:Int)),.c (.int .i64 (0:Int)),.c (.str ByteArray.empty)],.row (33+65536) ((PZ.map cV).map (List.map SV.c)) 3]) H (fun _=>aqu _)
  (fm_ bF [] (by simp only[List.map_replicate]<;>rfl) bn ⟨gH r5,gH r5,iY _ _ _ _ _,t7⟩) ?_
 rintro⟨PZ,Ru⟩ st1 OU Py;unfold nD at OU;dsimp only at OU ⊢;rcases aj OU with⟨Td,OU⟩|⟨Td,OU⟩
 ·obtain⟨VE,i13z,i13,i13x,OU⟩:=bw (f:=tE) OU
  simp only[aql,aqj,aqn,aqd,aC]at i13x;obtain⟨RF,UN,OU⟩:=bd_ OU;replace UN:=Pi UN
  try simp only[aql,aqj,aqn,aqd,aC]at UN
  obtain⟨g15,OU⟩:=aK OU;obtain⟨g16,OU⟩:=aK OU;obtain⟨g17,OU⟩:=aK OU
  cases OU;refine fA ?_;exact⟨_,rfl,fm_ bF [_] rfl bn ⟨gH r5,gH r5,iY _ _ _ _ _,t7⟩⟩
 cases OU;have O3:bu OX (.inl (PZ,Ru))=some _:=Py;unfold bu at O3;dsimp only at O3;obtain⟨g18,O3⟩:=aK O3;have z19:((PZ.map cV).drop 0).take OX.args.length=PZ.map cV:=by rw[List.drop_zero,aqO];rw[aqk];omega
 refine pD 2 (cs:=PZ.map cV) rfl (iC _) ?_;simp only[aqj,aqn,thA,thS,and_self,if_true,eq_self,List.set,z19];refine fA ?_;rcases aj O3 with⟨Tf,O3⟩|⟨Tf,O3⟩
 ·obtain⟨Q9,c20,O3⟩:=bd_ O3
  replace c20:=gLogic_ok c20
  cases O3;exact bY
 rcases aj O3 with⟨Uk,O3⟩|⟨Uk,O3⟩
 ·obtain⟨SN,c21,O3⟩:=bd_ O3
  replace c21:=gLogic_ok c21
  cases O3;exact bY
 rcases aj O3 with⟨Ug,O3⟩|⟨Ug,O3⟩
 ·obtain⟨TM,c22,O3⟩:=bd_ O3
  replace c22:=gLogic_ok c22
  cases O3;exact bY
 refine fA ?_;rcases aj O3 with⟨X7,O3⟩|⟨X7,O3⟩
 ·obtain⟨Z3,i23z,i23,i23x,O3⟩:=bw (f:=cV) O3
  obtain⟨Z4,c24,O3⟩:=bd_ O3;replace c24:=gBoolP_ok c24
  cases O3;exact bY
 rcases aj O3 with⟨q_29,O3⟩|⟨q_29,O3⟩
 ·refine fA ?_
  refine alM_ (fun s:Int=>match s with|v_30=>[(4,.one (.ptr 1 0)),(86,.one (.c (.lst (PZ.map cV)))),(87,.one (.c (.int .i64 ((PZ.length:Nat):Int)))),(88,.one (.c (.int .i64 v_30)))]) (fun s=>match s with|v_30=>[.box [.c (.int .i64 OX.op),.c (.int .i64 OX.int),.c (.int .i64 OX.v.kind),.c (.int .i64 OX.v.int),.c (.str OX.v.text),.c (.str OX.nm),.c (.lst (OX.args.map tE))],.box [.c (.int .i64 (0:Int)),.c (.int .i64 (0:Int)),.c (.str ByteArray.empty)],.dead]) O3 (fun _=>aqu _)
   (fm_ bF [] rfl bn cm) ?_
  rintro v_30 st2 Pz U2;unfold oH at Pz;dsimp only at Pz ⊢;rcases aj Pz with⟨X8,Pz⟩|⟨X8,Pz⟩
  ·obtain⟨Uf,i25z,i25,i25x,Pz⟩:=bw (f:=cV) Pz
   refine fA ?_;rcases aj Pz with⟨X9,Pz⟩|⟨X9,Pz⟩
   ·cases Pz
    have QP:kO (.inr Uf)=some _:=U2;unfold kO at QP;dsimp only at QP
    cases QP;exact bY
   cases Pz;refine fA ?_;exact⟨_,rfl,fm_ bF [_] rfl bn cm⟩
  cases Pz;have QP:kO (.inl v_30)=some _:=U2;unfold kO at QP;dsimp only at QP;obtain⟨VL,ZA,QP⟩:=bd_ QP;replace ZA:=gNull_ok ZA
  cases QP;exact bY
 rcases aj O3 with⟨XO,O3⟩|⟨XO,O3⟩
 ·obtain⟨WL,c27,O3⟩:=bd_ O3
  replace c27:=gRelated_ok c27
  cases O3;exact bY
 refine fA ?_;rcases aj O3 with⟨q_37,O3⟩|⟨q_37,O3⟩
 ·obtain⟨Z5,c28,O3⟩:=bd_ O3
  replace c28:=gTextE_ok c28
  cases O3;exact bY
 rcases aj O3 with⟨VG,O3⟩|⟨VG,O3⟩
 ·obtain⟨WM,c29,O3⟩:=bd_ O3
  replace c29:=gTextE_ok c29
  cases O3;exact bY
 rcases aj O3 with⟨XR,O3⟩|⟨XR,O3⟩
 ·obtain⟨Z6,c30,O3⟩:=bd_ O3
  replace c30:=gArith_ok c30
  cases O3;exact bY
 refine fA ?_;rcases aj O3 with⟨q_43,O3⟩|⟨q_43,O3⟩
 ·obtain⟨VM,c31,O3⟩:=bd_ O3
  replace c31:=gArith_ok c31
  cases O3;exact bY
 rcases aj O3 with⟨XT,O3⟩|⟨XT,O3⟩
 ·obtain⟨Uj,c32,O3⟩:=bd_ O3
  replace c32:=gArith_ok c32
  cases O3;exact bY
 rcases aj O3 with⟨XU,O3⟩|⟨XU,O3⟩
 ·obtain⟨Z7,c33,O3⟩:=bd_ O3
  replace c33:=gArith_ok c33
  cases O3;exact bY
 refine fA ?_;rcases aj O3 with⟨q_49,O3⟩|⟨q_49,O3⟩
 ·obtain⟨WN,c34,O3⟩:=bd_ O3
  replace c34:=gArith_ok c34
  cases O3;exact bY
 rcases aj O3 with⟨XV,O3⟩|⟨XV,O3⟩
 ·obtain⟨Z8,c35,O3⟩:=bd_ O3
  replace c35:=gArith_ok c35
  cases O3;exact bY
 obtain⟨Z9,i36z,i36,i36x,O3⟩:=bw (f:=cV) O3;obtain⟨Z_,i37z,i37,i37x,O3⟩:=bw (f:=cV) O3;obtain⟨WO,c38,O3⟩:=bd_ O3;replace c38:=gComparison_ok c38;obtain⟨r_56,c39,O3⟩:=bd_ O3;replace c39:=gOfV2_ok c39
 cases O3;exact bY
def qR:Nat->Ex->List Val->Option Val
 |0,_,_=>none
 |n+1,e,r=>yd (qR n) e r
theorem D3:∀ (n:Nat) {x:Ex} {y:List Val} {r:Val},qR n x y=some r->PTz 74 [.agg (tE x),.one (.lst (y.map cV))] (.val (.agg (cV r)))
 |0,_,_,_,h=>nomatch h
 |n+1,_,_,_,h=>adS (D3 n) h
