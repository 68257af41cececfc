/- Parts. No condition. -/
import Derived.Test.YtlcceppoloaecaaGreatDoorXBH
set_option maxHeartbeats 8000000
set_option maxRecDepth 100000
set_option linter.unusedSimpArgs false
set_option linter.unusedVariables false
namespace Go.Proofs.YtlcceppoloaecaaGreatDoor
open IntKind (i64)
open Go.RowKit Go.MapKept
theorem BK (a b:Int):zL a b=max a b:=by unfold zL;split<;>omega
theorem adF (a b:Int):mnI a b=min a b:=by unfold mnI;split<;>omega
def CS (p:ax):List SV:=[.c (.int .i64 p.lo),.c (.int .i64 p.hi)]
def vQ (n:Nat):Nat:=53+65536+65536*n
theorem aiz (l:List ax):ee (l.map CS)=some (l.map aO):=by
 have:=je (l.map aO);rw[List.map_map]at this;exact this
theorem dC (n v k:Nat)(l:List ax):(Ob.row v (l.map CS) k).below n:=by
 intro e he x hx;obtain⟨y,_,rfl⟩:=arK.1 he;simp[CS]at hx;rcases hx with rfl|rfl<;>trivial
theorem aga {at_:Int}{e:E3}{l:List E3}{na nb:Int}(h:e.1≠at_):kV at_ (e::l) na nb=(e::l,na,nb):=by rw[kV,if_neg h]
theorem drop_at {E:List E3}{i:Nat}{e:E3}(h:E[i]?=some e):E.drop i=e::E.drop (i+1):=by
 obtain⟨OZ,h2⟩:=aq6.1 h;rw[arG OZ,h2]
theorem yx (l:List ax)(p:ax)(a b:Int):q8 (l++[p]) a b=if p.hi=a then l++[⟨p.lo,b⟩]else(l++[p])++[⟨a,b⟩]:=by
 unfold q8;rw[List.getLast?_concat];simp only[List.dropLast_concat]
theorem N1 (a b:Int):q8 [] a b=[⟨a,b⟩]:=rfl
theorem NZ (l:List ax)(p:ax)(b:Int)(i:Nat)(hi:i=l.length):((l++[p]).map CS).set i (splice (CS p) 1 [.c (.int .i64 b)])=(l++[(⟨p.lo,b⟩:ax)]).map CS:=by
 subst hi;rw[ark,List.set_append_right _ _ m5,arj,Nat.sub_self,ark];rfl
structure SwS where
 n:Nat
 i:Nat
 at_:Int
 na:Int
 nb:Int
 out:List ax
 c:Nat
structure akj (Pm:Bool->Bool->Bool)(E:List E3)(F:List ax)(s:SwS):Prop where
 fin:ig Pm s.n (E.drop s.i) s.at_ s.na s.nb s.out=F
 inv:IA Pm E (E.drop s.i) s.at_ s.na s.nb s.out
 fuel:yc s.n (E.drop s.i) s.at_
 ile:s.i<=E.length
 na : -(s.i:Int)<=s.na/\s.na<=s.i
 nb : -(s.i:Int)<=s.nb/\s.nb<=s.i
 out:s.out.length+s.n<=E.length+2
theorem akj.next {Pm:Bool->Bool->Bool}{E:List E3}{F:List ax}{s:SwS}(h:akj Pm E F s)(ha:s.at_<1099511627776){j:Nat}{na nb:Int}(hj:j<=E.length)(hr:kV s.at_ (E.drop s.i) s.na s.nb=(E.drop j,na,nb))(h1 : -(j:Int)<=na/\na<=j)(h2 : -(j:Int)<=nb/\nb<=j){nx:Int}(hx:kN (E.drop j)=nx){out:List ax}(c:Nat)(ho:(if Pm (decide (0<na)) (decide (0<nb))=true then q8 s.out s.at_ nx else s.out)=out)(hl:out.length<=s.out.length+1) :
  akj Pm E F ⟨s.n-1,j,nx,na,nb,out,c⟩/\s.n-1<s.n:=by
 obtain⟨n,i,at_,na0,nb0,out0,c0⟩:=s;obtain⟨f1,f2,f3,f4,f5,f6,f7⟩:=h;dsimp only at *;have hn:0<n:=by have:=f3 ha;split at this<;>omega
 obtain⟨n,rfl⟩:∃ m,n=m+1:=⟨n-1,m0⟩;have g1:=(f2.step ha).1;have g2:=f3.step (na:=na0) (nb:=nb0) f2.srt (fun e he=>(f2.low e he).1) ha;rw[ig,if_pos ha]at f1;dsimp only at f1;rw[hr]at f1 g1 g2;dsimp only at f1 g1 g2;rw[hx]at f1 g1 g2;rw[ho]at f1 g1;exact⟨⟨f1,g1,g2,hj,h1,h2,by show out.length+(n+1-1)<=_;omega⟩,m0⟩
def WT (E:List E3)(K:SV)(s:SwS):Tm:=[(2,.one K),(7,.one (.c (.lst (E.map cEd)))),(8,.one (.sl 0 (vQ s.c) 0 s.out.length)),(9,.one (.c (.int .i64 s.na))),(10,.one (.c (.int .i64 s.nb))),(11,.one (.c (.int .i64 s.i))),(12,.one (.c (.int .i64 s.at_)))]
theorem jj (E:List E3){K:SV}(hK:K.below 1)(s:SwS):gK 1 (WT E K s):=⟨hK,t7,(by show 0<1;omega),t7,t7,t7,t7,t7⟩
def WT2 (E:List E3)(K:SV)(s:SwS)(j:Nat)(na nb:Int):Tm:=[(2,.one K),(7,.one (.c (.lst (E.map cEd)))),(8,.one (.sl 0 (vQ s.c) 0 s.out.length)),(9,.one (.c (.int .i64 na))),(10,.one (.c (.int .i64 nb))),(11,.one (.c (.int .i64 j))),(12,.one (.c (.int .i64 s.at_)))]
theorem I6 (E:List E3){K:SV}(hK:K.below 1)(s:SwS)(j:Nat)(na nb:Int):gK 1 (WT2 E K s j na nb):=⟨hK,t7,(by show 0<1;omega),t7,t7,t7,t7,t7⟩
theorem E5 (Pm:Bool->Bool->Bool)(F:FuncId)(caps:List AC)(hk:∀ x y:Bool,PTz F ([.one (.bool x),.one (.bool y)]++caps.map .one) (.val (.one (.bool (Pm x y)))))(a b:List ax)(E:List E3)(hp:E.Perm (rH a b))(hs:mL E)(hE:E.length<=4000)
  (Xg:PTz 156 [.one (MB a),.one (MB b)] (.val (.one (.lst (E.map cEd))))):PTz 100 [.one (MB a),.one (MB b),.one (.fn F caps)] (.val (.one (.lst ((ig Pm (E.length+2) E 0 0 0 []).map aO)))):=by
 have XK:∀ e∈E,0<=e.1/\e.1<=1099511627776 /\ -1<=e.2.1/\e.2.1<=1 /\ -1<=e.2.2/\e.2.2<=1:=fun e he=>qd a b e (hp.mem_iff.1 he)
 have Vl:(SV.c (AC.fn F caps)).below 1:=trivial;generalize hF:ig Pm (E.length+2) E 0 0 0 []=R;refine pa_ am Tryz.func100 rfl rfl Tryz.ntmps100 m5 ?_;simp only[argT,PV.av,ari,arn]
 repeat' (first|refine aN rfl rfl rfl rfl Xg rfl ?_|refine gw_ am tabS_ok ?_|refine gi_ (fun hb=>?_) (fun hb=>?_)|fail)
 refine tU 8 (vQ 0) 2 rfl (by unfold vQ;omega) ?_;refine cz (WT E (.c (.fn F caps))) (fun s=>[.row (vQ s.c) (s.out.map CS) 2]) (akj Pm E R) (fun s=>s.n) ⟨E.length+2,0,0,0,0,[],0⟩ ⟨hF,NK Pm hs fun e he=>⟨(XK e he).1,(XK e he).2.1⟩,fun _=>by rw[List.drop_zero];show E.length+_<=E.length+2;split<;>omega,aru _,by show -((0:Nat):Int)<=0/\(0:Int)<=((0:Nat):Int);omega,by show -((0:Nat):Int)<=0/\(0:Int)<=((0:Nat):Int);omega,m5⟩ (fun _ _=>aru _)
  (fm_ ⟨rfl,rfl,rfl,rfl,rfl,rfl,rfl,t7⟩ [] rfl (jj E Vl _) ⟨dC _ _ _ _,t7⟩) ?_
 intro s Qg;have hz:=Qg.inv.zero;have hout:=Qg.out;have QJ:vQ (s.c+1)=vQ s.c+65536:=by unfold vQ;omega
 have Yi:(s.out.map CS).length=s.out.length:=arj ..;by_cases Pn:s.at_<1099511627776
 ·have hA:decide (s.at_<1099511627776)=true:=aq_ Pn
  unfold WT
  repeat' (first|rw[hA]|refine gw_ am tabS_ok ?_|refine gi_ (fun hb=>?_) (fun hb=>?_)|fail)
  refine cz (fun r:Nat×Int×Int=>WT2 E (.c (.fn F caps)) s r.1 r.2.1 r.2.2) (fun _=>[.row (vQ s.c) (s.out.map CS) 2]) (fun r=>r.1<=E.length/\kV s.at_ (E.drop s.i) s.na s.nb=kV s.at_ (E.drop r.1) r.2.1 r.2.2/\(-(r.1:Int)<=r.2.1/\r.2.1<=r.1)/\(-(r.1:Int)<=r.2.2/\r.2.2<=r.1)) (fun r=>E.length-r.1) (s.i,s.na,s.nb) ⟨Qg.ile,rfl,Qg.na,Qg.nb⟩ (fun _ _=>aru _)
   (fm_ ⟨rfl,rfl,rfl,rfl,rfl,rfl,rfl,t7⟩ [] rfl (I6 E Vl _ _ _ _) ⟨dC _ _ _ _,t7⟩) ?_
  rintro⟨j,na,nb⟩ ⟨hj,O4,hna,R9⟩;dsimp only at hj O4 hna R9;unfold WT2;dsimp only;by_cases OZ:j<E.length
  ·obtain⟨e,he⟩:=gol_ OZ
   have hG:decide ((j:Int)<(E.length:Int))=true:=aq_ m0;have her:=XK e (arb he);rw[drop_at he]at O4;by_cases hq:e.1=s.at_
   ·have SA:decide (e.1=s.at_)=true:=aq_ hq
    rw[kV,if_pos hq]at O4
    repeat' (first|rw[arj]|rw[hG]|rw[SA]|(refine bB rfl rfl rfl rfl rfl rfl rfl rfl (bv he) ?_ ?_;· exact⟨m0,rfl⟩)|refine gw_ am tabS_ok ?_|refine gi_ (fun hb=>?_) (fun hb=>?_)|fail)
    exact⟨(j+1,na+e.2.1,nb+e.2.2),⟨by show j+1<=_;omega,O4,by show -((j+1:Nat):Int)<=na+e.2.1/\na+e.2.1<=((j+1:Nat):Int);omega,by show -((j+1:Nat):Int)<=nb+e.2.2/\nb+e.2.2<=((j+1:Nat):Int);omega⟩,by show E.length-(j+1)<E.length-j;omega,fm_ ⟨rfl,rfl,rfl,aU (show i64.wrap (na+e.2.1)=na+e.2.1 from a7 m0 m0),aU (show i64.wrap (nb+e.2.2)=nb+e.2.2 from a7 m0 m0),aU (show i64.wrap ((j:Int)+1)=((j+1:Nat):Int)from a7 m0 m0),rfl,t7⟩ [] rfl (I6 E Vl _ _ _ _) ⟨dC _ _ _ _,t7⟩⟩
   ·have SA:decide (e.1=s.at_)=false:=aq9 hq
    rw[aga hq,<- drop_at he]at O4;have Qa:kN (E.drop j)=e.1:=by rw[drop_at he];rfl
    have hnr:0<=e.1/\e.1<=1099511627776:=⟨her.1,her.2.1⟩;have Rh:=hk (decide (0<na)) (decide (0<nb));have PZ:=fun {out:List ax} (c:Nat)=>Qg.next (out:=out) Pn hj O4 hna R9 Qa c
    cases hkb:Pm (decide (0<na)) (decide (0<nb))with
    |false =>
     rw[hkb]at Rh PZ
     repeat' (first|rw[arj]|rw[hG]|rw[SA]|(refine bB rfl rfl rfl rfl rfl rfl rfl rfl (bv he) ?_ ?_;· exact⟨m0,rfl⟩)|refine aN rfl rfl rfl rfl Rh rfl ?_|refine gw_ am tabS_ok ?_|refine gi_ (fun hb=>?_) (fun hb=>?_)|fail)
     have PG:=PZ (out:=s.out) s.c (if_neg m5) m0;exact⟨_,PG.1,PG.2,fm_ ⟨rfl,rfl,rfl,rfl,rfl,rfl,rfl,t7⟩ [] rfl (jj E Vl _) ⟨dC _ _ _ _,t7⟩⟩
    |true =>
     rw[hkb]at Rh PZ;rcases ud s.out with ho|⟨o0,p,ho⟩
     ·rw[ho]at Yi PZ ⊢
      repeat' (first|(refine ci rfl rfl rfl rfl rfl (eh am (k:=2) (by_:=16) (xs:=[CS ⟨s.at_,e.1⟩]) rfl rfl rfl rfl ⟨rfl,_,rfl,by intro e he;simp at he;subst he;rfl⟩ rfl (by unfold vQ;omega) rfl rfl rfl m9 rfl (by simp only[List.length_singleton,arE];omega) (by simp only[List.length_singleton,arE];omega)) ?_)|rw[arj]|rw[hG]|rw[SA]|(refine bB rfl rfl rfl rfl rfl rfl rfl rfl (bv he) ?_ ?_;· exact⟨m0,rfl⟩)|refine aN rfl rfl rfl rfl Rh rfl ?_|refine gw_ am tabS_ok ?_|refine gi_ (fun hb=>?_) (fun hb=>?_)|fail)
      have PG:=PZ (out:=[⟨s.at_,e.1⟩]) (s.c+1) (N1 s.at_ e.1) m5;exact⟨_,PG.1,PG.2,fm_ ⟨rfl,rfl,(by show _=some (AV.one (.sl 0 (vQ (s.c+1)) 0 1));rw[QJ];rfl),rfl,rfl,rfl,rfl,t7⟩ [] (by show _=[Ob.row (vQ (s.c+1)) _ 2];rw[QJ];rfl) (jj E Vl _) ⟨dC _ _ _ _,t7⟩⟩
     ·have hlen:s.out.length=o0.length+1:=by rw[ho];simp
      have RR:=yx o0 p s.at_ e.1;have Ue:((o0++[p]).map CS)[0+((o0.length:Nat):Int).toNat]?=some (CS p):=by rw[arS,Int.toNat_natCast,ark,arc m5];simp
      have Zw:i64.wrap (((o0.length+1:Nat):Int)-1)=((o0.length:Nat):Int):=a7 m0 m0;have Tn:decide ((0:Int)<((o0.length+1:Nat):Int))=true:=aq_ m0;rw[hlen,ho]at Yi ⊢;rw[ho]at PZ;by_cases Wi:p.hi=s.at_
      ·have WF:decide (p.hi=s.at_)=true:=aq_ Wi
       rw[if_pos Wi]at RR
       repeat' (first|(refine lY rfl rfl rfl rfl rfl rfl rfl (e:=CS p) (by exact Ue) rfl ?_)|(refine nK rfl rfl rfl rfl rfl rfl (e:=CS p) (by exact Ue) ⟨arh rfl,rfl⟩ rfl ?_)|rw[Zw]|rw[Tn]|rw[WF]|rw[arj]|rw[hG]|rw[SA]|(refine bB rfl rfl rfl rfl rfl rfl rfl rfl (bv he) ?_ ?_;· exact⟨m0,rfl⟩)|refine aN rfl rfl rfl rfl Rh rfl ?_|refine gw_ am tabS_ok ?_|refine gi_ (fun hb=>?_) (fun hb=>?_)|fail)
       have PG:=PZ s.c RR m5;exact⟨_,PG.1,PG.2,fm_ ⟨rfl,rfl,(by show _=some (AV.one (.sl 0 (vQ s.c) 0 (o0++[_]).length));rw[ard];rfl),rfl,rfl,rfl,rfl,t7⟩ [] (by rw[NZ o0 p e.1 _ m5];rfl) (jj E Vl _) ⟨dC _ _ _ _,t7⟩⟩
      ·have WF:decide (p.hi=s.at_)=false:=aq9 Wi
       rw[if_neg Wi]at RR
       repeat' (first|(refine lY rfl rfl rfl rfl rfl rfl rfl (e:=CS p) (by exact Ue) rfl ?_)|(refine ci rfl rfl rfl rfl rfl (eh am (k:=2) (by_:=16) (xs:=[CS ⟨s.at_,e.1⟩]) rfl rfl rfl rfl ⟨rfl,_,rfl,by intro e he;simp at he;subst he;rfl⟩ rfl (by unfold vQ;omega) rfl rfl rfl m9 Yi (by simp only[List.length_singleton,arE];omega) (by simp only[List.length_singleton,arE];omega)) ?_)|rw[Zw]|rw[Tn]|rw[WF]|rw[arj]|rw[hG]|rw[SA]|(refine bB rfl rfl rfl rfl rfl rfl rfl rfl (bv he) ?_ ?_;· exact⟨m0,rfl⟩)|refine aN rfl rfl rfl rfl Rh rfl ?_|refine gw_ am tabS_ok ?_|refine gi_ (fun hb=>?_) (fun hb=>?_)|fail)
       have PG:=PZ (s.c+1) RR m5;exact⟨_,PG.1,PG.2,fm_ ⟨rfl,rfl,(by show _=some (AV.one (.sl 0 (vQ (s.c+1)) 0 (o0++[p]++[_]).length));rw[QJ,ard,ard];rfl),rfl,rfl,rfl,rfl,t7⟩ [] (by show _=[Ob.row (vQ (s.c+1)) _ 2];rw[QJ,ark (l₁:=o0++[p])];rfl) (jj E Vl _) ⟨dC _ _ _ _,t7⟩⟩
  ·have VM:j=E.length:=m0
   have hG:decide ((j:Int)<(E.length:Int))=false:=aq9 m0;have P6:E.drop j=[]:=by rw[VM,asb]
   have O4:kV s.at_ (E.drop s.i) s.na s.nb=(E.drop j,na,nb):=by rw[O4,P6];rfl
   have Qa:kN (E.drop j)=1099511627776:=by rw[P6];rfl
   have Rh:=hk (decide (0<na)) (decide (0<nb));have PZ:=fun {out:List ax} (c:Nat)=>Qg.next (out:=out) Pn hj O4 hna R9 Qa c
   cases hkb:Pm (decide (0<na)) (decide (0<nb))with
   |false =>
    rw[hkb]at Rh PZ
    repeat' (first|rw[arj]|rw[hG]|refine aN rfl rfl rfl rfl Rh rfl ?_|refine gw_ am tabS_ok ?_|refine gi_ (fun hb=>?_) (fun hb=>?_)|fail)
    have PG:=PZ (out:=s.out) s.c (if_neg m5) m0;exact⟨_,PG.1,PG.2,fm_ ⟨rfl,rfl,rfl,rfl,rfl,rfl,rfl,t7⟩ [] rfl (jj E Vl _) ⟨dC _ _ _ _,t7⟩⟩
   |true =>
    rw[hkb]at Rh PZ;rcases ud s.out with ho|⟨o0,p,ho⟩
    ·rw[ho]at Yi PZ ⊢
     repeat' (first|(refine ci rfl rfl rfl rfl rfl (eh am (k:=2) (by_:=16) (xs:=[CS ⟨s.at_,1099511627776⟩]) rfl rfl rfl rfl ⟨rfl,_,rfl,by intro e he;simp at he;subst he;rfl⟩ rfl (by unfold vQ;omega) rfl rfl rfl m9 rfl (by simp only[List.length_singleton,arE];omega) (by simp only[List.length_singleton,arE];omega)) ?_)|rw[arj]|rw[hG]|refine aN rfl rfl rfl rfl Rh rfl ?_|refine gw_ am tabS_ok ?_|refine gi_ (fun hb=>?_) (fun hb=>?_)|fail)
     have PG:=PZ (out:=[⟨s.at_,1099511627776⟩]) (s.c+1) (N1 s.at_ 1099511627776) m5;exact⟨_,PG.1,PG.2,fm_ ⟨rfl,rfl,(by show _=some (AV.one (.sl 0 (vQ (s.c+1)) 0 1));rw[QJ];rfl),rfl,rfl,rfl,rfl,t7⟩ [] (by show _=[Ob.row (vQ (s.c+1)) _ 2];rw[QJ];rfl) (jj E Vl _) ⟨dC _ _ _ _,t7⟩⟩
    ·have hlen:s.out.length=o0.length+1:=by rw[ho];simp
     have RR:=yx o0 p s.at_ 1099511627776;have Ue:((o0++[p]).map CS)[0+((o0.length:Nat):Int).toNat]?=some (CS p):=by rw[arS,Int.toNat_natCast,ark,arc m5];simp
     have Zw:i64.wrap (((o0.length+1:Nat):Int)-1)=((o0.length:Nat):Int):=a7 m0 m0;have Tn:decide ((0:Int)<((o0.length+1:Nat):Int))=true:=aq_ m0;rw[hlen,ho]at Yi ⊢;rw[ho]at PZ;by_cases Wi:p.hi=s.at_
     ·have WF:decide (p.hi=s.at_)=true:=aq_ Wi
      rw[if_pos Wi]at RR
      repeat' (first|(refine lY rfl rfl rfl rfl rfl rfl rfl (e:=CS p) (by exact Ue) rfl ?_)|(refine nK rfl rfl rfl rfl rfl rfl (e:=CS p) (by exact Ue) ⟨arh rfl,rfl⟩ rfl ?_)|rw[Zw]|rw[Tn]|rw[WF]|rw[arj]|rw[hG]|refine aN rfl rfl rfl rfl Rh rfl ?_|refine gw_ am tabS_ok ?_|refine gi_ (fun hb=>?_) (fun hb=>?_)|fail)
      have PG:=PZ s.c RR m5;exact⟨_,PG.1,PG.2,fm_ ⟨rfl,rfl,(by show _=some (AV.one (.sl 0 (vQ s.c) 0 (o0++[_]).length));rw[ard];rfl),rfl,rfl,rfl,rfl,t7⟩ [] (by rw[NZ o0 p 1099511627776 _ m5];rfl) (jj E Vl _) ⟨dC _ _ _ _,t7⟩⟩
     ·have WF:decide (p.hi=s.at_)=false:=aq9 Wi
      rw[if_neg Wi]at RR
      repeat' (first|(refine lY rfl rfl rfl rfl rfl rfl rfl (e:=CS p) (by exact Ue) rfl ?_)|(refine ci rfl rfl rfl rfl rfl (eh am (k:=2) (by_:=16) (xs:=[CS ⟨s.at_,1099511627776⟩]) rfl rfl rfl rfl ⟨rfl,_,rfl,by intro e he;simp at he;subst he;rfl⟩ rfl (by unfold vQ;omega) rfl rfl rfl m9 Yi (by simp only[List.length_singleton,arE];omega) (by simp only[List.length_singleton,arE];omega)) ?_)|rw[Zw]|rw[Tn]|rw[WF]|rw[arj]|rw[hG]|refine aN rfl rfl rfl rfl Rh rfl ?_|refine gw_ am tabS_ok ?_|refine gi_ (fun hb=>?_) (fun hb=>?_)|fail)
      have PG:=PZ (s.c+1) RR m5;exact⟨_,PG.1,PG.2,fm_ ⟨rfl,rfl,(by show _=some (AV.one (.sl 0 (vQ (s.c+1)) 0 (o0++[p]++[_]).length));rw[QJ,ard,ard];rfl),rfl,rfl,rfl,rfl,t7⟩ [] (by show _=[Ob.row (vQ (s.c+1)) _ 2];rw[QJ,ark (l₁:=o0++[p])];rfl) (jj E Vl _) ⟨dC _ _ _ _,t7⟩⟩
 ·have hA:decide (s.at_<1099511627776)=false:=aq9 Pn
  have Uw:s.out=R:=by
   have:=Qg.fin
   cases hn:s.n with
   |zero=>rw[hn]at this;exact this
   |succ n=>rw[hn,ig,if_neg Pn]at this;exact this
  unfold WT;refine jK 0 8 (cs:=s.out.map aO) rfl (aiz _) rfl m5 ?_
  repeat' (first|rw[hA]|refine gw_ am tabS_ok ?_|refine gi_ (fun hb=>?_) (fun hb=>?_)|fail)
  rw[Uw];refine⟨.inr rfl,?_⟩
  first|exact⟨t7,rfl⟩|exact⟨⟨t7,t7⟩,rfl⟩|(refine⟨?_,rfl⟩;repeat' (first|exact t7|rfl|apply And.intro))
def pn (n:Int):List Int->List Int
 |[]=>[n]
 |x::l=>if x<n then x::pn n l else if n<x then n::x::l else x::l
def yW:List ax->List Int->List Int
 |[],out=>out
 |p::l,out=>yW l (bif aw p then pn p.hi (pn p.lo out)else out)
theorem wF (n:Int):∀ (l:List Int) (x:Int),x∈pn n l↔x=n\/x∈l
 |[],x=>by simp[pn]
 |y::l,x=>by
  rw[pn];by_cases h1:y<n
  ·rw[if_pos h1,arp,wF n l x,arp]
   constructor
   ·rintro(h|h|h)
    ·exact .inr (.inl h)
    ·exact .inl h
    ·exact .inr (.inr h)
   ·rintro(h|h|h)
    ·exact .inr (.inl h)
    ·exact .inl h
    ·exact .inr (.inr h)
  ·rw[if_neg h1]
   by_cases h2:n<y
   ·rw[if_pos h2,arp]
   ·rw[if_neg h2]
    have:n=y:=m0
    subst this;constructor
    ·exact .inr
    ·rintro(h|h)
     ·subst h;exact arX ..
     ·exact h
theorem Cd (n:Int):∀ {l:List Int},l.Pairwise (· < ·)->(pn n l).Pairwise (· < ·)
 |[],_=>ase.2 ⟨fun x hx=>(by cases hx),List.Pairwise.nil⟩
 |y::l,h=>by
  have h':=ase.1 h;rw[pn];by_cases h1:y<n
  ·rw[if_pos h1,ase]
   refine⟨fun x hx=>?_,Cd n h'.2⟩;rcases(wF n l x).1 hx with rfl|hx
   ·exact h1
   ·exact h'.1 x hx
  ·rw[if_neg h1]
   by_cases h2:n<y
   ·rw[if_pos h2,ase]
    refine⟨fun x hx=>?_,h⟩;rcases arp.1 hx with rfl|hx
    ·exact h2
    ·have:=h'.1 x hx;omega
   ·rw[if_neg h2];exact h
theorem CC:∀ (l:List ax) {out:List Int},out.Pairwise (· < ·)->(yW l out).Pairwise (· < ·)
 |[],_,h=>h
 |p::l,out,h=>by
  rw[yW];refine CC l ?_
  cases aw p with
  |false=>exact h
  |true=>exact Cd _ (Cd _ h)
theorem EK:∀ (l:List ax) (out:List Int) (x:Int),x∈yW l out↔x∈out \/ ∃ p∈l,aw p=true/\(x=p.lo\/x=p.hi)
 |[],out,x=>by simp[yW]
 |p::l,out,x=>by
  rw[yW,EK l]
  cases hp:aw p with
  |false =>
   rw[aq7];constructor
   ·rintro(h|⟨q,hq,h⟩)
    ·exact .inl h
    ·exact .inr ⟨q,arx _ hq,h⟩
   ·rintro(h|⟨q,hq,h⟩)
    ·exact .inl h
    ·rcases arp.1 hq with rfl|hq
     ·rw[hp]at h;exact absurd h.1 m5
     ·exact .inr ⟨q,hq,h⟩
  |true =>
   rw[aq8,wF,wF];constructor
   ·rintro((h|h|h)|⟨q,hq,h⟩)
    ·exact .inr ⟨p,arX .., hp,.inr h⟩
    ·exact .inr ⟨p,arX .., hp,.inl h⟩
    ·exact .inl h
    ·exact .inr ⟨q,arx _ hq,h⟩
   ·rintro(h|⟨q,hq,h0,h⟩)
    ·exact .inl (.inr (.inr h))
    ·rcases arp.1 hq with rfl|hq
     ·rcases h with h|h
      ·exact .inl (.inr (.inl h))
      ·exact .inl (.inl h)
     ·exact .inr ⟨q,hq,h0,h⟩
def g7 (w:Bool->Bool->Bool)(a b:List ax):List Int->List ax->List ax
 |[],out=>out
 |[_],out=>out
 |x::y::ps,out=>g7 w a b (y::ps) (if w (dW a x) (dW b x)then q8 out x y else out)
def Calm (l:List ax)(x y:Int):Prop :=∀ p∈l,aw p=true->(p.lo<=x\/y<=p.lo)/\(p.hi<=x\/y<=p.hi)
theorem Calm.eq {l:List ax}{x y t:Int}(h:Calm l x y)(h1:x<=t)(h2:t<y):dW l t=dW l x:=by
 rw[Bool.eq_iff_iff,db,db];constructor
 ·rintro⟨p,hp,hv,a,b⟩
  have:=h p hp hv;exact⟨p,hp,hv,m0,m0⟩
 ·rintro⟨p,hp,hv,a,b⟩
  have:=h p hp hv;exact⟨p,hp,hv,m0,m0⟩
theorem N4 (w:Bool->Bool->Bool)(a b:List ax):∀ (ps:List Int) (x:Int) (out:List ax),(x::ps).Pairwise (· < ·)->(∀ y∈x::ps,0<=y/\y<=1099511627776)->1099511627776∈x::ps ->
  (∀ p∈a,aw p=true->(p.lo<=x\/p.lo∈ps)/\(p.hi<=x\/p.hi∈ps))->(∀ p∈b,aw p=true->(p.lo<=x\/p.lo∈ps)/\(p.hi<=x\/p.hi∈ps)) ->
  cg out->(∀ p∈out,p.hi<=x)->(∀ t,dW out t=((decide (0<=t)&&decide (t<x))&&w (dW a t) (dW b t))) ->
  cg (g7 w a b (x::ps) out) /\ ∀ t,dW (g7 w a b (x::ps) out) t=((decide (0<=t)&&decide (t<1099511627776))&&w (dW a t) (dW b t))
 |[],x,out,_,_,hf,_,_,h1,_,h3=>by
  have:x=1099511627776:=(arQ.1 hf).symm;subst this;exact⟨h1,h3⟩
 |y::ps,x,out,hs,hr,hf,ha,hb,h1,h2,h3=>by
  have WX:=ase.1 hs;have Xp:=ase.1 WX.2;have R5:=WX.1 y (arX ..);have hx:=hr x (arX ..);have hy:=hr y (arx _ (arX ..));have WZ:∀ l:List ax,(∀ p∈l,aw p=true->(p.lo<=x\/p.lo∈y::ps)/\(p.hi<=x\/p.hi∈y::ps))->Calm l x y /\ ∀ p∈l,aw p=true->(p.lo<=y\/p.lo∈ps)/\(p.hi<=y\/p.hi∈ps):=fun l hl=>by
   have key:∀ z:Int,(z<=x\/z∈y::ps)->(z<=x\/y<=z)/\(z<=y\/z∈ps):=fun z hz=>by
    rcases hz with hz|hz
    ·exact⟨.inl hz,.inl m0⟩
    ·rcases arp.1 hz with rfl|hz
     ·exact⟨.inr (Int.le_refl _),.inl (Int.le_refl _)⟩
     ·exact⟨.inr (by have:=Xp.1 z hz;omega),.inr hz⟩
   exact⟨fun p hp hv=>⟨(key _ (hl p hp hv).1).1,(key _ (hl p hp hv).2).1⟩,fun p hp hv=>⟨(key _ (hl p hp hv).1).2,(key _ (hl p hp hv).2).2⟩⟩
  obtain⟨ca,ca'⟩:=WZ a ha;obtain⟨cb,cb'⟩:=WZ b hb;have RQ:1099511627776∈y::ps:=by
   rcases arp.1 hf with h|h
   ·omega
   ·exact h
  rw[g7];have hw:∀ t,x<=t->t<y->w (dW a t) (dW b t)=w (dW a x) (dW b x):=fun t e1 e2=>by rw[ca.eq e1 e2,cb.eq e1 e2]
  refine N4 w a b ps y _ WX.2 (fun z hz=>hr z (arx _ hz)) RQ ca' cb' ?_ ?_ ?_
  ·split
   ·exact(jM h1 h2 hx.1 R5 hy.2).1
   ·exact h1
  ·split
   ·exact(jM h1 h2 hx.1 R5 hy.2).2.1
   ·exact fun p hp=>by have:=h2 p hp;omega
  ·intro t
   by_cases OZ:t<x
   ·have e2:dW (if w (dW a x) (dW b x)then q8 out x y else out) t=dW out t:=by
     split
     ·rw[(jM h1 h2 hx.1 R5 hy.2).2.2,aq9 (show ¬ x<=t by omega),Bool.false_and,Bool.or_false]
     ·rfl
    rw[e2,h3 t,aq_ OZ,aq_ (show t<y by omega)]
   ·have e0:dW out t=false:=by rw[h3 t,aq9 OZ,Bool.and_false,Bool.false_and]
    by_cases Zx:t<y
    ·rw[hw t m0 Zx,aq_ (show 0<=t by omega),aq_ Zx,arI,arI]
     cases hk:w (dW a x) (dW b x)with
     |true=>rw[if_pos rfl,(jM h1 h2 hx.1 R5 hy.2).2.2,e0,aq_ (show x<=t by omega),aq_ Zx];rfl
     |false=>rw[if_neg m5,e0]
    ·rw[aq9 Zx,Bool.and_false,Bool.false_and]
     split
     ·rw[(jM h1 h2 hx.1 R5 hy.2).2.2,e0,aq9 Zx,Bool.and_false];rfl
     ·exact e0
def kh (a b:List ax):List Int:=yW (⟨0,1099511627776⟩::(a++b)) []
theorem tg (w:Bool->Bool->Bool)(a b:List ax):cg (g7 w a b (kh a b) []) /\ ∀ t,dW (g7 w a b (kh a b) []) t=((decide (0<=t)&&decide (t<1099511627776))&&w (dW a t) (dW b t)):=by
 have h0:aw ⟨0,1099511627776⟩=true:=by decide
 have hm:∀ x,x∈kh a b ↔ ∃ p∈(⟨0,1099511627776⟩::(a++b):List ax),aw p=true/\(x=p.lo\/x=p.hi):=fun x=>by
  unfold kh;rw[EK];simp
 have XL:(kh a b).Pairwise (· < ·):=CC _ List.Pairwise.nil;have hr:∀ y∈kh a b,0<=y/\y<=1099511627776:=fun y hy=>by
  obtain⟨p,_,hv,h⟩:=(hm y).1 hy;have:=gJ hv;omega
 have hz:(0:Int)∈kh a b:=(hm 0).2 ⟨_,arX .., h0,.inl rfl⟩;have hF:(1099511627776:Int)∈kh a b:=(hm _).2 ⟨_,arX .., h0,.inr rfl⟩;have PK:∀ p∈a++b,aw p=true->p.lo∈kh a b/\p.hi∈kh a b:=fun p hp hv=>⟨(hm _).2 ⟨p,arx _ hp,hv,.inl rfl⟩,(hm _).2 ⟨p,arx _ hp,hv,.inr rfl⟩⟩
 generalize kh a b=P at XL hr hz hF PK
 cases P with
 |nil=>cases hz
 |cons x ps =>
  have Yu:x=0:=by
   rcases arp.1 hz with h|h
   ·exact h.symm
   ·have:=(ase.1 XL).1 0 h
    have:=hr x (arX ..);omega
  subst Yu;have S0:∀ z∈(0:Int)::ps,z<=0\/z∈ps:=fun z hz=>by
   rcases arp.1 hz with rfl|h
   ·exact .inl (Int.le_refl _)
   ·exact .inr h
  refine N4 w a b ps 0 [] XL hr hF (fun p hp hv=>?_) (fun p hp hv=>?_) trivial (fun p hp=>by cases hp) fun t=>?_
  ·have:=PK p (List.mem_append_left _ hp) hv
   exact⟨S0 _ this.1,S0 _ this.2⟩
  ·have:=PK p (List.mem_append_right _ hp) hv
   exact⟨S0 _ this.1,S0 _ this.2⟩
  ·have:(decide (0<=t)&&decide (t<0))=false:=by
    by_cases h:t<0
    ·rw[aq9 (show ¬ 0<=t by omega),Bool.false_and]
    ·rw[aq9 h,Bool.and_false]
   rw[this,Bool.false_and,jU]
theorem FU (Pm:Bool->Bool->Bool){a b c d:List ax}{w:Bool->Bool->Bool}{E:List E3}(hp:E.Perm (rH a b))(hs:mL E){n:Nat}(hn:E.length+2<=n)
  (h:∀ t,0<=t->t<1099511627776->Pm (dW a t) (dW b t)=w (dW c t) (dW d t)):ig Pm n E 0 0 0 []=g7 w c d (kh c d) []:=by
 obtain⟨h1,h2⟩:=Du Pm hp hs hn;obtain⟨h3,h4⟩:=tg w c d;refine ng h1 h3 fun t=>?_
 rw[h2,h4];by_cases q1:0<=t
 ·by_cases q2:t<1099511627776
  ·rw[h t q1 q2]
  ·rw[aq9 q2,Bool.and_false,Bool.false_and,Bool.false_and]
 ·rw[aq9 q1,Bool.false_and,Bool.false_and,Bool.false_and]
def iS {α:Type}(q:α->Bool):List α->Nat->List Int
 |[],_=>[]
 |y::b,k=>(bif q y then [(k:Int)]else [])++iS q b (k+1)
def mC {α:Type}(q:α->Bool)(i:Int)(b:List α)(k:Nat):List cA:=(iS q b k).map fun j=>⟨i,j⟩
def ef {α:Type}(q:α->α->Bool)(b:List α):List α->Nat->List cA
 |[],_=>[]
 |x::a,i=>mC (q x) (i:Int) b 0++ef q b a (i+1)
theorem BL {α:Type}(q:α->Bool):∀ (b:List α) (k:Nat) (j:Int),j∈iS q b k->(k:Int)<=j/\j<((k+b.length:Nat):Int)
 |[],_,_,h=>by cases h
 |y::b,k,j,h=>by
  rw[iS,arB]at h;rcases h with h|h
  ·cases hq:q y with
   |false=>rw[hq]at h;cases h
   |true=>rw[hq,aq8,arQ]at h;subst h;simp;omega
  ·have:=BL q b (k+1) j h
   simp only[arv];omega
theorem FK {α:Type}(q:α->Bool):∀ (b:List α) (k:Nat),(iS q b k).Pairwise (· < ·)
 |[],_=>List.Pairwise.nil
 |y::b,k=>by
  rw[iS]
  cases q y with
  |false=>exact FK q b (k+1)
  |true =>
   rw[aq8,List.singleton_append,ase];exact⟨fun j hj=>by have:=(BL q b (k+1) j hj).1;omega,FK q b (k+1)⟩
theorem Dn {α:Type}(q:α->Bool):∀ (b:List α) (k:Nat),(iS q b k).length=b.countP q
 |[],_=>rfl
 |y::b,k=>by
  rw[iS,ard,Dn q b (k+1),List.countP_cons]
  cases q y<;>simp<;>omega
theorem wm {α:Type}(q:α->Bool)(b:List α)(k:Nat):(iS q b k).length<=b.length:=by rw[Dn];exact List.countP_le_length
theorem ac_ {α:Type}(q:α->Bool)(b0:List α):∀ (b pre:List α),b0=pre++b ->∀ j∈iS q b pre.length,∃ y,b0[j.toNat]?=some y/\q y=true/\0<=j
 |[],_,_,j,h=>by cases h
 |y::b,pre,e,j,h=>by
  rw[iS,arB]at h;rcases h with h|h
  ·cases hq:q y with
   |false=>rw[hq]at h;cases h
   |true =>
    rw[hq,aq8,arQ]at h;subst h;refine⟨y,?_,hq,m0⟩;rw[e,Int.toNat_natCast,arc (aro _),Nat.sub_self];rfl
  ·have:=ac_ q b0 b (pre++[y]) (by rw[e];simp) j (by rw[ard];exact h)
   exact this
theorem zX {α:Type}(q r:α->Bool)(p:Int->Bool)(b0:List α):∀ (b pre:List α),b0=pre++b->(∀ (j:Nat) y,b0[j]?=some y->p (j:Int)=r y)->(iS q b pre.length).filter p=iS (fun y=>q y&&r y) b pre.length
 |[],_,_,_=>rfl
 |y::b,pre,e,hp=>by
  rw[iS,iS,List.filter_append];have h1:=zX q r p b0 b (pre++[y]) (by rw[e];simp) hp;rw[ard,List.length_singleton]at h1;rw[h1];congr 1;have hy:b0[pre.length]?=some y:=by rw[e,arc (aro _),Nat.sub_self];rfl
  cases hq:q y with
  |false=>simp
  |true=>rw[aq8,List.filter_cons,List.filter_nil,hp _ y hy,arI];cases r y<;>rfl
theorem NV:∀ {l m:List Int},l.Pairwise (fun x y =>¬ y<x)->m.Pairwise (· < ·)->l.Perm m->l=m
 |[],m,_,_,h=>(List.nil_perm.1 h).symm▸rfl
 |x::l,[],_,_,h=>absurd h.length_eq m5
 |x::l,y::m,hl,hm,h=>by
  rw[ase]at hl hm;have R5:x=y:=by
   rcases arp.1 (h.mem_iff.1 (arX ..))with e|e
   ·exact e
   ·rcases arp.1 (h.mem_iff.2 (arX ..))with e'|e'
    ·exact e'.symm
    ·exact absurd (hm.1 x e) (hl.1 y e')
  subst R5;rw[NV hl.2 hm.2 (List.Perm.cons_inv h)]
theorem xw (lo:Int->Int)(t:Int):∀ {l:List Int},l.Pairwise (fun x y =>¬ lo y<lo x)->l.takeWhile (fun k=>decide (lo k<t))=l.filter fun k=>decide (lo k<t)
 |[],_=>rfl
 |x::l,h=>by
  rw[ase]at h;rw[List.takeWhile_cons,List.filter_cons];by_cases hx:lo x<t
  ·rw[if_pos (aq_ hx),if_pos (aq_ hx),xw lo t h.2]
  ·rw[if_neg (by simp[hx]),if_neg (by simp[hx])]
   symm;rw[List.filter_eq_nil_iff];intro y hy;have:=h.1 y hy;simp;omega
def jm (p q:ax):Bool:=(aw p&&aw q)&&(decide (p.lo<q.hi)&&decide (q.lo<p.hi))
def fJ (b:List ap)(k:Int):ax:=match b[k.toNat]? with
 |some y=>y.valid
 |none=>⟨0,0⟩
def adt (b:List ap)(ord:List Int)(f:ax):List Int:=(ord.takeWhile fun k=>decide ((fJ b k).lo<f.hi)).filter fun k=>decide (f.lo<(fJ b k).hi)
theorem aeA {b:List ap}{ord:List Int}(hp:ord.Perm (iS (fun y=>aw y.valid) b 0))(hs:ord.Pairwise fun x y =>¬ (fJ b y).lo<(fJ b x).lo){f:ax}(hf:aw f=true) :
  (adt b ord f).Perm (iS (fun y=>jm f y.valid) b 0):=by
 unfold adt;rw[xw (fun k=>(fJ b k).lo) f.hi hs,List.filter_filter];have h1:=zX (fun y:ap=>aw y.valid) (fun y=>decide (f.lo<y.valid.hi)&&decide (y.valid.lo<f.hi)) (fun k=>decide (f.lo<(fJ b k).hi)&&decide ((fJ b k).lo<f.hi)) b b [] rfl
  (fun j y hy=>by unfold fJ;rw[Int.toNat_natCast,hy])
 refine(hp.filter _).trans ?_;rw[arE]at h1;rw[h1];have:(fun y:ap=>aw y.valid&&(decide (f.lo<y.valid.hi)&&decide (y.valid.lo<f.hi)))=fun y=>jm f y.valid:=by
  funext y;unfold jm;rw[hf,arI]
 rw[this]
theorem afE {i:Int}{ks m:List Int}{r:List cA}(h1:r.Perm (ks.map fun j=>(⟨i,j⟩:cA)))(h2:r.Pairwise fun x y =>¬ y.b<x.b)(h3:ks.Perm m)(h4:m.Pairwise (· < ·)):r=m.map fun j=>⟨i,j⟩:=by
 have e1:r=(r.map cA.b).map fun j=>(⟨i,j⟩:cA):=by
  rw[List.map_map];conv=>lhs;rw[<- List.map_id r]
  refine List.map_congr_left fun x hx=>?_
  obtain⟨j,_,rfl⟩:=arK.1 (h1.mem_iff.1 hx);rfl
 have e2:r.map cA.b=m:=by
  refine NV ?_ h4 ?_
  ·rw[List.pairwise_map];exact h2
  ·have:=h1.map cA.b
   rw[List.map_map]at this;exact(this.trans (by rw[show(cA.b∘fun j:Int=>(⟨i,j⟩:cA))=id from rfl,List.map_id])).trans h3
 rw[e1,e2]
theorem sum_nil {α:Type}:∀ b:List α,(b.map fun _=>0).sum=0
 |[]=>rfl
 |y::b=>by rw[ari,List.sum_cons,sum_nil b]
def nL (p q:ax):ax:=⟨max p.lo q.lo,min p.hi q.hi⟩
def df (c:ap->ap->Bool)(b:List ap)(x:ap):List ax:=b.flatMap fun y=>bif jm x.valid y.valid&&c x y then [nL x.valid y.valid]else []
def AL (c:ap->ap->Bool)(b:List ap)(x:ap):List ax:=b.flatMap fun y=>bif c x y then [y.valid]else []
theorem td (p q:ax):jm p q=true↔aw p=true/\aw q=true/\p.lo<q.hi/\q.lo<p.hi:=by
 unfold jm;generalize aw p=u;generalize aw q=v;rw[arq,arq,arq,decide_eq_true_eq,decide_eq_true_eq];constructor
 ·rintro⟨⟨a,b⟩,c,d⟩;exact⟨a,b,c,d⟩
 ·rintro⟨a,b,c,d⟩;exact⟨⟨a,b⟩,c,d⟩
theorem JA {p q:ax}(h:jm p q=true):aw (nL p q)=true:=by
 obtain⟨h1,h2,h3,h4⟩:=(td p q).1 h;have:=gJ h1;have:=gJ h2;have a1:0<=max p.lo q.lo:=m0
 have a2:max p.lo q.lo<min p.hi q.hi:=m0
 have a3:min p.hi q.hi<=1099511627776:=m0
 show(decide (0<=max p.lo q.lo)&&decide (max p.lo q.lo<min p.hi q.hi)&&decide (min p.hi q.hi<=1099511627776))=true;rw[aq_ a1,aq_ a2,aq_ a3];rfl
theorem ac8 {c:ap->ap->Bool}{b:List ap}{x:ap}{p:ax}:p∈df c b x ↔ ∃ y∈b,jm x.valid y.valid=true/\c x y=true/\p=nL x.valid y.valid:=by
 unfold df;rw[List.mem_flatMap];constructor
 ·rintro⟨y,hy,h⟩
  cases h1:jm x.valid y.valid&&c x y with
  |false=>rw[h1]at h;cases h
  |true =>
   rw[h1,aq8,arQ]at h;rw[arq]at h1;exact⟨y,hy,h1.1,h1.2,h⟩
 ·rintro⟨y,hy,h1,h2,rfl⟩
  exact⟨y,hy,by rw[h1,h2];exact arQ.2 rfl⟩
theorem ac9 {c:ap->ap->Bool}{b:List ap}{x:ap}{p:ax}:p∈AL c b x ↔ ∃ y∈b,c x y=true/\p=y.valid:=by
 unfold AL;rw[List.mem_flatMap];constructor
 ·rintro⟨y,hy,h⟩
  cases h1:c x y with
  |false=>rw[h1]at h;cases h
  |true =>
   rw[h1,aq8,arQ]at h;exact⟨y,hy,h1,h⟩
 ·rintro⟨y,hy,h2,rfl⟩
  exact⟨y,hy,by rw[h2];exact arQ.2 rfl⟩
theorem wl {α β:Type}(g:α->List β)(h:∀ x,(g x).length<=1):∀ l:List α,(l.flatMap g).length<=l.length
 |[]=>aro _
 |x::l=>by
  have h1:=h x;have h2:=wl g h l;rw[arN,ard,arv];omega
theorem Bz (c:ap->ap->Bool)(b:List ap)(x:ap):(df c b x).length<=b.length:=wl _ (fun y=>by cases jm x.valid y.valid&&c x y<;>simp) b
theorem Bh {c:ap->ap->Bool}{b:List ap}{x:ap}(hx:aw x.valid=true)(t:Int):dW (df c b x) t=(AD x.valid t&&dW (AL c b x) t):=by
 rw[Bool.eq_iff_iff,arq,db,db,fB];constructor
 ·rintro⟨p,hp,hv,h1,h2⟩
  obtain⟨y,hy,ho,hc,rfl⟩:=ac8.1 hp;obtain⟨q1,q2,q3,q4⟩:=(td _ _).1 ho;simp only[nL]at h1 h2;exact⟨m0,y.valid,ac9.2 ⟨y,hy,hc,rfl⟩,q2,m0,m0⟩
 ·rintro⟨⟨h1,h2⟩,p,hp,hv,h3,h4⟩
  obtain⟨y,hy,hc,rfl⟩:=ac9.1 hp;have ho:jm x.valid y.valid=true:=(td _ _).2 ⟨hx,hv,m0,m0⟩;refine⟨_,ac8.2 ⟨y,hy,ho,hc,rfl⟩,JA ho,?_,?_⟩<;>simp only[nL]<;>omega
theorem wT {p:ax}(h:aw p=true)(t:Int):dW [p] t=AD p t:=by rw[mb,jU,h,arI,Bool.or_false]
def gM (c:ap->ap->Bool)(b:List ap)(x:ap):List ax:=g7 (fun p q=>p && !q) [x.valid] (AL c b x) (kh [x.valid] (AL c b x)) []
def FO (c:ap->ap->Bool)(b:List ap)(x:ap):List ax:=g7 (fun p q=>p&&q) [x.valid] (AL c b x) (kh [x.valid] (AL c b x)) []
theorem agW {c:ap->ap->Bool}{b:List ap}{x:ap}(hx:aw x.valid=true){E:List E3}(hp:E.Perm (rH [x.valid] (df c b x)))(hs:mL E){n:Nat}(hn:E.length+2<=n) :
  ig (fun p q=>p && !q) n E 0 0 0 []=gM c b x:=by
 refine FU (fun p q=>p && !q) hp hs hn fun t _ _=>?_
 rw[wT hx,Bh hx]
 cases AD x.valid t<;>simp
theorem aan {c:ap->ap->Bool}{b:List ap}{x:ap}(hx:aw x.valid=true):cg (gM c b x) /\ ∀ t,dW (gM c b x) t=(AD x.valid t && !dW (df c b x) t):=by
 obtain⟨h1,h2⟩:=tg (fun p q=>p && !q) [x.valid] (AL c b x);refine⟨h1,fun t=>?_⟩;unfold gM;rw[h2,wT hx,Bh hx];have:=gJ hx
 cases h:AD x.valid t with
 |false=>simp
 |true =>
  rw[fB]at h;rw[aq_ (show 0<=t by omega),aq_ (show t<1099511627776 by omega)];simp
theorem xH {c:ap->ap->Bool}{b:List ap}{x:ap}(hx:aw x.valid=true):cg (FO c b x) /\ ∀ t,dW (FO c b x) t=dW (df c b x) t:=by
 obtain⟨h1,h2⟩:=tg (fun p q=>p&&q) [x.valid] (AL c b x);refine⟨h1,fun t=>?_⟩;unfold FO;rw[h2,wT hx,Bh hx];have:=gJ hx
 cases h:AD x.valid t with
 |false=>simp
 |true =>
  rw[fB]at h;rw[aq_ (show 0<=t by omega),aq_ (show t<1099511627776 by omega)];simp
theorem ab':∀ {l m:List Int},l.Pairwise (· < ·)->(∀ x∈l,x∈m)->l.length<=m.length
 |[],m,_,_=>aru _
 |x::l,m,h,hm=>by
  rw[ase]at h;have hx:=hm x (arX ..);have h1:=ab' (l:=l) (m:=m.erase x) h.2 fun y hy=>by
   have:=h.1 y hy;rw[List.mem_erase_of_ne m0];exact hm y (arx _ hy)
  rw[List.length_erase_of_mem hx]at h1;have:0<m.length:=List.length_pos_of_mem hx;rw[arv];omega
theorem Dw:∀ {l:List ax},cg l->(l.map ax.lo).Pairwise (· < ·)
 |[],_=>List.Pairwise.nil
 |p::l,h=>by
  rw[ari,ase];refine⟨fun y hy=>?_,Dw h.2.2⟩;obtain⟨q,hq,rfl⟩:=arK.1 hy;have:=h.2.1 q hq;have:=gJ h.1;omega
theorem sE:∀ {l:List ax},cg l ->∀ p∈l,dW l p.lo=true/\dW l (p.lo-1)=false
 |[],_,p,hp=>by cases hp
 |q::l,h,p,hp=>by
  have hv:=h.val p hp;have hl:=gJ hv;refine⟨(db _ _).2 ⟨p,hp,hv,m0,m0⟩,?_⟩;rw[Bool.eq_false_iff];intro ht;obtain⟨r,hr,Zy,h1,h2⟩:=(db _ _).1 ht;rcases arp.1 hp with e|hp2
  ·subst e
   rcases arp.1 hr with e|SL
   ·subst e;omega
   ·have:=h.2.1 r SL;omega
  ·rcases arp.1 hr with e|SL
   ·subst e;have:=h.2.1 p hp2;omega
   ·have:=(sE h.2.2 p hp2).2
    rw[(db _ _).2 ⟨r,SL,Zy,h1,h2⟩]at this
    cases this
theorem Bv {c:ap->ap->Bool}{b:List ap}{x:ap}(hx:aw x.valid=true):(gM c b x).length<=b.length+1:=by
 obtain⟨h1,h2⟩:=aan (c:=c) (b:=b) hx;have h3:=ab' (m:=x.valid.lo::(df c b x).map ax.hi) (Dw h1) fun y hy=>by
  obtain⟨p,hp,rfl⟩:=arK.1 hy;obtain⟨q1,q2⟩:=sE h1 p hp;rw[h2,arq,fB]at q1;by_cases he:p.lo=x.valid.lo
  ·rw[he];exact arX ..
  ·refine arx _ ?_
   have S0:AD x.valid (p.lo-1)=true:=(fB _ _).2 m0;rw[h2,S0,arI,Bool.not_eq_false']at q2;obtain⟨r,hr,Zy,h5,h6⟩:=(db _ _).1 q2;refine arK.2 ⟨r,hr,?_⟩;rcases(show p.lo<r.hi\/r.hi<=p.lo by omega)with h7|h7
   ·have:dW (df c b x) p.lo=true:=(db _ _).2 ⟨r,hr,Zy,m0,h7⟩
    rw[this]at q1;exact absurd q1.2 m5
   ·omega
 rw[arj,arv,arj]at h3;have:=Bz c b x;omega
theorem Kw {c:ap->ap->Bool}{b:List ap}{x:ap}(hx:aw x.valid=true):(FO c b x).length<=b.length:=by
 obtain⟨h1,h2⟩:=xH (c:=c) (b:=b) hx;have h3:=ab' (m:=(df c b x).map ax.lo) (Dw h1) fun y hy=>by
  obtain⟨p,hp,rfl⟩:=arK.1 hy;obtain⟨q1,q2⟩:=sE h1 p hp;rw[h2]at q1 q2;obtain⟨r,hr,Zy,h5,h6⟩:=(db _ _).1 q1;refine arK.2 ⟨r,hr,?_⟩;rcases(show r.lo<p.lo\/p.lo<=r.lo by omega)with h7|h7
  ·rw[(db _ _).2 ⟨r,hr,Zy,m0,m0⟩]at q2
   cases q2
  ·omega
 rw[arj,arj]at h3;have:=Bz c b x;omega
def tF (l:List ap):AC := .lst (l.map aH)
theorem G3 {α:Type}(q:α->Bool)(y:α):∀ (b:List α) (k:Nat),iS q (b++[y]) k=iS q b k++(bif q y then [((k+b.length:Nat):Int)]else [])
 |[],k=>by simp[iS]
 |x::b,k=>by
  rw[List.cons_append,iS,iS,G3 q y b (k+1),arA,arv,show k+1+b.length=k+(b.length+1)by omega]
theorem mq (n v k:Nat)(l:List Int):(Ob.row v (l.map gI) k).below n:=by
 intro e he x hx;obtain⟨y,_,rfl⟩:=arK.1 he;simp[gI]at hx;subst hx;trivial
theorem u_ (n v k:Nat)(l:List cA):(Ob.row v (l.map LV) k).below n:=by
 intro e he x hx;obtain⟨y,_,rfl⟩:=arK.1 he;simp[LV]at hx;rcases hx with rfl|rfl<;>trivial
theorem MP (σ:List Nat)(v:Nat)(l:List Int):(Ob.row v (l.map gI) 1).ren σ=Ob.row v (l.map gI) 1:=by
 simp only[Ob.ren,List.map_map];rfl
theorem rfI {L:List Ob}{v:Nat}{l:List Int}{id:Nat}{x:AV}{xs:List AV}(h0:L[id]?=some (Ob.row v (l.map gI) 1))(hx:∀ y∈x::xs,y.below 1):gg [id] [Ob.row v (l.map gI) 1] (x::xs) L:=by
 refine⟨rfl,m5,fun i y hy=>?_,bw ⟨mq _ _ _ _,t7⟩,hx⟩
 match i,hy with
 |0,hy=>simp at hy;subst hy;rw[MP];exact h0
 |i+1,hy=>simp at hy
theorem jI {L L':List Ob}{v:Nat}{l:List Int}{id:Nat}(h:L.set id (Ob.row v (l.map gI) 1)=L'):joinL [id] L [Ob.row v (l.map gI) 1]=L':=by
 subst h;simp[joinL,join,dr,ce,ft,MP]
def vI (n:Nat):Nat:=3+65536+65536*n
def vP (n:Nat):Nat:=63+65536+65536*n
theorem afU (l:List cA):ee (l.map LV)=some (l.map iq):=by
 have:=je (l.map iq);rw[List.map_map]at this;exact this
def ke (b:List ap)(f:ax)(o:List Int)(j:Nat):List Int:=(o.take j).filter fun k=>decide (f.lo<(fJ b k).hi)
theorem abq {b:List ap}{f:ax}{o:List Int}{j:Nat}{k:Int}(h:o[j]?=some k):ke b f o (j+1)=ke b f o j++(bif decide (f.lo<(fJ b k).hi)then [k]else []):=by
 unfold ke;rw[bR h,List.filter_append]
 cases hd:decide (f.lo<(fJ b k).hi)<;>simp[List.filter,hd]
theorem af2 (b:List ap)(f:ax)(o:List Int)(j:Nat):(ke b f o j).length<=o.length:=by
 unfold ke;refine Nat.le_trans (List.length_filter_le _ _) ?_;rw[ar3];exact Nat.min_le_right _ _
theorem amr (p:Int->Bool):∀ (o:List Int) (j:Nat),(∀ k∈o.take j,p k=true)->(∀ k,o[j]?=some k->p k=false)->o.takeWhile p=o.take j
 |[],j,_,_=>by simp
 |x::o,0,_,h=>by simp[List.takeWhile,h x rfl]
 |x::o,j+1,h1,h2=>by
  rw[List.take_succ_cons,List.takeWhile,h1 x m5];show x::_=_;rw[amr p o j (fun k hk=>h1 k (by simp[hk])) (fun k hk=>h2 k (by simpa using hk))]
theorem ag4 {b:List ap}{o:List Int}{x:ap}{i j:Nat}{d:List cA}(QT:o.Perm (iS (fun y:ap=>aw y.valid) b 0))(Xm:o.Pairwise fun x y =>¬ pF b y<pF b x)(hv:aw x.valid=true)
  (h1:∀ k∈o.take j,(fJ b k).lo<x.valid.hi) (h2:∀ k,o[j]?=some k ->¬ (fJ b k).lo<x.valid.hi) (hp:d.Perm ((ke b x.valid o j).map fun k=>(⟨i,k⟩:cA))) (hs:d.Pairwise fun x y =>¬ y.b<x.b):d=mC (fun y:ap=>jm x.valid y.valid) i b 0:=by
 have e:adt b o x.valid=ke b x.valid o j:=by
  unfold adt ke;rw[amr (fun k=>decide ((fJ b k).lo<x.valid.hi)) o j (fun k hk=>by simpa using h1 k hk) (fun k hk=>by simpa using h2 k hk)]
 have Pj:∀ k,pF b k=(fJ b k).lo:=fun k=>by unfold pF fJ;cases b[k.toNat]?<;>rfl
 refine afE hp hs (e▸aeA QT ?_ hv) (FK _ _ _);refine Xm.imp ?_;intro x y h;rw[<- Pj,<- Pj];exact h
theorem Nk (σ:List Nat)(v:Nat)(l:List cA):(Ob.row v (l.map LV) 2).ren σ=Ob.row v (l.map LV) 2:=by
 simp only[Ob.ren,List.map_map];rfl
theorem rfP {L:List Ob}{v:Nat}{l:List cA}{id:Nat}{x:AV}{xs:List AV}(h0:L[id]?=some (Ob.row v (l.map LV) 2))(hx:∀ y∈x::xs,y.below 1):gg [id] [Ob.row v (l.map LV) 2] (x::xs) L:=by
 refine⟨rfl,m5,fun i y hy=>?_,bw ⟨u_ 1 _ _ _,t7⟩,hx⟩
 match i,hy with
 |0,hy=>simp at hy;subst hy;rw[Nk];exact h0
 |i+1,hy=>simp at hy
theorem jP {L L':List Ob}{v:Nat}{l:List cA}{id:Nat}(h:L.set id (Ob.row v (l.map LV) 2)=L'):joinL [id] L [Ob.row v (l.map LV) 2]=L':=by
 subst h;simp[joinL,join,dr,ce,ft,Nk]
def IT (a b:List ap)(n p m i j:Nat):Tm:=[(3,.one (.c (.ref [tF b]))),(5,.one (.sl 1 (vI n) 0 n)),(8,.one (.sl 2 (vP m) 0 m)),(9,.one (.c (.int .i64 i))),(10,.one (.ptr 3 0)),(11,.one (.c (.int .i64 p))),(32,.one (.c (tF a))),(33,.one (.c (.int .i64 a.length))),(34,.one (.c (.int .i64 i))),(45,.one (.sl 1 (vI n) 0 n)),(46,.one (.c (.int .i64 n))),(47,.one (.c (.int .i64 j)))]
theorem Fp (a b:List ap)(n p m i j:Nat):gK 4 (IT a b n p m i j):=⟨t7,(by show 1<4;omega),(by show 2<4;omega),t7,(by show 3<4;omega),t7,t7,t7,t7,(by show 1<4;omega),t7,t7,t7⟩
theorem Dc (v w:Nat)(o:List Int)(p:List cA)(x:ap):nP 4 [.dead,.row v (o.map gI) 1,.row w (p.map LV) 2,.box ((aH x).map SV.c)]:=⟨t7,mq _ _ _ _,u_ _ _ _ _,(by intro y hy;obtain⟨z,_,rfl⟩:=arK.1 hy;trivial),t7⟩
def prK (a b:List ap)(i:Nat):List cA:=ef (fun x y:ap=>jm x.valid y.valid) b (a.take i) 0
theorem I_ {α:Type}{q:α->Bool}(h:∀ y,q y=false):∀ (b:List α) (k:Nat),iS q b k=[]
 |[],_=>rfl
 |x::b,k=>by rw[iS,h,I_ h b];rfl
theorem Ix {α:Type}(q:α->α->Bool)(b:List α)(x:α):∀ (a:List α) (k:Nat),ef q b (a++[x]) k=ef q b a k++mC (q x) ((k+a.length:Nat):Int) b 0
 |[],k=>by simp[ef]
 |y::a,k=>by
  rw[List.cons_append,ef,ef,Ix q b x a (k+1),arA,arv,show k+1+a.length=k+(a.length+1)by omega]
theorem ajO {a b:List ap}{i:Nat}{x:ap}(hx:a[i]?=some x):prK a b (i+1)=prK a b i++mC (fun y:ap=>jm x.valid y.valid) i b 0:=by
 unfold prK;have hi:i<a.length:=by
  rcases Nat.lt_or_ge i a.length with h|h
  ·exact h
  ·rw[arY h]at hx;cases hx
 rw[bR hx,Ix,ar3,arS,Nat.min_eq_left m0]
theorem DI {α:Type}(q:α->α->Bool)(b:List α):∀ (a:List α) (k:Nat),(ef q b a k).length<=a.length*b.length
 |[],_=>aru _
 |x::a,k=>by
  rw[ef,ard,arv,Nat.succ_mul];have h1:=DI q b a (k+1);have h2:(mC (q x) (k:Int) b 0).length<=b.length:=by unfold mC;rw[arj];exact wm _ _ _
  omega
theorem alH {a b:List ap}{i:Nat}(hi:i<a.length)(hb:b.length<=1000):(prK a b i).length<=i*1000:=by
 have:=DI (fun x y:ap=>jm x.valid y.valid) b (a.take i) 0;rw[ar3,Nat.min_eq_left m0]at this;exact Nat.le_trans this (Nat.mul_le_mul_left _ hb)
def OT (a b:List ap)(n m i:Nat):Tm:=[(3,.one (.c (.ref [tF b]))),(5,.one (.sl 1 (vI n) 0 n)),(8,.one (.sl 2 (vP m) 0 m)),(32,.one (.c (tF a))),(33,.one (.c (.int .i64 a.length))),(34,.one (.c (.int .i64 i)))]
theorem wQ (a b:List ap)(n m i k:Nat):gK (k+3) (OT a b n m i):=⟨t7,(by show 1<k+3;omega),(by show 2<k+3;omega),t7,t7,t7,t7⟩
theorem w8 (v w:Nat)(o:List Int)(p:List cA):nP 3 [.dead,.row v (o.map gI) 1,.row w (p.map LV) 2]:=⟨t7,mq _ _ _ _,u_ _ _ _ _,t7⟩
def mm (b:List ap)(i:Nat):List Int:=iS (fun y:ap=>aw y.valid) (b.take i) 0
theorem Ef (a b:List ap)(ha:a.length<=1000)(hb:b.length<=1000):PTz 12 [.one (tF a),.one (tF b)] (.val (.one (.lst ((ef (fun x y:ap=>jm x.valid y.valid) b a 0).map iq)))):=by
 have hB:=hb;refine pa_ am Tryz.func12 rfl rfl Tryz.ntmps12 m5 ?_;simp only[argT,PV.av,ari,arn]
 repeat' (first|refine gw_ am tabS_ok ?_|refine gi_ (fun hb=>?_) (fun hb=>?_)|fail)
 refine tU 5 (vI 0) 1 rfl (by unfold vI;omega) ?_;refine cz (fun i:Nat=>[(0,.one (.c (tF a))),(3,.one (.ptr 0 0)),(5,.one (.sl 1 (vI (mm b i).length) 0 (mm b i).length)),(14,.one (.c (tF b))),(15,.one (.c (.int .i64 b.length))),(16,.one (.c (.int .i64 i)))])
  (fun i=>[.box [.c (tF b)],.row (vI (mm b i).length) ((mm b i).map gI) 1]) (fun i=>i<=b.length) (fun i=>b.length-i) 0 m0 (fun _ _=>aru _)
  (fm_ ⟨rfl,rfl,rfl,rfl,aU m5,rfl,t7⟩ [] rfl ⟨t7,(by show 0<2;omega),(by show 1<2;omega),t7,t7,t7,t7⟩ ⟨(by intro x hx;simp at hx;subst hx;trivial),mq _ _ _ _,t7⟩) ?_
 ·intro i hi
  have Zz:∀ j,gK 2 [(0,AV.one (.c (tF a))),(3,.one (.ptr 0 0)),(5,.one (.sl 1 (vI (mm b j).length) 0 (mm b j).length)),(14,.one (.c (tF b))),(15,.one (.c (.int .i64 b.length))),(16,.one (.c (.int .i64 j)))]:=fun j=>⟨t7,(by show 0<2;omega),(by show 1<2;omega),t7,t7,t7,t7⟩
  have ZA:∀ j,nP 2 [Ob.box [.c (tF b)],.row (vI (mm b j).length) ((mm b j).map gI) 1]:=fun j=>⟨(by intro x hx;simp at hx;subst hx;trivial),mq _ _ _ _,t7⟩
  by_cases OZ:i<b.length
  ·obtain⟨x,hx⟩:=gol_ OZ
   have Qj:=gPV_ok (i_ x.valid);have Qa:mm b (i+1)=mm b i++(bif aw x.valid then [(i:Int)]else []):=by
    unfold mm;rw[bR hx,G3,ar3,arS,Nat.min_eq_left m0]
   have hle:(mm b i).length<=1000:=by have:=wm (fun y:ap=>aw y.valid) (b.take i) 0;rw[ar3]at this;unfold mm;omega
   generalize mm b i=o at Qa hle
   cases hv:aw x.valid with
   |true =>
    rw[hv]at Qj Qa;rw[aq8]at Qa;have hl:(mm b (i+1)).length=o.length+1:=by rw[Qa];simp
    have QJ:vI (o.length+1)=vI o.length+65536:=by unfold vI;omega
    have hm:(o.map gI).length=o.length:=by simp
    repeat' (first|(refine ci rfl rfl rfl rfl rfl (eh am (k:=1) (by_:=8) (xs:=[gI i]) rfl rfl rfl rfl ⟨rfl,_,rfl,by intro e he;simp at he;subst he;rfl⟩ rfl (by unfold vI;omega) rfl rfl rfl m9 hm (by simp only[List.length_singleton];omega) (by simp only[List.length_singleton];omega)) ?_)|(refine bB rfl rfl rfl rfl rfl rfl rfl rfl (bv hx) ?_ ?_;· exact⟨m0,rfl⟩)|refine aN rfl rfl rfl rfl Qj rfl ?_|refine gw_ am tabS_ok ?_|refine gi_ (fun hb=>?_) (fun hb=>?_)|fail)
    exact⟨i+1,m0,m0,fm_ ⟨rfl,rfl,(by rw[hl,QJ];rfl),rfl,rfl,aU (a7 m0 m0),t7⟩ [_] (by rw[hl,QJ,Qa,ark];rfl) (Zz _) (ZA _)⟩
   |false =>
    rw[hv]at Qj Qa;rw[aq7,arJ]at Qa
    repeat' (first|(refine bB rfl rfl rfl rfl rfl rfl rfl rfl (bv hx) ?_ ?_;· exact⟨m0,rfl⟩)|refine aN rfl rfl rfl rfl Qj rfl ?_|refine gw_ am tabS_ok ?_|refine gi_ (fun hb=>?_) (fun hb=>?_)|fail)
    exact⟨i+1,m0,m0,fm_ ⟨rfl,rfl,(by rw[Qa];rfl),rfl,rfl,aU (a7 m0 m0),t7⟩ [_] (by rw[Qa];rfl) (Zz _) (ZA _)⟩
  ·have Qo:i=b.length:=m0
   subst Qo;have ho:mm b b.length=iS (fun y:ap=>aw y.valid) b 0:=by unfold mm;rw[List.take_length]
   have hor:∀ k∈mm b b.length,0<=k/\k<(b.length:Int):=fun k hk=>by
    rw[ho]at hk;have:=BL _ b 0 k hk;omega
   have hle:(mm b b.length).length<=1000:=by rw[ho];have:=wm (fun y:ap=>aw y.valid) b 0;omega
   obtain⟨o,QT,Xm,Ug⟩:=ML hb hor (vI (mm b b.length).length) (mm b b.length).length rfl m0;rw[ho]at QT;have X_:o.length=(mm b b.length).length:=by rw[ho];exact QT.length_eq
   generalize mm b b.length=o0 at Ug hle X_ ⊢
   repeat' (first|(refine aS 0 (cs:=[.c (tF b)]) (ts:=[tF b]) rfl rfl ?_)|(refine cK [1] rfl rfl rfl rfl Ug rfl (rfI rfl (bY ⟨(by show 0<1;omega),t7,t7⟩)) rfl (jI rfl) ?_)|refine gw_ am tabS_ok ?_|refine gi_ (fun hb=>?_) (fun hb=>?_)|fail)
   refine tU 8 (vP 0) 2 rfl (by unfold vP;omega) ?_;refine cz (fun i:Nat=>OT a b o0.length (prK a b i).length i) (fun i=>[.dead,.row (vI o0.length) (o.map gI) 1,.row (vP (prK a b i).length) ((prK a b i).map LV) 2]) (fun i=>i<=a.length) (fun i=>a.length-i) 0 m0 (fun _ _=>aru _)
    (fm_ ⟨rfl,rfl,rfl,rfl,aU m5,rfl,t7⟩ [] rfl (wQ a b _ _ _ 0) (w8 _ _ _ _)) ?_
   intro i hi;by_cases OZ:i<a.length
   ·obtain⟨x,hx⟩:=gol_ OZ
    have Qj:=gPV_ok (i_ x.valid);have Qa:=ajO (b:=b) hx;have Ui:=alH OZ hB;unfold OT;generalize prK a b i=pr at Qa Ui ⊢
    cases hv:aw x.valid with
    |false =>
     rw[hv]at Qj
     repeat' (first|(refine bB rfl rfl rfl rfl rfl rfl rfl rfl (bv hx) ?_ ?_;· exact⟨m0,rfl⟩)|refine aN rfl rfl rfl rfl Qj rfl ?_|refine gw_ am tabS_ok ?_|refine gi_ (fun hb=>?_) (fun hb=>?_)|refine sW ?_|refine sH ?_|fail)
     have hz:prK a b (i+1)=pr:=by
      rw[Qa,mC,I_ (q:=fun y:ap=>jm x.valid y.valid) (fun y=>by unfold jm;rw[hv];rfl)];simp
     exact⟨i+1,m0,m0,fm_ ⟨rfl,rfl,(by rw[hz];rfl),rfl,rfl,aU (a7 m0 m0),t7⟩ [_] (by rw[hz];rfl) (wQ a b _ _ _ 0) (w8 _ _ _ _)⟩
    |true =>
     rw[hv]at Qj
     repeat' (first|(refine bB rfl rfl rfl rfl rfl rfl rfl rfl (bv hx) ?_ ?_;· exact⟨m0,rfl⟩)|refine aN rfl rfl rfl rfl Qj rfl ?_|refine gw_ am tabS_ok ?_|refine gi_ (fun hb=>?_) (fun hb=>?_)|refine sW ?_|refine sH ?_|fail)
     refine cz (fun j:Nat=>IT a b o0.length pr.length (pr.length+(ke b x.valid o j).length) i j) (fun j=>[.dead,.row (vI o0.length) (o.map gI) 1,.row (vP (pr.length+(ke b x.valid o j).length)) ((pr++(ke b x.valid o j).map fun k=>(⟨i,k⟩:cA)).map LV) 2,.box ((aH x).map SV.c)])
      (fun j=>j<=o0.length /\ ∀ k∈o.take j,(fJ b k).lo<x.valid.hi) (fun j=>o0.length-j) 0 ⟨m0,by intro k hk;simp at hk⟩ (fun _ _=>aru _)
      (fm_ ⟨rfl,rfl,rfl,rfl,rfl,rfl,rfl,rfl,rfl,rfl,rfl,aU m5,t7⟩ [] (by simp[ke];rfl) (Fp _ _ _ _ _ _ _) (Dc _ _ _ _ _)) ?_
     rintro j ⟨hj,XM⟩;have VU:=af2 b x.valid o j;have hsu:=fun k=>abq (b:=b) (f:=x.valid) (o:=o) (j:=j) (k:=k)
     obtain⟨d,hdp,RJ,O4⟩:=abR pr ((ke b x.valid o j).map fun k=>(⟨i,k⟩:cA)) (vP (pr.length+(ke b x.valid o j).length)) (0+pr.length) (pr.length+(ke b x.valid o j).length-pr.length) m5 m5 m0;have Uw:=fun h2=>ag4 QT Xm hv XM h2 hdp RJ
     have Vw:=hdp.length_eq;rw[arj]at Vw;unfold IT;generalize ke b x.valid o j=ss at VU hsu O4 Vw ⊢;by_cases WI:j<o0.length
     ·obtain⟨k,hk⟩:=gol_ (l:=o) (i:=j) m0
      have hkr:0<=k/\k<(b.length:Int):=by
       have h1:=QT.mem_iff.1 (arb hk);have:=BL _ b 0 k h1;omega
      obtain⟨UQ,hkb⟩:=hkr;obtain⟨y,hy⟩:=gol_ (l:=b) (i:=k.toNat) m0;have ZB:fJ b k=y.valid:=by unfold fJ;rw[hy]
      have hgk:(o.map gI)[0+j]?=some (gI k):=by rw[arS,arw,hk];rfl
      have QJ:vP (pr.length+ss.length+1)=vP (pr.length+ss.length)+65536:=by unfold vP;omega
      have hm:((pr++ss.map fun k=>(⟨i,k⟩:cA)).map LV).length=pr.length+ss.length:=by simp
      repeat' (first
       |refine st_nil ?_
       |(refine ci rfl rfl rfl rfl rfl (eh am (k:=2) (by_:=16) (xs:=[LV ⟨i,k⟩]) rfl rfl rfl rfl ⟨rfl,_,rfl,by intro e he;simp at he;subst he;rfl⟩ rfl (by unfold vP;omega) rfl rfl rfl m9 hm (by simp only[List.length_singleton];omega) (by simp only[List.length_singleton];omega)) ?_)
       |(refine lY rfl rfl rfl rfl rfl rfl rfl (e:=gI k) (by exact hgk) rfl ?_)
       |(refine st_pop rfl rfl rfl rfl ?_ ?_;· (repeat' (first|exact t7|rfl|exact arh rfl|omega|exact wideI (by intro _;rfl) _|(intro e he;simp at he;subst he;rfl)|apply And.intro)))
       |(refine bB rfl rfl rfl rfl rfl rfl rfl rfl (bv hy) ?_ ?_;· exact⟨m0,rfl⟩)
       |(refine st_lop rfl rfl rfl rfl ?_ ?_;· (repeat' (first|exact t7|rfl|exact arh rfl|omega|exact wideI (by intro _;rfl) _|(intro e he;simp at he;subst he;rfl)|apply And.intro)))
       |(refine sS_ rfl rfl rfl ?_ ?_;· (repeat' (first|exact t7|rfl|exact arh rfl|omega|exact wideI (by intro _;rfl) _|(intro e he;simp at he;subst he;rfl)|apply And.intro)))
       |(refine st_lit rfl rfl rfl rfl ?_ ?_;· (repeat' (first|exact t7|rfl|exact arh rfl|omega|exact wideI (by intro _;rfl) _|(intro e he;simp at he;subst he;rfl)|apply And.intro)))
       |refine st_skip rfl rfl rfl ?_
       |refine sk0_ rfl rfl ?_
       |(refine cK [2] rfl rfl rfl rfl O4 rfl (rfP rfl (bY ⟨(by show 0<1;omega),t7,t7⟩)) rfl (jP rfl) ?_)
       |(refine st_if rfl (fun hb=>?_) (fun hb=>?_)<;>(first|exact(fx_ hb).elim|rw[hb]))
       |refine aw_seq ?_
       |refine aw_region am _ rfl ?_
       |refine aw_drawn2 tabS_ok _ rfl mixed (by decide +kernel) ?_
       |(refine aw_cond rfl (fun hb=>?_) (fun hb=>?_)<;>(try exact(fx_ hb).elim))
       |refine aw_block ?_
       |refine aw_exit ?_
       |refine aw_ret ?_
       |refine aw_skip ?_
       |refine sW ?_
       |refine sH ?_)
      ·have UP:=Uw fun k' UY=>by
        have:k'=k:=arH (UY.symm.trans hk);subst this;rw[ZB];have:=arC hb;omega
       rw[<- UP]at Qa;have Vm:(prK a b (i+1)).length=pr.length+ss.length:=by rw[Qa,ard,Vw]
       exact⟨i+1,m0,m0,fm_ ⟨rfl,rfl,(by rw[Vm];rfl),rfl,rfl,aU (a7 m0 m0),t7⟩ [_] (by rw[Vm,Qa];rfl) (wQ a b _ _ _ 0) (w8 _ _ _ _)⟩
      ·rename_i h1 h2
       have hc:decide (x.valid.lo<(fJ b k).hi)=true:=by rw[ZB];exact hb
       have hs:=hsu k hk;rw[hc,aq8]at hs;have UU:∀ k'∈o.take (j+1),(fJ b k').lo<x.valid.hi:=by
        intro k' UY;rw[bR hk,arB]at UY;rcases UY with h|h
        ·exact XM k' h
        ·simp at h;subst h;rw[ZB];have:=of_decide_eq_false h2;omega
       have hl:(ke b x.valid o (j+1)).length=ss.length+1:=by rw[hs];simp
       exact⟨j+1,⟨m0,UU⟩,m0,fm_ ⟨rfl,rfl,(by rw[hl,<- Nat.add_assoc,QJ];rfl),rfl,rfl,rfl,rfl,rfl,rfl,rfl,rfl,aU (a7 m0 m0),t7⟩ [] (by rw[hl,<- Nat.add_assoc,QJ,hs];simp) (Fp _ _ _ _ _ _ _) (Dc _ _ _ _ _)⟩
      ·rename_i h1 h2
       have hc:decide (x.valid.lo<(fJ b k).hi)=false:=by rw[ZB];exact hb
       have hs:=hsu k hk;rw[hc,aq7,arJ]at hs;have UU:∀ k'∈o.take (j+1),(fJ b k').lo<x.valid.hi:=by
        intro k' UY;rw[bR hk,arB]at UY;rcases UY with h|h
        ·exact XM k' h
        ·simp at h;subst h;rw[ZB];have:=of_decide_eq_false h2;omega
       exact⟨j+1,⟨m0,UU⟩,m0,fm_ ⟨rfl,rfl,(by rw[hs];rfl),rfl,rfl,rfl,rfl,rfl,rfl,rfl,rfl,aU (a7 m0 m0),t7⟩ [] (by rw[hs];simp) (Fp _ _ _ _ _ _ _) (Dc _ _ _ _ _)⟩
     ·have VM:j=o0.length:=m0
      subst VM
      repeat' (first|(refine cK [2] rfl rfl rfl rfl O4 rfl (rfP rfl (bY ⟨(by show 0<1;omega),t7,t7⟩)) rfl (jP rfl) ?_)|refine gw_ am tabS_ok ?_|refine gi_ (fun hb=>?_) (fun hb=>?_)|refine sW ?_|refine sH ?_|fail)
      have UP:=Uw fun k hk=>by rw[arY m0]at hk;cases hk
      rw[<- UP]at Qa;have Vm:(prK a b (i+1)).length=pr.length+ss.length:=by rw[Qa,ard,Vw]
      exact⟨i+1,m0,m0,fm_ ⟨rfl,rfl,(by rw[Vm];rfl),rfl,rfl,aU (a7 m0 m0),t7⟩ [_] (by rw[Vm,Qa];rfl) (wQ a b _ _ _ 0) (w8 _ _ _ _)⟩
   ·have Qo:i=a.length:=m0
    subst Qo;unfold OT;refine jK 2 8 (cs:=(prK a b a.length).map iq) rfl (afU _) rfl m5 ?_
    repeat' (first|refine gw_ am tabS_ok ?_|refine gi_ (fun hb=>?_) (fun hb=>?_)|fail)
    have hz:prK a b a.length=ef (fun x y:ap=>jm x.valid y.valid) b a 0:=by unfold prK;rw[List.take_length]
    rw[hz];refine⟨.inr rfl,?_⟩
    first|exact⟨t7,rfl⟩|exact⟨⟨t7,t7⟩,rfl⟩|(refine⟨?_,rfl⟩;repeat' (first|exact t7|rfl|apply And.intro))
def BH (rec:Ex->List Val->Option Val)(OV:Ex)(O3:(List Val)):Option (Int):=(rec OV O3).bind fun Pg=>(jL Pg).bind fun QN=>some QN
theorem abO {rec:Ex->List Val->Option Val}  (O_:∀ {x:Ex} {y:List Val} {r:Val},rec x y=some r->PTz 74 [.agg (tE x),.one (.lst (y.map cV))] (.val (.agg (cV r)))){OV:Ex}{O3:(List Val)}{r:Int}(H:BH rec OV O3=some r):PTz 90 [.agg (tE OV),.one (.lst (O3.map cV))] (.val (.one (.int .i64 r))):=by
 unfold BH at H;rw[ay OV];refine po_ Tryz.func90 Tryz.ntmps90 ?_;obtain⟨Pg,c1,H⟩:=bd_ H;replace c1:=O_ c1
 try simp only[ark,ari,arn,ara,ay]at c1
 exact az H
def pv (PN:(List Val)):(Int)->Option (Step (Int) (Val)):=fun s=>match s with
 |v_30=>bif (decide (v_30<((PN.length:Nat):Int)))then(aF PN v_30).bind fun TQ=>bif (decide (TQ.kind≠(0:Int)))then some (.ret TQ)else
 some (.next (i64.wrap (v_30+(1:Int))))else
 some (.exit v_30)
def lz:Sum (Int) (Val)->Option ((Val))
 |.inl v_30=>(ko ).bind fun Vn=>some Vn
 |.inr q=>some q
def oQ (OV:Ex)(O3:(List Val))(rec:Ex->List Val->Option Val):((List Val)×Int)->Option (Step ((List Val)×Int) (Val)):=fun s=>match s with
 |(PN,Rf)=>bif (decide (Rf<((OV.args.length:Nat):Int)))then(aF OV.args Rf).bind fun Vh=>(rec Vh O3).bind fun Rt=>bif (decide (0<=Rf))then(bif (decide (Rf<((OV.args.length:Nat):Int)))then(bif (decide ((0+Rf.toNat)<PN.length))then(some (.next ((PN.set (0+Rf.toNat) Rt),(i64.wrap (Rf+(1:Int))))))else none)else none)else none else
 some (.exit (PN,Rf))
def bz (OV:Ex):Sum ((List Val)×Int) (Val)->Option ((Val))
 |.inl (PN,Rf)=>bif (decide (PN.length=OV.args.length))then(bif (decide (OV.op=(4:Int)))then(mo OV.op PN).bind fun QZ=>some QZ else
 bif (decide (OV.op=(5:Int)))then(mo OV.op PN).bind fun Sr=>some Sr else
 bif (decide (OV.op=(6:Int)))then(mo OV.op PN).bind fun Td=>some Td else
 bif (decide (OV.op=(21:Int)))then(aF PN (0:Int)).bind fun ZC=>(rG (decide (ZC.kind=(0:Int)))).bind fun ZD=>some ZD else
 bif (decide (OV.op=(23:Int)))then(ao (pv PN) fuel (0:Int)).bind (lz)else
 bif (decide (OV.op=(24:Int)))then(rZ OV.int PN).bind fun Wj=>some Wj else
 bif (decide (OV.op=(19:Int)))then(su OV.op PN).bind fun ZE=>some ZE else
 bif (decide (OV.op=(20:Int)))then(su OV.op PN).bind fun Wl=>some Wl else
 bif (decide (OV.op=(13:Int)))then(kA OV.op PN).bind fun ZF=>some ZF else
 bif (decide (OV.op=(14:Int)))then(kA OV.op PN).bind fun Vo=>some Vo else
 bif (decide (OV.op=(15:Int)))then(kA OV.op PN).bind fun TU=>some TU else
 bif (decide (OV.op=(16:Int)))then(kA OV.op PN).bind fun ZG=>some ZG else
 bif (decide (OV.op=(17:Int)))then(kA OV.op PN).bind fun Wm=>some Wm else
 bif (decide (OV.op=(18:Int)))then(kA OV.op PN).bind fun ZH=>some ZH else
 (aF PN (0:Int)).bind fun ZI=>(aF PN (1:Int)).bind fun ZJ=>(j8 OV.op ZI ZJ).bind fun Wn=>(xt Wn).bind fun ZK=>some ZK)else none
 |.inr q=>some q
def yl (rec:Ex->List Val->Option Val)(OV:Ex)(O3:(List Val)):Option (Val):=(mS OV).bind fun Pg=>bif (!Pg)then(ko ).bind fun P4=>some P4 else
 bif (decide (OV.op=(1:Int)))then some OV.v else
 bif (decide (OV.op=(2:Int)))then(xy O3 OV.int).bind fun QK=>some QK else
 bif (decide (OV.op=(22:Int)))then(aF OV.args (0:Int)).bind fun UH=>(BH rec UH O3).bind fun SC=>bif (decide (SC=(2:Int)))then(aF OV.args (1:Int)).bind fun RY=>(rec RY O3).bind fun P7=>some P7 else
 (aF OV.args (2:Int)).bind fun S9=>(rec S9 O3).bind fun QO=>some QO else
 bif (decide (0<=((OV.args.length:Nat):Int)))then(bif (decide ((32:Int)*((OV.args.length:Nat):Int)<=281474976710656))then(bif (decide (((OV.args.length:Nat):Int)<=9223372036854775807))then((ao (oQ OV O3 rec) fuel ((List.replicate OV.args.length ((⟨(0:Int),(0:Int),ByteArray.empty⟩:Val))),(0:Int))).bind (bz OV))else none)else none)else none
theorem fL {p q:Prop}(k:q)(h:Bx q->p:=by
 intro hq
 repeat' (first|refine ci rfl rfl rfl rfl rfl (tK tab_ok (k:=3) (by_:=32) rfl rfl rfl m9 rfl rfl rfl rfl rfl m9 m0 m0 m0) ?_|refine Bd (enc:=cV) rfl rfl rfl rfl rfl m0 rfl (fun _=>rfl) rfl ?_|refine gs_ ?_|fail)
 exact hq.out):p:=h ⟨k⟩
theorem b9 {p:Prop}(h:p:=by
 repeat' (first|refine ci rfl rfl rfl rfl rfl (tK tab_ok (k:=3) (by_:=32) rfl rfl rfl m9 rfl rfl rfl rfl rfl m9 m0 m0 m0) ?_|refine Bd (enc:=cV) rfl rfl rfl rfl rfl m0 rfl (fun _=>rfl) rfl ?_|refine gs_ ?_|fail)
 refine a6 (bj rfl ?_ ?_)
 ·repeat' (first|exact t7|rfl|exact arh rfl|omega|apply And.intro)
 ·first|rfl|(simp only[ark,ari,arn,ara]<;>rfl)):p:=h
theorem agI {rec:Ex->List Val->Option Val}  (O_:∀ {x:Ex} {y:List Val} {r:Val},rec x y=some r->PTz 74 [.agg (tE x),.one (.lst (y.map cV))] (.val (.agg (cV r)))){OV:Ex}{O3:(List Val)}{r:Val}(H:yl rec OV O3=some r):PTz 74 [.agg (tE OV),.one (.lst (O3.map cV))] (.val (.agg (cV r))):=by
 unfold yl at H;rw[ay OV];refine po_ Tryz.func74 Tryz.ntmps74 ?_;obtain⟨Pg,c1,H⟩:=bd_ H;replace c1:=gFormed_ok c1
 try simp only[ark,ari,arn,ara,ay]at c1
 rcases aj H with⟨QG,H⟩|⟨QG,H⟩
 ·obtain⟨P4,c2,H⟩:=bd_ H
  replace c2:=gNull_ok c2
  cases H;exact b9
 rcases aj H with⟨Qk,H⟩|⟨Qk,H⟩
 ·cases H
  exact b9
 refine fL ?_;rcases aj H with⟨RD,H⟩|⟨RD,H⟩
 ·obtain⟨QK,c3,H⟩:=bd_ H
  replace c3:=gColumn_ok c3
  cases H;exact b9
 rcases aj H with⟨SO,H⟩|⟨SO,H⟩
 ·obtain⟨UH,Yc,i4,WO,H⟩:=bu (f:=tE) H
  simp only[ark,ari,arn,ara,ay]at WO;obtain⟨SC,c5,H⟩:=bd_ H;replace c5:=abO O_ c5
  try simp only[ark,ari,arn,ara,ay]at c5
  rcases aj H with⟨Ql,H⟩|⟨Ql,H⟩
  ·obtain⟨RY,i6z,i6,i6x,H⟩:=bu (f:=tE) H
   simp only[ark,ari,arn,ara,ay]at i6x;obtain⟨P7,c7,H⟩:=bd_ H;replace c7:=O_ c7
   try simp only[ark,ari,arn,ara,ay]at c7
   cases H;exact b9
  obtain⟨S9,i8z,i8,i8x,H⟩:=bu (f:=tE) H;simp only[ark,ari,arn,ara,ay]at i8x;obtain⟨QO,c9,H⟩:=bd_ H;replace c9:=O_ c9
  try simp only[ark,ari,arn,ara,ay]at c9
  cases H;exact b9
 obtain⟨g10,H⟩:=aK H;obtain⟨g11,H⟩:=aK H;obtain⟨g12,H⟩:=aK H;refine fL ?_;refine alM_ (fun s:(List Val)×Int=>match s with|(PN,Rf)=>[(1,.one (.c (.lst (O3.map cV)))),(2,.one (.ptr 0 0)),(4,.one (.ptr 1 0)),(5,.one (.sl 2 (33+65536) 0 OV.args.length)),(52,.one (.c (.lst (OV.args.map tE)))),(53,.one (.c (.int .i64 ((OV.args.length:Nat):Int)))),(54,.one (.c (.int .i64 Rf)))]) (fun s=>match s with|(PN,Rf)=>[.box [.c (.int .i64 OV.op),.c (.int .i64 OV.int),.c (.int .i64 OV.v.kind),.c (.int .i64 OV.v.int),.c (.str OV.v.text),.c (.str OV.nm),.c (.lst (OV.args.map tE))],.box [.c (.int .i64 (0:Int)),.c (.int .i64 (0:Int)),.c (.str ByteArray.empty)],.row (33+65536) ((PN.map cV).map (List.map SV.c)) 3]) H (fun _=>aru _)
  (fm_ bG [] (by simp only[List.map_replicate]<;>rfl) a8 ⟨gX r5,gX r5,jF _ _ _ _ _,t7⟩) ?_
 rintro⟨PN,Rf⟩ st1 OU PM;unfold oQ at OU;dsimp only at OU ⊢;rcases aj OU with⟨Vd,OU⟩|⟨Vd,OU⟩
 ·obtain⟨Vh,i13z,i13,i13x,OU⟩:=bu (f:=tE) OU
  simp only[ark,ari,arn,ara,ay]at i13x;obtain⟨Rt,Vy,OU⟩:=bd_ OU;replace Vy:=O_ Vy
  try simp only[ark,ari,arn,ara,ay]at Vy
  obtain⟨g15,OU⟩:=aK OU;obtain⟨g16,OU⟩:=aK OU;obtain⟨g17,OU⟩:=aK OU
  cases OU;refine fL ?_;exact⟨_,rfl,fm_ bG [_] rfl a8 ⟨gX r5,gX r5,jF _ _ _ _ _,t7⟩⟩
 cases OU;have O0:bz OV (.inl (PN,Rf))=some _:=PM;unfold bz at O0;dsimp only at O0;obtain⟨g18,O0⟩:=aK O0;have z19:((PN.map cV).drop 0).take OV.args.length=PN.map cV:=by rw[List.drop_zero,arP];rw[arj];omega
 refine qp 2 (cs:=PN.map cV) rfl (je _) ?_;simp only[ari,arn,thA,thS,and_self,if_true,eq_self,List.set,z19];refine fL ?_;rcases aj O0 with⟨TM,O0⟩|⟨TM,O0⟩
 ·obtain⟨QZ,ZL,O0⟩:=bd_ O0
  replace ZL:=gLogic_ok ZL
  cases O0;exact b9
 rcases aj O0 with⟨TV,O0⟩|⟨TV,O0⟩
 ·obtain⟨Sr,c21,O0⟩:=bd_ O0
  replace c21:=gLogic_ok c21
  cases O0;exact b9
 rcases aj O0 with⟨TR,O0⟩|⟨TR,O0⟩
 ·obtain⟨Td,ZM,O0⟩:=bd_ O0
  replace ZM:=gLogic_ok ZM
  cases O0;exact b9
 refine fL ?_;rcases aj O0 with⟨XN,O0⟩|⟨XN,O0⟩
 ·obtain⟨ZC,i23z,i23,i23x,O0⟩:=bu (f:=cV) O0
  obtain⟨ZD,c24,O0⟩:=bd_ O0;replace c24:=gBoolP_ok c24
  cases O0;exact b9
 rcases aj O0 with⟨q_29,O0⟩|⟨q_29,O0⟩
 ·refine fL ?_
  refine alM_ (fun s:Int=>match s with|v_30=>[(4,.one (.ptr 1 0)),(86,.one (.c (.lst (PN.map cV)))),(87,.one (.c (.int .i64 ((PN.length:Nat):Int)))),(88,.one (.c (.int .i64 v_30)))]) (fun s=>match s with|v_30=>[.box [.c (.int .i64 OV.op),.c (.int .i64 OV.int),.c (.int .i64 OV.v.kind),.c (.int .i64 OV.v.int),.c (.str OV.v.text),.c (.str OV.nm),.c (.lst (OV.args.map tE))],.box [.c (.int .i64 (0:Int)),.c (.int .i64 (0:Int)),.c (.str ByteArray.empty)],.dead]) O0 (fun _=>aru _)
   (fm_ bG [] rfl a8 cm) ?_
  rintro v_30 st2 Pl Tt;unfold pv at Pl;dsimp only at Pl ⊢;rcases aj Pl with⟨XO,Pl⟩|⟨XO,Pl⟩
  ·obtain⟨TQ,i25z,i25,i25x,Pl⟩:=bu (f:=cV) Pl
   refine fL ?_;rcases aj Pl with⟨XP,Pl⟩|⟨XP,Pl⟩
   ·cases Pl
    have P2:lz (.inr TQ)=some _:=Tt;unfold lz at P2;dsimp only at P2
    cases P2;exact b9
   cases Pl;refine fL ?_;exact⟨_,rfl,fm_ bG [_] rfl a8 cm⟩
  cases Pl;have P2:lz (.inl v_30)=some _:=Tt;unfold lz at P2;dsimp only at P2;obtain⟨Vn,Zc,P2⟩:=bd_ P2;replace Zc:=gNull_ok Zc
  cases P2;exact b9
 rcases aj O0 with⟨Xz,O0⟩|⟨Xz,O0⟩
 ·obtain⟨Wj,c27,O0⟩:=bd_ O0
  replace c27:=gRelated_ok c27
  cases O0;exact b9
 refine fL ?_;rcases aj O0 with⟨q_37,O0⟩|⟨q_37,O0⟩
 ·obtain⟨ZE,c28,O0⟩:=bd_ O0
  replace c28:=gTextE_ok c28
  cases O0;exact b9
 rcases aj O0 with⟨Vj,O0⟩|⟨Vj,O0⟩
 ·obtain⟨Wl,c29,O0⟩:=bd_ O0
  replace c29:=gTextE_ok c29
  cases O0;exact b9
 rcases aj O0 with⟨XC,O0⟩|⟨XC,O0⟩
 ·obtain⟨ZF,c30,O0⟩:=bd_ O0
  replace c30:=gArith_ok c30
  cases O0;exact b9
 refine fL ?_;rcases aj O0 with⟨q_43,O0⟩|⟨q_43,O0⟩
 ·obtain⟨Vo,c31,O0⟩:=bd_ O0
  replace c31:=gArith_ok c31
  cases O0;exact b9
 rcases aj O0 with⟨XE,O0⟩|⟨XE,O0⟩
 ·obtain⟨TU,c32,O0⟩:=bd_ O0
  replace c32:=gArith_ok c32
  cases O0;exact b9
 rcases aj O0 with⟨XF,O0⟩|⟨XF,O0⟩
 ·obtain⟨ZG,c33,O0⟩:=bd_ O0
  replace c33:=gArith_ok c33
  cases O0;exact b9
 refine fL ?_;rcases aj O0 with⟨q_49,O0⟩|⟨q_49,O0⟩
 ·obtain⟨Wm,c34,O0⟩:=bd_ O0
  replace c34:=gArith_ok c34
  cases O0;exact b9
 rcases aj O0 with⟨XG,O0⟩|⟨XG,O0⟩
 ·obtain⟨ZH,c35,O0⟩:=bd_ O0
  replace c35:=gArith_ok c35
  cases O0;exact b9
 obtain⟨ZI,i36z,i36,i36x,O0⟩:=bu (f:=cV) O0;obtain⟨ZJ,i37z,i37,i37x,O0⟩:=bu (f:=cV) O0;obtain⟨Wn,c38,O0⟩:=bd_ O0;replace c38:=gComparison_ok c38;obtain⟨ZK,c39,O0⟩:=bd_ O0;replace c39:=gOfV2_ok c39
 cases O0;exact b9
def sS:Nat->Ex->List Val->Option Val
 |0,_,_=>none
 |n+1,e,r=>yl (sS n) e r
theorem EB:∀ (n:Nat) {x:Ex} {y:List Val} {r:Val},sS n x y=some r->PTz 74 [.agg (tE x),.one (.lst (y.map cV))] (.val (.agg (cV r)))
 |0,_,_,_,h=>nomatch h
 |n+1,_,_,_,h=>agI (EB n) h
