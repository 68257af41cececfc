/- Parts. No condition. -/
import Derived.Test.YtnbnpnmkgemdeaaGreatDoorKAU
import Derived.Test.YtnbnpnmkgemdeaaGreatDoorKAV
import Derived.Test.YtnbnpnmkgemdeaaGreatDoorKAW
import Derived.Test.YtnbnpnmkgemdeaaGreatDoorKAR
set_option maxHeartbeats 8000000
set_option maxRecDepth 100000
set_option linter.unusedSimpArgs false
set_option linter.unusedVariables false
namespace Go.Proofs.YtnbnpnmkgemdeaaGreatDoor
open IntKind (i64)
open Go.RowKit Go.MapKept Tryz
def oN (rec:List (List Val)->List CB->Option (List (List Val)))(O5:(List (List Val)))(TM:(List CB)):Option ((List (List Val))):=bif (O5.length:Int)=(0:Int)then some []else
 bif (O5.length:Int)=(1:Int)then(al O5 (0:Int)).bind λRi=>bif Ri.length<=4398046511104 then(some [Ri])else none else
 bif (2:Int)≠0 then((gE O5 (0:Int) (i64.wrap ((O5.length:Int).tdiv (2:Int)))).bind λs_4=>(rec s_4 TM).bind λPM=>(gE O5 (i64.wrap ((O5.length:Int).tdiv (2:Int))) (O5.length:Int)).bind λs_6=>(rec s_6 TM).bind λQi=>(u7 PM Qi TM).bind λQN=>some QN)else none
theorem JB {rec:List (List Val)->List CB->Option (List (List Val))}  (Pq:∀ {x:List (List Val)} {y:List CB} {r:List (List Val)},rec x y=some r->PTz 55 [.one (.lst (x.map (λx=>[AC.lst (x.map cV)]))),.one (.lst (y.map A_))] (.val (.one (.lst (r.map (λx=>[AC.lst (x.map cV)])))))){O5:(List (List Val))}{TM:(List CB)}{r:(List (List Val))}(H:oN rec O5 TM=some r):PTz 55 [.one (.lst (O5.map (λx=>[AC.lst (x.map cV)]))),.one (.lst (TM.map A_))] (.val (.one (.lst (r.map (λx=>[AC.lst (x.map cV)]))))):=by
 unfold oN at H;refine po_ func55 ntmps55 ?_;obtain⟨PT,H⟩|⟨PT,H⟩:=ae H
 .cases H
  exact ao
 obtain⟨PP,H⟩|⟨PP,H⟩:=ae H
 .obtain⟨Ri,QV,i1,QI,H⟩:=aw (f:=(λx=>[AC.lst (x.map cV)])) H
  obtain⟨g2,H⟩:=aq H
  cases H;exact ao
 obtain⟨g3,H⟩:=aq H;obtain⟨s_4,u4,H⟩:=bd_ H;obtain⟨⟨u4a,u4b,u4c⟩,u4⟩:=cY u4;have u4x:=xT (f:=(λx=>[AC.lst (x.map cV)])) u4;obtain⟨PM,c5,H⟩:=bd_ H;replace c5:=Pq c5;obtain⟨s_6,u6,H⟩:=bd_ H;obtain⟨⟨u6a,u6b,u6c⟩,u6⟩:=cY u6;have u6x:=xT (f:=(λx=>[AC.lst (x.map cV)])) u6;obtain⟨Qi,c7,H⟩:=bd_ H;replace c7:=Pq c7;obtain⟨QN,c8,H⟩:=bd_ H;replace c8:=Kt c8
 cases H
 repeat' (first|refine gs_ ?_|rw[u4x]|rw[u6x]|rw[show((0:Nat):Int)=0 from rfl])
 refine az (aE rfl ?_ ?_)
 .repeat' (first|exact t7|rfl|exact ah1 rfl|omega|apply And.intro)
 .first|rfl|(simp only[ah4,ah2,ah6,ahW]<;>rfl)
def wm:Nat->List (List Val)->List CB->Option (List (List Val))
 |0,_,_=>none
 |n+1,a,b=>oN (wm n) a b
theorem Df:∀ (n:Nat) {x:List (List Val)} {y:List CB} {r:List (List Val)},wm n x y=some r->PTz 55 [.one (.lst (x.map (λx=>[AC.lst (x.map cV)]))),.one (.lst (y.map A_))] (.val (.one (.lst (r.map (λx=>[AC.lst (x.map cV)])))))
 |0,_,_,_,h=>nomatch h
 |n+1,_,_,_,h=>JB (Df n) h
def fM (O5:(List (List Val))):Option ((List (List Val))):=(wm 701 O5 ([]:(List CB))).bind λPh=>some Ph
theorem da {O5:(List (List Val))}{r:(List (List Val))}(H:fM O5=some r):PTz 28 [.one (.lst (O5.map (λx=>[AC.lst (x.map cV)])))] (.val (.one (.lst (r.map (λx=>[AC.lst (x.map cV)]))))):=by
 unfold fM at H;refine po_ func28 ntmps28 ?_;obtain⟨Ph,c1,H⟩:=bd_ H;replace c1:=Df 701 c1
 try simp only[ah4,ah2,ah6,ahW,ay,aD]at c1
 cases H;exact ao
theorem Ii (x y:List Val)(hx:x.length<=1000000)(hy:y.length<=1000000):rW x y []=some (decide (aX x y<0)):=by
 unfold rW;rw[bP (l:=([]:List CB)) (mk:=λ(_:Unit) i=>i) (f:=λ(_:Unit) (_:CB)=>(none:Option (Sum Unit Bool))) ?_ ?_ (by unfold fuel;simp) ()]
 .show gm x y (.inl ((([]:List CB).length:Nat):Int))=_
  unfold gm;rw[ni x y m0 m0];rfl
 .intro s i x hx;simp at hx
 .intro s
  unfold sV;dsimp only;rw[lF_,ahS]
def leV (x y:List Val):Bool := !decide (aX y x<0)
theorem lR (x y:List Val):leV x y=true↔aX x y<=0:=by
 unfold leV;have:=tCr_.anti x y;have:=tCr_.anti y x;simp;omega
theorem ou {a b:List (List Val)}(ha:a.length<=1000000)(hb:b.length<=1000000)(Zn:∀ r∈a,r.length<=1000000)(Zo:∀ r∈b,r.length<=1000000):∀ (n i k:Nat) (out:List (List Val)),i<=a.length->k<=b.length->out.length=i+k->(a.length-i)+(b.length-k)<n->(af (cU a b []) n (out,(i:Int),(k:Int))).bind ov=some (out++List.merge (a.drop i) (b.drop k) leV)
 |0,_,_,_,_,_,_,h=>by omega
 |n+1,i,k,out,h1,h2,ho,hn=>by
  have hg:decide (out.length+1<=5864062014805)=true:=ahV m0;rw[af];by_cases O8:i<a.length
  .obtain⟨x,hx⟩:=gol_ O8
   have ex:=(ahR.1 hx).2;have PE:decide ((i:Int)=(a.length:Int))=false:=ahU m0;have ihA:=ou ha hb Zn Zo n (i+1) k (out++[x]) m0 m0 m8 m0;by_cases Wj:k<b.length
   .obtain⟨y,hy⟩:=gol_ Wj
    have ey:=(ahR.1 hy).2;have ihB:=ou ha hb Zn Zo n i (k+1) (out++[y]) m0 m0 m8 m0;have eb:cU a b [] (out,(i:Int),(k:Int))=bif decide (aX y x<0)then some (.next (out++[y],(i:Int),((k+1:Nat):Int)))else some (.next (out++[x],((i+1:Nat):Int),(k:Int))):=by
     unfold cU;dsimp only;rw[aG hx,ahT,PE,ahS,aG hy,ahT,gn_ hy,gn_ hx];simp only[ahQ];rw[Ii y x (Zo y (ahX hy)) (Zn x (ahX hx)),wrapN m0,wrapN m0,hg];rfl
    rw[eb,ail O8,ail Wj,ex,ey,List.cons_merge_cons];rw[ail Wj,ey]at ihA;rw[ail O8,ex]at ihB;by_cases hc:aX y x<0
    .rw[show decide (aX y x<0)=true from ahV hc,ahT,if_neg (by unfold leV;simp[hc])]
     dsimp only;rw[ihB];simp
    .rw[show decide (aX y x<0)=false from ahU hc,ahS,if_pos (by unfold leV;simp[hc])]
     dsimp only;rw[ihA];simp
   .have hk:k=b.length:=m0
    have eb:cU a b [] (out,(i:Int),(k:Int))=some (.next (out++[x],((i+1:Nat):Int),(k:Int))):=by
     unfold cU;dsimp only;rw[aG hx,ahT,PE,ahS,hk,lF_,ahS,gn_ hx];simp only[ahQ];rw[wrapN m0,hg];rfl
    rw[eb];dsimp only;rw[ihA,ail O8,ex,hk,aiG,List.merge_right,List.merge_right];simp
  .have hi:i=a.length:=m0
   subst hi;by_cases Wj:k<b.length
   .obtain⟨y,hy⟩:=gol_ Wj
    have ey:=(ahR.1 hy).2;have ihB:=ou ha hb Zn Zo n a.length (k+1) (out++[y]) m0 m0 m8 m0;have eb:cU a b [] (out,(a.length:Int),(k:Int))=some (.next (out++[y],(a.length:Int),((k+1:Nat):Int))):=by
     unfold cU;dsimp only;rw[lF_,ahS,aG hy,ahT,show decide ((a.length:Int)=(a.length:Int))=true from ahV rfl,ahT,gn_ hy];simp only[ahQ];rw[wrapN m0,hg];rfl
    rw[eb];dsimp only;rw[ihB,ail Wj,ey,aiG,List.nil_merge,List.nil_merge];simp
   .have hk:k=b.length:=m0
    subst hk;have eb:cU a b [] (out,(a.length:Int),(b.length:Int))=some (.exit (out,(a.length:Int),(b.length:Int))):=by
     unfold cU;dsimp only;rw[lF_,ahS,lF_,ahS]
    rw[eb,aiG,aiG,List.nil_merge,aio];rfl
theorem Jm {a b:List (List Val)}(ha:a.length<=1000000)(hb:b.length<=1000000)(Zn:∀ r∈a,r.length<=1000000)(Zo:∀ r∈b,r.length<=1000000):u7 a b []=some (List.merge a b leV):=by
 unfold u7;have:=ou ha hb Zn Zo fuel 0 0 [] (aia _) (aia _) rfl (by unfold fuel;omega);rw[show(((0:Nat):Int))=0 from rfl]at this;rw[this];simp
theorem Oh {a b:List (List Val)}(ha:Asc aX a)(hb:Asc aX b):Asc aX (List.merge a b leV):=by
 have:=List.pairwise_merge (le:=leV) (λx y z h1 h2=>(lR x z).2 (tCr_.le_trans ((lR x y).1 h1) ((lR y z).1 h2))) (λx y=>by
  rw[Bool.or_eq_true,lR,lR];exact tCr_.total x y) a b (ha.imp λh=>(lR _ _).2 h) (hb.imp λh=>(lR _ _).2 h)
 exact this.imp λh=>(lR _ _).1 h
theorem M4:∀ (n:Nat) (l:List (List Val)),l.length<=n->l.length<=1000000->(∀ r∈l,r.length<=1000000) ->∃ r,wm (n+1) l []=some r/\Asc aX r/\r.Perm l:=by
 intro n
 induction n with
 |zero =>
  intro l h _ _;have:l=[]:=by cases l with|nil=>rfl|cons _ _=>simp at h
  subst this;exact⟨[],rfl,List.Pairwise.nil,List.Perm.refl _⟩
 |succ n ih =>
  intro l h hl hr
  match l,h,hl,hr with
  |[],_,_,_=>exact⟨[],rfl,List.Pairwise.nil,List.Perm.refl _⟩
  |[x],_,_,hr =>
   have hx:=hr x m5;refine⟨[x],?_,by simp[Asc],List.Perm.refl _⟩;show oN (wm (n+1)) [x] []=_;unfold oN;simp only[aib,aik];rw[show al [x] 0=some x from rfl];simp only[ahQ];rw[show decide (x.length<=4398046511104)=true from ahV m0];rfl
  |x::y::t,h,hl,hr =>
   generalize hL:x::y::t=l at h hl hr;have h2:2<=l.length:=by rw[<- hL];simp
   have hm:i64.wrap ((l.length:Int).tdiv (2:Int))=((l.length/2:Nat):Int):=by
    rw[show(l.length:Int).tdiv 2=((l.length/2:Nat):Int)from rfl];exact a8 m0 m0
   have s1:gE l 0 ((l.length/2:Nat):Int)=some (l.take (l.length/2)):=by
    unfold gE;rw[if_pos m0,Int.toNat_natCast];rfl
   have s2:gE l ((l.length/2:Nat):Int) (l.length:Int)=some (l.drop (l.length/2)):=by
    unfold gE;rw[if_pos m0,Int.toNat_natCast,Int.toNat_natCast,List.take_length]
   obtain⟨r1,e1,a1,p1⟩:=ih (l.take (l.length/2)) m8 m8 λr Ui=>hr r (List.mem_of_mem_take Ui)
   obtain⟨r2,e2,a2,p2⟩:=ih (l.drop (l.length/2)) m8 m8 λr Ui=>hr r (List.mem_of_mem_drop Ui)
   refine⟨List.merge r1 r2 leV,?_,Oh a1 a2,?_⟩
   .show oN (wm (n+1)) l []=_
    unfold oN;rw[show decide ((l.length:Int)=0)=false from ahU m0,ahS,show decide ((l.length:Int)=1)=false from ahU m0,ahS,show decide ((2:Int)≠0)=true from rfl,ahT,hm,s1,s2];simp only[ahQ];rw[e1,e2];simp only[ahQ];rw[Jm (by rw[p1.length_eq];simp;omega) (by rw[p2.length_eq];simp;omega) (λr Ui=>hr r (List.mem_of_mem_take (p1.mem_iff.1 Ui))) (λr Ui=>hr r (List.mem_of_mem_drop (p2.mem_iff.1 Ui)))];rfl
   .refine(List.merge_perm_append leV).trans ((p1.append p2).trans ?_)
    rw[aiz]
theorem dI (l:List (List Val))(hl:l.length<=700)(hr:∀ r∈l,r.length<=1000000):fM l=some (aH l):=by
 obtain⟨r,e,a,p⟩:=M4 700 l hl m0 hr;unfold fM;rw[e,vw a p];rfl
def iw (n:Int):Val:=if -1125899906842624<=n/\n<=1125899906842624 then⟨1,n,ByteArray.empty⟩else⟨0,0,ByteArray.empty⟩
theorem t8 (n:Int):iC n=some (iw n):=by
 unfold iC nQ cJ cq iw;have e:(ByteArray.empty.toList==(⟨#[]⟩:ByteArray).toList)=true:=by rw[ByteArray.toList_eq,ByteArray.toList_eq];rfl
 dsimp only;rw[e,show decide ((1:Int)=0)=false from rfl,show decide ((1:Int)=1)=true from rfl];by_cases h1 : -1125899906842624<=n
 .by_cases h2:n<=1125899906842624
  .simp[h1,h2]
  .simp[h1,h2]
 .simp[h1]
theorem sH {s:ByteArray}(hs:s.size<=1000000):∀ (n i:Nat),i<=s.size->s.size-i<n ->∃ r,(af (jb s) n (i:Int)).bind cM=some r
 |0,_,_,h=>by omega
 |n+1,i,h1,hn=>by
  rw[af];unfold jb;dsimp only;by_cases O8:i<s.size
  .rw[show decide ((i:Int)<(s.size:Int))=true from ahV m0,ahT]
   obtain⟨b,hb⟩:∃ b,NE s (i:Int)=some b:=by
    unfold NE;rw[if_pos m0];exact⟨s[i],by simp[O8]⟩
   rw[hb];simp only[ahQ]
   cases decide ((b.toNat:Int)<32)with
   |true=>exact⟨_,rfl⟩
   |false =>
    cases decide ((126:Int)<(b.toNat:Int))with
    |true=>exact⟨_,rfl⟩
    |false =>
     simp only[ahS];rw[wrapN m0];exact sH hs n (i+1) m0 m0
  .rw[show decide ((i:Int)<(s.size:Int))=false from ahU m0,ahS]
   exact⟨_,rfl⟩
theorem CC {s:ByteArray}(hs:s.size<=1000000):∃ r,kK s=some r:=by
 have:=sH hs fuel 0 (aia _) (by unfold fuel;omega);rw[show(((0:Nat):Int))=0 from rfl]at this;exact this
theorem AE (v:Val):∃ r,cJ v=some r:=by
 unfold cJ
 cases decide (v.kind=0)with
 |true=>cases decide (v.int=0)<;>exact⟨_,rfl⟩
 |false =>
  cases decide (v.kind=1)with
  |true=>cases (v.text.toList==(⟨#[]⟩:ByteArray).toList)<;>cases decide ((-1125899906842624:Int)<=v.int)<;>exact⟨_,rfl⟩
  |false =>
   cases decide (v.kind=2)with
   |true =>
    cases decide (v.int=0)with
    |false=>exact⟨_,rfl⟩
    |true =>
     by_cases h:(v.text.size:Int)<=200
     .obtain⟨r,hr⟩:=CC (s:=v.text) m0
      rw[show decide ((v.text.size:Int)<=200)=true from ahV h,hr];exact⟨_,rfl⟩
     .rw[show decide ((v.text.size:Int)<=200)=false from ahU h]
      exact⟨_,rfl⟩
   |false =>
    cases decide (v.kind=3)with
    |true=>cases (v.text.toList==(⟨#[]⟩:ByteArray).toList)<;>cases decide (v.int=0)<;>exact⟨_,rfl⟩
    |false=>exact⟨_,rfl⟩
theorem C7 (row:List Val)(kinds:List Int)(h:row.length<=1000000):∃ r,fK row kinds=some r:=by
 unfold fK;by_cases he:row.length=kinds.length
 .rw[show decide ((row.length:Int)≠(kinds.length:Int))=false from ahU m0,ahS]
  have hz:(row.zip kinds).length=row.length:=by simp;omega
  have k:=bP (l:=row.zip kinds) (body:=dH row kinds) (mk:=λ(_:Unit) i=>i) (f:=λ(_:Unit) (x:Val×Int)=>(cJ x.1).bind λr=>bif (!r)then some (.inr false)else bif decide (x.1.kind≠0)then bif decide (x.1.kind≠x.2)then some (.inr false)else some (.inl ())else some (.inl ())) ?_ ?_ (by unfold fuel;omega) ()
  .obtain⟨r,hr⟩:=FQ (σ:=Unit) (ρ:=Bool) (f:=λ(_:Unit) (x:Val×Int)=>(cJ x.1).bind λr=>bif (!r)then some (.inr false)else bif decide (x.1.kind≠0)then bif decide (x.1.kind≠x.2)then some (.inr false)else some (.inl ())else some (.inl ())) (row.zip kinds) () (by
    intro s x _;obtain⟨r,hr⟩:=AE x.1;rw[hr]
    cases r<;>cases decide (x.1.kind≠0)<;>cases decide (x.1.kind≠x.2)<;>exact⟨_,rfl⟩)
   rw[k,hr]
   cases r with
   |inl _=>exact⟨_,rfl⟩
   |inr _=>exact⟨_,rfl⟩
  .intro s i x hx
   obtain⟨h1,h2⟩:=List.getElem?_zip_eq_some.1 hx;have hi:i<row.length:=(ahR.1 h1).1;unfold dH;dsimp only;rw[aG h1,ahT,gn_ h1,gn_ h2];simp only[ahQ];rw[wrapN m0]
   cases cJ x.1 with
   |none=>rfl
   |some r=>cases r<;>cases decide (x.1.kind≠0)<;>cases decide (x.1.kind≠x.2)<;>rfl
  .intro s
   unfold dH;dsimp only;rw[hz,lF_,ahS]
 .rw[show decide ((row.length:Int)≠(kinds.length:Int))=true from ahV m0]
  exact⟨_,rfl⟩
theorem abU (k:Int):∃ r,pM k=some r:=by
 unfold pM
 cases decide (k=1)<;>cases decide (k=2)<;>exact⟨_,rfl⟩
theorem Dt (l:List Int)(h:l.length<=1000000):∃ r,kL l=some r:=by
 unfold kL;have k:=bP (l:=l) (body:=dK l) (mk:=λ(_:Unit) i=>i) (f:=λ(_:Unit) (x:Int)=>(pM x).bind λr=>bif (!r)then some (.inr false)else some (.inl ())) ?_ ?_ (by unfold fuel;omega) ()
 .obtain⟨r,hr⟩:=FQ (σ:=Unit) (ρ:=Bool) (f:=λ(_:Unit) (x:Int)=>(pM x).bind λr=>bif (!r)then some (.inr false)else some (.inl ())) l () (by
   intro s x _;obtain⟨r,hr⟩:=abU x;rw[hr]
   cases r<;>exact⟨_,rfl⟩)
  rw[k,hr]
  cases r with
  |inl _=>exact⟨_,rfl⟩
  |inr _=>exact⟨_,rfl⟩
 .intro s i x hx
  have hi:i<l.length:=(ahR.1 hx).1;unfold dK;dsimp only;rw[aG hx,ahT,gn_ hx];simp only[ahQ];rw[wrapN m0]
  cases pM x with
  |none=>rfl
  |some r=>cases r<;>rfl
 .intro s
  unfold dK;dsimp only;rw[lF_,ahS]
theorem xR (l:List Int)(h:l.length<=1000000):dE l l=some true:=by
 unfold dE;simp only[ne_eq,not_true_eq_false,decide_false,ahS];rw[bP (l:=l) (mk:=λ(_:Unit) i=>i) (f:=λ(_:Unit) (_:Int)=>(some (.inl ()):Option (Sum Unit Bool))) ?_ ?_ (by unfold fuel;omega) ()]
 .have:∀ l:List Int,cb (λ(_:Unit) (_:Int)=>(some (.inl ()):Option (Sum Unit Bool))) () l=some (.inl ()):=by
   intro l
   induction l with
   |nil=>rfl
   |cons x l ih=>rw[cb];exact ih
  rw[this];rfl
 .intro s i x hx
  have hi:i<l.length:=(ahR.1 hx).1;unfold bS;dsimp only;rw[aG hx,ahT,gn_ hx];simp only[ahQ];rw[wrapN m0];simp[mT]
 .intro s
  unfold bS;dsimp only;rw[lF_,ahS]
theorem Bw (l:List (List Val))(h:l.length<=1000000)(hr:∀ r∈l,r.length<=1000000):iK l l=some true:=by
 unfold iK;simp only[ne_eq,not_true_eq_false,decide_false,ahS];rw[bP (l:=l) (mk:=λ(_:Unit) i=>i) (f:=λ(_:Unit) (x:List Val)=>((em x x).bind λr=>bif (!r)then some (.inr false)else some (.inl ()):Option (Sum Unit Bool))) ?_ ?_ (by unfold fuel;omega) ()]
 .have:∀ l:List (List Val),(∀ r∈l,r.length<=1000000)->cb (λ(_:Unit) (x:List Val)=>((em x x).bind λr=>bif (!r)then some (.inr false)else some (.inl ()):Option (Sum Unit Bool))) () l=some (.inl ()):=by
   intro l
   induction l with
   |nil=>intro _;rfl
   |cons x l ih =>
    intro hr;have hx:=hr x (List.mem_cons_self ..);have e:em x x=some true:=by
     unfold em;rw[ni x x m0 m0,tCr_.refl];rfl
    rw[cb,e];exact ih λr Ui=>hr r (aid _ Ui)
  rw[this l hr];rfl
 .intro s i x hx
  have hi:i<l.length:=(ahR.1 hx).1;unfold fD;dsimp only;rw[aG hx,ahT,gn_ hx];simp only[ahQ];rw[wrapN m0]
  cases em x x with
  |none=>rfl
  |some r=>cases r<;>rfl
 .intro s
  unfold fD;dsimp only;rw[lF_,ahS]
theorem mc (b:aJ)(h1:b.kinds.length<=1000000)(h2:b.rows.length<=1000000)(h3:∀ r∈b.rows,r.length<=1000000):kY b b=some true:=by
 unfold kY;rw[xR _ h1];simp only[ahQ,ahT];rw[Bw _ h2 h3];rfl
def ltV (a b:List Val):Bool:=decide (aX a b<0)
theorem afG:tV ltV (λx:List Val=>x.length<=1000000):=by
 refine⟨λx _=>?_,λx y z _ _ _ h1 h2=>?_,λx y _ _ h1 h2=>?_⟩
 .unfold ltV
  rw[tCr_.refl];rfl
 .exact ahV (tCr_.trans _ _ _ (aii h1) (aii h2))
 .have h1:¬ aX x y<0:=of_decide_eq_false h1
  have h2:¬ aX y x<0:=of_decide_eq_false h2;refine tCr_.zero _ _ ?_;have:=tCr_.anti x y;have:=tCr_.anti y x;omega
theorem adM:kM z_ ltV (λx:List Val=>x.length<=1000000):=λx y hx hy=>⟨_,aa2 x y (Nat.le_trans hx m0) (Nat.le_trans hy m0),rfl⟩
theorem abO {l:List (List Val)}(hl:l.length<=100000000)(hr:∀ x∈l,x.length<=1000000):uq l.length l z_=some (aH l):=by
 obtain⟨r,h1,h2,h3⟩:=Jr afG adM hl hr rfl;rw[h1,vw (r:=r) (h2.imp λ{a b} h=>?_) h3];have h:¬ aX b a<0:=of_decide_eq_false h;have:=tCr_.anti a b;have:=tCr_.anti b a;omega
def wq (l:List (List Val)):Bool:=decide (l.length<=700)&&l.all λr => !r.isEmpty&&decide (r.length<=1000000)
theorem N1 {l:List (List Val)}(h:wq l=true):l.length<=700 /\ ∀ r∈l,r≠[]/\r.length<=1000000:=by
 unfold wq at h;rw[ah9,aiB]at h;refine⟨aii h.1,λr hr=>?_⟩;have:=h.2 r hr;rw[ah9]at this;refine⟨?_,aii this.2⟩;rintro rfl;exact absurd this.1 m9
theorem rZ {l:List (List Val)}(h:l.length<=700)(hr:∀ r∈l,r≠[]/\r.length<=1000000):wq l=true:=by
 unfold wq;rw[ah9,aiB];refine⟨ahV h,λr hx=>?_⟩;rw[ah9];refine⟨?_,ahV (hr r hx).2⟩
 cases r with
 |nil=>exact absurd rfl (hr [] hx).1
 |cons=>rfl
def nC (l:List (List Val)):Option (List (List Val)):=bif wq l then some (aH l)else none
theorem NA {rec:Nat->List (List Val)->Int->Int->Int->((List Val)->(List Val)->Option Int)->Option (List (List Val))}{n:Nat}  (Pq:∀ {n:Nat} {X:List (List Val)} {a m b:Int} {cmp:(List Val)->(List Val)->Option Int} {v:Nat} {zr:FuncId} {zc:List AC} (zj:∀ (y0:(List Val)) (y1:(List Val)) (r:Int),cmp y0 y1=some r->PTz zr ([.one (.lst (y0.map cV)),.one (.lst (y1.map cV))]++zc.map .one) (.val (.one (.int .i64 r)))) {r:List (List Val)},rec n X a m b cmp=some r->RTz 202 [cc (λx=>[AC.lst (x.map cV)]) 1 v X] [.one (.sl 0 v 0 n),.one (.c (.int .i64 a)),.one (.c (.int .i64 m)),.one (.c (.int .i64 b)),.one (.c (.fn zr zc))] [cc (λx=>[AC.lst (x.map cV)]) 1 v r] (.tup [])){zd:(List (List Val))}{O7:Int}{RD:Int}{O4:Int}{a_cmp:(List Val)->(List Val)->Option (Int)}{v:Nat}{r:List (List Val)}{zr:FuncId}{zc:List AC}(zj:∀ (y0:(List Val)) (y1:(List Val)) (r:Int),a_cmp y0 y1=some r->PTz zr ([.one (.lst (y0.map cV)),.one (.lst (y1.map cV))]++zc.map .one) (.val (.one (.int .i64 r))))(H:oV rec n zd O7 RD O4 a_cmp=some r):RTz 202 [cc (λx=>[AC.lst (x.map cV)]) 1 v zd] [.one (.sl 0 v 0 n),.one (.c (.int .i64 O7)),.one (.c (.int .i64 RD)),.one (.c (.int .i64 O4)),.one (.c (.fn zr zc))] [cc (λx=>[AC.lst (x.map cV)]) 1 v r] (.tup []):=by
 rcases Wl:(decide ((i64.wrap (RD-O7))=(1:Int)))with _|_
 .rcases VN:(decide ((i64.wrap (O4-RD))=(1:Int)))with _|_
  .rcases Vn:(decide ((bL (i64.wrap (O7+O4)))<RD))with _|_
   .exact Ko Pq zj Wl VN Vn H
   .exact JO Pq zj Wl VN Vn H
  .exact JK Pq zj Wl VN H
 .exact Jv Pq zj Wl H
theorem BB:∀ (q:Nat) {n:Nat} {X:List (List Val)} {a m b:Int} {cmp:(List Val)->(List Val)->Option Int} {v:Nat} {zr:FuncId} {zc:List AC} (zj:∀ (y0:(List Val)) (y1:(List Val)) (r:Int),cmp y0 y1=some r->PTz zr ([.one (.lst (y0.map cV)),.one (.lst (y1.map cV))]++zc.map .one) (.val (.one (.int .i64 r)))) {r:List (List Val)},yu q n X a m b cmp=some r->RTz 202 [cc (λx=>[AC.lst (x.map cV)]) 1 v X] [.one (.sl 0 v 0 n),.one (.c (.int .i64 a)),.one (.c (.int .i64 m)),.one (.c (.int .i64 b)),.one (.c (.fn zr zc))] [cc (λx=>[AC.lst (x.map cV)]) 1 v r] (.tup [])
 |0,_,_,_,_,_,_,_,_,_,_,_,h=>nomatch h
 |q+1,_,_,_,_,_,_,_,_,_,hf,_,h=>NA (BB q) hf h
theorem Iq {n:Nat}  {zd:(List (List Val))}{QC:Int}{a_cmp:(List Val)->(List Val)->Option (Int)}{v:Nat}{r:List (List Val)}{zr:FuncId}{zc:List AC}(zj:∀ (y0:(List Val)) (y1:(List Val)) (r:Int),a_cmp y0 y1=some r->PTz zr ([.one (.lst (y0.map cV)),.one (.lst (y1.map cV))]++zc.map .one) (.val (.one (.int .i64 r))))(H:vo n zd QC a_cmp=some r):RTz 150 [cc (λx=>[AC.lst (x.map cV)]) 1 v zd] [.one (.sl 0 v 0 n),.one (.c (.int .i64 QC)),.one (.c (.fn zr zc))] [cc (λx=>[AC.lst (x.map cV)]) 1 v r] (.tup []):=by
 unfold vo at H;refine bB aj func150 rfl rfl ntmps150 m5 ?_;simp only[gp];refine sg ?_;refine alM_ (λs:(List (List Val))×Int×Int=>match s with|(Qx,a_2,Wi)=>[(0,.one (.sl 0 v 0 n)),(1,.one (.c (.int .i64 QC))),(2,.one (.c (.fn zr zc))),(6,.one (.c (.int .i64 (20:Int)))),(7,.one (.c (.int .i64 a_2))),(8,.one (.c (.int .i64 Wi)))]) (λs=>match s with|(Qx,a_2,Wi)=>[cc (λx=>[AC.lst (x.map cV)]) 1 v Qx]) H (λ_=>ah7 _)
  (fm_ bg [] rfl aQ ⟨aM _ _ _ _ _,t7⟩) ?_
 rintro⟨Qx,a_2,Wi⟩ Qr OZ Po;unfold gf at OZ;dsimp only at OZ ⊢;obtain⟨P1,OZ⟩|⟨P1,OZ⟩:=ae OZ
 .obtain⟨Vr,c1,OZ⟩:=bd_ OZ
  replace c1:=uA (v:=v) (zc:=zc) zj c1
  cases OZ;refine sg ?_;exact⟨_,rfl,fm_ bg [] rfl aQ ⟨aM _ _ _ _ _,t7⟩⟩
 cases OZ;have O0:n7 QC a_cmp n (.inl (Qx,a_2,Wi))=some _:=Po;unfold n7 at O0;dsimp only at O0;obtain⟨c_6,c2,O0⟩:=bd_ O0;replace c2:=uA (v:=v) (zc:=zc) zj c2;refine sg ?_;refine alM_ (λs:(List (List Val))×Int=>match s with|(Z1,QH)=>[(0,.one (.sl 0 v 0 n)),(1,.one (.c (.int .i64 QC))),(2,.one (.c (.fn zr zc))),(6,.one (.c (.int .i64 QH)))]) (λs=>match s with|(Z1,QH)=>[cc (λx=>[AC.lst (x.map cV)]) 1 v Z1]) O0 (λ_=>ah7 _)
  (fm_ bg [] rfl aQ ⟨aM _ _ _ _ _,t7⟩) ?_
 rintro⟨Z1,QH⟩ Zk Py VD;unfold gD at Py;dsimp only at Py ⊢;obtain⟨Q5,Py⟩|⟨Q5,Py⟩:=ae Py
 .refine sg ?_
  refine alM_ (λs:(List (List Val))×Int×Int=>match s with|(XQ,XR,XS)=>[(0,.one (.sl 0 v 0 n)),(1,.one (.c (.int .i64 QC))),(2,.one (.c (.fn zr zc))),(6,.one (.c (.int .i64 QH))),(7,.one (.c (.int .i64 XR))),(8,.one (.c (.int .i64 XS)))]) (λs=>match s with|(XQ,XR,XS)=>[cc (λx=>[AC.lst (x.map cV)]) 1 v XQ]) Py (λ_=>ah7 _)
   (fm_ bg [] rfl aQ ⟨aM _ _ _ _ _,t7⟩) ?_
  rintro⟨XQ,XR,XS⟩ st5 RV hk5;unfold gl at RV;dsimp only at RV ⊢;obtain⟨P2,RV⟩|⟨P2,RV⟩:=ae RV
  .obtain⟨c_14,c3,RV⟩:=bd_ RV
   replace c3:=BB fuel (v:=v) (zc:=zc) zj c3
   cases RV;refine sg ?_;exact⟨_,rfl,fm_ bg [] rfl aQ ⟨aM _ _ _ _ _,t7⟩⟩
  cases RV;have PD:oq QC a_cmp n QH (.inl (XQ,XR,XS))=some _:=hk5;unfold oq at PD;dsimp only at PD;obtain⟨QJ,PD⟩|⟨QJ,PD⟩:=ae PD
  .obtain⟨c_16,c4,PD⟩:=bd_ PD
   replace c4:=BB fuel (v:=v) (zc:=zc) zj c4
   cases PD;refine sg ?_;exact⟨_,rfl,fm_ bg [] rfl aQ ⟨aM _ _ _ _ _,t7⟩⟩
  cases PD;refine sg ?_;exact⟨_,rfl,fm_ bg [] rfl aQ ⟨aM _ _ _ _ _,t7⟩⟩
 cases Py;have Qc:tL (.inl (Z1,QH))=some _:=VD;unfold tL at Qc;dsimp only at Qc
 cases Qc;exact gX
theorem HI {n:Nat}  {a_x:(List (List Val))}{a_cmp:(List Val)->(List Val)->Option (Int)}{v:Nat}{r:List (List Val)}{zr:FuncId}{zc:List AC}(zj:∀ (y0:(List Val)) (y1:(List Val)) (r:Int),a_cmp y0 y1=some r->PTz zr ([.one (.lst (y0.map cV)),.one (.lst (y1.map cV))]++zc.map .one) (.val (.one (.int .i64 r))))(H:uq n a_x a_cmp=some r):RTz 106 [cc (λx=>[AC.lst (x.map cV)]) 1 v a_x] [.one (.sl 0 v 0 n),.one (.c (.fn zr zc))] [cc (λx=>[AC.lst (x.map cV)]) 1 v r] (.tup []):=by
 unfold uq at H;refine bB aj func106 rfl rfl ntmps106 m5 ?_;simp only[gp];obtain⟨Qx,c1,H⟩:=bd_ H;replace c1:=Iq (v:=v) (zc:=zc) zj c1
 cases H;exact gX
theorem aab (v:Nat)(X:List (List Val)):cc (λx=>[AC.lst (x.map cV)]) 1 v X = .row v ((X.map bD).map gC) 1:=by
 unfold cc;rw[List.map_map,List.map_map];rfl
theorem NK (v:Nat){X:List (List Val)}{n:Nat}(hn:X.length=n)(hl:n<=100000000)(hr:∀ x∈X,x.length<=1000000):RTz 106 [.row v ((X.map bD).map gC) 1] [.one (.sl 0 v 0 n),.one (.c (.fn 81 []))] [.row v (((aH X).map bD).map gC) 1] (.tup []):=by
 subst hn;have:=HI (n:=X.length) (a_x:=X) (a_cmp:=z_) (v:=v) (zr:=81) (zc:=[]) (λy0 y1 r h=>abF h) (abO hl hr);rw[aab,aab]at this;exact this
theorem J7 (r:List Val)(h0:r≠[])(hr:r.length<=1000000):PTz 105 [.one (bD r)] (.val (.one (bD r))):=by
 refine pa_ aj func105 rfl rfl ntmps105 m5 ?_;simp only[argT,PV.av,ah2,ah6];obtain⟨x,r,rfl⟩:∃ x r',r=x::r':=by cases r with|nil=>exact absurd rfl h0|cons x r=>exact⟨x,r,rfl⟩
 have hw:=adm (x::r);have hlen:((x::r).map cV).length=r.length+1:=by simp
 simp only[aib]at hr
 repeat' (first|refine gv_ aj bw ?_|refine gi_ (λhb=>?_) (λhb=>?_)<;>try exact(fx_ hb).elim|(refine st_pop rfl rfl rfl rfl ?_ ?_;· (repeat' (first|exact t7|rfl|exact ah1 rfl|omega|exact hw|(rw[hlen];omega)|apply And.intro)))|(refine st_lop rfl rfl rfl rfl ?_ ?_;· (repeat' (first|exact t7|rfl|exact ah1 rfl|omega|exact hw|(rw[hlen];omega)|apply And.intro)))|(refine sS_ rfl rfl rfl ?_ ?_;· (repeat' (first|exact t7|rfl|exact ah1 rfl|omega|exact hw|(rw[hlen];omega)|apply And.intro)))|(refine st_lit rfl rfl rfl rfl ?_ ?_;· (repeat' (first|exact t7|rfl|exact ah1 rfl|omega|exact hw|(rw[hlen];omega)|apply And.intro)))|(refine cf rfl rfl rfl rfl rfl (tJ rfl rfl (aj.kind 43 _ rfl)) ?_)|fail)
 all_goals exact az (aE rfl (by trivial) rfl)
theorem EL (l:List (List Val))(hl:l.length<=700)(hr:∀ r∈l,r≠[]/\r.length<=1000000):PTz 80 [.one (bA l),.one (.fn 81 [])] (.val (.one (.lst (((aH l).map bD).map λx=>[x])))):=by
 refine pa_ aj func80 rfl rfl ntmps80 m5 ?_;simp only[argT,PV.av,ah2,ah6];obtain⟨n,hn⟩:∃ n,l.length=n:=⟨_,rfl⟩;have SE:(l.map λr=>[bD r]).length=n:=by simp[hn]
 repeat' (first|(refine bQ rfl rfl rfl rfl rfl (xe aj (k:=1) (by_:=24) rfl rfl rfl m9 rfl rfl rfl m9 m0 (by rw[SE];omega) (by rw[SE];omega)) ?_)|refine gv_ aj bw ?_|refine gi_ (λhb=>?_) (λhb=>?_)<;>try exact(fx_ hb).elim|fail)
 refine b7 (λi:Nat=>[(0,.one (.c (bA l))),(1,.one (.c (.fn 81 []))),(5,.one (.sl 0 (43+65536+65536*i) 0 i)),(11,.one (.c (bA l))),(12,.one (.c (.int .i64 n))),(13,.one (.c (.int .i64 i)))]) (λi=>[.row (43+65536+65536*i) (((l.take i).map bD).map gC) 1]) (λi=>i<=n) (λi=>n-i) 0 m0 (λ_ _=>aia _)
  (fm_ ⟨rfl,rfl,rfl,rfl,aL (by simp[hn]),rfl,t7⟩ [] rfl ⟨t7,t7,(by show 0<1;omega),t7,t7,t7,t7⟩ ⟨tI _ _ _ _,t7⟩) ?_
 intro i hi;by_cases O8:i<n
 .obtain⟨r,hx⟩:=gol_ (show i<l.length by omega)
  have Tj:=J7 r (hr r (ahX hx)).1 (hr r (ahX hx)).2;have hlen:(((l.take i).map bD).map gC).length=i:=by simp;omega
  have QR:((l.take (i+1)).map bD).map gC=((l.take i).map bD).map gC++[gC (bD r)]:=by rw[bG hx];simp
  repeat' (first|(refine bQ rfl rfl rfl rfl rfl (jf aj (k:=1) (by_:=24) (xs:=[gC (bD r)]) rfl rfl rfl rfl ⟨rfl,_,rfl,by intro e he;simp at he;subst he;rfl⟩ rfl m0 rfl rfl rfl m9 hlen (by show(i+1)*24<=_;omega) (by show i+1<=_;omega)) ?_)|(refine aO rfl rfl rfl rfl rfl rfl rfl rfl (aU hx) ?_ ?_;· exact⟨m0,rfl⟩)|refine au rfl rfl rfl rfl Tj rfl ?_|refine gv_ aj bw ?_|refine gi_ (λhb=>?_) (λhb=>?_)<;>try exact(fx_ hb).elim|fail)
  have hv:43+65536+65536*(i+1)=43+65536+65536*i+65536:=m0
  exact⟨i+1,m0,m0,fm_ ⟨rfl,rfl,(by rw[hv];rfl),rfl,rfl,aL (a8 m0 m0),t7⟩ [] (by rw[hv,QR];rfl) ⟨t7,t7,(by show 0<1;omega),t7,t7,t7,t7⟩ ⟨tI _ _ _ _,t7⟩⟩
 .have U2:i=n:=m0
  subst U2;have Rw:l.take i=l:=by rw[<- hn,List.take_length]
  rw[Rw];have hfr:=aae ((aH l).map bD);have We:(((aH l).map bD).map λx=>[x]).length=i:=by rw[ah3,ah3,(aP l).length_eq,hn]
  repeat' (first|(refine ga 0 5 rfl hfr rfl We ?_)|(refine cl [0] rfl rfl rfl rfl (NK (43+65536+65536*i) (X:=l) (n:=i) hn m0 (λx hx=>(hr x hx).2)) rfl (rf1 rfl (iO ⟨(by show 0<1;omega),t7,t7⟩)) rfl (j1 (L':=[.row (43+65536+65536*i) (((aH l).map bD).map gC) 1]) rfl) ?_)|refine gv_ aj bw ?_|refine gi_ (λhb=>?_) (λhb=>?_)<;>try exact(fx_ hb).elim|fail)
  exact az (aE rfl (by trivial) rfl)
theorem D9 {l r:List (List Val)}(H:nC l=some r):PTz 51 [.one (.lst (l.map (λx=>[AC.lst (x.map cV)])))] (.val (.one (.lst (r.map (λx=>[AC.lst (x.map cV)]))))):=by
 unfold nC at H
 cases hk:wq l with
 |false=>rw[hk]at H;cases H
 |true =>
  rw[hk]at H;obtain rfl:=aim H;obtain⟨h1,h2⟩:=N1 hk;have c1:=EL l h1 h2;have e1:((aH l).map bD).map (λx=>[x])=(aH l).map (λx=>[AC.lst (x.map cV)]):=by rw[List.map_map];rfl
  rw[e1]at c1;have c1:PTz 80 [.one (.lst (l.map (λx=>[AC.lst (x.map cV)]))),.one (.fn 81 [])] (.val (.one (.lst ((aH l).map (λx=>[AC.lst (x.map cV)]))))):=c1;refine pa_ aj func51 rfl rfl ntmps51 m5 ?_;simp only[argT,PV.av,ah2,ah6];exact ao
theorem fo_ {α β:Type}(f:α->β):∀ l:List α,(l.flatMap λx=>[f x])=l.map f
 |[]=>rfl
 |x::l=>by rw[ais,fo_ f l];rfl
theorem lr {α:Type}(p:α->Bool):∀ l:List α,(l.flatMap λx=>if p x then [x]else [])=l.filter p
 |[]=>rfl
 |x::l=>by
  rw[ais,lr p l];by_cases h:p x=true
  .rw[if_pos h,List.filter_cons_of_pos h];rfl
  .rw[if_neg h,List.filter_cons_of_neg h];rfl
theorem A3 (p:dV):rj p=some (cz p):=by
 unfold rj cz
 cases h1:decide (0<=p.lo)<;>cases h2:decide (p.lo<p.hi)<;>cases h3:decide (p.hi<=1099511627776)<;>simp_all
def jI:Val:=⟨0,0,⟨#[]⟩⟩
def ON (v:Val):CV := .val (.agg [.int .i64 v.kind,.int .i64 v.int,.str v.text])
theorem mJ:PTz 149 [] (.val (.agg [.int .i64 0,.int .i64 0,.str ⟨#[]⟩])):=cQ (r:=jI) rfl
theorem Aa (n:Int):jy n=some (iw n):=by
 unfold jy nH jN iB iw;have e:(ByteArray.empty.toList==(⟨#[]⟩:ByteArray).toList)=true:=by rw[ByteArray.toList_eq,ByteArray.toList_eq];rfl
 dsimp only;rw[e,show decide ((1:Int)=0)=false from rfl,show decide ((1:Int)=1)=true from rfl];by_cases h1 : -1125899906842624<=n
 .by_cases h2:n<=1125899906842624
  .simp[h1,h2]
  .simp[h1,h2]
 .simp[h1]
theorem wz (n:Int):PTz 79 [.one (.int .i64 n)] (ON (iw n)):=fU (Aa n)
theorem NI (v w:Val):PTz 108 [.agg [.int .i64 v.kind,.int .i64 v.int,.str v.text],.agg [.int .i64 w.kind,.int .i64 w.int,.str w.text]] (agw (jl v w)):=u9 (pN v w)
def E4 (r:List Val)(i:Int):Val:=if 0<=i then(r[i.toNat]?).getD jI else jI
theorem K8 (r:List Val)(i:Int)(hr:r.length<=1000000):PTz 216 [.one (bD r),.one (.int .i64 i)] (ON (E4 r i)):=by
 refine pa_ ax func216 rfl rfl ntmps216 m5 ?_;simp only[argT,PV.av,ah2,ah6];have SE:(((r.map cV).length:Nat):Int)=r.length:=by simp
 have fin:∀ {T:Tm} {L:List Ob} {w:Val},w=E4 r i->Res xK f216.results.toList T L (ON w)->Res xK f216.results.toList T L (ON (E4 r i)):=λe h=>by rw[<- e];exact h
 by_cases h1:i<0
 .have hA:decide (i<0)=true:=by simp[h1]
  have hv:jI=E4 r i:=by unfold E4;rw[if_neg m0]
  repeat' (first|rw[hA]|refine au rfl rfl rfl rfl mJ rfl ?_|refine gv_ ax ar ?_|refine gi_ (λhb=>?_) (λhb=>?_)<;>try exact(fx_ hb).elim|fail)
  exact az (fin hv (aE rfl ⟨ah7 3,t7⟩ rfl))
 .have hA:decide (i<0)=false:=by simp[h1]
  by_cases h2:i<r.length
  .obtain⟨x,hx⟩:=gol_ (show i.toNat<r.length by omega)
   have hB:decide ((((r.map cV).length:Nat):Int)<=i)=false:=by rw[SE];simp;exact h2
   have hv:x=E4 r i:=by unfold E4;rw[if_pos m0,hx];rfl
   have Px:(r.map cV)[i.toNat]?=some (cV x):=by rw[aic,hx];rfl
   repeat' (first|rw[hA]|rw[hB]|(refine aO rfl rfl rfl rfl rfl rfl rfl rfl Px ?_ ?_;· exact⟨m0,rfl⟩)|refine gv_ ax ar ?_|refine gi_ (λhb=>?_) (λhb=>?_)<;>try exact(fx_ hb).elim|fail)
   exact az (fin hv (aE rfl ⟨ah7 3,t7⟩ rfl))
  .have hB:decide ((((r.map cV).length:Nat):Int)<=i)=true:=by rw[SE];simp;omega
   have hv:jI=E4 r i:=by unfold E4;rw[if_pos m0,List.getElem?_eq_none m0];rfl
   repeat' (first|rw[hA]|rw[hB]|refine au rfl rfl rfl rfl mJ rfl ?_|refine gv_ ax ar ?_|refine gi_ (λhb=>?_) (λhb=>?_)<;>try exact(fx_ hb).elim|fail)
   exact az (fin hv (aE rfl ⟨ah7 3,t7⟩ rfl))
def a_ (r:List Val)(l:List Int):List Val:=l.map (E4 r)
theorem Dm (r:List Val)(l:List Int)(hr:r.length<=1000000)(hl:l.length<=1000000):PTz 165 [.one (bD r),.one (be l)] (.val (.one (bD (a_ r l)))):=by
 refine pa_ ax func165 rfl rfl ntmps165 m5 ?_;simp only[argT,PV.av,ah2,ah6];obtain⟨n,hn⟩:∃ n,l.length=n:=⟨_,rfl⟩;have SE:(((l.map λx=>[AC.int .i64 x]).length:Nat):Int)=n:=by simp[hn]
 repeat' (first|(refine bQ rfl rfl rfl rfl rfl (ju ax (k:=3) (by_:=32) rfl rfl rfl rfl rfl rfl m9 m0 (by rw[SE];omega) (by rw[SE];omega)) ?_)|refine gv_ ax ar ?_|refine gi_ (λhb=>?_) (λhb=>?_)<;>try exact(fx_ hb).elim|fail)
 refine b7 (λi:Nat=>[(0,.one (.c (bD r))),(5,.one (.own ((a_ r (l.take i)).map cV) 0)),(11,.one (.c (be l))),(12,.one (.c (.int .i64 n))),(13,.one (.c (.int .i64 i)))]) (λi=>[.spare i 3]) (λi=>i<=n) (λi=>n-i) 0 m0 (λ_ _=>aia _)
  (fm_ ⟨rfl,rfl,rfl,aL SE,rfl,t7⟩ [] rfl ⟨t7,by show 0<1;omega,t7,t7,t7,t7⟩ ⟨t7,t7⟩) ?_
 intro i hi;by_cases O8:i<n
 .obtain⟨x,hx⟩:=gol_ (show i<l.length by omega)
  have hlen:((a_ r (l.take i)).map cV).length=i:=by simp[a_];omega
  have QR:(a_ r (l.take (i+1))).map cV=(a_ r (l.take i)).map cV++[cV (E4 r x)]:=by rw[bG hx];simp[a_]
  repeat' (first|(refine aO rfl rfl rfl rfl rfl rfl rfl rfl (aU hx) ?_ ?_;· exact⟨m0,rfl⟩)|refine au rfl rfl rfl rfl (K8 r x hr) rfl ?_|refine gv_ ax ar ?_|refine gi_ (λhb=>?_) (λhb=>?_)<;>try exact(fx_ hb).elim|(refine st_pop rfl rfl rfl rfl ?_ ?_;· (repeat' (first|exact t7|rfl|exact ah1 rfl|omega|(intro e he;simp at he;subst he;rfl)|exact hlen|(show(_+1)*32<=_;omega)|(show _+1<=_;omega)|apply And.intro)))|(refine st_lop rfl rfl rfl rfl ?_ ?_;· (repeat' (first|exact t7|rfl|exact ah1 rfl|omega|(intro e he;simp at he;subst he;rfl)|exact hlen|(show(_+1)*32<=_;omega)|(show _+1<=_;omega)|apply And.intro)))|(refine sS_ rfl rfl rfl ?_ ?_;· (repeat' (first|exact t7|rfl|exact ah1 rfl|omega|(intro e he;simp at he;subst he;rfl)|exact hlen|(show(_+1)*32<=_;omega)|(show _+1<=_;omega)|apply And.intro)))|(refine st_lit rfl rfl rfl rfl ?_ ?_;· (repeat' (first|exact t7|rfl|exact ah1 rfl|omega|(intro e he;simp at he;subst he;rfl)|exact hlen|(show(_+1)*32<=_;omega)|(show _+1<=_;omega)|apply And.intro)))|fail)
  exact⟨i+1,m0,m0,fm_ ⟨rfl,bY (by rw[QR];rfl),rfl,rfl,aL (a8 m0 m0),t7⟩ [] rfl ⟨t7,by show 0<1;omega,t7,t7,t7,t7⟩ ⟨t7,t7⟩⟩
 .have Rw:l.take i=l:=aiu m0
  rw[Rw]
  repeat' (first|refine gv_ ax ar ?_|refine gi_ (λhb=>?_) (λhb=>?_)<;>try exact(fx_ hb).elim|fail)
  exact az (aE rfl (by trivial) rfl)
def Bh (x:Int):Int:=i64.wrap (BitVec.ofInt IntKind.i64.bits x &&& BitVec.ofInt IntKind.i64.bits 1048575).toNat
def jj (x:Int):Int:=x.fdiv (2 ^ (min (20:Int).toNat IntKind.i64.bits))
def uP (x:Int):Int:=i64.wrap (x*2 ^ (min (20:Int).toNat IntKind.i64.bits))
theorem Gn (x:Int):jj x=x/1048576:=by
 have:(2:Int) ^ (min (20:Int).toNat IntKind.i64.bits)=1048576:=by decide
 unfold jj;rw[this];exact Int.fdiv_eq_ediv_of_nonneg x m9
theorem KY (x:Int):Bh x=x%1048576:=by
 have h1:(BitVec.ofInt IntKind.i64.bits x &&& BitVec.ofInt IntKind.i64.bits 1048575).toNat=(x%18446744073709551616).toNat%1048576:=by
  rw[BitVec.toNat_and,BitVec.toNat_ofInt,BitVec.toNat_ofInt];have e1:((2 ^ IntKind.i64.bits:Nat):Int)=18446744073709551616:=by decide
  rw[e1];have e2:((1048575:Int)%18446744073709551616).toNat=2 ^ 20-1:=by decide
  rw[e2,Nat.and_two_pow_sub_one_eq_mod]
 unfold Bh;rw[h1];have h2:(((x%18446744073709551616).toNat%1048576:Nat):Int)=x%1048576:=m0
 rw[h2];exact aV m0
theorem aaq (x:Int)(h : -4294967296<=x/\x<=4294967296):uP x=x*1048576:=by
 have:(2:Int) ^ (min (20:Int).toNat IntKind.i64.bits)=1048576:=by decide
 unfold uP;rw[this];exact aV m0
def vg (l:List Val):Int:=(l.map λv=>v.int).sum
def sF (s:Int×Int)(v:Val):Int×Int:=(i64.wrap (s.1+jj v.int),i64.wrap (s.2+Bh v.int))
theorem yF:∀ (l:List Val) (s:Int×Int) (m:Int),(∀ v∈l,-1125899906842624<=v.int/\v.int<=1125899906842624)->0<=m->m+l.length<=1000000->(-1073741825*m<=s.1/\s.1<=1073741825*m)->(0<=s.2/\s.2<=1048576*m) ->
  (-1073741825*(m+l.length)<=(l.foldl sF s).1/\(l.foldl sF s).1<=1073741825*(m+l.length))/\(0<=(l.foldl sF s).2/\(l.foldl sF s).2<=1048576*(m+l.length))/\(l.foldl sF s).1*1048576+(l.foldl sF s).2=s.1*1048576+s.2+vg l
 |[],s,m,_,h0,hm,h1,h2=>by
  simp only[List.foldl_nil,aik,vg,ah6,List.sum_nil];omega
 |v::l,s,m,hv,h0,hm,h1,h2=>by
  have hx:=hv v m5;simp only[aib]at hm ⊢;have e1:sF s v=(s.1+v.int/1048576,s.2+v.int%1048576):=by
   unfold sF;rw[Gn,KY,aV m0,aV m0]
  have ih:=yF l (s.1+v.int/1048576,s.2+v.int%1048576) (m+1) (λx hx=>hv x (aid _ hx)) m0 m0 (by simp only;omega) (by simp only;omega);rw[aiC,e1];have e2:vg (v::l)=v.int+vg l:=by unfold vg;simp
  rw[e2];simp only at ih ⊢
  push_cast at ih ⊢
  omega
def E_ (s:Int×Int):Val :=
 bif (bif decide (i64.wrap (s.1+jj s.2) < -2147483648)then true else decide (2147483648<i64.wrap (s.1+jj s.2)))then⟨0,0,ByteArray.empty⟩
 else iw (i64.wrap (uP (i64.wrap (s.1+jj s.2))+Bh s.2))
theorem M5 (l:List Val)(hl:l.length<=1000000)(hv:∀ v∈l,-1125899906842624<=v.int/\v.int<=1125899906842624):E_ (l.foldl sF (0,0))=iw (vg l):=by
 obtain⟨h1,h2,h3⟩:=yF l (0,0) 0 hv m0 m0 (by simp only;omega) (by simp only;omega);simp only[Int.zero_add,Int.zero_mul]at h1 h2 h3;generalize l.foldl sF (0,0)=s at h1 h2 h3;obtain⟨a,b⟩:=s;simp only at h1 h2 h3;have ZE:(l.length:Int)<=1000000:=m0
 unfold E_;simp only[Gn,KY];rw[aV (x:=a+b/1048576) m0];by_cases PU:a+b/1048576 < -2147483648
 .rw[ahV PU,ahT,ahT]
  unfold iw;rw[if_neg m0]
 .rw[ahU PU,ahS]
  by_cases P8:2147483648<a+b/1048576
  .rw[ahV P8,ahT]
   unfold iw;rw[if_neg m0]
  .rw[ahU P8,ahS,aaq _ m0,aV m0]
   congr 1;omega
def lP (s:Int×Int)(v:Val):Int×Int:=(s.1+v.int.tdiv 1048576,s.2+v.int.tmod 1048576)
theorem AB:∀ (l:List Val) (s:Int×Int),(l.foldl lP s).1*1048576+(l.foldl lP s).2=s.1*1048576+s.2+vg l
 |[],s=>by simp[vg]
 |v::l,s=>by
  rw[aiC,AB l];have e2:vg (v::l)=v.int+vg l:=by unfold vg;simp
  have:=Int.tmod_add_mul_tdiv v.int 1048576;rw[e2];unfold lP;simp only;omega
theorem dz {n:Nat}{x y z:AC}:(Ob.box [.c x,.c y,.c z]).below n:=by
 intro w hw;obtain rfl|hw:=ah8.1 hw
 .trivial
 obtain rfl|hw:=ah8.1 hw
 .trivial
 obtain rfl|hw:=ah8.1 hw
 .trivial
 cases hw
def jP (s:Int×Int)(v:Val):Int×Int:=(i64.wrap (s.1+jj v.int),i64.wrap (s.2+Bh v.int))
def vO (s:Int×Int):Val :=
 bif (bif decide (i64.wrap (s.1+jj s.2) < -2147483648)then true else decide (2147483648<i64.wrap (s.1+jj s.2)))then jI
 else bif (bif decide (i64.wrap (uP (i64.wrap (s.1+jj s.2))+Bh s.2) < -1125899906842624)then true else decide (1125899906842624<i64.wrap (uP (i64.wrap (s.1+jj s.2))+Bh s.2)))then jI
 else iw (i64.wrap (uP (i64.wrap (s.1+jj s.2))+Bh s.2))
def Cj (l:List Val):Val:=vO (l.foldl jP (0,0))
theorem aau (l:List Val)(hl:l.length<=1000000):PTz 217 [.one (bD l)] (ON (Cj l)):=by
 refine pa_ ax func217 rfl rfl ntmps217 m5 ?_;simp only[argT,PV.av,ah2,ah6];obtain⟨n,hn⟩:∃ n,l.length=n:=⟨_,rfl⟩;have SE:(((l.map cV).length:Nat):Int)=n:=by simp[hn]
 have fin:∀ {T:Tm} {L:List Ob} {w:Val},w=Cj l->Res xK f217.results.toList T L (ON w)->Res xK f217.results.toList T L (ON (Cj l)):=λe h=>by rw[<- e];exact h
 repeat' (first|refine gv_ ax ar ?_|refine gi_ (λhb=>?_) (λhb=>?_)<;>try exact(fx_ hb).elim|fail)
 refine b7 (λi:Nat=>[(2,.one (.ptr 0 0)),(3,.one (.c (.int .i64 ((l.take i).foldl jP (0,0)).1))),(4,.one (.c (.int .i64 ((l.take i).foldl jP (0,0)).2))),(8,.one (.c (bD l))),(9,.one (.c (.int .i64 n))),(10,.one (.c (.int .i64 i)))]) (λi=>[.box [.c (.int .i64 0),.c (.int .i64 0),.c (.str ⟨#[]⟩)]]) (λi=>i<=n) (λi=>n-i) 0 m0 (λ_ _=>aia _)
  (fm_ ⟨rfl,rfl,rfl,rfl,aL SE,rfl,t7⟩ [] rfl ⟨by show 0<1;omega,t7,t7,t7,t7,t7,t7⟩ ⟨dz,t7⟩) ?_
 intro i hi;by_cases O8:i<n
 .obtain⟨x,hx⟩:=gol_ (show i<l.length by omega)
  have QR:(l.take (i+1)).foldl jP (0,0)=jP ((l.take i).foldl jP (0,0)) x:=by rw[bG hx,List.foldl_append];rfl
  generalize (l.take i).foldl jP (0,0)=S at QR
  repeat' (first|(refine aO rfl rfl rfl rfl rfl rfl rfl rfl (aU hx) ?_ ?_;· exact⟨m0,rfl⟩)|refine gv_ ax ar ?_|refine gi_ (λhb=>?_) (λhb=>?_)<;>try exact(fx_ hb).elim|fail)
  exact⟨i+1,m0,m0,fm_ ⟨rfl,by rw[QR];rfl,by rw[QR];rfl,rfl,rfl,aL (a8 m0 m0),t7⟩ [_] rfl ⟨by show 0<1;omega,t7,t7,t7,t7,t7,t7⟩ ⟨dz,t7⟩⟩
 .have Rw:l.take i=l:=aiu m0
  rw[Rw];have hS:Cj l=vO (l.foldl jP (0,0)):=rfl;generalize l.foldl jP (0,0)=S at hS
  repeat' (first|refine au rfl rfl rfl rfl mJ rfl ?_|refine au rfl rfl rfl rfl (wz _) rfl ?_|refine gv_ ax ar ?_|(refine st_if rfl (λhb=>?_) (λhb=>?_)<;>(first|exact(fx_ hb).elim|rw[hb]))|refine aw_cond rfl (λhb=>?_) (λhb=>?_)<;>try exact(fx_ hb).elim|fail)
  all_goals first
   |exact az (fin (w:=jI) (by rw[hS];unfold vO uP jj Bh;simp only[*, ahT,ahS]) (aE rfl ⟨ah7 3,t7⟩ rfl))
   |exact az (fin (w:=iw (_)) (by rw[hS];unfold vO uP jj Bh;simp only[*, ahT,ahS]) (aE rfl ⟨ah7 3,t7⟩ rfl))
def dj (arg:Int)(acc:List Val)(r:List Val):List Val :=
 bif decide (arg<r.length)then(match r[arg.toNat]? with
  |some v=>bif decide (v.kind≠0)then acc++[v]else acc
  |none=>acc)else acc
def mP (arg:Int)(rows:List (List Val)):List Val:=rows.foldl (dj arg) []
def bW (op:Int)(o v:Val):Val:=bif (bif (bif decide (op=3)then decide (jl v o<0)else false)then true else(bif decide (op=4)then decide (0<jl v o)else false))then v else o
def cT (op arg:Int)(rows:List (List Val)):Val :=
 bif decide (arg<0)then iw (rows.length)else bif decide (op=1)then iw ((mP arg rows).length)else match mP arg rows with
  |[]=>jI
  |x::l=>bif decide (op=2)then Cj (x::l)else(x::l).foldl (bW op) x
theorem FV (arg:Int)(rows:List (List Val)):(mP arg rows).length<=rows.length:=by
 have:∀ (rows:List (List Val)) (acc:List Val),(rows.foldl (dj arg) acc).length<=acc.length+rows.length:=by
  intro rows
  induction rows with
  |nil=>intro acc;simp
  |cons r rows ih =>
   intro acc;rw[aiC];have h1:=ih (dj arg acc r);have h2:(dj arg acc r).length<=acc.length+1:=by
    unfold dj
    cases decide (arg<(r.length:Int))with
    |false=>simp
    |true =>
     simp only[ahT];split
     .rename_i v _
      cases decide (v.kind≠0)<;>simp
     .omega
   simp only[aib];omega
 have:=this rows [];simpa[mP]using this
theorem Ae (op arg:Int)(rows:List (List Val))(hl:rows.length<=1000000)(hr:∀ r∈rows,r.length<=1000000):PTz 166 [.one (bA rows),.agg [.int .i64 op,.int .i64 arg]] (ON (cT op arg rows)):=by
 refine pa_ ax func166 rfl rfl ntmps166 m5 ?_;simp only[argT,PV.av,ah2,ah6];obtain⟨n,hn⟩:∃ n,rows.length=n:=⟨_,rfl⟩;have SE:(((rows.map λr=>[bD r]).length:Nat):Int)=n:=by simp[hn]
 have fin:∀ {T:Tm} {L:List Ob} {w:Val},w=cT op arg rows->Res xK f166.results.toList T L (ON w)->Res xK f166.results.toList T L (ON (cT op arg rows)):=λe h=>by rw[<- e];exact h
 have e1:PTz 79 [.one (.int .i64 ((rows.map λr=>[bD r]).length:Nat))] (ON (iw (rows.length))):=by
  have:=wz rows.length;simpa using this
 by_cases ha:arg<0
 .have hA:decide (arg<0)=true:=by simp[ha]
  repeat' (first|rw[hA]|refine au rfl rfl rfl rfl e1 rfl ?_|refine gv_ ax ar ?_|refine gi_ (λhb=>?_) (λhb=>?_)<;>try exact(fx_ hb).elim|fail)
  all_goals exact az (fin (w:=iw (rows.length)) (by unfold cT;rw[hA,ahT]) (aE rfl ⟨ah7 3,t7⟩ rfl))
 .have hA:decide (arg<0)=false:=by simp[ha]
  repeat' (first|rw[hA]|refine gv_ ax ar ?_|refine gi_ (λhb=>?_) (λhb=>?_)<;>try exact(fx_ hb).elim|fail)
  refine br 5 3 rfl ?_;refine b7 (λi:Nat=>[(3,.one (.ptr 0 0)),(4,.one (.ptr 1 0)),(5,.one (.own ((mP arg (rows.take i)).map cV) 2)),(18,.one (.c (bA rows))),(19,.one (.c (.int .i64 n))),(20,.one (.c (.int .i64 i)))]) (λi=>[.box [.c (.int .i64 op),.c (.int .i64 arg)],.box [.c (.int .i64 0),.c (.int .i64 0),.c (.str ⟨#[]⟩)],.spare (mP arg (rows.take i)).length 3]) (λi=>i<=n) (λi=>n-i) 0 m0 (λ_ _=>aia _)
   (fm_ ⟨rfl,rfl,rfl,rfl,aL SE,rfl,t7⟩ [] rfl ⟨by show 0<3;omega,by show 1<3;omega,by show 2<3;omega,t7,t7,t7,t7⟩ ⟨aR,dz,t7,t7⟩) ?_
  intro i hi;by_cases O8:i<n
  .obtain⟨r,hx⟩:=gol_ (show i<rows.length by omega)
   have Tj:=FV arg (rows.take i);rw[aiD]at Tj;have QR:mP arg (rows.take (i+1))=dj arg (mP arg (rows.take i)) r:=by rw[bG hx];unfold mP;rw[List.foldl_append];rfl
   generalize mP arg (rows.take i)=C at Tj QR;have WR:(C.map cV).length=C.length:=by simp
   have S_:(((r.map cV).length:Nat):Int)=r.length:=by simp
   have hN:decide ((i:Int)<n)=true:=by simp;exact O8
   by_cases hB:arg<r.length
   .obtain⟨v,hv⟩:=gol_ (show arg.toNat<r.length by omega)
    have Vt:(r.map cV)[arg.toNat]?=some (cV v):=by rw[aic,hv];rfl
    have hD:decide (arg<((r.map cV).length:Nat))=true:=by rw[S_];simp[hB]
    have TL:decide (arg<(r.length:Int))=true:=by simp[hB]
    unfold dj at QR;rw[TL,ahT,hv]at QR;simp only at QR
    repeat' (first|rw[hN]|rw[hD]|(refine aO rfl rfl rfl rfl rfl rfl rfl rfl (aU hx) ?_ ?_;· exact⟨m0,rfl⟩)|(refine aO rfl rfl rfl rfl rfl rfl rfl rfl Vt ?_ ?_;· exact⟨m0,rfl⟩)|refine gv_ ax ar ?_|refine gi_ (λhb=>?_) (λhb=>?_)<;>try exact(fx_ hb).elim|(refine st_pop rfl rfl rfl rfl ?_ ?_;· (repeat' (first|exact t7|rfl|exact ah1 rfl|omega|(intro e he;simp at he;subst he;rfl)|exact WR|(show(_+1)*32<=_;omega)|(show _+1<=_;omega)|apply And.intro)))|(refine st_lop rfl rfl rfl rfl ?_ ?_;· (repeat' (first|exact t7|rfl|exact ah1 rfl|omega|(intro e he;simp at he;subst he;rfl)|exact WR|(show(_+1)*32<=_;omega)|(show _+1<=_;omega)|apply And.intro)))|(refine sS_ rfl rfl rfl ?_ ?_;· (repeat' (first|exact t7|rfl|exact ah1 rfl|omega|(intro e he;simp at he;subst he;rfl)|exact WR|(show(_+1)*32<=_;omega)|(show _+1<=_;omega)|apply And.intro)))|(refine st_lit rfl rfl rfl rfl ?_ ?_;· (repeat' (first|exact t7|rfl|exact ah1 rfl|omega|(intro e he;simp at he;subst he;rfl)|exact WR|(show(_+1)*32<=_;omega)|(show _+1<=_;omega)|apply And.intro)))|fail)
    .rw[hb,ahT]at QR
     exact⟨i+1,m0,m0,by rw[QR];exact fm_ ⟨rfl,rfl,bY (by rw[ah4];rfl),rfl,rfl,aL (a8 m0 m0),t7⟩ [] m5 ⟨by show 0<3;omega,by show 1<3;omega,by show 2<3;omega,t7,t7,t7,t7⟩ ⟨aR,dz,t7,t7⟩⟩
    .rw[hb,ahS]at QR
     exact⟨i+1,m0,m0,by rw[QR];exact fm_ ⟨rfl,rfl,rfl,rfl,rfl,aL (a8 m0 m0),t7⟩ [] rfl ⟨by show 0<3;omega,by show 1<3;omega,by show 2<3;omega,t7,t7,t7,t7⟩ ⟨aR,dz,t7,t7⟩⟩
   .have hD:decide (arg<((r.map cV).length:Nat))=false:=by rw[S_];simp;omega
    have TL:decide (arg<(r.length:Int))=false:=by simp;omega
    unfold dj at QR;rw[TL,ahS]at QR
    repeat' (first|rw[hN]|rw[hD]|(refine aO rfl rfl rfl rfl rfl rfl rfl rfl (aU hx) ?_ ?_;· exact⟨m0,rfl⟩)|refine gv_ ax ar ?_|refine gi_ (λhb=>?_) (λhb=>?_)<;>try exact(fx_ hb).elim|(refine st_pop rfl rfl rfl rfl ?_ ?_;· (repeat' (first|exact t7|rfl|exact ah1 rfl|omega|(intro e he;simp at he;subst he;rfl)|exact WR|(show(_+1)*32<=_;omega)|(show _+1<=_;omega)|apply And.intro)))|(refine st_lop rfl rfl rfl rfl ?_ ?_;· (repeat' (first|exact t7|rfl|exact ah1 rfl|omega|(intro e he;simp at he;subst he;rfl)|exact WR|(show(_+1)*32<=_;omega)|(show _+1<=_;omega)|apply And.intro)))|(refine sS_ rfl rfl rfl ?_ ?_;· (repeat' (first|exact t7|rfl|exact ah1 rfl|omega|(intro e he;simp at he;subst he;rfl)|exact WR|(show(_+1)*32<=_;omega)|(show _+1<=_;omega)|apply And.intro)))|(refine st_lit rfl rfl rfl rfl ?_ ?_;· (repeat' (first|exact t7|rfl|exact ah1 rfl|omega|(intro e he;simp at he;subst he;rfl)|exact WR|(show(_+1)*32<=_;omega)|(show _+1<=_;omega)|apply And.intro)))|fail)
    exact⟨i+1,m0,m0,by rw[QR];exact fm_ ⟨rfl,rfl,rfl,rfl,rfl,aL (a8 m0 m0),t7⟩ [] rfl ⟨by show 0<3;omega,by show 1<3;omega,by show 2<3;omega,t7,t7,t7,t7⟩ ⟨aR,dz,t7,t7⟩⟩
  .have Rw:rows.take i=rows:=aiu m0
   have hN:decide ((i:Int)<n)=false:=by simp;omega
   have Tj:=FV arg rows;rw[Rw];have hV:cT op arg rows=bif decide (op=1)then iw ((mP arg rows).length)else match mP arg rows with
    |[]=>jI
    |x::l=>bif decide (op=2)then Cj (x::l)else(x::l).foldl (bW op) x:=by unfold cT;rw[hA,ahS]
   generalize mP arg rows=C at Tj hV;have WR:(((C.map cV).length:Nat):Int)=C.length:=by simp
   have e2:PTz 79 [.one (.int .i64 ((C.map cV).length:Nat))] (ON (iw (C.length))):=by
    have:=wz C.length;simpa using this
   cases C with
   |nil =>
    repeat' (first|rw[hN]|refine au rfl rfl rfl rfl e2 rfl ?_|refine au rfl rfl rfl rfl mJ rfl ?_|refine gv_ ax ar ?_|refine gi_ (λhb=>?_) (λhb=>?_)<;>try exact(fx_ hb).elim|fail)
    all_goals first
     |exact az (fin (w:=iw ((([]:List Val).length:Nat))) (by rw[hV,hb,ahT]) (aE rfl ⟨ah7 3,t7⟩ rfl))
     |exact az (fin (w:=jI) (by rw[hV];rename_i q1 q2;rw[q2,ahS]) (aE rfl ⟨ah7 3,t7⟩ rfl))
   |cons x l =>
    have PE:decide ((((x::l).map cV).length:Int)=0)=false:=by simp;omega
    have WS:=aau (x::l) m0
    repeat' (first|rw[hN]|rw[PE]|refine au rfl rfl rfl rfl e2 rfl ?_|refine au rfl rfl rfl rfl mJ rfl ?_|refine au rfl rfl rfl rfl WS rfl ?_|refine gv_ ax ar ?_|refine gi_ (λhb=>?_) (λhb=>?_)<;>try exact(fx_ hb).elim|fail)
    .exact az (fin (w:=iw (((x::l).length:Nat))) (by rw[hV,hb,ahT]) (aE rfl ⟨ah7 3,t7⟩ rfl))
    .exact az (fin (w:=Cj (x::l)) (by rw[hV];rename_i q1 q2 q3;rw[q2,hb,ahS];simp only[ahT]) (aE rfl ⟨ah7 3,t7⟩ rfl))
    .rename_i q1 q2
     have hV2:cT op arg rows=(x::l).foldl (bW op) x:=by rw[hV];simp only[q1,q2,hb,ahS]
     obtain⟨m,hm⟩:∃ m,(x::l).length=m:=⟨_,rfl⟩;generalize hC:x::l=C at hV2 hm WR Tj;have hmb:m<=1000000:=m0
     refine b7 (λj:Nat=>[(3,.one (.ptr 0 0)),(4,.one (.ptr 1 0)),(8,.one (.ptr 3 0)),(68,.one (.own (C.map cV) 2)),(69,.one (.c (.int .i64 m))),(70,.one (.c (.int .i64 j)))]) (λj=>[.box [.c (.int .i64 op),.c (.int .i64 arg)],.box [.c (.int .i64 0),.c (.int .i64 0),.c (.str ⟨#[]⟩)],.spare m 3,.box [.c (.int .i64 ((C.take j).foldl (bW op) x).kind),.c (.int .i64 ((C.take j).foldl (bW op) x).int),.c (.str ((C.take j).foldl (bW op) x).text)]]) (λj=>j<=m) (λj=>m-j) 0 m0 (λ_ _=>aia _)
      (fm_ ⟨rfl,rfl,rfl,by rw[<- hC];rfl,aL (by rw[<- hm,<- hC];simp),rfl,t7⟩ [] (by rw[<- hm,<- hC];rfl) ⟨by show 0<4;omega,by show 1<4;omega,by show 3<4;omega,by show 2<4;omega,t7,t7,t7⟩ ⟨aR,dz,t7,dz,t7⟩) ?_
     intro j hj;by_cases YF:j<m
     .obtain⟨v,hv⟩:=gol_ (show j<C.length by omega)
      have QR:(C.take (j+1)).foldl (bW op) x=bW op ((C.take j).foldl (bW op) x) v:=by rw[bG hv,List.foldl_append];rfl
      generalize (C.take j).foldl (bW op) x=o at QR;generalize Yu:bW op o v=w at QR;unfold bW at Yu;have hN3:decide ((j:Int)<m)=true:=by simp;exact YF
      repeat' (first|rw[hN3]|(refine aO rfl rfl rfl rfl rfl rfl rfl rfl (aU hv) ?_ ?_;· exact⟨m0,rfl⟩)|refine au rfl rfl rfl rfl (NI v o) rfl ?_|refine gv_ ax ar ?_|(refine st_if rfl (λhb=>?_) (λhb=>?_)<;>(first|exact(fx_ hb).elim|rw[hb]))|refine aw_cond rfl (λhb=>?_) (λhb=>?_)<;>try exact(fx_ hb).elim|fail)
      all_goals first
       |(clear hV hV2 fin e1 e2 WS hl hr Tj WR hC hm;simp only[*, ahT,ahS]at Yu;subst Yu;exact⟨j+1,m0,m0,by rw[QR];exact fm_ ⟨rfl,rfl,rfl,rfl,rfl,aL (a8 m0 m0),t7⟩ [_] rfl ⟨by show 0<4;omega,by show 1<4;omega,by show 3<4;omega,by show 2<4;omega,t7,t7,t7⟩ ⟨aR,dz,t7,dz,t7⟩⟩)
     .have hN3:decide ((j:Int)<m)=false:=by simp;omega
      have htk3:C.take j=C:=aiu m0;rw[htk3,<- hV2]
      repeat' (first|rw[hN3]|refine gv_ ax ar ?_|refine gi_ (λhb=>?_) (λhb=>?_)<;>try exact(fx_ hb).elim|fail)
      exact az (aE rfl ⟨ah7 3,t7⟩ rfl)
abbrev Do:=Int×Int
def cA (a:Do):List AC:=[.int .i64 a.1,.int .i64 a.2]
def eU (l:List Do):AC := .lst (l.map cA)
def o_ (kinds:List Int)(k:Int):Bool := !(bif decide (k<0)then true else decide ((kinds.length:Int)<=k))
def cm (kinds:List Int):List Int->List Int->List Int×Int
 |[],acc=>(acc,0)
 |k::ks,acc=>bif o_ kinds k then cm kinds ks (acc++[kinds.getD k.toNat 0])else([],6)
def cB (kinds:List Int)(a:Do):Int :=
 bif (bif decide (a.1<1)then true else decide (4<a.1))then 7 else bif (bif decide (a.2 = -1)then decide (a.1=1)else false)then 0
 else bif !(o_ kinds a.2)then 6 else bif (bif decide (a.1=2)then decide (kinds.getD a.2.toNat 0≠1)else false)then 7 else 0
def cS (kinds:List Int)(a:Do):Int:=bif (bif decide (a.1=3)then true else decide (a.1=4))then kinds.getD a.2.toNat 0 else 1
def cW (kinds:List Int):List Do->List Int->List Int×Int
 |[],acc=>(acc,0)
 |a::l,acc=>bif decide (cB kinds a=0)then cW kinds l (acc++[cS kinds a])else([],cB kinds a)
def fL (kinds keys:List Int)(aggs:List Do):List Int×Int:=bif decide ((cm kinds keys []).2=0)then cW kinds aggs (cm kinds keys []).1 else([],(cm kinds keys []).2)
def vKE (r:List Int×Int):CV := .tup [.one (be r.1),.one (.int .i64 r.2)]
theorem uM (kinds keys acc:List Int){i:Nat}{k:Int}(h:keys[i]?=some k):cm kinds (keys.drop i) acc=bif o_ kinds k then cm kinds (keys.drop (i+1)) (acc++[kinds.getD k.toNat 0])else([],6):=by
 obtain⟨h1,e1⟩:=ahR.1 h;rw[ail h1,e1,cm]
theorem uW (kinds:List Int)(l:List Do)(acc:List Int){i:Nat}{a:Do}(h:l[i]?=some a):cW kinds (l.drop i) acc=bif decide (cB kinds a=0)then cW kinds (l.drop (i+1)) (acc++[cS kinds a])else([],cB kinds a):=by
 obtain⟨h1,e1⟩:=ahR.1 h;rw[ail h1,e1,cW]
theorem x7 {l:List Int}{i:Nat}{x:Int}(h:l[i]?=some x):l.getD i 0=x:=by rw[aiE,h];rfl
theorem qw {l:List Int}{i:Int}{x:Int}(h:l[i.toNat]?=some x):(l.map λx=>[AC.int .i64 x])[i.toNat]?=some [.int .i64 x]:=by rw[aic,h];rfl
theorem L5 {kinds:List Int}{k:Int}(h:o_ kinds k=true):0<=k /\ ∃ x,kinds[k.toNat]?=some x:=by
 unfold o_ at h;by_cases h1:k<0
 .simp[h1]at h
 .have:k<kinds.length:=by simp[h1]at h;exact h
  exact⟨m0,gol_ m0⟩
theorem nN (kinds keys:List Int)(aggs:List Do)(h1:kinds.length<=100000)(h2:keys.length<=100000)(h3:aggs.length<=100000):PTz 160 [.one (be keys),.one (eU aggs),.one (be kinds)] (vKE (fL kinds keys aggs)):=by
 refine pa_ ax func160 rfl rfl ntmps160 m5 ?_;simp only[argT,PV.av,ah2,ah6];obtain⟨n,hn⟩:∃ n,keys.length=n:=⟨_,rfl⟩;obtain⟨m,hm⟩:∃ m,aggs.length=m:=⟨_,rfl⟩;have SE:(((keys.map λx=>[AC.int .i64 x]).length:Nat):Int)=n:=by simp[hn]
 have hmm:(((aggs.map cA).length:Nat):Int)=m:=by simp[hm]
 have T_:(((kinds.map λx=>[AC.int .i64 x]).length:Nat):Int)=kinds.length:=by simp
 have fin:∀ {T:Tm} {L:List Ob} {w:List Int×Int},w=fL kinds keys aggs->Res xK f160.results.toList T L (vKE w)->Res xK f160.results.toList T L (vKE (fL kinds keys aggs)):=λe h=>by rw[<- e];exact h
 repeat' (first|refine gv_ ax ar ?_|refine gi_ (λhb=>?_) (λhb=>?_)<;>try exact(fx_ hb).elim|fail)
 refine br 8 1 rfl ?_;refine b7 (λs:Nat×List Int=>match s with|(i,out)=>[(0,.one (.c (be keys))),(1,.one (.c (eU aggs))),(2,.one (.c (be kinds))),(8,.one (.own (out.map λx=>[AC.int .i64 x]) 0)),(13,.one (.c (be keys))),(14,.one (.c (.int .i64 n))),(15,.one (.c (.int .i64 i)))]) (λs=>[.spare s.1 1]) (λs=>s.1<=n/\s.2.length=s.1/\cm kinds keys []=cm kinds (keys.drop s.1) s.2) (λs=>n-s.1) (0,[]) ⟨m0,rfl,rfl⟩ (λ_ _=>aia _)
  (fm_ ⟨rfl,rfl,rfl,rfl,rfl,aL SE,rfl,t7⟩ [] rfl ⟨t7,t7,t7,by show 0<1;omega,t7,t7,t7,t7⟩ ⟨t7,t7⟩) ?_
 rintro⟨i,out⟩ ⟨hi,Yh,hr⟩;dsimp only at hi Yh hr ⊢;have Qe:(out.map λx=>[AC.int .i64 x]).length=i:=by simp[Yh]
 by_cases O8:i<n
 .obtain⟨k,hx⟩:=gol_ (show i<keys.length by omega)
  have Qh:=uM kinds keys out hx;have hN:decide ((i:Int)<n)=true:=by simp;exact O8
  have hL:decide ((((kinds.map λx=>[AC.int .i64 x]).length:Nat):Int)<=k)=decide ((kinds.length:Int)<=k):=by rw[T_]
  cases SI:o_ kinds k with
  |true =>
   obtain⟨UD,y,hy⟩:=L5 SI;have hg:=x7 hy;rw[SI,ahT,hg]at Qh;have TB:decide (k<0)=false:=by simp;omega
   have TL:decide ((((kinds.map λx=>[AC.int .i64 x]).length:Nat):Int)<=k)=false:=by rw[hL];unfold o_ at SI;rw[TB]at SI;simpa using SI
   repeat' (first|rw[hN]|rw[TB]|rw[TL]|(refine aO rfl rfl rfl rfl rfl rfl rfl rfl (aU hx) ?_ ?_;· exact⟨m0,rfl⟩)|(refine aO rfl rfl rfl rfl rfl rfl rfl rfl (qw hy) ?_ ?_;· exact⟨m0,rfl⟩)|refine gv_ ax ar ?_|refine gi_ (λhb=>?_) (λhb=>?_)<;>try exact(fx_ hb).elim|(refine st_pop rfl rfl rfl rfl ?_ ?_;· (repeat' (first|exact t7|rfl|exact ah1 rfl|omega|(intro e he;simp at he;subst he;rfl)|exact Qe|(show(_+1)*8<=_;omega)|(show _+1<=_;omega)|apply And.intro)))|(refine st_lop rfl rfl rfl rfl ?_ ?_;· (repeat' (first|exact t7|rfl|exact ah1 rfl|omega|(intro e he;simp at he;subst he;rfl)|exact Qe|(show(_+1)*8<=_;omega)|(show _+1<=_;omega)|apply And.intro)))|(refine sS_ rfl rfl rfl ?_ ?_;· (repeat' (first|exact t7|rfl|exact ah1 rfl|omega|(intro e he;simp at he;subst he;rfl)|exact Qe|(show(_+1)*8<=_;omega)|(show _+1<=_;omega)|apply And.intro)))|(refine st_lit rfl rfl rfl rfl ?_ ?_;· (repeat' (first|exact t7|rfl|exact ah1 rfl|omega|(intro e he;simp at he;subst he;rfl)|exact Qe|(show(_+1)*8<=_;omega)|(show _+1<=_;omega)|apply And.intro)))|fail)
   exact⟨(i+1,out++[y]),⟨m0,by simp[Yh],hr.trans Qh⟩,by show n-(i+1)<n-i;omega,fm_ ⟨rfl,rfl,rfl,bY (by rw[ah4];rfl),rfl,rfl,aL (a8 m0 m0),t7⟩ [] rfl ⟨t7,t7,t7,by show 0<1;omega,t7,t7,t7,t7⟩ ⟨t7,t7⟩⟩
  |false =>
   rw[SI,ahS]at Qh;have hF:([],6)=fL kinds keys aggs:=by unfold fL;rw[hr,Qh];rfl
   have hD:(bif decide (k<0)then true else decide ((kinds.length:Int)<=k))=true:=by revert SI;unfold o_;cases (bif decide (k<0)then true else decide ((kinds.length:Int)<=k))<;>simp
   by_cases UD:k<0
   .have TB:decide (k<0)=true:=by simp[UD]
    repeat' (first|rw[hN]|rw[TB]|(refine aO rfl rfl rfl rfl rfl rfl rfl rfl (aU hx) ?_ ?_;· exact⟨m0,rfl⟩)|refine gv_ ax ar ?_|refine gi_ (λhb=>?_) (λhb=>?_)<;>try exact(fx_ hb).elim|(refine st_pop rfl rfl rfl rfl ?_ ?_;· (repeat' (first|exact t7|rfl|exact ah1 rfl|omega|(intro e he;simp at he;subst he;rfl)|exact Qe|(show(_+1)*8<=_;omega)|(show _+1<=_;omega)|apply And.intro)))|(refine st_lop rfl rfl rfl rfl ?_ ?_;· (repeat' (first|exact t7|rfl|exact ah1 rfl|omega|(intro e he;simp at he;subst he;rfl)|exact Qe|(show(_+1)*8<=_;omega)|(show _+1<=_;omega)|apply And.intro)))|(refine sS_ rfl rfl rfl ?_ ?_;· (repeat' (first|exact t7|rfl|exact ah1 rfl|omega|(intro e he;simp at he;subst he;rfl)|exact Qe|(show(_+1)*8<=_;omega)|(show _+1<=_;omega)|apply And.intro)))|(refine st_lit rfl rfl rfl rfl ?_ ?_;· (repeat' (first|exact t7|rfl|exact ah1 rfl|omega|(intro e he;simp at he;subst he;rfl)|exact Qe|(show(_+1)*8<=_;omega)|(show _+1<=_;omega)|apply And.intro)))|fail)
    exact az (fin (w:=([],6)) hF (aE rfl ⟨t7,t7,t7⟩ rfl))
   .have TB:decide (k<0)=false:=by simp[UD]
    have TL:decide ((((kinds.map λx=>[AC.int .i64 x]).length:Nat):Int)<=k)=true:=by rw[hL];rw[TB]at hD;exact hD
    repeat' (first|rw[hN]|rw[TB]|rw[TL]|(refine aO rfl rfl rfl rfl rfl rfl rfl rfl (aU hx) ?_ ?_;· exact⟨m0,rfl⟩)|refine gv_ ax ar ?_|refine gi_ (λhb=>?_) (λhb=>?_)<;>try exact(fx_ hb).elim|(refine st_pop rfl rfl rfl rfl ?_ ?_;· (repeat' (first|exact t7|rfl|exact ah1 rfl|omega|(intro e he;simp at he;subst he;rfl)|exact Qe|(show(_+1)*8<=_;omega)|(show _+1<=_;omega)|apply And.intro)))|(refine st_lop rfl rfl rfl rfl ?_ ?_;· (repeat' (first|exact t7|rfl|exact ah1 rfl|omega|(intro e he;simp at he;subst he;rfl)|exact Qe|(show(_+1)*8<=_;omega)|(show _+1<=_;omega)|apply And.intro)))|(refine sS_ rfl rfl rfl ?_ ?_;· (repeat' (first|exact t7|rfl|exact ah1 rfl|omega|(intro e he;simp at he;subst he;rfl)|exact Qe|(show(_+1)*8<=_;omega)|(show _+1<=_;omega)|apply And.intro)))|(refine st_lit rfl rfl rfl rfl ?_ ?_;· (repeat' (first|exact t7|rfl|exact ah1 rfl|omega|(intro e he;simp at he;subst he;rfl)|exact Qe|(show(_+1)*8<=_;omega)|(show _+1<=_;omega)|apply And.intro)))|fail)
    exact az (fin (w:=([],6)) hF (aE rfl ⟨t7,t7,t7⟩ rfl))
 .have hN:decide ((i:Int)<n)=false:=by simp;omega
  have hdr:keys.drop i=[]:=List.drop_of_length_le m0;rw[hdr]at hr;have hF0:fL kinds keys aggs=cW kinds aggs out:=by unfold fL;rw[hr];rfl
  repeat' (first|rw[hN]|refine gv_ ax ar ?_|refine gi_ (λhb=>?_) (λhb=>?_)<;>try exact(fx_ hb).elim|fail)
  refine b7 (λs:Nat×List Int=>match s with|(i,out)=>[(2,.one (.c (be kinds))),(8,.one (.own (out.map λx=>[AC.int .i64 x]) 0)),(35,.one (.c (eU aggs))),(36,.one (.c (.int .i64 m))),(37,.one (.c (.int .i64 i)))]) (λs=>[.spare s.2.length 1]) (λs=>s.1<=m/\s.2.length<=n+s.1/\fL kinds keys aggs=cW kinds (aggs.drop s.1) s.2) (λs=>m-s.1) (0,out) ⟨m0,by show out.length<=n+0;omega,hF0⟩ (λ_ _=>aia _)
   (fm_ ⟨rfl,rfl,rfl,aL hmm,rfl,t7⟩ [] (by rw[<- Yh];rfl) ⟨t7,by show 0<1;omega,t7,t7,t7,t7⟩ ⟨t7,t7⟩) ?_
  clear Qe Yh hr hF0 hN hi hdr;rintro⟨j,o2⟩ ⟨hj,Yh,hr⟩;dsimp only at hj Yh hr ⊢;have Qe:(o2.map λx=>[AC.int .i64 x]).length=o2.length:=by simp
  by_cases Rz:j<m
  .obtain⟨a,hx⟩:=gol_ (show j<aggs.length by omega)
   have Qh:=uW kinds aggs o2 hx;have hN:decide ((j:Int)<m)=true:=by simp;exact Rz
   obtain⟨op,arg⟩:=a;have Rx:(aggs.map cA)[((j:Nat):Int).toNat]?=some [.int .i64 op,.int .i64 arg]:=aU hx;have hinD:o_ kinds arg = !(bif decide (arg<0)then true else decide ((kinds.length:Int)<=arg)):=rfl;have S1:cB kinds (op,arg)=bif (bif decide (op<1)then true else decide (4<op))then 7 else bif (bif decide (arg = -1)then decide (op=1)else false)then 0 else bif !(o_ kinds arg)then 6 else bif (bif decide (op=2)then decide (kinds.getD arg.toNat 0≠1)else false)then 7 else 0:=rfl
   have YZ:cS kinds (op,arg)=bif (bif decide (op=3)then true else decide (op=4))then kinds.getD arg.toNat 0 else 1:=rfl
   generalize cB kinds (op,arg)=er at Qh S1;generalize cS kinds (op,arg)=kk at Qh YZ;by_cases h1:op<1
   .have Wm:decide (op<1)=true:=by simp[h1]
    rw[Wm]at S1;have he:er=7:=S1;subst he
    repeat' (first|rw[hN]|rw[Wm]|(refine aO rfl rfl rfl rfl rfl rfl rfl rfl Rx ?_ ?_;· exact⟨m0,rfl⟩)|refine gv_ ax ar ?_|refine gi_ (λhb=>?_) (λhb=>?_)<;>try exact(fx_ hb).elim|(refine st_pop rfl rfl rfl rfl ?_ ?_;· (repeat' (first|exact t7|rfl|exact ah1 rfl|omega|(intro e he;simp at he;subst he;rfl)|exact Qe|(show(_+1)*8<=_;omega)|(show _+1<=_;omega)|apply And.intro)))|(refine st_lop rfl rfl rfl rfl ?_ ?_;· (repeat' (first|exact t7|rfl|exact ah1 rfl|omega|(intro e he;simp at he;subst he;rfl)|exact Qe|(show(_+1)*8<=_;omega)|(show _+1<=_;omega)|apply And.intro)))|(refine sS_ rfl rfl rfl ?_ ?_;· (repeat' (first|exact t7|rfl|exact ah1 rfl|omega|(intro e he;simp at he;subst he;rfl)|exact Qe|(show(_+1)*8<=_;omega)|(show _+1<=_;omega)|apply And.intro)))|(refine st_lit rfl rfl rfl rfl ?_ ?_;· (repeat' (first|exact t7|rfl|exact ah1 rfl|omega|(intro e he;simp at he;subst he;rfl)|exact Qe|(show(_+1)*8<=_;omega)|(show _+1<=_;omega)|apply And.intro)))|fail)
    exact az (fin (w:=([],7)) (hr.trans Qh).symm (aE rfl ⟨t7,t7,t7⟩ rfl))
   by_cases h4:4<op
   .have Wm:decide (op<1)=false:=by simp[h1]
    have Zp:decide (4<op)=true:=by simp[h4]
    rw[Wm,Zp]at S1;have he:er=7:=S1;subst he
    repeat' (first|rw[hN]|rw[Wm]|rw[Zp]|(refine aO rfl rfl rfl rfl rfl rfl rfl rfl Rx ?_ ?_;· exact⟨m0,rfl⟩)|refine gv_ ax ar ?_|refine gi_ (λhb=>?_) (λhb=>?_)<;>try exact(fx_ hb).elim|(refine st_pop rfl rfl rfl rfl ?_ ?_;· (repeat' (first|exact t7|rfl|exact ah1 rfl|omega|(intro e he;simp at he;subst he;rfl)|exact Qe|(show(_+1)*8<=_;omega)|(show _+1<=_;omega)|apply And.intro)))|(refine st_lop rfl rfl rfl rfl ?_ ?_;· (repeat' (first|exact t7|rfl|exact ah1 rfl|omega|(intro e he;simp at he;subst he;rfl)|exact Qe|(show(_+1)*8<=_;omega)|(show _+1<=_;omega)|apply And.intro)))|(refine sS_ rfl rfl rfl ?_ ?_;· (repeat' (first|exact t7|rfl|exact ah1 rfl|omega|(intro e he;simp at he;subst he;rfl)|exact Qe|(show(_+1)*8<=_;omega)|(show _+1<=_;omega)|apply And.intro)))|(refine st_lit rfl rfl rfl rfl ?_ ?_;· (repeat' (first|exact t7|rfl|exact ah1 rfl|omega|(intro e he;simp at he;subst he;rfl)|exact Qe|(show(_+1)*8<=_;omega)|(show _+1<=_;omega)|apply And.intro)))|fail)
    exact az (fin (w:=([],7)) (hr.trans Qh).symm (aE rfl ⟨t7,t7,t7⟩ rfl))
   have TJ:op=1\/op=2\/op=3\/op=4:=m0
   cases SI:o_ kinds arg with
   |false =>
    rw[SI]at S1;by_cases X5:arg = -1
    .subst X5
     obtain rfl|rfl|rfl|rfl:=TJ
     .have he:er=0:=S1
      have hk:kk=1:=YZ;subst he hk
      repeat' (first|rw[hN]|(refine aO rfl rfl rfl rfl rfl rfl rfl rfl Rx ?_ ?_;· exact⟨m0,rfl⟩)|refine gv_ ax ar ?_|refine gi_ (λhb=>?_) (λhb=>?_)<;>try exact(fx_ hb).elim|(refine st_pop rfl rfl rfl rfl ?_ ?_;· (repeat' (first|exact t7|rfl|exact ah1 rfl|omega|(intro e he;simp at he;subst he;rfl)|exact Qe|(show(_+1)*8<=_;omega)|(show _+1<=_;omega)|apply And.intro)))|(refine st_lop rfl rfl rfl rfl ?_ ?_;· (repeat' (first|exact t7|rfl|exact ah1 rfl|omega|(intro e he;simp at he;subst he;rfl)|exact Qe|(show(_+1)*8<=_;omega)|(show _+1<=_;omega)|apply And.intro)))|(refine sS_ rfl rfl rfl ?_ ?_;· (repeat' (first|exact t7|rfl|exact ah1 rfl|omega|(intro e he;simp at he;subst he;rfl)|exact Qe|(show(_+1)*8<=_;omega)|(show _+1<=_;omega)|apply And.intro)))|(refine st_lit rfl rfl rfl rfl ?_ ?_;· (repeat' (first|exact t7|rfl|exact ah1 rfl|omega|(intro e he;simp at he;subst he;rfl)|exact Qe|(show(_+1)*8<=_;omega)|(show _+1<=_;omega)|apply And.intro)))|fail)
      exact⟨(j+1,o2++[1]),⟨by show j+1<=m;omega,by simp;omega,hr.trans Qh⟩,by show m-(j+1)<m-j;omega,fm_ ⟨rfl,bY (by rw[ah4];rfl),rfl,rfl,aL (a8 m0 m0),t7⟩ [.box [.c (.int .i64 1),.c (.int .i64 (-1))]] (by rw[ahZ];rfl) ⟨t7,by show 0<1;omega,t7,t7,t7,t7⟩ ⟨t7,t7⟩⟩
     .have he:er=6:=S1
      subst he
      repeat' (first|rw[hN]|(refine aO rfl rfl rfl rfl rfl rfl rfl rfl Rx ?_ ?_;· exact⟨m0,rfl⟩)|refine gv_ ax ar ?_|refine gi_ (λhb=>?_) (λhb=>?_)<;>try exact(fx_ hb).elim|(refine st_pop rfl rfl rfl rfl ?_ ?_;· (repeat' (first|exact t7|rfl|exact ah1 rfl|omega|(intro e he;simp at he;subst he;rfl)|exact Qe|(show(_+1)*8<=_;omega)|(show _+1<=_;omega)|apply And.intro)))|(refine st_lop rfl rfl rfl rfl ?_ ?_;· (repeat' (first|exact t7|rfl|exact ah1 rfl|omega|(intro e he;simp at he;subst he;rfl)|exact Qe|(show(_+1)*8<=_;omega)|(show _+1<=_;omega)|apply And.intro)))|(refine sS_ rfl rfl rfl ?_ ?_;· (repeat' (first|exact t7|rfl|exact ah1 rfl|omega|(intro e he;simp at he;subst he;rfl)|exact Qe|(show(_+1)*8<=_;omega)|(show _+1<=_;omega)|apply And.intro)))|(refine st_lit rfl rfl rfl rfl ?_ ?_;· (repeat' (first|exact t7|rfl|exact ah1 rfl|omega|(intro e he;simp at he;subst he;rfl)|exact Qe|(show(_+1)*8<=_;omega)|(show _+1<=_;omega)|apply And.intro)))|fail)
      exact az (fin (w:=([],6)) (hr.trans Qh).symm (aE rfl ⟨t7,t7,t7⟩ rfl))
     .have he:er=6:=S1
      subst he
      repeat' (first|rw[hN]|(refine aO rfl rfl rfl rfl rfl rfl rfl rfl Rx ?_ ?_;· exact⟨m0,rfl⟩)|refine gv_ ax ar ?_|refine gi_ (λhb=>?_) (λhb=>?_)<;>try exact(fx_ hb).elim|(refine st_pop rfl rfl rfl rfl ?_ ?_;· (repeat' (first|exact t7|rfl|exact ah1 rfl|omega|(intro e he;simp at he;subst he;rfl)|exact Qe|(show(_+1)*8<=_;omega)|(show _+1<=_;omega)|apply And.intro)))|(refine st_lop rfl rfl rfl rfl ?_ ?_;· (repeat' (first|exact t7|rfl|exact ah1 rfl|omega|(intro e he;simp at he;subst he;rfl)|exact Qe|(show(_+1)*8<=_;omega)|(show _+1<=_;omega)|apply And.intro)))|(refine sS_ rfl rfl rfl ?_ ?_;· (repeat' (first|exact t7|rfl|exact ah1 rfl|omega|(intro e he;simp at he;subst he;rfl)|exact Qe|(show(_+1)*8<=_;omega)|(show _+1<=_;omega)|apply And.intro)))|(refine st_lit rfl rfl rfl rfl ?_ ?_;· (repeat' (first|exact t7|rfl|exact ah1 rfl|omega|(intro e he;simp at he;subst he;rfl)|exact Qe|(show(_+1)*8<=_;omega)|(show _+1<=_;omega)|apply And.intro)))|fail)
      exact az (fin (w:=([],6)) (hr.trans Qh).symm (aE rfl ⟨t7,t7,t7⟩ rfl))
     .have he:er=6:=S1
      subst he
      repeat' (first|rw[hN]|(refine aO rfl rfl rfl rfl rfl rfl rfl rfl Rx ?_ ?_;· exact⟨m0,rfl⟩)|refine gv_ ax ar ?_|refine gi_ (λhb=>?_) (λhb=>?_)<;>try exact(fx_ hb).elim|(refine st_pop rfl rfl rfl rfl ?_ ?_;· (repeat' (first|exact t7|rfl|exact ah1 rfl|omega|(intro e he;simp at he;subst he;rfl)|exact Qe|(show(_+1)*8<=_;omega)|(show _+1<=_;omega)|apply And.intro)))|(refine st_lop rfl rfl rfl rfl ?_ ?_;· (repeat' (first|exact t7|rfl|exact ah1 rfl|omega|(intro e he;simp at he;subst he;rfl)|exact Qe|(show(_+1)*8<=_;omega)|(show _+1<=_;omega)|apply And.intro)))|(refine sS_ rfl rfl rfl ?_ ?_;· (repeat' (first|exact t7|rfl|exact ah1 rfl|omega|(intro e he;simp at he;subst he;rfl)|exact Qe|(show(_+1)*8<=_;omega)|(show _+1<=_;omega)|apply And.intro)))|(refine st_lit rfl rfl rfl rfl ?_ ?_;· (repeat' (first|exact t7|rfl|exact ah1 rfl|omega|(intro e he;simp at he;subst he;rfl)|exact Qe|(show(_+1)*8<=_;omega)|(show _+1<=_;omega)|apply And.intro)))|fail)
      exact az (fin (w:=([],6)) (hr.trans Qh).symm (aE rfl ⟨t7,t7,t7⟩ rfl))
    .have hM:decide (arg = -1)=false:=by simp[X5]
     have hD:(bif decide (arg<0)then true else decide ((((kinds.map λx=>[AC.int .i64 x]).length:Nat):Int)<=arg))=true:=by rw[T_];revert SI;unfold o_;cases (bif decide (arg<0)then true else decide ((kinds.length:Int)<=arg))<;>simp
     rw[hM]at S1;have hag6:er=6:=by rcases TJ with rfl|rfl|rfl|rfl<;>exact S1
     subst hag6;by_cases Ua:arg<0
     .have TB:decide (arg<0)=true:=by simp[Ua]
      obtain rfl|rfl|rfl|rfl:=TJ
      .repeat' (first|rw[hN]|rw[hM]|rw[TB]|(refine aO rfl rfl rfl rfl rfl rfl rfl rfl Rx ?_ ?_;· exact⟨m0,rfl⟩)|refine gv_ ax ar ?_|refine gi_ (λhb=>?_) (λhb=>?_)<;>try exact(fx_ hb).elim|(refine st_pop rfl rfl rfl rfl ?_ ?_;· (repeat' (first|exact t7|rfl|exact ah1 rfl|omega|(intro e he;simp at he;subst he;rfl)|exact Qe|(show(_+1)*8<=_;omega)|(show _+1<=_;omega)|apply And.intro)))|(refine st_lop rfl rfl rfl rfl ?_ ?_;· (repeat' (first|exact t7|rfl|exact ah1 rfl|omega|(intro e he;simp at he;subst he;rfl)|exact Qe|(show(_+1)*8<=_;omega)|(show _+1<=_;omega)|apply And.intro)))|(refine sS_ rfl rfl rfl ?_ ?_;· (repeat' (first|exact t7|rfl|exact ah1 rfl|omega|(intro e he;simp at he;subst he;rfl)|exact Qe|(show(_+1)*8<=_;omega)|(show _+1<=_;omega)|apply And.intro)))|(refine st_lit rfl rfl rfl rfl ?_ ?_;· (repeat' (first|exact t7|rfl|exact ah1 rfl|omega|(intro e he;simp at he;subst he;rfl)|exact Qe|(show(_+1)*8<=_;omega)|(show _+1<=_;omega)|apply And.intro)))|fail)
       exact az (fin (w:=([],6)) (hr.trans Qh).symm (aE rfl ⟨t7,t7,t7⟩ rfl))
      .repeat' (first|rw[hN]|rw[hM]|rw[TB]|(refine aO rfl rfl rfl rfl rfl rfl rfl rfl Rx ?_ ?_;· exact⟨m0,rfl⟩)|refine gv_ ax ar ?_|refine gi_ (λhb=>?_) (λhb=>?_)<;>try exact(fx_ hb).elim|(refine st_pop rfl rfl rfl rfl ?_ ?_;· (repeat' (first|exact t7|rfl|exact ah1 rfl|omega|(intro e he;simp at he;subst he;rfl)|exact Qe|(show(_+1)*8<=_;omega)|(show _+1<=_;omega)|apply And.intro)))|(refine st_lop rfl rfl rfl rfl ?_ ?_;· (repeat' (first|exact t7|rfl|exact ah1 rfl|omega|(intro e he;simp at he;subst he;rfl)|exact Qe|(show(_+1)*8<=_;omega)|(show _+1<=_;omega)|apply And.intro)))|(refine sS_ rfl rfl rfl ?_ ?_;· (repeat' (first|exact t7|rfl|exact ah1 rfl|omega|(intro e he;simp at he;subst he;rfl)|exact Qe|(show(_+1)*8<=_;omega)|(show _+1<=_;omega)|apply And.intro)))|(refine st_lit rfl rfl rfl rfl ?_ ?_;· (repeat' (first|exact t7|rfl|exact ah1 rfl|omega|(intro e he;simp at he;subst he;rfl)|exact Qe|(show(_+1)*8<=_;omega)|(show _+1<=_;omega)|apply And.intro)))|fail)
       exact az (fin (w:=([],6)) (hr.trans Qh).symm (aE rfl ⟨t7,t7,t7⟩ rfl))
      .repeat' (first|rw[hN]|rw[hM]|rw[TB]|(refine aO rfl rfl rfl rfl rfl rfl rfl rfl Rx ?_ ?_;· exact⟨m0,rfl⟩)|refine gv_ ax ar ?_|refine gi_ (λhb=>?_) (λhb=>?_)<;>try exact(fx_ hb).elim|(refine st_pop rfl rfl rfl rfl ?_ ?_;· (repeat' (first|exact t7|rfl|exact ah1 rfl|omega|(intro e he;simp at he;subst he;rfl)|exact Qe|(show(_+1)*8<=_;omega)|(show _+1<=_;omega)|apply And.intro)))|(refine st_lop rfl rfl rfl rfl ?_ ?_;· (repeat' (first|exact t7|rfl|exact ah1 rfl|omega|(intro e he;simp at he;subst he;rfl)|exact Qe|(show(_+1)*8<=_;omega)|(show _+1<=_;omega)|apply And.intro)))|(refine sS_ rfl rfl rfl ?_ ?_;· (repeat' (first|exact t7|rfl|exact ah1 rfl|omega|(intro e he;simp at he;subst he;rfl)|exact Qe|(show(_+1)*8<=_;omega)|(show _+1<=_;omega)|apply And.intro)))|(refine st_lit rfl rfl rfl rfl ?_ ?_;· (repeat' (first|exact t7|rfl|exact ah1 rfl|omega|(intro e he;simp at he;subst he;rfl)|exact Qe|(show(_+1)*8<=_;omega)|(show _+1<=_;omega)|apply And.intro)))|fail)
       exact az (fin (w:=([],6)) (hr.trans Qh).symm (aE rfl ⟨t7,t7,t7⟩ rfl))
      .repeat' (first|rw[hN]|rw[hM]|rw[TB]|(refine aO rfl rfl rfl rfl rfl rfl rfl rfl Rx ?_ ?_;· exact⟨m0,rfl⟩)|refine gv_ ax ar ?_|refine gi_ (λhb=>?_) (λhb=>?_)<;>try exact(fx_ hb).elim|(refine st_pop rfl rfl rfl rfl ?_ ?_;· (repeat' (first|exact t7|rfl|exact ah1 rfl|omega|(intro e he;simp at he;subst he;rfl)|exact Qe|(show(_+1)*8<=_;omega)|(show _+1<=_;omega)|apply And.intro)))|(refine st_lop rfl rfl rfl rfl ?_ ?_;· (repeat' (first|exact t7|rfl|exact ah1 rfl|omega|(intro e he;simp at he;subst he;rfl)|exact Qe|(show(_+1)*8<=_;omega)|(show _+1<=_;omega)|apply And.intro)))|(refine sS_ rfl rfl rfl ?_ ?_;· (repeat' (first|exact t7|rfl|exact ah1 rfl|omega|(intro e he;simp at he;subst he;rfl)|exact Qe|(show(_+1)*8<=_;omega)|(show _+1<=_;omega)|apply And.intro)))|(refine st_lit rfl rfl rfl rfl ?_ ?_;· (repeat' (first|exact t7|rfl|exact ah1 rfl|omega|(intro e he;simp at he;subst he;rfl)|exact Qe|(show(_+1)*8<=_;omega)|(show _+1<=_;omega)|apply And.intro)))|fail)
       exact az (fin (w:=([],6)) (hr.trans Qh).symm (aE rfl ⟨t7,t7,t7⟩ rfl))
     .have TB:decide (arg<0)=false:=by simp[Ua]
      have TL:decide ((((kinds.map λx=>[AC.int .i64 x]).length:Nat):Int)<=arg)=true:=by rw[TB]at hD;exact hD
      obtain rfl|rfl|rfl|rfl:=TJ
      .repeat' (first|rw[hN]|rw[hM]|rw[TB]|rw[TL]|(refine aO rfl rfl rfl rfl rfl rfl rfl rfl Rx ?_ ?_;· exact⟨m0,rfl⟩)|refine gv_ ax ar ?_|refine gi_ (λhb=>?_) (λhb=>?_)<;>try exact(fx_ hb).elim|(refine st_pop rfl rfl rfl rfl ?_ ?_;· (repeat' (first|exact t7|rfl|exact ah1 rfl|omega|(intro e he;simp at he;subst he;rfl)|exact Qe|(show(_+1)*8<=_;omega)|(show _+1<=_;omega)|apply And.intro)))|(refine st_lop rfl rfl rfl rfl ?_ ?_;· (repeat' (first|exact t7|rfl|exact ah1 rfl|omega|(intro e he;simp at he;subst he;rfl)|exact Qe|(show(_+1)*8<=_;omega)|(show _+1<=_;omega)|apply And.intro)))|(refine sS_ rfl rfl rfl ?_ ?_;· (repeat' (first|exact t7|rfl|exact ah1 rfl|omega|(intro e he;simp at he;subst he;rfl)|exact Qe|(show(_+1)*8<=_;omega)|(show _+1<=_;omega)|apply And.intro)))|(refine st_lit rfl rfl rfl rfl ?_ ?_;· (repeat' (first|exact t7|rfl|exact ah1 rfl|omega|(intro e he;simp at he;subst he;rfl)|exact Qe|(show(_+1)*8<=_;omega)|(show _+1<=_;omega)|apply And.intro)))|fail)
       exact az (fin (w:=([],6)) (hr.trans Qh).symm (aE rfl ⟨t7,t7,t7⟩ rfl))
      .repeat' (first|rw[hN]|rw[hM]|rw[TB]|rw[TL]|(refine aO rfl rfl rfl rfl rfl rfl rfl rfl Rx ?_ ?_;· exact⟨m0,rfl⟩)|refine gv_ ax ar ?_|refine gi_ (λhb=>?_) (λhb=>?_)<;>try exact(fx_ hb).elim|(refine st_pop rfl rfl rfl rfl ?_ ?_;· (repeat' (first|exact t7|rfl|exact ah1 rfl|omega|(intro e he;simp at he;subst he;rfl)|exact Qe|(show(_+1)*8<=_;omega)|(show _+1<=_;omega)|apply And.intro)))|(refine st_lop rfl rfl rfl rfl ?_ ?_;· (repeat' (first|exact t7|rfl|exact ah1 rfl|omega|(intro e he;simp at he;subst he;rfl)|exact Qe|(show(_+1)*8<=_;omega)|(show _+1<=_;omega)|apply And.intro)))|(refine sS_ rfl rfl rfl ?_ ?_;· (repeat' (first|exact t7|rfl|exact ah1 rfl|omega|(intro e he;simp at he;subst he;rfl)|exact Qe|(show(_+1)*8<=_;omega)|(show _+1<=_;omega)|apply And.intro)))|(refine st_lit rfl rfl rfl rfl ?_ ?_;· (repeat' (first|exact t7|rfl|exact ah1 rfl|omega|(intro e he;simp at he;subst he;rfl)|exact Qe|(show(_+1)*8<=_;omega)|(show _+1<=_;omega)|apply And.intro)))|fail)
       exact az (fin (w:=([],6)) (hr.trans Qh).symm (aE rfl ⟨t7,t7,t7⟩ rfl))
      .repeat' (first|rw[hN]|rw[hM]|rw[TB]|rw[TL]|(refine aO rfl rfl rfl rfl rfl rfl rfl rfl Rx ?_ ?_;· exact⟨m0,rfl⟩)|refine gv_ ax ar ?_|refine gi_ (λhb=>?_) (λhb=>?_)<;>try exact(fx_ hb).elim|(refine st_pop rfl rfl rfl rfl ?_ ?_;· (repeat' (first|exact t7|rfl|exact ah1 rfl|omega|(intro e he;simp at he;subst he;rfl)|exact Qe|(show(_+1)*8<=_;omega)|(show _+1<=_;omega)|apply And.intro)))|(refine st_lop rfl rfl rfl rfl ?_ ?_;· (repeat' (first|exact t7|rfl|exact ah1 rfl|omega|(intro e he;simp at he;subst he;rfl)|exact Qe|(show(_+1)*8<=_;omega)|(show _+1<=_;omega)|apply And.intro)))|(refine sS_ rfl rfl rfl ?_ ?_;· (repeat' (first|exact t7|rfl|exact ah1 rfl|omega|(intro e he;simp at he;subst he;rfl)|exact Qe|(show(_+1)*8<=_;omega)|(show _+1<=_;omega)|apply And.intro)))|(refine st_lit rfl rfl rfl rfl ?_ ?_;· (repeat' (first|exact t7|rfl|exact ah1 rfl|omega|(intro e he;simp at he;subst he;rfl)|exact Qe|(show(_+1)*8<=_;omega)|(show _+1<=_;omega)|apply And.intro)))|fail)
       exact az (fin (w:=([],6)) (hr.trans Qh).symm (aE rfl ⟨t7,t7,t7⟩ rfl))
      .repeat' (first|rw[hN]|rw[hM]|rw[TB]|rw[TL]|(refine aO rfl rfl rfl rfl rfl rfl rfl rfl Rx ?_ ?_;· exact⟨m0,rfl⟩)|refine gv_ ax ar ?_|refine gi_ (λhb=>?_) (λhb=>?_)<;>try exact(fx_ hb).elim|(refine st_pop rfl rfl rfl rfl ?_ ?_;· (repeat' (first|exact t7|rfl|exact ah1 rfl|omega|(intro e he;simp at he;subst he;rfl)|exact Qe|(show(_+1)*8<=_;omega)|(show _+1<=_;omega)|apply And.intro)))|(refine st_lop rfl rfl rfl rfl ?_ ?_;· (repeat' (first|exact t7|rfl|exact ah1 rfl|omega|(intro e he;simp at he;subst he;rfl)|exact Qe|(show(_+1)*8<=_;omega)|(show _+1<=_;omega)|apply And.intro)))|(refine sS_ rfl rfl rfl ?_ ?_;· (repeat' (first|exact t7|rfl|exact ah1 rfl|omega|(intro e he;simp at he;subst he;rfl)|exact Qe|(show(_+1)*8<=_;omega)|(show _+1<=_;omega)|apply And.intro)))|(refine st_lit rfl rfl rfl rfl ?_ ?_;· (repeat' (first|exact t7|rfl|exact ah1 rfl|omega|(intro e he;simp at he;subst he;rfl)|exact Qe|(show(_+1)*8<=_;omega)|(show _+1<=_;omega)|apply And.intro)))|fail)
       exact az (fin (w:=([],6)) (hr.trans Qh).symm (aE rfl ⟨t7,t7,t7⟩ rfl))
   |true =>
    obtain⟨UD,y,hy⟩:=L5 SI;have hg:=x7 hy;have hM:decide (arg = -1)=false:=by simp;omega
    have TB:decide (arg<0)=false:=by simp;omega
    have TL:decide ((((kinds.map λx=>[AC.int .i64 x]).length:Nat):Int)<=arg)=false:=by rw[T_];unfold o_ at SI;rw[TB]at SI;simpa using SI
    rw[SI,hg,hM]at S1;rw[hg]at YZ;obtain rfl|rfl|rfl|rfl:=TJ
    .have he:er=0:=S1
     have hk:kk=1:=YZ;subst he hk
     repeat' (first|rw[hN]|rw[hM]|rw[TB]|rw[TL]|(refine aO rfl rfl rfl rfl rfl rfl rfl rfl Rx ?_ ?_;· exact⟨m0,rfl⟩)|refine gv_ ax ar ?_|refine gi_ (λhb=>?_) (λhb=>?_)<;>try exact(fx_ hb).elim|(refine st_pop rfl rfl rfl rfl ?_ ?_;· (repeat' (first|exact t7|rfl|exact ah1 rfl|omega|(intro e he;simp at he;subst he;rfl)|exact Qe|(show(_+1)*8<=_;omega)|(show _+1<=_;omega)|apply And.intro)))|(refine st_lop rfl rfl rfl rfl ?_ ?_;· (repeat' (first|exact t7|rfl|exact ah1 rfl|omega|(intro e he;simp at he;subst he;rfl)|exact Qe|(show(_+1)*8<=_;omega)|(show _+1<=_;omega)|apply And.intro)))|(refine sS_ rfl rfl rfl ?_ ?_;· (repeat' (first|exact t7|rfl|exact ah1 rfl|omega|(intro e he;simp at he;subst he;rfl)|exact Qe|(show(_+1)*8<=_;omega)|(show _+1<=_;omega)|apply And.intro)))|(refine st_lit rfl rfl rfl rfl ?_ ?_;· (repeat' (first|exact t7|rfl|exact ah1 rfl|omega|(intro e he;simp at he;subst he;rfl)|exact Qe|(show(_+1)*8<=_;omega)|(show _+1<=_;omega)|apply And.intro)))|fail)
     exact⟨(j+1,o2++[1]),⟨by show j+1<=m;omega,by simp;omega,hr.trans Qh⟩,by show m-(j+1)<m-j;omega,fm_ ⟨rfl,bY (by rw[ah4];rfl),rfl,rfl,aL (a8 m0 m0),t7⟩ [.box [.c (.int .i64 1),.c (.int .i64 arg)]] (by rw[ahZ];rfl) ⟨t7,by show 0<1;omega,t7,t7,t7,t7⟩ ⟨t7,t7⟩⟩
    .by_cases hy1:y=1
     .have hY:decide (y≠1)=false:=by simp[hy1]
      rw[hY]at S1;have he:er=0:=S1;have hk:kk=1:=YZ;subst he hk
      repeat' (first|rw[hN]|rw[hM]|rw[TB]|rw[TL]|rw[hY]|(refine aO rfl rfl rfl rfl rfl rfl rfl rfl Rx ?_ ?_;· exact⟨m0,rfl⟩)|(refine aO rfl rfl rfl rfl rfl rfl rfl rfl (qw hy) ?_ ?_;· exact⟨m0,rfl⟩)|refine gv_ ax ar ?_|refine gi_ (λhb=>?_) (λhb=>?_)<;>try exact(fx_ hb).elim|(refine st_pop rfl rfl rfl rfl ?_ ?_;· (repeat' (first|exact t7|rfl|exact ah1 rfl|omega|(intro e he;simp at he;subst he;rfl)|exact Qe|(show(_+1)*8<=_;omega)|(show _+1<=_;omega)|apply And.intro)))|(refine st_lop rfl rfl rfl rfl ?_ ?_;· (repeat' (first|exact t7|rfl|exact ah1 rfl|omega|(intro e he;simp at he;subst he;rfl)|exact Qe|(show(_+1)*8<=_;omega)|(show _+1<=_;omega)|apply And.intro)))|(refine sS_ rfl rfl rfl ?_ ?_;· (repeat' (first|exact t7|rfl|exact ah1 rfl|omega|(intro e he;simp at he;subst he;rfl)|exact Qe|(show(_+1)*8<=_;omega)|(show _+1<=_;omega)|apply And.intro)))|(refine st_lit rfl rfl rfl rfl ?_ ?_;· (repeat' (first|exact t7|rfl|exact ah1 rfl|omega|(intro e he;simp at he;subst he;rfl)|exact Qe|(show(_+1)*8<=_;omega)|(show _+1<=_;omega)|apply And.intro)))|fail)
      exact⟨(j+1,o2++[1]),⟨by show j+1<=m;omega,by simp;omega,hr.trans Qh⟩,by show m-(j+1)<m-j;omega,fm_ ⟨rfl,bY (by rw[ah4];rfl),rfl,rfl,aL (a8 m0 m0),t7⟩ [.box [.c (.int .i64 2),.c (.int .i64 arg)]] (by rw[ahZ];rfl) ⟨t7,by show 0<1;omega,t7,t7,t7,t7⟩ ⟨t7,t7⟩⟩
     .have hY:decide (y≠1)=true:=by simp[hy1]
      rw[hY]at S1;have he:er=7:=S1;subst he
      repeat' (first|rw[hN]|rw[hM]|rw[TB]|rw[TL]|rw[hY]|(refine aO rfl rfl rfl rfl rfl rfl rfl rfl Rx ?_ ?_;· exact⟨m0,rfl⟩)|(refine aO rfl rfl rfl rfl rfl rfl rfl rfl (qw hy) ?_ ?_;· exact⟨m0,rfl⟩)|refine gv_ ax ar ?_|refine gi_ (λhb=>?_) (λhb=>?_)<;>try exact(fx_ hb).elim|(refine st_pop rfl rfl rfl rfl ?_ ?_;· (repeat' (first|exact t7|rfl|exact ah1 rfl|omega|(intro e he;simp at he;subst he;rfl)|exact Qe|(show(_+1)*8<=_;omega)|(show _+1<=_;omega)|apply And.intro)))|(refine st_lop rfl rfl rfl rfl ?_ ?_;· (repeat' (first|exact t7|rfl|exact ah1 rfl|omega|(intro e he;simp at he;subst he;rfl)|exact Qe|(show(_+1)*8<=_;omega)|(show _+1<=_;omega)|apply And.intro)))|(refine sS_ rfl rfl rfl ?_ ?_;· (repeat' (first|exact t7|rfl|exact ah1 rfl|omega|(intro e he;simp at he;subst he;rfl)|exact Qe|(show(_+1)*8<=_;omega)|(show _+1<=_;omega)|apply And.intro)))|(refine st_lit rfl rfl rfl rfl ?_ ?_;· (repeat' (first|exact t7|rfl|exact ah1 rfl|omega|(intro e he;simp at he;subst he;rfl)|exact Qe|(show(_+1)*8<=_;omega)|(show _+1<=_;omega)|apply And.intro)))|fail)
      exact az (fin (w:=([],7)) (hr.trans Qh).symm (aE rfl ⟨t7,t7,t7⟩ rfl))
    .have he:er=0:=S1
     have hk:kk=y:=YZ;subst he hk
     repeat' (first|rw[hN]|rw[hM]|rw[TB]|rw[TL]|(refine aO rfl rfl rfl rfl rfl rfl rfl rfl Rx ?_ ?_;· exact⟨m0,rfl⟩)|(refine aO rfl rfl rfl rfl rfl rfl rfl rfl (qw hy) ?_ ?_;· exact⟨m0,rfl⟩)|refine gv_ ax ar ?_|refine gi_ (λhb=>?_) (λhb=>?_)<;>try exact(fx_ hb).elim|(refine st_pop rfl rfl rfl rfl ?_ ?_;· (repeat' (first|exact t7|rfl|exact ah1 rfl|omega|(intro e he;simp at he;subst he;rfl)|exact Qe|(show(_+1)*8<=_;omega)|(show _+1<=_;omega)|apply And.intro)))|(refine st_lop rfl rfl rfl rfl ?_ ?_;· (repeat' (first|exact t7|rfl|exact ah1 rfl|omega|(intro e he;simp at he;subst he;rfl)|exact Qe|(show(_+1)*8<=_;omega)|(show _+1<=_;omega)|apply And.intro)))|(refine sS_ rfl rfl rfl ?_ ?_;· (repeat' (first|exact t7|rfl|exact ah1 rfl|omega|(intro e he;simp at he;subst he;rfl)|exact Qe|(show(_+1)*8<=_;omega)|(show _+1<=_;omega)|apply And.intro)))|(refine st_lit rfl rfl rfl rfl ?_ ?_;· (repeat' (first|exact t7|rfl|exact ah1 rfl|omega|(intro e he;simp at he;subst he;rfl)|exact Qe|(show(_+1)*8<=_;omega)|(show _+1<=_;omega)|apply And.intro)))|fail)
     exact⟨(j+1,o2++[kk]),⟨by show j+1<=m;omega,by simp;omega,hr.trans Qh⟩,by show m-(j+1)<m-j;omega,fm_ ⟨rfl,bY (by rw[ah4];rfl),rfl,rfl,aL (a8 m0 m0),t7⟩ [.box [.c (.int .i64 3),.c (.int .i64 arg)]] (by rw[ahZ];rfl) ⟨t7,by show 0<1;omega,t7,t7,t7,t7⟩ ⟨t7,t7⟩⟩
    .have he:er=0:=S1
     have hk:kk=y:=YZ;subst he hk
     repeat' (first|rw[hN]|rw[hM]|rw[TB]|rw[TL]|(refine aO rfl rfl rfl rfl rfl rfl rfl rfl Rx ?_ ?_;· exact⟨m0,rfl⟩)|(refine aO rfl rfl rfl rfl rfl rfl rfl rfl (qw hy) ?_ ?_;· exact⟨m0,rfl⟩)|refine gv_ ax ar ?_|refine gi_ (λhb=>?_) (λhb=>?_)<;>try exact(fx_ hb).elim|(refine st_pop rfl rfl rfl rfl ?_ ?_;· (repeat' (first|exact t7|rfl|exact ah1 rfl|omega|(intro e he;simp at he;subst he;rfl)|exact Qe|(show(_+1)*8<=_;omega)|(show _+1<=_;omega)|apply And.intro)))|(refine st_lop rfl rfl rfl rfl ?_ ?_;· (repeat' (first|exact t7|rfl|exact ah1 rfl|omega|(intro e he;simp at he;subst he;rfl)|exact Qe|(show(_+1)*8<=_;omega)|(show _+1<=_;omega)|apply And.intro)))|(refine sS_ rfl rfl rfl ?_ ?_;· (repeat' (first|exact t7|rfl|exact ah1 rfl|omega|(intro e he;simp at he;subst he;rfl)|exact Qe|(show(_+1)*8<=_;omega)|(show _+1<=_;omega)|apply And.intro)))|(refine st_lit rfl rfl rfl rfl ?_ ?_;· (repeat' (first|exact t7|rfl|exact ah1 rfl|omega|(intro e he;simp at he;subst he;rfl)|exact Qe|(show(_+1)*8<=_;omega)|(show _+1<=_;omega)|apply And.intro)))|fail)
     exact⟨(j+1,o2++[kk]),⟨by show j+1<=m;omega,by simp;omega,hr.trans Qh⟩,by show m-(j+1)<m-j;omega,fm_ ⟨rfl,bY (by rw[ah4];rfl),rfl,rfl,aL (a8 m0 m0),t7⟩ [.box [.c (.int .i64 4),.c (.int .i64 arg)]] (by rw[ahZ];rfl) ⟨t7,by show 0<1;omega,t7,t7,t7,t7⟩ ⟨t7,t7⟩⟩
  .have hN:decide ((j:Int)<m)=false:=by simp;omega
   have hdr:aggs.drop j=[]:=List.drop_of_length_le m0;rw[hdr]at hr
   repeat' (first|rw[hN]|refine gv_ ax ar ?_|refine gi_ (λhb=>?_) (λhb=>?_)<;>try exact(fx_ hb).elim|fail)
   exact az (fin (w:=(o2,0)) hr.symm (aE rfl (by trivial) rfl))
