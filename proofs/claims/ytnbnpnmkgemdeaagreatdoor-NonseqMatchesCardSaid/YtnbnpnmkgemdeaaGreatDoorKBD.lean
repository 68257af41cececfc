/- Parts of the proof, joined. No condition. -/
import Derived.Test.YtnbnpnmkgemdeaaGreatDoorKAA
import Derived.Test.YtnbnpnmkgemdeaaGreatDoorKBC
import Derived.Test.YtnbnpnmkgemdeaaGreatDoorKBE
set_option linter.unusedSimpArgs false
set_option linter.unusedVariables false
namespace Go.Proofs.YtnbnpnmkgemdeaaGreatDoor
open Go.RowKit Go.MapKept
set_option maxRecDepth 100000
theorem DF {α:Type} {l:List α} {body:Int->Option (Step Int Bool)} {P:α->Prop} (h1 : ∀ (i:Nat) x,l[i]?=some x -> ∃ b,(b=true->P x)/\body (i:Int)=(bif !b then some (.ret false) else some (.next ((i+1:Nat):Int))))
  (h2:body (l.length:Int)=some (.exit (l.length:Int))) (hl:l.length<fuel):(ah body fuel 0=some (.inl (l.length:Int)) /\ ∀ x∈l,P x)\/ah body fuel 0=some (.inr false):=by
 have key : ∀ (n i:Nat),i<=l.length->l.length-i<n->(ah body n (i:Int)=some (.inl (l.length:Int)) /\ ∀ x∈l.drop i,P x)\/ah body n (i:Int)=some (.inr false):=by
  intro n
  induction n with
  | zero=>intro i _ h;omega
  | succ n ih =>
   intro i hi hn
   rw [ah]
   by_cases hlt:i<l.length
   ·obtain ⟨x,hx⟩:=gol_ hlt
    obtain ⟨b,hb,hs⟩:=h1 i x hx
    rw [hs]
    cases b with
    | false=>exact .inr rfl
    | true =>
     rcases ih (i+1) (by omega) (by omega) with ⟨k1,k2⟩|k
     ·refine .inl ⟨k1,fun y hy=>?_⟩
      rw [Zv hlt,(YY.1 hx).2] at hy
      rcases Zf.1 hy with rfl|hy
      ·exact hb rfl
      ·exact k2 y hy
     ·exact .inr k
   ·have:i=l.length:=by omega
    subst this
    rw [h2]
    exact .inl ⟨rfl,fun y hy=>by rw [ZO] at hy;cases hy⟩
 have:=key fuel 0 (Zj _) (by omega)
 rwa [List.drop_zero] at this
theorem Oi {kinds:List Int} (hk:kinds.length<=1000) : ∃ b,uk kinds=some b/\(b=true -> ∀ k∈kinds,1<=k/\k<=3):=by
 unfold uk
 have hl1 : ∀ (i:Nat) x,kinds[i]?=some x -> ∃ b:Bool,(b=true->(fun k=>1<=k/\k<=3) x)/\gX kinds (i:Int)=(bif !b then some (.ret false) else some (.next ((i+1:Nat):Int))):=by
  intro i x hx
  have hi:=(YY.1 hx).1
  obtain ⟨b,hb,hp⟩ : ∃ b,vO x=some b/\(b=true->1<=x/\x<=3):=by
   unfold vO
   by_cases h1:x=1
   ·rw [Y2 h1];exact ⟨true,rfl,fun _=>by omega⟩
   ·rw [Y1 h1,YZ]
    by_cases h2:x=2
    ·rw [Y2 h2];exact ⟨true,rfl,fun _=>by omega⟩
    ·rw [Y1 h2,YZ]
     exact ⟨_,rfl,fun h=>by have:=Zr h;omega⟩
  refine ⟨b,hp,?_⟩
  unfold gX
  dsimp only
  rw [aU hx,Y0,gn_ hx,YX,hb,YX,wrapN (by omega)]
 rcases DF (l:=kinds) (body:=gX kinds) (P:=fun k=>1<=k/\k<=3) hl1 (by unfold gX;dsimp only;rw [lF_,YZ]) (by unfold fuel;omega) with ⟨e,h⟩|e
 ·rw [e];exact ⟨true,rfl,fun _=>h⟩
 ·rw [e];exact ⟨false,rfl,fun h=>by cases h⟩
theorem Nq {l:List zl} {kinds:List Int} (hl:l.length<=1000) (hk:kinds.length<=1000) : ∃ b,NM l kinds=some b/\(b=true->(∀ v∈l,v.row.length=kinds.length /\ ∀ x∈v.row,vF x=true) /\ ∀ k∈kinds,1<=k/\k<=3):=by
 unfold NM
 have hl1 : ∀ (i:Nat) x,l[i]?=some x -> ∃ b:Bool,(b=true->(fun v=>v.row.length=kinds.length /\ ∀ x∈v.row,vF x=true) x)/\uS l kinds (i:Int)=(bif !b then some (.ret false) else some (.next ((i+1:Nat):Int))):=by
  intro i x hx
  have hi:=(YY.1 hx).1
  obtain ⟨b,hb,hp⟩:=Dh (row:=x.row) (kinds:=kinds) (by omega)
  refine ⟨b,hp,?_⟩
  unfold uS
  dsimp only
  rw [aU hx,Y0,gn_ hx,YX,hb,YX,wrapN (by omega)]
 rcases DF (l:=l) (body:=uS l kinds) (P:=fun v=>v.row.length=kinds.length /\ ∀ x∈v.row,vF x=true) hl1 (by unfold uS;dsimp only;rw [lF_,YZ]) (by unfold fuel;omega) with ⟨e,h⟩|e
 ·rw [e,YX]
  unfold uP
  dsimp only
  obtain ⟨b,hb,hp⟩:=Oi hk
  rw [hb]
  exact ⟨b,rfl,fun ht=>⟨h,hp ht⟩⟩
 ·rw [e];exact ⟨false,rfl,fun h=>by cases h⟩
theorem ER {l:List zl} (hl:l.length<=1000) : ∃ b,vo l=some b/\(b=true -> ∀ v∈l,bR v.valid=true):=by
 unfold vo
 have hl1 : ∀ (i:Nat) x,l[i]?=some x -> ∃ b:Bool,(b=true->(fun v:zl=>bR v.valid=true) x)/\j6 l (i:Int)=(bif !b then some (.ret false) else some (.next ((i+1:Nat):Int))):=by
  intro i x hx
  have hi:=(YY.1 hx).1
  refine ⟨bR x.valid,fun h=>h,?_⟩
  unfold j6
  dsimp only
  rw [aU hx,Y0,gn_ hx,YX,show oz x.valid=Tw x.valid from rfl,KR,YX,wrapN (by omega)]
 rcases DF (l:=l) (body:=j6 l) (P:=fun v=>bR v.valid=true) hl1 (by unfold j6;dsimp only;rw [lF_,YZ]) (by unfold fuel;omega) with ⟨e,h⟩|e
 ·rw [e];exact ⟨true,rfl,fun _=>h⟩
 ·rw [e];exact ⟨false,rfl,fun h=>by cases h⟩
def holdB (rel:Int) (p q:eG):Bool:=(bR p&&bR q)&&decide (dZ p q=rel)
theorem KF (rel:Int) (p q:eG):yb rel p q=some (holdB rel p q):=by
 unfold yb holdB
 rw [Nf,YX]
 cases hp:bR p<;>cases hq:bR q<;>rfl
theorem CL (l:List zl) (hl:l.length<=1000) (hr : ∀ v∈l,v.row.length<=1000):uF l=some (l.map fun v=>(⟨v.row,v.valid⟩:tZ)):=by
 unfold uF
 rw [kQ (l:=l) (fun v=>[(⟨v.row,v.valid⟩:tZ)]) 3518437208883 ?_ ?_ (by unfold fuel;omega) [] (by rw [fo_];simp;omega)]
 ·rw [YX,Y3,fo_];rfl
 ·intro s i x hx hb
  have hi:=(YY.1 hx).1
  have hxr:=hr x (Y4 hx)
  unfold rE
  dsimp only
  rw [aU hx,Y0,gn_ hx,YX,Y2 (show x.row.length<=4398046511104 by omega),Y0,Y2 (show s.length+1<=3518437208883 from hb),Y0,wrapN (by omega)]
 ·intro s
  unfold rE
  dsimp only
  rw [lF_,YZ]
def xK (rel:Int) (x:tZ) (b:List tZ):List Unit:=b.flatMap fun y=>bif holdB rel x.valid y.valid then [()] else []
theorem UB (rel:Int) (x:tZ) (b:List tZ):(xK rel x b).length<=b.length:=by
 have:=AZ (fun y:tZ=>bif holdB rel x.valid y.valid then [()] else []) 1 b fun y _=>by cases holdB rel x.valid y.valid<;>simp
 unfold xK;omega
theorem DY (rel:Int) (x:tZ) (v:Int) (b:List tZ) (hb:b.length<=1000) : ∀ (n j:Nat) (out:List Az),j<=b.length->b.length-j<n->out.length+(b.length-j)<=1000000000 -> ∃ r,ah (ko b rel v x) n (out,(j:Int))=some (.inl (r,((b.length:Nat):Int)))/\r.length=out.length+(xK rel x (b.drop j)).length
 | 0,j,out,_,h,_=>by omega
 | n+1,j,out,hj,hn,ho=>by
  rw [ah]
  by_cases hlt:j<b.length
  ·obtain ⟨y,hy⟩:=gol_ hlt
   have hd:b.drop j=y::b.drop (j+1):=by rw [Zv hlt,(YY.1 hy).2]
   have hc:xK rel x (b.drop j)=(bif holdB rel x.valid y.valid then [()] else [])++xK rel x (b.drop (j+1)):=by rw [hd];unfold xK;rw [ZC]
   have hs:ko b rel v x (out,(j:Int))=bif holdB rel x.valid y.valid then some (.next (out++[(⟨v,(j:Int)⟩:Az)],((j+1:Nat):Int))) else some (.next (out,((j+1:Nat):Int))):=by
    unfold ko
    dsimp only
    rw [aU hy,Y0,gn_ hy,YX,KF,YX,Y2 (show out.length+1<=8796093022208 by omega),Y0,wrapN (by omega)]
   rw [hs,hc]
   cases holdB rel x.valid y.valid with
   | false =>
    obtain ⟨r,r1,r2⟩:=DY rel x v b hb n (j+1) out (by omega) (by omega) (by omega)
    exact ⟨r,r1,by rw [r2];simp⟩
   | true =>
    obtain ⟨r,r1,r2⟩:=DY rel x v b hb n (j+1) (out++[⟨v,(j:Int)⟩]) (by omega) (by omega) (by rw [Y6];simp;omega)
    refine ⟨r,r1,?_⟩
    rw [r2,Y6,Y6]
    simp;omega
  ·have:j=b.length:=by omega
   subst this
   have hs:ko b rel v x (out,((b.length:Nat):Int))=some (.exit (out,((b.length:Nat):Int))):=by
    unfold ko
    dsimp only
    rw [lF_,YZ]
   rw [hs]
   exact ⟨out,rfl,by rw [ZO];rfl⟩
theorem EQ (rel:Int) (a b:List tZ) (ha:a.length<=1000) (hb:b.length<=1000) : ∀ (n i:Nat) (out:List Az),i<=a.length->a.length-i<n->out.length+(a.length-i)*1000<=100000000 -> ∃ r,ah (kg a b rel) n (out,(i:Int))=some (.inl (r,((a.length:Nat):Int)))/\r.length=out.length+((a.drop i).flatMap fun x=>xK rel x b).length
 | 0,i,out,_,h,_=>by omega
 | n+1,i,out,hi,hn,ho=>by
  rw [ah]
  by_cases hlt:i<a.length
  ·obtain ⟨x,hx⟩:=gol_ hlt
   have hd:a.drop i=x::a.drop (i+1):=by rw [Zv hlt,(YY.1 hx).2]
   have hm:(a.length-i)*1000=(a.length-(i+1))*1000+1000:=by
    rw [show a.length-i=a.length-(i+1)+1 by omega,Nat.add_mul]
   obtain ⟨r,r1,r2⟩:=DY rel x (i:Int) b hb fuel 0 out (Zj _) (by unfold fuel;omega) (by omega)
   rw [show ((0:Nat):Int)=0 from rfl] at r1
   rw [List.drop_zero] at r2
   have hc:=UB rel x b
   have hs:kg a b rel (out,(i:Int))=some (.next (r,((i+1:Nat):Int))):=by
    unfold kg
    dsimp only
    rw [aU hx,Y0,gn_ hx,YX,r1,YX]
    unfold uC
    dsimp only
    rw [wrapN (by omega)]
   rw [hs]
   obtain ⟨q,q1,q2⟩:=EQ rel a b ha hb n (i+1) r (by omega) (by omega) (by omega)
   refine ⟨q,q1,?_⟩
   rw [q2,r2,hd,ZC,Y6]
   omega
  ·have:i=a.length:=by omega
   subst this
   have hs:kg a b rel (out,((a.length:Nat):Int))=some (.exit (out,((a.length:Nat):Int))):=by
    unfold kg
    dsimp only
    rw [lF_,YZ]
   rw [hs]
   exact ⟨out,rfl,by rw [ZO];rfl⟩
theorem OZ (rel:Int) (a b:List tZ) (ha:a.length<=1000) (hb:b.length<=1000) : ∃ r,DW a b rel=some r/\r.length=(a.flatMap fun x=>xK rel x b).length:=by
 obtain ⟨r,r1,r2⟩:=EQ rel a b ha hb fuel 0 [] (Zj _) (by unfold fuel;omega) (by simp;omega)
 unfold DW
 rw [show ((0:Nat):Int)=0 from rfl] at r1
 rw [r1]
 exact ⟨r,rfl,by rw [r2,List.drop_zero];simp⟩
theorem rows_ok {l:List zl} {kinds:List Int} (hl:l.length<=10) (hk:kinds.length<=20) (h : ∀ v∈l,v.row.length=kinds.length /\ ∀ x∈v.row,vF x=true):vG 12 ⟨kinds++[1,1,1,1,1],aT (aT (l.map dO))⟩:=by
 have hp:(aT (aT (l.map dO))).Perm (l.map dO):=(dH _).trans (dH _)
 have hm : ∀ r∈aT (aT (l.map dO)), ∃ v∈l,dO v=r:=fun r hr=>Zz.1 (hp.mem_iff.1 hr)
 refine ⟨?_,?_,?_,?_,?_⟩
 ·show (aT (aT (l.map dO))).length<=12
  rw [hp.length_eq,Y_];omega
 ·show 0<(kinds++[1,1,1,1,1]).length
  simp
 ·show (kinds++[1,1,1,1,1]).length<=48
  simp;omega
 ·intro r hr
  obtain ⟨v,hv,rfl⟩:=hm r hr
  show (dO v).length=(kinds++[1,1,1,1,1]).length
  unfold dO
  simp [(h v hv).1]
 ·intro r hr x hx
  obtain ⟨v,hv,rfl⟩:=hm r hr
  unfold dO at hx
  rcases Zq.1 hx with hx|hx
  ·exact (h v hv).2 x hx
  ·obtain ⟨n,_,rfl⟩:=Zz.1 hx
   rw [<- Mk];exact mD _
theorem Lt {v:zl} {n k:Nat} {x:Int} (hn:v.row.length=n) (hk:[v.valid.lo,v.valid.hi,v.system.lo,v.system.hi,v.by_][k]?=some x) (r:List Val):(dO v++r)[n+k]?=some (oJ x):=by
 have hk2:([v.valid.lo,v.valid.hi,v.system.lo,v.system.hi,v.by_].map oJ)[k]?=some (oJ x):=by rw [Zl,hk];rfl
 have hlt:=(YY.1 hk2).1
 unfold dO
 rw [Zp,Y5 (by omega),hn,Nat.add_sub_cancel_left,Zc hlt,hk2]
theorem yZ (a b:Ip) (rel:Int) (hk:a.kinds.length+b.kinds.length<=4611686018427387904):nX a b rel=some true:=by
 unfold nX
 by_cases r0:rel<0
 ·rw [Y2 r0];rfl
 rw [Y1 r0,YZ]
 by_cases r1:13<=rel
 ·rw [Y2 r1];rfl
 rw [Y1 r1,YZ]
 by_cases a1:(10:Int)<((a.versions.length:Nat):Int)
 ·rw [Y2 a1];rfl
 rw [Y1 a1,YZ]
 by_cases b1:(10:Int)<((b.versions.length:Nat):Int)
 ·rw [Y2 b1];rfl
 rw [Y1 b1,YZ,show ((a.kinds.length:Nat):Int)+((b.kinds.length:Nat):Int)=((a.kinds.length+b.kinds.length:Nat):Int) by omega,bV (by omega)]
 by_cases k1:(20:Int)<((a.kinds.length+b.kinds.length:Nat):Int)
 ·rw [Y2 k1];rfl
 rw [Y1 k1,YZ]
 obtain ⟨f1,e1,h1⟩:=Nq (l:=a.versions) (kinds:=a.kinds) (by omega) (by omega)
 rw [e1,YX]
 cases f1 with
 | false=>rfl
 | true =>
  obtain ⟨f2,e2,h2⟩:=Nq (l:=b.versions) (kinds:=b.kinds) (by omega) (by omega)
  rw [Bool.not_true,YZ,e2,YX]
  cases f2 with
  | false=>rfl
  | true =>
   obtain ⟨s1,e3,h3⟩:=ER (l:=a.versions) (by omega)
   rw [Bool.not_true,YZ,e3,YX]
   cases s1 with
   | false=>rfl
   | true =>
    obtain ⟨s2,e4,h4⟩:=ER (l:=b.versions) (by omega)
    rw [Bool.not_true,YZ,e4,YX]
    cases s2 with
    | false=>rfl
    | true =>
     rw [Bool.not_true,YZ]
     obtain ⟨h1r,h1k⟩:=h1 rfl
     obtain ⟨h2r,h2k⟩:=h2 rfl
     replace h3:=h3 rfl
     replace h4:=h4 rfl
     have hr:0<=rel/\rel<13:=by omega
     have w1:IntKind.i64.wrap (((a.kinds.length:Nat):Int)+0)=((a.kinds.length:Nat):Int):=by rw [Int.add_zero];exact bV (by omega)
     have w2:IntKind.i64.wrap (IntKind.i64.wrap (IntKind.i64.wrap (((a.kinds.length:Nat):Int)+5)+((b.kinds.length:Nat):Int))+0)=((a.kinds.length+5+b.kinds.length:Nat):Int):=by
      have w3:IntKind.i64.wrap (((a.kinds.length:Nat):Int)+5)=((a.kinds.length+5:Nat):Int):=by rw [bV (by omega)];omega
      have w4:IntKind.i64.wrap (((a.kinds.length+5:Nat):Int)+((b.kinds.length:Nat):Int))=((a.kinds.length+5+b.kinds.length:Nat):Int):=by rw [bV (by omega)];omega
      rw [w3,w4,Int.add_zero,bV (by omega)]
     rw [w1,w2]
     have ra:wh a.kinds a.versions=some ⟨a.kinds++[1,1,1,1,1],aT (a.versions.map dO)⟩:=FL _ _ (by omega) (by omega) fun v hv=>by have:=(h1r v hv).1;omega
     have rb:wh b.kinds b.versions=some ⟨b.kinds++[1,1,1,1,1],aT (b.versions.map dO)⟩:=FL _ _ (by omega) (by omega) fun v hv=>by have:=(h2r v hv).1;omega
     have kk : ∀ {k:List Int}, (∀ x∈k,1<=x/\x<=3) -> ∀ x∈k++[1,1,1,1,1],1<=x/\x<=3:=by
      intro k hk x hx
      rcases Zq.1 hx with hx|hx
      ·exact hk x hx
      ·simp at hx;omega
     have kat : ∀ (k r:List Int) (j:Nat),j<5->((k++[1,1,1,1,1])++r)[k.length+j]?=some 1:=by
      intro k r j hj
      rw [Zp,Y5 (by omega),Nat.add_sub_cancel_left,Zc (by simpa using hj)]
      match j,hj with
      | 0,_=>rfl
      | 1,_=>rfl
      | 2,_=>rfl
      | 3,_=>rfl
      | 4,_=>rfl
     have kat2 : ∀ (k r:List Int) (j:Nat),j<5->((k++[1,1,1,1,1])++(r++[1,1,1,1,1]))[k.length+5+r.length+j]?=some 1:=by
      intro k r j hj
      have hl:(k++[1,1,1,1,(1:Int)]).length=k.length+5:=by simp
      rw [Y5 (by omega),hl,show k.length+5+r.length+j-(k.length+5)=r.length+j by omega]
      have:=kat r [] j hj
      rwa [Zy] at this
     have hchk:qd (relE rel ((a.kinds.length:Nat):Int) ((a.kinds.length+5+b.kinds.length:Nat):Int)) ((a.kinds++[1,1,1,1,1])++(b.kinds++[1,1,1,1,1]))=some (3,0) :=
      RX hr (by omega) (kat a.kinds _ 0 (by omega)) (kat a.kinds _ 1 (by omega)) (kat2 a.kinds b.kinds 0 (by omega)) (kat2 a.kinds b.kinds 1 (by omega))
     have hrun:=NQ (b1:=⟨a.kinds++[1,1,1,1,1],aT (a.versions.map dO)⟩) (b2:=⟨b.kinds++[1,1,1,1,1],aT (b.versions.map dO)⟩) (rows_ok (by omega) (by omega) h1r) (rows_ok (by omega) (by omega) h2r) (kk h1k) (kk h2k) (by simp;omega) (MH rel _ _) hchk
     have hn:FU (bW (relE rel ((a.kinds.length:Nat):Int) ((a.kinds.length+5+b.kinds.length:Nat):Int))) [a,b]=some (⟨(a.kinds++[1,1,1,1,1])++(b.kinds++[1,1,1,1,1]),aT (lF (relE rel ((a.kinds.length:Nat):Int) ((a.kinds.length+5+b.kinds.length:Nat):Int)) false (b.kinds++[1,1,1,1,1]).length (aT (aT (a.versions.map dO))) (aT (aT (b.versions.map dO))))⟩,0):=by
      obtain ⟨m,hm⟩:=gT
      unfold FU
      have d1:nJ [a,b] ([],0)=some (.next ([⟨a.kinds++[1,1,1,1,1],aT (a.versions.map dO)⟩],1)):=by
       unfold nJ
       dsimp only
       rw [show decide ((0:Int)<((([a,b]:List Ip).length:Nat):Int))=true from rfl,Y0,show au [a,b] 0=some a from rfl,YX,ra]
       rfl
      have d2:nJ [a,b] ([⟨a.kinds++[1,1,1,1,1],aT (a.versions.map dO)⟩],1)=some (.next ([⟨a.kinds++[1,1,1,1,1],aT (a.versions.map dO)⟩,⟨b.kinds++[1,1,1,1,1],aT (b.versions.map dO)⟩],2)):=by
       unfold nJ
       dsimp only
       rw [show decide ((1:Int)<((([a,b]:List Ip).length:Nat):Int))=true from rfl,Y0,show au [a,b] 1=some b from rfl,YX,rb]
       rfl
      have d3:nJ [a,b] ([⟨a.kinds++[1,1,1,1,1],aT (a.versions.map dO)⟩,⟨b.kinds++[1,1,1,1,1],aT (b.versions.map dO)⟩],2)=some (.exit ([⟨a.kinds++[1,1,1,1,1],aT (a.versions.map dO)⟩,⟨b.kinds++[1,1,1,1,1],aT (b.versions.map dO)⟩],2)):=rfl
      rw [hm,ah,d1]
      show (ah _ (m+5) _).bind _=_
      rw [ah,d2]
      show (ah _ (m+4) _).bind _=_
      rw [ah,d3]
      show tV _ (.inl ([⟨a.kinds++[1,1,1,1,1],aT (a.versions.map dO)⟩,⟨b.kinds++[1,1,1,1,1],aT (b.versions.map dO)⟩],2))=_
      unfold tV
      dsimp only
      rw [hrun]
      rfl
     have fa:=CL a.versions (by omega) fun v hv=>by have:=(h1r v hv).1;omega
     have fb:=CL b.versions (by omega) fun v hv=>by have:=(h2r v hv).1;omega
     obtain ⟨q,q1,q2⟩:=OZ rel (a.versions.map fun v=>(⟨v.row,v.valid⟩:tZ)) (b.versions.map fun v=>(⟨v.row,v.valid⟩:tZ)) (by rw [Y_];omega) (by rw [Y_];omega)
     have hlen:(aT (lF (relE rel ((a.kinds.length:Nat):Int) ((a.kinds.length+5+b.kinds.length:Nat):Int)) false (b.kinds++[1,1,1,1,1]).length (aT (aT (a.versions.map dO))) (aT (aT (b.versions.map dO))))).length=q.length:=by
      rw [(dH _).length_eq,Ku _ _ ((dH _).trans (dH _)) ((dH _).trans (dH _)),q2,JX _ _ dO dO (fun x y=>holdB rel x.valid y.valid) _ _ ?_]
      ·rw [List.flatMap_map]
       congr 1
       congr 1
       funext x
       unfold xK
       rw [List.flatMap_map]
      ·intro x hx y hy
       have px:=h3 x hx
       have py:=h4 y hy
       have lx:=(h1r x hx).1
       have ly:=(h2r y hy).1
       have elx:(dO x).length=a.kinds.length+5:=by unfold dO;simp [lx]
       have at2 : ∀ (k:Nat) (z:Int),[y.valid.lo,y.valid.hi,y.system.lo,y.system.hi,y.by_][k]?=some z->(dO x++dO y)[a.kinds.length+5+b.kinds.length+k]?=some (oJ z):=by
        intro k z hz
        rw [Y5 (by omega),elx,show a.kinds.length+5+b.kinds.length+k-(a.kinds.length+5)=b.kinds.length+k by omega]
        have:=Lt ly hz []
        rwa [Zy] at this
       rw [RI hr (by omega) px py (show (dO x++dO y)[a.kinds.length]?=some (oJ x.valid.lo) from Lt (k:=0) lx rfl _) (Lt (k:=1) lx rfl _) (show (dO x++dO y)[a.kinds.length+5+b.kinds.length]?=some (oJ y.valid.lo) from at2 0 _ rfl) (at2 1 _ rfl)]
       unfold holdB
       rw [px,py];rfl
     show (FU (bW (relE rel ((a.kinds.length:Nat):Int) ((a.kinds.length+5+b.kinds.length:Nat):Int))) [a,b]).bind _=_
     rw [hn,YX]
     dsimp only
     rw [show decide ((0:Int)=0)=true from rfl,Y0,fa,YX,fb,YX,q1,YX,hlen,Y2 rfl]
     rfl
theorem wE {a:Ip} {b:Ip} {rel:Int} (q0:Dt a) (q1:Dt b) (q2:rV rel):Pure Tryz.prog 9 [.agg (Aq a), .agg (Aq b), .one (.int .i64 rel)] (.val (.one (.bool true))):=D5 (yZ a b rel (by have h1:=q0.1.1;have h2:=q1.1.1;unfold reachBytes at h1 h2;omega))
end Go.Proofs.YtnbnpnmkgemdeaaGreatDoor
