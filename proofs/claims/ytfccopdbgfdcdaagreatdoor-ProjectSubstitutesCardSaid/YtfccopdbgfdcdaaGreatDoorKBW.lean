/- Parts of the proof, joined. No condition. -/
import Derived.Test.YtfccopdbgfdcdaaGreatDoorKAA
import Derived.Test.YtfccopdbgfdcdaaGreatDoorKBV
import Derived.Test.YtfccopdbgfdcdaaGreatDoorKBO
set_option linter.unusedSimpArgs false
set_option linter.unusedVariables false
namespace Go.Proofs.YtfccopdbgfdcdaaGreatDoor
open Go.RowKit Go.MapKept
set_option maxRecDepth 100000
def mW (e:Ex) (row:List Val):Val:=(dE fuel e row).getD jr
theorem val_ok {e:Ex} (h:eY fuel e) (row:List Val):dE fuel e row=some (mW e row)/\xw fuel e row=some (mW e row)/\vF (mW e row)=true:=by
 obtain ⟨v,h1,h2,h3⟩:=KA row fuel e h
 unfold mW
 rw [h1];exact ⟨rfl,h2,h3⟩
theorem GZ {l:List aG} {t:Int} (h:bM l):(gD (aX l t)).length<=63:=by
 rw [(gL _).length_eq];have:=Jb l t;have:=h.1;omega
def BM (e:Ex) (kinds:List Int):Int × Int:=(uA e kinds).getD (0,0)
theorem Xd {e:Ex} (kinds:List Int) (h:eY fuel e):uA e kinds=some (BM e kinds)/\KN e kinds=some (BM e kinds):=by
 obtain ⟨c,c1,c2⟩:=PR kinds h
 unfold BM
 rw [c1];exact ⟨rfl,c2⟩
theorem Kl {kinds:List Int} {l:List Ex} (hl:l.length<=100000) (he : ∀ e∈l,eY fuel e) : ∀ (n i:Nat) (s:List Int),s.length=i->i<=l.length->l.length-i<n -> ∃ p,(az (d_ kinds l) n (s,(i:Int))).bind iL=some p/\(p.2=0->p.1=s++(l.drop i).map (fun e=>(BM e kinds).1))
 | 0,i,s,_,_,h=>by omega
 | n+1,i,s,hs,hi,hn=>by
  rw [az]
  by_cases hlt:i<l.length
  ·obtain ⟨x,hx⟩:=gol_ hlt
   have hc:=(Xd kinds (he x (adO hx))).1
   by_cases h0:(BM x kinds).2=0
   ·by_cases h1:(BM x kinds).1=0
    ·have hb:d_ kinds l (s,(i:Int))=some (.ret ([],7)):=by
      unfold d_
      dsimp only
      rw [aI hx,adK,gn_ hx,adH,hc,adH,adL (show ¬ (BM x kinds).2≠0 by omega),adJ,adM h1,adK]
     rw [hb]
     exact ⟨_,rfl,fun h=>absurd (show (7:Int)=0 from h) (by decide)⟩
    ·have hb:d_ kinds l (s,(i:Int))=some (.next (s++[(BM x kinds).1],((i+1:Nat):Int))):=by
      unfold d_
      dsimp only
      rw [aI hx,adK,gn_ hx,adH,hc,adH,adL (show ¬ (BM x kinds).2≠0 by omega),adJ,adL h1,adJ,adM (by omega),adK,wrapN (by omega)]
     rw [hb]
     obtain ⟨p,p1,p2⟩:=Kl hl he n (i+1) (s++[(BM x kinds).1]) (by rw [adQ,hs];rfl) (by omega) (by omega)
     refine ⟨p,p1,fun h=>?_⟩
     rw [p2 h,aed hlt,(adI.1 hx).2,adT,ad_];rfl
   ·have hb:d_ kinds l (s,(i:Int))=some (.ret ([],(BM x kinds).2)):=by
     unfold d_
     dsimp only
     rw [aI hx,adK,gn_ hx,adH,hc,adH,adM (show (BM x kinds).2≠0 from h0),adK]
    rw [hb]
    exact ⟨_,rfl,fun h=>absurd h h0⟩
  ·have:i=l.length:=by omega
   subst this
   have hb:d_ kinds l (s,((l.length:Nat):Int))=some (.exit (s,((l.length:Nat):Int))):=by
    unfold d_
    dsimp only
    rw [lF_,adJ]
   rw [hb]
   exact ⟨_,rfl,fun _=>by rw [aeB];simp⟩
def jh (l:List Ex) (kinds:List Int):List Int:=l.map fun e=>(BM e kinds).1
theorem PU {kinds:List Int} {l:List Ex} (hl:l.length<=100000) (he : ∀ e∈l,eY fuel e) : ∃ p,lZ kinds l=some p/\(p.2=0->p.1=jh l kinds):=by
 obtain ⟨p,p1,p2⟩:=Kl (kinds:=kinds) hl he fuel 0 [] rfl (ad4 _) (by unfold fuel;omega)
 exact ⟨p,p1,p2⟩
theorem rO (l:List Ex) (kinds:List Int) : ∃ b,lI l kinds=some b/\(b=true->l.length<=48/\(∀ e∈l,eY fuel e)/\lZ kinds l=some (jh l kinds,0)):=by
 unfold lI
 by_cases h0:l.length=0
 ·rw [adM (show ((l.length:Nat):Int)=0 by omega)]
  exact ⟨false,rfl,fun h=>by cases h⟩
 rw [adL (show ¬ ((l.length:Nat):Int)=0 by omega),adJ]
 by_cases h1:48<l.length
 ·rw [adM (show (48:Int)<((l.length:Nat):Int) by omega)]
  exact ⟨false,rfl,fun h=>by cases h⟩
 rw [adL (show ¬ (48:Int)<((l.length:Nat):Int) by omega),adJ]
 obtain ⟨b,hb,hok⟩:=DT l
 rw [hb,adH]
 cases b with
 | false=>exact ⟨false,rfl,fun h=>by cases h⟩
 | true =>
  have he : ∀ e∈l,eY fuel e:=fun e h=>J5 ((hok rfl).2 e h)
  obtain ⟨p,p1,p2⟩:=PU (kinds:=kinds) (l:=l) (by omega) he
  rw [Bool.not_true,adJ,p1,adH]
  refine ⟨_,rfl,fun h=>⟨by omega,he,?_⟩⟩
  have h:=aea h
  rw [<- p2 h, <- h]
def qd (l:List Ex) (row:List Val):List Val:=l.map fun e=>mW e row
def Qq (l:List Ex) (f:aG):aG:=⟨qd l f.row,f.valid⟩
theorem GQ {l:List Ex} (hl:l.length<=100000) (he : ∀ e∈l,eY fuel e) (row:List Val):yQ l row=some (qd l row):=by
 unfold yQ
 rw [bJ (l:=l) (fun e=>[mW e row]) 4398046511104 ?_ ?_ (by unfold fuel;omega) [] (by rw [fo_];simp;omega)]
 ·rw [adH,adN,fo_];rfl
 ·intro s i x hx hs
  have hi:=(adI.1 hx).1
  unfold uI
  dsimp only
  rw [aI hx,adK,gn_ hx,adH,(val_ok (he x (adO hx)) row).1,adH,wrapN (by omega),adM (show s.length+1<=4398046511104 from hs),adK]
 ·intro s
  unfold uI
  dsimp only
  rw [lF_,adJ]
theorem y9 {m:List aG} {l:List Ex} (hm:m.length<=19) (hl:l.length<=48) (he : ∀ e∈l,eY fuel e):bM (m.map (Qq l)):=by
 refine ⟨by rw [adU];exact hm,fun f hf=>?_⟩
 obtain ⟨g,_,rfl⟩:=aeh.1 hf
 refine ⟨by show (l.map _).length<=1000;rw [adU];omega,fun v hv=>?_⟩
 obtain ⟨e,h1,rfl⟩:=aeh.1 (show v∈l.map _ from hv)
 exact (xq (val_ok (he e h1) g.row).2.2).vok
theorem nY {r:bI} {l:List Ex} (h:bM r.facts) (hl:l.length<=48) (he : ∀ e∈l,eY fuel e):jS r l=some ⟨jh l r.kinds,canon (r.facts.map (Qq l))⟩:=by
 have hn:=h.1
 unfold jS
 rw [bJ (l:=l) (fun e=>[(BM e r.kinds).1]) 17592186044416 ?_ ?_ (by unfold fuel;omega) [] (by rw [fo_];simp;omega)]
 ·rw [adH,adN,fo_]
  unfold nM
  dsimp only
  rw [bJ (l:=r.facts) (fun f=>[Qq l f]) 3518437208883 ?_ ?_ (by unfold fuel;omega) [] (by rw [fo_];simp;omega)]
  ·rw [adH,adN,fo_]
   unfold nP
   dsimp only
   rw [ng (by rw [adU];omega) (y9 hn hl he)];rfl
  ·intro s i x hx hs
   have hi:=(adI.1 hx).1
   unfold nO
   dsimp only
   rw [aI hx,adK,gn_ hx,adH,bJ (l:=l) (fun e=>[mW e x.row]) 4398046511104 ?_ ?_ (by unfold fuel;omega) [] (by rw [fo_];simp;omega)]
   ·rw [adH,adN,fo_]
    unfold nG
    dsimp only
    rw [wrapN (by omega),adM (show s.length+1<=3518437208883 from hs),adK];rfl
   ·intro s i e hx hs
    have hi:=(adI.1 hx).1
    unfold nZ
    dsimp only
    rw [aI hx,adK,gn_ hx,adH,(val_ok (he e (adO hx)) x.row).2.1,adH,wrapN (by omega),adM (show s.length+1<=4398046511104 from hs),adK]
   ·intro s
    unfold nZ
    dsimp only
    rw [lF_,adJ]
  ·intro s
   unfold nO
   dsimp only
   rw [lF_,adJ]
 ·intro s i x hx hs
  have hi:=(adI.1 hx).1
  unfold nK
  dsimp only
  rw [aI hx,adK,gn_ hx,adH,(Xd r.kinds (he x (adO hx))).2,adH,wrapN (by omega),adM (show s.length+1<=17592186044416 from hs),adK]
 ·intro s
  unfold nK
  dsimp only
  rw [lF_,adJ]
theorem JY {b:zw} {l:List Ex} (hn:b.rows.length<=63) (hl:l.length<=48) (he : ∀ e∈l,eY fuel e) (hp:lZ b.kinds l=some (jh l b.kinds,0)):oM b l=some ⟨jh l b.kinds,gD (b.rows.map (qd l))⟩:=by
 unfold oM
 rw [hp,adH,bJ (l:=b.rows) (fun x=>[qd l x]) 5864062014805 ?_ ?_ (by unfold fuel;omega) [] (by rw [fo_];simp;omega)]
 ·rw [adH,adN,fo_]
  unfold lW
  dsimp only
  rw [za _ (by rw [adU];exact hn) (fun x hx=>by obtain ⟨y,_,rfl⟩:=aeh.1 hx;show (l.map _).length<=_;rw [adU];omega)];rfl
 ·intro s i x hx hs
  have hi:=(adI.1 hx).1
  unfold lS
  dsimp only
  rw [aI hx,adK,gn_ hx,adH,GQ (by omega) he,adH,wrapN (by omega),adM (show s.length+1<=5864062014805 from hs),adK]
 ·intro s
  unfold lS
  dsimp only
  rw [lF_,adJ]
theorem EU (r:bI) (l:List Ex) (t:Int):uH r l t=some true:=by
 obtain ⟨b,hb,hok⟩:=gK r
 unfold uH
 rw [hb,adH]
 cases b with
 | false=>rfl
 | true =>
  have H:=hok rfl
  rw [Bool.not_true,adJ]
  obtain ⟨c,hc,hok2⟩:=rO l r.kinds
  rw [hc,adH]
  cases c with
  | false=>rfl
  | true =>
   obtain ⟨hl,he,hp⟩:=hok2 rfl
   have hF:=y9 H.fcts.1 hl he
   rw [Bool.not_true,adJ,nY H.fcts hl he,adH]
   dsimp only
   rw [Ce hF,adH,adK,tK (bC hF),adH,tK H.fcts,adH,JY (b:=⟨r.kinds,gD (aX r.facts t)⟩) (GZ H.fcts) hl he hp,adH]
   dsimp only
   have e1:gD (aX (canon (r.facts.map (Qq l))) t)=gD ((gD (aX r.facts t)).map (qd l)):=by
    have h1:=tO (l:=r.facts.map (Qq l)) (by have:=hF.1;omega) t
    have h2:aX (r.facts.map (Qq l)) t=(aX r.facts t).map (qd l):=vN (qd l) t r.facts
    rw [h2] at h1
    exact AP (h1.trans ((gL (aX r.facts t)).map (qd l)).symm)
   have hk2:(jh l r.kinds).length<=1000000:=by unfold jh;rw [adU];omega
   have s1:=rV (t:=t) (bC hF)
   rw [e1] at s1
   rw [e1,rP ⟨jh l r.kinds,gD ((gD (aX r.facts t)).map (qd l))⟩ hk2 s1.1 s1.2];rfl
theorem zW {r:bI} {l:List Ex} {t:Int} (q0:wE r) (q1:(zR 88 l8) l) (q2:zl t):Pure Tryz.prog 8 [.agg (dW r), .one (.lst (l.map tE)), .one (.int .i64 t)] (.val (.one (.bool true))):=Jt (EU r l t)
end Go.Proofs.YtfccopdbgfdcdaaGreatDoor
