/- Parts of the proof, joined. No condition. -/
import Derived.Test.YtnbnpnmkgemdeaaGreatDoorKAA
import Derived.Test.YtnbnpnmkgemdeaaGreatDoorKBA
import Derived.Test.YtnbnpnmkgemdeaaGreatDoorKBB
import Derived.Test.YtnbnpnmkgemdeaaGreatDoorKAP
import Derived.Test.YtnbnpnmkgemdeaaGreatDoorKAZ
import Derived.Test.YtnbnpnmkgemdeaaGreatDoorKAR
import Derived.Test.YtnbnpnmkgemdeaaGreatDoorKAW
import Derived.Test.YtnbnpnmkgemdeaaGreatDoorKAX
import Derived.Test.YtnbnpnmkgemdeaaGreatDoorKAJ
import Derived.Test.YtnbnpnmkgemdeaaGreatDoorKAI
import Derived.ProofKit
import Derived.OpenShut
import Derived.ChangeOld
import Derived.Deep.Slices
set_option linter.unusedSimpArgs false
set_option linter.unusedVariables false
namespace Go.Proofs.YtnbnpnmkgemdeaaGreatDoor
open Go.RowKit Go.MapKept
set_option maxRecDepth 100000
set_option maxHeartbeats 8000000
def nI (e:Ex) (row:List Val):Val:=(df fuel e row).getD gY
theorem val_ok {e:Ex} (h:fU fuel e) (row:List Val):df fuel e row=some (nI e row)/\tX fuel e row=some (nI e row)/\vF (nI e row)=true:=by
 obtain ⟨v,h1,h2,h3⟩:=Fy row fuel e h
 unfold nI
 rw [h1];exact ⟨rfl,h2,h3⟩
def wK (e:Ex) (row:List Val):Bool:=decide (tF_ (nI e row)=2)
theorem K4 {e:Ex} (h:fU fuel e) (row:List Val):uR e row=some (tF_ (nI e row)):=by
 unfold uR
 rw [(val_ok h row).2.1,YX,iT];rfl
theorem Dh {row:List Val} {kinds:List Int} (hk:kinds.length<=1000000) : ∃ b,qW row kinds=some b/\(b=true->row.length=kinds.length /\ ∀ v∈row,vF v=true):=by
 by_cases he:row.length=kinds.length
 ·obtain ⟨b,hb⟩:=OA row kinds (by omega)
  refine ⟨b,hb,fun hbt=>⟨he,?_⟩⟩
  subst hbt
  unfold qW at hb
  rw [show decide (((row.length:Nat):Int)≠((kinds.length:Nat):Int))=false from Y1 (by omega),YZ] at hb
  have key : ∀ (n i:Nat),i<=row.length->row.length-i<n->(ah (gV row kinds) n (i:Int)).bind jb=some true -> ∀ v∈row.drop i,vF v=true:=by
   intro n
   induction n with
   | zero=>intro i _ h;omega
   | succ n ih =>
    intro i hi hn hb v hv
    rw [ah] at hb
    by_cases hlt:i<row.length
    ·obtain ⟨x,hx⟩:=gol_ hlt
     obtain ⟨k,hk⟩:=gol_ (l:=kinds) (i:=i) (by omega)
     have h1:gV row kinds (i:Int)=bif (!vF x) then some (.ret false) else bif decide (x.kind≠0) then bif decide (x.kind≠k) then some (.ret false) else some (.next ((i+1:Nat):Int)) else some (.next ((i+1:Nat):Int)):=by
      unfold gV
      dsimp only
      rw [aU hx,Y0,gn_ hx,gn_ hk]
      simp only [YX]
      rw [iJ,YX,wrapN (by omega)]
     have hd:row.drop i=x::row.drop (i+1):=by rw [Zv hlt,(YY.1 hx).2]
     rw [hd] at hv
     cases hvx:vF x with
     | false=>rw [h1,hvx] at hb;exact absurd (show (some false:Option Bool)=some true from hb) (by decide)
     | true =>
      have h2:gV row kinds (i:Int)=some (.next ((i+1:Nat):Int)):=by
       rw [h1,hvx,Bool.not_true,YZ]
       cases c1:decide (x.kind≠0) with
       | false=>rfl
       | true =>
        cases c2:decide (x.kind≠k) with
        | false=>rfl
        | true=>rw [h1,hvx,Bool.not_true,YZ,c1,c2] at hb;exact absurd (show (some false:Option Bool)=some true from hb) (by decide)
      rw [h2] at hb
      rcases Zf.1 hv with rfl|hv
      ·exact hvx
      ·exact ih (i+1) (by omega) (by omega) hb v hv
    ·rw [List.drop_eq_nil_of_le (by omega)] at hv;cases hv
  exact fun v hv=>key fuel 0 (Zj _) (by unfold fuel;omega) hb v (by rw [List.drop_zero];exact hv)
 ·refine ⟨false,?_,fun h=>by cases h⟩
  unfold qW
  rw [show decide (((row.length:Nat):Int)≠((kinds.length:Nat):Int))=true from Y2 (by omega)];rfl
structure vG (n:Nat) (b:aW):Prop where
 len:b.rows.length<=n
 pos:0<b.kinds.length
 kinds:b.kinds.length<=48
 row : ∀ r∈b.rows,r.length=b.kinds.length
 val : ∀ r∈b.rows, ∀ v∈r,vF v=true
theorem Dn (row:List Val) : ∀ (n m:Nat) (e:Ex),n<=m->fU n e->df m e row=df n e row
 | 0,_,_,_,h=>h.elim
 | n+1,0,_,h,_=>by omega
 | n+1,m+1,e,hnm,h=>by
  show jq (df m) e row=jq (df n) e row
  have hb:dI e row (df m)=dI e row (df n):=by
   funext s
   obtain ⟨l,i⟩:=s
   unfold dI
   dsimp only
   cases hg:au e.args i with
   | none=>rfl
   | some x =>
    simp only [YX]
    rw [Dn row n m x (by omega) (h.2 x (Y4 (uV hg).2))]
  unfold jq
  rw [hb]
theorem QF {e:Ex} (row:List Val) (h:fU fuel e):nI e row=bif jc e then (if e.op=1 then e.v else if e.op=2 then zV (pG row e.int) else nD e.op e.int (e.args.map fun x=>nI x row)) else gY:=by
 obtain ⟨k,hk⟩ : ∃ k,fuel=k+1:=⟨fuel-1,rfl⟩
 have h':fU (k+1) e:=hk▸h
 have hx : ∀ x∈e.args,df k x row=some (nI x row)/\vF (nI x row)=true:=by
  intro x hx
  have hxk:fU k x:=h'.2 x hx
  have hxf:fU fuel x:=mf (by omega) hxk
  have:=val_ok hxf row
  rw [Dn row k fuel x (by omega) hxk] at this
  exact ⟨this.1,this.2.2⟩
 have hR:df fuel e row=(bif jc e then gER_K e row (.inl (e.args.map fun x=>nI x row,((e.args.length:Nat):Int))) else some gY):=by
  rw [hk]
  show jq (df k) e row=_
  unfold jq
  rw [sP h'.1,YX,bO]
  cases jc e with
  | false=>rfl
  | true =>
   rw [Bool.not_true,YZ,Y0]
   have hlen:=h'.1
   have:=kQ (l:=e.args) (body:=dI e row (df k)) (fun x=>[nI x row]) 4398046511104 ?_ ?_ (by unfold fuel;omega) [] (by rw [fo_];simp;omega)
   ·rw [this,Y3,fo_];rfl
   ·intro s i x hx1 hb
    have hi:=(YY.1 hx1).1
    unfold dI
    dsimp only
    rw [aU hx1,Y0,gn_ hx1,wrapN (by omega),YX,(hx x (Y4 hx1)).1,YX,Y2 (show s.length+1<=4398046511104 from hb),Y0]
   ·intro s
    unfold dI
    dsimp only
    rw [lF_,YZ]
 unfold nI at hR ⊢
 rw [hR]
 cases hf:jc e with
 | false=>rfl
 | true =>
  rw [Y0,Y0]
  obtain ⟨hops,hlo,hhi,hrest⟩:=rF h'.1 hf
  by_cases o1:e.op=1
  ·have hv:=CG o1 hrest
   rw [if_pos o1]
   unfold gER_K
   dsimp only
   rw [Y2 o1,Y0,z8 e row o1 hv];rfl
  by_cases o2:e.op=2
  ·rw [if_neg o1,if_pos o2]
   unfold gER_K
   dsimp only
   rw [Y1 o1,YZ,Y2 o2,Y0,Gm e row o2];rfl
  rw [if_neg o1,if_neg o2]
  have A:oD e.op (e.args.map fun x=>nI x row):=by
   refine ⟨by rw [Y_];exact hlo,by rw [Y_];exact hhi,by rw [Y_];exact h'.1,fun v hv=>?_⟩
   obtain ⟨x,hx1,rfl⟩:=Zz.1 hv
   exact (hx x hx1).2
  exact congrArg (fun o:Option Val=>o.getD gY) (I6 e row _ _ A (by omega))
def gJ (n:Int):Ex := .mk 2 n ⟨0,0,ByteArray.empty⟩ ByteArray.empty []
def relE (rel a b:Int):Ex := .mk 24 rel ⟨0,0,ByteArray.empty⟩ ByteArray.empty [gJ a,gJ (IntKind.i64.wrap (a+1)),gJ b,gJ (IntKind.i64.wrap (b+1))]
theorem gT : ∃ k,fuel=k+6:=⟨fuel-6,rfl⟩
theorem Mt (n:Int) (k:Nat):fU (k+1) (gJ n):=⟨Zj _,fun x hx=>by cases hx⟩
theorem Q3 (rel a b:Int) (k:Nat):fU (k+2) (relE rel a b):=⟨Y8 rfl,fun x hx=>by
 have hx:x∈[gJ a,gJ (IntKind.i64.wrap (a+1)),gJ b,gJ (IntKind.i64.wrap (b+1))]:=hx
 simp only [Zf,List.not_mem_nil,or_false] at hx
 rcases hx with rfl|rfl|rfl|rfl<;>exact Mt _ k⟩
theorem MH (rel a b:Int):fU fuel (relE rel a b):=by
 obtain ⟨k,hk⟩:=gT
 rw [hk];exact Q3 rel a b (k+4)
theorem J_:JJ ⟨0,0,ByteArray.empty⟩=true:=by
 unfold JJ
 simp [cB]
theorem FK (n:Int):jc (gJ n)=true:=by
 unfold jc
 rw [(jd (gJ n) (Zj _)).1]
 have:pO (gJ n)=true:=by
  unfold pO
  rw [(ma (gJ n).nm).2 rfl,Zx]
  exact J_
 rw [this];rfl
theorem FT {rel:Int} (hr:0<=rel/\rel<13) (a b:Int):jc (relE rel a b)=true:=by
 unfold jc
 rw [(jd (relE rel a b) (show 4<=100000 by decide)).1]
 have:pO (relE rel a b)=true:=by
  unfold pO
  rw [(ma (relE rel a b).nm).2 rfl,Zx]
  show (JJ ⟨0,0,ByteArray.empty⟩&&(decide (0<=rel)&&decide (rel<13)))=true
  rw [J_,Y2 hr.1,Y2 hr.2];rfl
 rw [this];rfl
theorem Bh (n:Int) (row:List Val):nI (gJ n) row=zV (pG row n):=by
 obtain ⟨k,hk⟩:=gT
 rw [QF row (by rw [hk];exact Mt n (k+5)),FK];rfl
theorem Rz {rel:Int} (hr:0<=rel/\rel<13) (a b:Int) (row:List Val):nI (relE rel a b) row=Ay rel (zV (pG row a)) (zV (pG row (IntKind.i64.wrap (a+1)))) (zV (pG row b)) (zV (pG row (IntKind.i64.wrap (b+1)))):=by
 rw [QF row (MH rel a b),FT hr]
 show Ay rel (nI (gJ a) row) (nI (gJ (IntKind.i64.wrap (a+1))) row) (nI (gJ b) row) (nI (gJ (IntKind.i64.wrap (b+1))) row)=_
 rw [Bh,Bh,Bh,Bh]
theorem Bc {kinds:List Int} {i:Nat} {c:Int} (h:kinds[i]?=some c) (n:Nat):g_ (n+1) (gJ (i:Int)) kinds=some (c,0):=by
 have hi:=(YY.1 h).1
 show jJ (g_ n) (gJ (i:Int)) kinds=_
 unfold jJ
 rw [qG (e:=gJ (i:Int)) (Zj _),FK,show lK (gJ (i:Int)).op (((gJ (i:Int)).args.length:Nat):Int)=some (true,true) from rfl]
 simp only [YX,Bool.not_true,YZ]
 rw [show decide ((gJ (i:Int)).op=(2:Int))=true from rfl,Y0,show (gJ (i:Int)).int=(i:Int) from rfl,Y1 (show ¬ (i:Int)<0 by omega),YZ,Y1 (show ¬ ((kinds.length:Nat):Int)<=(i:Int) by omega),YZ,gn_ h]
 rfl
theorem RX {rel:Int} (hr:0<=rel/\rel<13) {a b:Nat} (hab:a<=1000/\b<=1000) {kinds:List Int} (h1:kinds[a]?=some 1) (h2:kinds[a+1]?=some 1) (h3:kinds[b]?=some 1) (h4:kinds[b+1]?=some 1):qd (relE rel a b) kinds=some (3,0):=by
 obtain ⟨k,hk⟩:=gT
 have hargs:(relE rel a b).args=[gJ (a:Int),gJ ((a+1:Nat):Int),gJ (b:Int),gJ ((b+1:Nat):Int)]:=by
  show [gJ (a:Int),gJ (IntKind.i64.wrap ((a:Int)+1)),gJ (b:Int),gJ (IntKind.i64.wrap ((b:Int)+1))]=_
  rw [wrapN (by omega),wrapN (by omega)]
 have hc:g_ fuel (relE rel a b) kinds=some (3,0):=by
  rw [hk]
  show jJ (g_ (k+4+1)) (relE rel a b) kinds=_
  unfold jJ
  rw [qG (e:=relE rel a b) (show 4<=100000 by decide),FT hr,show lK (relE rel a b).op (((relE rel a b).args.length:Nat):Int)=some (true,true) from rfl]
  simp only [YX,Bool.not_true,YZ]
  rw [show decide ((relE rel a b).op=(2:Int))=false from rfl,YZ]
  have hl:=kQ (l:=(relE rel a b).args) (body:=gL (relE rel a b) kinds (g_ (k+4+1))) (fun _=>[1]) 17592186044416 ?_ ?_ (show 4<fuel by unfold fuel;decide) [] (by rw [hargs];exact Y8 rfl)
  ·rw [hl,hargs];rfl
  ·intro s i x hx hb
   have hi:=(YY.1 hx).1
   have hx1:g_ (k+4+1) x kinds=some (1,0):=by
    have hm:=Y4 hx
    rw [hargs] at hm
    simp only [Zf,List.not_mem_nil,or_false] at hm
    rcases hm with rfl|rfl|rfl|rfl
    ·exact Bc h1 _
    ·exact Bc h2 _
    ·exact Bc h3 _
    ·exact Bc h4 _
   have h4:(relE rel a b).args.length=4:=rfl
   unfold gL
   dsimp only
   rw [aU hx,Y0,gn_ hx,wrapN (by omega),YX,hx1,YX,show decide (((1:Int),(0:Int)).2≠0)=false from rfl,YZ,Y2 (show s.length+1<=17592186044416 from hb),Y0]
  ·intro s
   unfold gL
   dsimp only
   rw [lF_,YZ]
 have hd : ∃ d,E8 (relE rel a b)=some d/\d<=24:=by
  have key : ∀ m:Int, ∃ d,iE fuel (relE rel a b) 25=some d/\d<=24:=by
   intro _
   rw [hk]
   have hcol : ∀ x∈(relE rel a b).args,iE (k+4+1) x 24=some 1:=by
    intro x hx
    rw [hargs] at hx
    have : ∀ n:Int,iE (k+4+1) (gJ n) 24=some 1:=by
     intro n
     show jv (iE (k+4)) (gJ n) 24=_
     unfold jv
     rw [show decide ((24:Int)<=1)=false from rfl,YZ,hk,ah]
     rfl
    simp only [Zf,List.not_mem_nil,or_false] at hx
    rcases hx with rfl|rfl|rfl|rfl<;>exact this _
   show ∃ d,jv (iE (k+4+1)) (relE rel a b) 25=some d/\d<=24
   unfold jv
   rw [show decide ((25:Int)<=1)=false from rfl,YZ,bE (l:=(relE rel a b).args) (mk:=fun (t:Int) i=>(t,i)) (f:=fun t _=>some (.inl (M4 t 2))) ?_ ?_ (show 4<fuel by unfold fuel;decide) 1]
   ·exact ⟨2,rfl,by decide⟩
   ·intro s i x hx
    have hi:=(YY.1 hx).1
    have h4:(relE rel a b).args.length=4:=rfl
    unfold dB
    dsimp only
    rw [aU hx,Y0,gn_ hx,YX,show IntKind.i64.wrap ((25:Int)-1)=24 from rfl,hcol x (Y4 hx),YX,show IntKind.i64.wrap ((1:Int)+1)=2 from rfl,wrapN (by omega)]
    rfl
   ·intro s
    unfold dB
    dsimp only
    rw [lF_,YZ]
  obtain ⟨d,h1,h2⟩:=key 0
  exact ⟨d,by unfold E8;rw [h1];rfl,h2⟩
 obtain ⟨d,hd1,hd2⟩:=hd
 unfold qd
 rw [hd1,YX,Y1 (show ¬ (24:Int)<d by omega),YZ,hc]
 rfl
def zeroE:Ex := .mk 0 0 ⟨0,0,ByteArray.empty⟩ ByteArray.empty []
def fw (i:Int):Pl := .mk 1 i [] [] zeroE [] [] [] []
def bW (e:Ex):Pl := .mk 5 0 [] [] e [] [] [] [fw 0,fw 1]
theorem Fa {α ρ:Type} : ∀ l:List α,bU (ρ:=ρ) (fun (_:Unit) (_:α)=>some (.inl ())) () l=some (.inl ())
 | []=>rfl
 | x::l=>by rw [bU];exact Fa l
theorem Rj {k:List Int} (h : ∀ x∈k,1<=x/\x<=3) (hl:k.length<=100000):u7 k=some true:=by
 unfold u7
 rw [bE (l:=k) (mk:=fun (_:Unit) i=>i) (f:=fun _ x=>some (.inl ())) ?_ ?_ (by unfold fuel;omega) (),Fa]
 ·rfl
 ·intro s i x hx
  have hi:=(YY.1 hx).1
  have hk:=h x (Y4 hx)
  unfold rC
  dsimp only
  rw [aU hx,Y0,gn_ hx,YX,Y1 (show ¬ x<1 by omega),YZ,Y1 (show ¬ 3<x by omega),YZ,wrapN (by omega)]
  rfl
 ·intro s
  unfold rC
  dsimp only
  rw [lF_,YZ]
theorem FJ {inn:List (List Int)} {i:Nat} {k:List Int} (hi:inn[i]?=some k) (h : ∀ x∈k,1<=x/\x<=3) (h0:1<=k.length/\k.length<=48) (n:Nat):jO inn (n+1) (fw (i:Int))=some (k,0):=by
 have hlt:=(YY.1 hi).1
 obtain ⟨m,hm⟩:=gT
 show wN (jO inn n) inn (fw (i:Int))=_
 have hop:wB (fw (i:Int)) inn []=some (k,0):=by
  unfold wB
  rw [show decide ((fw (i:Int)).op=(1:Int))=true from rfl,Y0,show (fw (i:Int)).int=(i:Int) from rfl,Y1 (show ¬ (i:Int)<0 by omega),YZ,Y1 (show ¬ ((inn.length:Nat):Int)<=(i:Int) by omega),YZ,gn_ hi,YX,Rj h (by omega)]
  rfl
 unfold wN
 rw [show sj (fw (i:Int)).op=some 0 from rfl,YX,show decide ((0:Int)<0)=false from rfl,YZ,show decide ((0:Int)≠(((fw (i:Int)).inputs.length:Nat):Int))=false from rfl,YZ,hm,ah]
 show iW (fw (i:Int)) inn (.inl ([],0))=_
 unfold iW
 dsimp only
 rw [hop,YX]
 dsimp only
 rw [show decide ((0:Int)≠0)=false from rfl,YZ,Y1 (show ¬ ((k.length:Nat):Int)<1 by omega),YZ,Y1 (show ¬ (48:Int)<((k.length:Nat):Int) by omega),YZ]
theorem Pe {e:Ex} {k1 k2:List Int} (h1 : ∀ x∈k1,1<=x/\x<=3) (h2 : ∀ x∈k2,1<=x/\x<=3) (p1:1<=k1.length) (p2:1<=k2.length) (hl:k1.length+k2.length<=48) (hp:qd e (k1++k2)=some (3,0)) (n:Nat):jO [k1,k2] (n+2) (bW e)=some (k1++k2,0):=by
 have hop:wB (bW e) [k1,k2] [k1,k2]=some (k1++k2,0):=by
  have hpr:wU e (k1++k2)=some 0:=by unfold wU;rw [hp];rfl
  unfold wB
  rw [show (bW e).op=5 from rfl,show (bW e).pred=e from rfl]
  simp only [show decide ((5:Int)=1)=false from rfl,show decide ((5:Int)=2)=false from rfl,show decide ((5:Int)=3)=false from rfl,show decide ((5:Int)=4)=false from rfl,show decide ((5:Int)=11)=false from rfl,show decide ((5:Int)=5)=true from rfl,YZ,Y0]
  rw [show au [k1,k2] (0:Int)=some k1 from rfl,YX,Y2 (show k1.length<=17592186044416 by omega),Y0,show au [k1,k2] (1:Int)=some k2 from rfl,YX,Y2 (show k1.length+k2.length<=17592186044416 by omega),Y0,hpr]
  rfl
 have hlp:ah (iU (bW e) (jO [k1,k2] (n+1))) fuel ([],0)=some (.inl ([k1,k2],2)):=by
  obtain ⟨m,hm⟩:=gT
  have c1:jO [k1,k2] (n+1) (fw 0)=some (k1,0):=FJ (i:=0) rfl h1 (by omega) n
  have c2:jO [k1,k2] (n+1) (fw 1)=some (k2,0):=FJ (i:=1) rfl h2 (by omega) n
  have b1:iU (bW e) (jO [k1,k2] (n+1)) ([],0)=some (.next ([k1],1)):=by
   unfold iU
   dsimp only
   rw [show decide ((0:Int)<(((bW e).inputs.length:Nat):Int))=true from rfl,Y0,show au (bW e).inputs 0=some (fw 0) from rfl,YX,c1]
   rfl
  have b2:iU (bW e) (jO [k1,k2] (n+1)) ([k1],1)=some (.next ([k1,k2],2)):=by
   unfold iU
   dsimp only
   rw [show decide ((1:Int)<(((bW e).inputs.length:Nat):Int))=true from rfl,Y0,show au (bW e).inputs 1=some (fw 1) from rfl,YX,c2]
   rfl
  have b3:iU (bW e) (jO [k1,k2] (n+1)) ([k1,k2],2)=some (.exit ([k1,k2],2)):=rfl
  rw [hm,ah,b1]
  show ah _ (m+5) _=_
  rw [ah,b2]
  show ah _ (m+4) _=_
  rw [ah,b3]
 show wN (jO [k1,k2] (n+1)) [k1,k2] (bW e)=_
 unfold wN
 rw [show sj (bW e).op=some 2 from rfl,YX,show decide ((2:Int)<0)=false from rfl,YZ,show decide ((2:Int)≠(((bW e).inputs.length:Nat):Int))=false from rfl,YZ,hlp,YX]
 unfold iW
 dsimp only
 rw [hop,YX]
 dsimp only
 rw [show decide ((0:Int)≠0)=false from rfl,YZ,Y1 (show ¬ (((k1++k2).length:Nat):Int)<1 by rw [Y6];omega),YZ,Y1 (show ¬ (48:Int)<(((k1++k2).length:Nat):Int) by rw [Y6];omega),YZ]
theorem Lx (e:Ex):kE fuel (bW e) 24=some 2:=by
 obtain ⟨m,hm⟩:=gT
 have hs : ∀ i:Int,kE (m+5) (fw i) 23=some 1:=by
  intro i
  show ng (kE (m+4)) (fw i) 23=_
  unfold ng
  rw [show decide ((23:Int)<=0)=false from rfl,YZ,hm,ah]
  rfl
 have b1:gQ (bW e) 24 (kE (m+5)) (0,0)=some (.next (1,1)):=by
  unfold gQ
  dsimp only
  rw [show decide ((0:Int)<(((bW e).inputs.length:Nat):Int))=true from rfl,Y0,show au (bW e).inputs 0=some (fw 0) from rfl,YX,show IntKind.i64.wrap ((24:Int)-1)=23 from rfl,hs]
  rfl
 have b2:gQ (bW e) 24 (kE (m+5)) (1,1)=some (.next (1,2)):=by
  unfold gQ
  dsimp only
  rw [show decide ((1:Int)<(((bW e).inputs.length:Nat):Int))=true from rfl,Y0,show au (bW e).inputs 1=some (fw 1) from rfl,YX,show IntKind.i64.wrap ((24:Int)-1)=23 from rfl,hs]
  rfl
 have b3:gQ (bW e) 24 (kE (m+5)) (1,2)=some (.exit (1,2)):=rfl
 rw [hm]
 show ng (kE (m+5)) (bW e) 24=_
 unfold ng
 rw [show decide ((24:Int)<=0)=false from rfl,YZ,hm,ah,b1]
 show (ah _ (m+5) _).bind _=_
 rw [ah,b2]
 show (ah _ (m+4) _).bind _=_
 rw [ah,b3]
 rfl
theorem KA {e:Ex} {k1 k2:List Int} (h1 : ∀ x∈k1,1<=x/\x<=3) (h2 : ∀ x∈k2,1<=x/\x<=3) (p1:1<=k1.length) (p2:1<=k2.length) (hl:k1.length+k2.length<=48) (hp:qd e (k1++k2)=some (3,0)):tK (bW e) [k1,k2]=some (k1++k2,0):=by
 obtain ⟨m,hm⟩:=gT
 have hn:=Pe h1 h2 p1 p2 hl hp (m+4)
 rw [show m+4+2=fuel from hm.symm] at hn
 unfold tK
 rw [Lx,YX,show decide ((24:Int)<2)=false from rfl,YZ,hn,YX]
 dsimp only
 rw [show decide ((0:Int)≠0)=false from rfl,YZ,Y2 (show (k1++k2).length<=17592186044416 by rw [Y6];omega),Y0]
theorem OQ {α β ρ:Type} {l:List α} {body:(List β × Bool × Int)->Option (Step (List β × Bool × Int) ρ)} (g:α->List β) (v:Bool) (N:Nat) (h1 : ∀ (s:List β) (f:Bool) (i:Nat) x,l[i]?=some x->s.length+(g x).length<=N->body (s,f,(i:Int))=some (.next (s++g x,(bif (g x).isEmpty then f else v),((i+1:Nat):Int)))) (h2 : ∀ (s:List β) (f:Bool),body (s,f,((l.length:Nat):Int))=some (.exit (s,f,((l.length:Nat):Int)))) (hl:l.length<fuel) (s:List β) (f:Bool) (hN:s.length+(l.flatMap g).length<=N) :
  ah body fuel (s,f,(0:Int))=some (.inl (s++l.flatMap g,(bif (l.flatMap g).isEmpty then f else v),((l.length:Nat):Int))):=by
 have key : ∀ (n i:Nat) (s:List β) (f:Bool),i<=l.length->l.length-i<n->s.length+((l.drop i).flatMap g).length<=N->ah body n (s,f,(i:Int))=some (.inl (s++(l.drop i).flatMap g,(bif ((l.drop i).flatMap g).isEmpty then f else v),((l.length:Nat):Int))):=by
  intro n
  induction n with
  | zero=>intro i s f _ h _;omega
  | succ n ih =>
   intro i s f hi hn hs
   rw [ah]
   by_cases hlt:i<l.length
   ·obtain ⟨x,hx⟩:=gol_ hlt
    have e1:=(YY.1 hx).2
    rw [Zv hlt,e1,ZC] at hs ⊢
    rw [Y6] at hs
    rw [h1 s f i x hx (by omega)]
    show ah body n _=_
    rw [ih (i+1) (s++g x) _ (by omega) (by omega) (by rw [Y6];omega),Zp]
    generalize (l.drop (i+1)).flatMap g=m
    cases g x<;>cases m<;>rfl
   ·have:i=l.length:=by omega
    subst this
    rw [h2,ZO]
    simp
 have:=key fuel 0 s f (Zj _) (by omega) (by simpa using hN)
 simpa using this
theorem AZ {α β:Type} (g:α->List β) (k:Nat) : ∀ l:List α,(∀ x∈l,(g x).length<=k)->(l.flatMap g).length<=l.length*k
 | [],_=>by simp
 | x::l,h=>by
  have h1:=h x (by simp)
  have h2:=AZ g k l fun y hy=>h y (by simp [hy])
  rw [ZC,Y6,Zk,Nat.add_mul]
  omega
theorem JS {kinds:List Int} {rows:List (List Val)} (hk:kinds.length<=1000000) (hl:rows.length<=300) (hr : ∀ r∈rows,r≠[]/\r.length<=1000000):vL kinds rows=some ⟨kinds,aT rows⟩:=by
 unfold vL
 rw [Y2 (show kinds.length<=17592186044416 by omega),Y0]
 unfold yM
 rw [F9 hl hr];rfl
def jL (e:Ex) (b:List (List Val)) (x:List Val):List (List Val):=b.flatMap fun y=>bif wK e (x++y) then [x++y] else []
def tF (e:Ex) (left:Bool) (n:Nat) (b:List (List Val)) (x:List Val):List (List Val):=jL e b x++bif left&&(jL e b x).isEmpty then [x++List.replicate n gY] else []
def lF (e:Ex) (left:Bool) (n:Nat) (a b:List (List Val)):List (List Val):=a.flatMap (tF e left n b)
theorem Pt (e:Ex) (b:List (List Val)) (x:List Val):(jL e b x).length<=b.length:=by
 have:=AZ (fun y=>bif wK e (x++y) then [x++y] else []) 1 b fun y _=>by cases wK e (x++y)<;>simp
 unfold jL;omega
theorem Pf (e:Ex) (left:Bool) (n:Nat) (b:List (List Val)) (x:List Val):(tF e left n b x).length<=b.length+1:=by
 have:=Pt e b x
 unfold tF
 rw [Y6]
 cases left&&(jL e b x).isEmpty<;>simp<;>omega
theorem OT (e:Ex) (left:Bool) (n:Nat) {a b:List (List Val)} (ha:a.length<=12) (hb:b.length<=12):(lF e left n a b).length<=156:=by
 have:=AZ (tF e left n b) 13 a fun x _=>by have:=Pf e left n b x;omega
 unfold lF;omega
theorem O0 (e:Ex) (left:Bool) (n:Nat) {a b:List (List Val)} {k:Nat} (ha : ∀ r∈a,r.length=k) (hb : ∀ r∈b,r.length=n) : ∀ r∈lF e left n a b,r.length=k+n:=by
 intro r hr
 unfold lF at hr
 obtain ⟨x,hx,hr⟩:=List.mem_flatMap.1 hr
 have h1:=ha x hx
 unfold tF at hr
 rcases Zq.1 hr with hr|hr
 ·unfold jL at hr
  obtain ⟨y,hy,hr⟩:=List.mem_flatMap.1 hr
  have h2:=hb y hy
  cases hs:wK e (x++y) with
  | false=>rw [hs] at hr;cases hr
  | true=>rw [hs,Y0,List.mem_singleton] at hr;rw [hr,Y6];omega
 ·cases hs:left&&(jL e b x).isEmpty with
  | false=>rw [hs] at hr;cases hr
  | true=>rw [hs,Y0,List.mem_singleton] at hr;rw [hr,Y6,List.length_replicate];omega
theorem z_ {x y:List Val} (h0:0<x.length+y.length) (h1:x.length+y.length<=1000000):pY x y=some (x++y):=by
 unfold pY KQ
 rw [Y2 h0,Y2 h1];rfl
theorem KV {n:Nat} (h0:0<n) (h1:n<=48):xk ((n:Nat):Int)=some (List.replicate n gY):=by
 unfold xk
 rw [Y1 (show ¬ ((n:Nat):Int)<1 by omega),Y1 (show ¬ (4096:Int)<((n:Nat):Int) by omega)];rfl
section
variable {a b:aW} {e:Ex}
theorem IM (he:fU fuel e) {x:List Val} (hx0:0<x.length) (hx:x.length<=48) (hb:vG 12 b) (s:List (List Val)) (f:Bool) (hs:s.length+(jL e b.rows x).length<=5864062014805):ah (pQ b e x) fuel (s,f,(0:Int))=some (.inl (s++jL e b.rows x,(bif (jL e b.rows x).isEmpty then f else false),((b.rows.length:Nat):Int))):=by
 have hbl:=hb.len
 rw [OQ (l:=b.rows) (fun y=>bif wK e (x++y) then [x++y] else []) false 5864062014805 ?_ ?_ (by unfold fuel;omega) s f (by unfold jL at hs;exact hs)]
 ·rfl
 ·intro s f i y hy hs
  have hi:=(YY.1 hy).1
  have hyk:=hb.row y (Y4 hy)
  have:=hb.kinds
  unfold pQ
  dsimp only
  rw [aU hy,Y0,gn_ hy,YX,z_ (by omega) (by omega),YX,K4 he,YX,wrapN (by omega)]
  show (bif wK e (x++y) then _ else _)=_
  cases hc:wK e (x++y) with
  | false=>simp
  | true =>
   rw [hc] at hs
   rw [Y0,Y2 (show s.length+1<=5864062014805 from hs)];rfl
 ·intro s f
  unfold pQ
  dsimp only
  rw [lF_,YZ]
theorem Ou {left:Bool} (ha:vG 12 a) (hb:vG 12 b) (he:fU fuel e):yU a b e left=some ⟨a.kinds++b.kinds,aT (lF e left b.kinds.length a.rows b.rows)⟩:=by
 have h1:=ha.len;have h2:=hb.len;have h3:=ha.kinds;have h4:=hb.kinds;have h5:=ha.pos;have h6:=hb.pos
 have hjl:=OT e left b.kinds.length h1 h2
 unfold yU
 rw [kQ (l:=a.rows) (tF e left b.kinds.length b.rows) 5864062014805 ?_ ?_ (by unfold fuel;omega) [] (by unfold lF at hjl;simp only [Zu];omega)]
 ·rw [YX,Y3]
  unfold uY
  dsimp only
  rw [Y2 (show a.kinds.length<=17592186044416 by omega),Y0,Y2 (show a.kinds.length+b.kinds.length<=17592186044416 by omega),Y0]
  rw [JS (by rw [Y6];omega) (by unfold lF at hjl;omega) (fun r hr=>?_)]
  ·rfl
  ·have:=O0 e left b.kinds.length (k:=a.kinds.length) ha.row hb.row r hr
   exact ⟨fun h0=>by rw [h0] at this;simp at this;omega,by omega⟩
 ·intro s i x hx hs
  have hi:=(YY.1 hx).1
  have hxk:=ha.row x (Y4 hx)
  unfold uG
  dsimp only
  rw [aU hx,Y0,gn_ hx,YX]
  have hsl:s.length+(jL e b.rows x).length<=5864062014805:=by unfold tF at hs;rw [Y6] at hs;omega
  rw [IM he (by omega) (by omega) hb s true hsl,YX]
  unfold ve
  dsimp only
  rw [KV h6 h4,YX,z_ (by rw [List.length_replicate];omega) (by rw [List.length_replicate];omega),YX,wrapN (by omega)]
  unfold tF at hs ⊢
  cases hh:(jL e b.rows x).isEmpty with
  | false=>rw [YZ,YZ];simp
  | true =>
   rw [Y0,Y0]
   cases left with
   | false=>simp
   | true =>
    rw [hh] at hs
    have hs2:(s++jL e b.rows x).length+1<=5864062014805:=by rw [Y6] at hs ⊢;simp at hs;omega
    rw [Y0,Y2 hs2,Y0]
    simp
 ·intro s
  unfold uG
  dsimp only
  rw [lF_,YZ]
end
theorem JN (n:Int):jN n=some (oJ n):=by
 unfold jN qp lT jM oJ
 have e:(ByteArray.empty.toList==(⟨#[]⟩:ByteArray).toList)=true:=by rw [ByteArray.toList_eq,ByteArray.toList_eq];rfl
 dsimp only
 rw [e,show decide ((1:Int)=0)=false from rfl,show decide ((1:Int)=1)=true from rfl]
 by_cases h1 : -1125899906842624<=n
 ·by_cases h2:n<=1125899906842624
  ·simp [h1,h2]
  ·simp [h1,h2]
 ·simp [h1]
theorem Mk (n:Int):zV ⟨1,n,ByteArray.empty⟩=oJ n:=by
 have h:=JN n
 unfold jN at h
 rw [wS,YX] at h
 exact Zw h
theorem Nj {n:Int} (h:0<=n/\n<=1099511627776):oJ n=⟨1,n,ByteArray.empty⟩:=by
 unfold oJ;rw [if_pos (by omega)]
theorem GQ {row:List Val} {i:Nat} {n:Int} (h:row[i]?=some (oJ n)) (hn:0<=n/\n<=1099511627776):zV (pG row (i:Int))=⟨1,n,ByteArray.empty⟩:=by
 rw [Sk h,Nj hn,Mk,Nj hn]
theorem KU (b:Bool):tF_ (eF b)=if b=true then 2 else 0:=by
 have h:=jV (eF b)
 cases b
 ·have:dN (eF false)=some 0:=by
   unfold dN
   rw [jT,YX]
   have e0:cB [.c (.int .i64 (eF false).kind), .c (.int .i64 (eF false).int), .c (.str (eF false).text)] [.c (.int .i64 (eF true).kind), .c (.int .i64 (eF true).int), .c (.str (eF true).text)]=false:=rfl
   rw [e0,YZ]
   simp [jT,cB,eF]
  rw [this] at h
  exact (Zw h).symm
 ·have:dN (eF true)=some 2:=by
   unfold dN
   rw [jT,YX]
   simp [cB,eF]
  rw [this] at h
  exact (Zw h).symm
theorem RI {rel:Int} (hr:0<=rel/\rel<13) {a b:Nat} (hab:a<=1000/\b<=1000) {row:List Val} {p q:eG} (hp:bR p=true) (hq:bR q=true) (h1:row[a]?=some (oJ p.lo)) (h2:row[a+1]?=some (oJ p.hi)) (h3:row[b]?=some (oJ q.lo)) (h4:row[b+1]?=some (oJ q.hi)) :
  wK (relE rel a b) row=decide (dZ p q=rel):=by
 have fp:=qL hp
 have fq:=qL hq
 unfold wK
 rw [Rz hr,show IntKind.i64.wrap ((a:Int)+1)=((a+1:Nat):Int) from wrapN (by omega),show IntKind.i64.wrap ((b:Int)+1)=((b+1:Nat):Int) from wrapN (by omega),GQ h1 (by omega),GQ h2 (by omega),GQ h3 (by omega),GQ h4 (by omega)]
 unfold Ay
 rw [show dR [⟨1,p.lo,ByteArray.empty⟩,⟨1,p.hi,ByteArray.empty⟩,⟨1,q.lo,ByteArray.empty⟩,⟨1,q.hi,ByteArray.empty⟩] 1=true from rfl,Y0]
 dsimp only
 rw [show (⟨p.lo,p.hi⟩:eG)=p from rfl,show (⟨q.lo,q.hi⟩:eG)=q from rfl,if_pos ⟨hp,hq⟩,KU]
 by_cases h:dZ p q=rel<;>simp [h]
theorem OE (e:Ex) {b c:List (List Val)} (h:b.Perm c) (x:List Val):(jL e b x).Perm (jL e c x):=h.flatMap_right _
theorem Df (e:Ex) (n:Nat) (b:List (List Val)) (x:List Val):tF e false n b x=jL e b x:=by unfold tF;simp
theorem Ku (e:Ex) (n:Nat) {a a' b b':List (List Val)} (h:a.Perm a') (g:b.Perm b'):(lF e false n a b).length=(lF e false n a' b').length:=by
 unfold lF
 rw [(h.flatMap_right (tF e false n b)).length_eq,List.length_flatMap,List.length_flatMap]
 congr 1
 apply List.map_congr_left
 intro x _
 rw [Df,Df]
 exact (OE e g x).length_eq
theorem JX {α β:Type} (e:Ex) (n:Nat) (f:α->List Val) (g:β->List Val) (t:α->β->Bool) (A:List α) (B:List β) (h : ∀ x∈A, ∀ y∈B,wK e (f x++g y)=t x y):(lF e false n (A.map f) (B.map g)).length=(A.flatMap fun x=>B.flatMap fun y=>bif t x y then [()] else []).length:=by
 unfold lF
 rw [List.flatMap_map,List.length_flatMap,List.length_flatMap]
 congr 1
 apply List.map_congr_left
 intro x hx
 try dsimp only
 rw [Df]
 unfold jL
 rw [List.flatMap_map,List.length_flatMap,List.length_flatMap]
 congr 1
 apply List.map_congr_left
 intro y hy
 try dsimp only
 rw [h x hx y hy]
 cases t x y<;>rfl
def dO (v:zl):List Val:=v.row++[v.valid.lo,v.valid.hi,v.system.lo,v.system.hi,v.by_].map oJ
theorem R7 (row:List Val) (l:List Int) (h:row.length<=1000000) (hl:l.length<=1000000):Iw row l=some (row++l.map oJ):=by
 unfold Iw
 rw [show decide (row.length<=4398046511104)=true from Y2 (by omega),Y0]
 rw [bE (l:=l) (mk:=fun out i=>(out,i)) (f:=push oJ 4398046511104) ?_ ?_ (by unfold fuel;omega) row]
 ·rw [u_ _ _ _ _ (by omega)];rfl
 ·intro s i x hx
  have hi:i<l.length:=(YY.1 hx).1
  unfold Ba push
  dsimp only
  rw [aU hx,Y0,gn_ hx]
  simp only [YX]
  rw [JN,wrapN (by omega)]
  simp only [YX]
  cases decide (s.length+1<=4398046511104)<;>rfl
 ·intro s
  unfold Ba
  dsimp only
  rw [lF_,YZ]
theorem FL (kinds:List Int) (l:List zl) (hk:kinds.length<=1000000) (hl:l.length<=300) (hr : ∀ v∈l,v.row.length<=60):wh kinds l=some ⟨kinds++[1,1,1,1,1],aT (l.map dO)⟩:=by
 unfold wh
 rw [show decide (kinds.length<=17592186044416)=true from Y2 (by omega),Y0]
 rw [bE (l:=[(),(),(),(),()]) (mk:=fun out i=>(out,i)) (f:=push (fun _=>(1:Int)) 17592186044416) ?_ ?_ (by unfold fuel;simp) kinds]
 ·rw [u_ _ _ _ _ (by simp;omega)]
  show pW l (.inl (kinds++[1,1,1,1,1],((5:Nat):Int)))=_
  unfold pW
  dsimp only
  rw [bE (l:=l) (mk:=fun out i=>(out,i)) (f:=fun s v=>(Iw v.row [v.valid.lo,v.valid.hi,v.system.lo,v.system.hi,v.by_]).bind fun r=>bif decide (s.length+1<=5864062014805) then some (.inl (s++[r])) else none) ?_ ?_ (by unfold fuel;omega) []]
  ·have : ∀ (l:List zl) (s:List (List Val)),s.length+l.length<=1000->(∀ v∈l,v.row.length<=60)->bU (ρ:=aW) (fun s v=>(Iw v.row [v.valid.lo,v.valid.hi,v.system.lo,v.system.hi,v.by_]).bind fun r=>bif decide (s.length+1<=5864062014805) then some (.inl (s++[r])) else none) s l=some (.inl (s++l.map dO)):=by
    intro l
    induction l with
    | nil=>intro s _ _;simp [bU]
    | cons x l ih =>
     intro s h hr
     have h':s.length+(l.length+1)<=1000:=by simpa using h
     have hx:=hr x (List.mem_cons_self ..)
     rw [bU,R7 x.row _ (by omega) (by simp)]
     simp only [YX]
     rw [show decide (s.length+1<=5864062014805)=true from Y2 (by omega),Y0]
     have:=ih (s++[dO x]) (by simp;omega) fun v hv=>hr v (Zm _ hv)
     simpa [dO] using this
   rw [this l [] (by simp;omega) hr]
   show pX (kinds++[1,1,1,1,1]) (.inl ([]++l.map dO,((l.length:Nat):Int)))=_
   unfold pX
   dsimp only
   rw [Y3]
   unfold yM
   rw [F9 (by rw [Y_];exact hl) fun r hr'=>?_]
   ·rfl
   ·obtain ⟨v,hv,rfl⟩:=Zz.1 hr'
    have:=hr v hv
    unfold dO
    exact ⟨by simp,by simp;omega⟩
  ·intro s i x hx
   have hi:i<l.length:=(YY.1 hx).1
   unfold vw
   dsimp only
   rw [aU hx,Y0,gn_ hx]
   simp only [YX]
   rw [wrapN (by omega)]
   cases Iw x.row [x.valid.lo,x.valid.hi,x.system.lo,x.system.hi,x.by_] with
   | none=>rfl
   | some r=>simp only [YX];cases decide (s.length+1<=5864062014805)<;>rfl
  ·intro s
   unfold vw
   dsimp only
   rw [lF_,YZ]
 ·intro s i x hx
  have hi:i<5:=(YY.1 hx).1
  unfold uO push
  dsimp only
  rw [show decide ((i:Int)<5)=true from Y2 (by omega),Y0,wrapN (by omega)]
  cases decide (s.length+1<=17592186044416)<;>rfl
 ·intro s
  unfold uO
  dsimp only
  rw [show decide ((([(),(),(),(),()]:List Unit).length:Int)<5)=false from by decide,YZ]
theorem Kc {in_:List aW} {i:Nat} {b:aW} (hi:in_[i]?=some b) (hk:b.kinds.length<=48) (hl:b.rows.length<=300) (hr : ∀ r∈b.rows,r≠[]/\r.length<=1000000) (n:Nat):qf (n+1) (fw (i:Int)) in_=some ⟨b.kinds,aT b.rows⟩:=by
 obtain ⟨m,hm⟩:=gT
 show BX (qf n) (fw (i:Int)) in_=_
 unfold BX
 rw [hm,ah]
 show oL (fw (i:Int)) in_ (.inl ([],0))=_
 unfold oL
 dsimp only
 rw [show decide ((fw (i:Int)).op=(1:Int))=true from rfl,Y0,show (fw (i:Int)).int=(i:Int) from rfl,gn_ hi]
 simp only [YX]
 rw [JS (by omega) hl hr]
 rfl
theorem Qn {b1 b2:aW} {e:Ex} (h1:vG 12 ⟨b1.kinds,aT b1.rows⟩) (h2:vG 12 ⟨b2.kinds,aT b2.rows⟩) (he:fU fuel e) (n:Nat):qf (n+2) (bW e) [b1,b2]=some ⟨b1.kinds++b2.kinds,aT (lF e false b2.kinds.length (aT b1.rows) (aT b2.rows))⟩:=by
 have row : ∀ {b:aW}, vG 12 ⟨b.kinds,aT b.rows⟩->b.rows.length<=300 /\ ∀ r∈b.rows,r≠[]/\r.length<=1000000:=by
  intro b h
  have hl:(aT b.rows).length<=12:=h.len
  have hp:0<b.kinds.length:=h.pos
  have hk:b.kinds.length<=48:=h.kinds
  rw [(dH b.rows).length_eq] at hl
  refine ⟨by omega,fun r hr=>?_⟩
  have:r.length=b.kinds.length:=h.row r ((dH b.rows).mem_iff.2 hr)
  exact ⟨fun h0=>by rw [h0] at this;simp at this;omega,by omega⟩
 have c1:qf (n+1) (fw 0) [b1,b2]=some ⟨b1.kinds,aT b1.rows⟩:=Kc (i:=0) (b:=b1) rfl h1.kinds (row h1).1 (row h1).2 n
 have c2:qf (n+1) (fw 1) [b1,b2]=some ⟨b2.kinds,aT b2.rows⟩:=Kc (i:=1) (b:=b2) rfl h2.kinds (row h2).1 (row h2).2 n
 have hlp:ah (kP (bW e) [b1,b2] (qf (n+1))) fuel ([],0)=some (.inl ([⟨b1.kinds,aT b1.rows⟩,⟨b2.kinds,aT b2.rows⟩],2)):=by
  obtain ⟨m,hm⟩:=gT
  have d1:kP (bW e) [b1,b2] (qf (n+1)) ([],0)=some (.next ([⟨b1.kinds,aT b1.rows⟩],1)):=by
   unfold kP
   dsimp only
   rw [show decide ((0:Int)<(((bW e).inputs.length:Nat):Int))=true from rfl,Y0,show au (bW e).inputs 0=some (fw 0) from rfl,YX,c1]
   rfl
  have d2:kP (bW e) [b1,b2] (qf (n+1)) ([⟨b1.kinds,aT b1.rows⟩],1)=some (.next ([⟨b1.kinds,aT b1.rows⟩,⟨b2.kinds,aT b2.rows⟩],2)):=by
   unfold kP
   dsimp only
   rw [show decide ((1:Int)<(((bW e).inputs.length:Nat):Int))=true from rfl,Y0,show au (bW e).inputs 1=some (fw 1) from rfl,YX,c2]
   rfl
  have d3:kP (bW e) [b1,b2] (qf (n+1)) ([⟨b1.kinds,aT b1.rows⟩,⟨b2.kinds,aT b2.rows⟩],2)=some (.exit ([⟨b1.kinds,aT b1.rows⟩,⟨b2.kinds,aT b2.rows⟩],2)):=rfl
  rw [hm,ah,d1]
  show ah _ (m+5) _=_
  rw [ah,d2]
  show ah _ (m+4) _=_
  rw [ah,d3]
 show BX (qf (n+1)) (bW e) [b1,b2]=_
 unfold BX
 rw [hlp,YX]
 unfold oL
 dsimp only
 rw [show (bW e).op=5 from rfl,show (bW e).pred=e from rfl]
 simp only [show decide ((5:Int)=1)=false from rfl,show decide ((5:Int)=2)=false from rfl,show decide ((5:Int)=3)=false from rfl,show decide ((5:Int)=4)=false from rfl,show decide ((5:Int)=10)=false from rfl,show decide ((5:Int)=11)=false from rfl,show decide ((5:Int)=5)=true from rfl,show decide ((5:Int)=6)=false from rfl,YZ,Y0]
 rw [show au [(⟨b1.kinds,aT b1.rows⟩:aW),⟨b2.kinds,aT b2.rows⟩] (0:Int)=some ⟨b1.kinds,aT b1.rows⟩ from rfl,YX,show au [(⟨b1.kinds,aT b1.rows⟩:aW),⟨b2.kinds,aT b2.rows⟩] (1:Int)=some ⟨b2.kinds,aT b2.rows⟩ from rfl,YX,Ou h1 h2 he]
 rfl
theorem NQ {b1 b2:aW} {e:Ex} (h1:vG 12 ⟨b1.kinds,aT b1.rows⟩) (h2:vG 12 ⟨b2.kinds,aT b2.rows⟩) (g1 : ∀ x∈b1.kinds,1<=x/\x<=3) (g2 : ∀ x∈b2.kinds,1<=x/\x<=3) (hl:b1.kinds.length+b2.kinds.length<=48) (he:fU fuel e) (hp:qd e (b1.kinds++b2.kinds)=some (3,0)) :
  JW (bW e) [b1,b2]=some (⟨b1.kinds++b2.kinds,aT (lF e false b2.kinds.length (aT b1.rows) (aT b2.rows))⟩,0):=by
 obtain ⟨m,hm⟩:=gT
 have p1:0<b1.kinds.length:=h1.pos
 have p2:0<b2.kinds.length:=h2.pos
 unfold JW
 have hlp:ah (Dx [b1,b2]) fuel ([],0)=some (.inl ([b1.kinds,b2.kinds],2)):=by
  rw [hm,ah]
  show ah _ (m+5) ([b1.kinds],(1:Int))=_
  rw [ah]
  show ah _ (m+4) ([b1.kinds,b2.kinds],(2:Int))=_
  rw [ah]
  rfl
 rw [hlp,YX]
 unfold yz
 dsimp only
 have hr:=Qn h1 h2 he (m+4)
 rw [show m+4+2=fuel from hm.symm] at hr
 rw [KA g1 g2 p1 p2 hl hp,YX]
 dsimp only
 rw [show decide ((0:Int)≠0)=false from rfl,YZ,hr]
 rfl
set_option maxHeartbeats 8000000
theorem H6 (rel a b:Int):Pure Tryz.prog 32 [.one (.int .i64 rel), .one (.int .i64 a), .one (.int .i64 b)] (.val (.agg (tE (relE rel a b)))):=by
 have h:tE (relE rel a b)=[.int .i64 24, .int .i64 rel, .int .i64 0, .int .i64 0, .str ⟨#[]⟩, .str ⟨#[]⟩, .lst [[.int .i64 2, .int .i64 a, .int .i64 0, .int .i64 0, .str ⟨#[]⟩, .str ⟨#[]⟩, .lst []],[.int .i64 2, .int .i64 (IntKind.i64.wrap (a+1)), .int .i64 0, .int .i64 0, .str ⟨#[]⟩, .str ⟨#[]⟩, .lst []],[.int .i64 2, .int .i64 b, .int .i64 0, .int .i64 0, .str ⟨#[]⟩, .str ⟨#[]⟩, .lst []],[.int .i64 2, .int .i64 (IntKind.i64.wrap (b+1)), .int .i64 0, .int .i64 0, .str ⟨#[]⟩, .str ⟨#[]⟩, .lst []]]]:=rfl
 rw [h]
 exact (v_ Rf 8).1 _ _ _ (by kernel_rfl)
theorem si {α:Type} : ∀ {l:List α}, l.length=2 -> ∃ c0 c1,l=[c0,c1]
 | [c0,c1],_=>⟨c0,c1,rfl⟩
theorem M7 {α:Type} : ∀ {l:List α}, l.length=3 -> ∃ c0 c1 c2,l=[c0,c1,c2]
 | [c0,c1,c2],_=>⟨c0,c1,c2,rfl⟩
theorem WC {α:Type} : ∀ {l:List α}, l.length=9 -> ∃ c0 c1 c2 c3 c4 c5 c6 c7 c8,l=[c0,c1,c2,c3,c4,c5,c6,c7,c8]
 | [c0,c1,c2,c3,c4,c5,c6,c7,c8],_=>⟨c0,c1,c2,c3,c4,c5,c6,c7,c8,rfl⟩
theorem addr_add (b o n:Nat):(⟨b,o,none⟩:Addr).add n=⟨b,o+n,none⟩:=by
 unfold Addr.add
 split<;>simp_all
def RW {W:World} (hT:jA (fun b o=>W.cell? ⟨b,o,none⟩)):PH:=⟨fun b o=>W.cell? ⟨b,o,none⟩,hT⟩
def jg {W:World} (hT:jA (fun b o=>W.cell? ⟨b,o,none⟩)) (cs:List Value) (es:List AC):Prop:=cs.length=es.length /\ ∀ (j:Nat) u x,cs[j]?=some u->es[j]?=some x->bG (RW hT) u x
theorem jg.app {W:World} {hT:jA (fun b o=>W.cell? ⟨b,o,none⟩)} {c1 c2:List Value} {e1 e2:List AC} (h1:jg hT c1 e1) (h2:jg hT c2 e2):jg hT (c1++c2) (e1++e2):=by
 refine ⟨by rw [Y6,Y6,h1.1,h2.1],fun j u x hu hx=>?_⟩
 have hl:=h1.1
 by_cases hj:j<c1.length
 ·rw [Zc hj] at hu
  rw [Zc (by omega)] at hx
  exact h1.2 j u x hu hx
 ·rw [Y5 (by omega)] at hu
  rw [Y5 (by omega), <- hl] at hx
  exact h2.2 _ u x hu hx
theorem jg.one {W:World} {hT:jA (fun b o=>W.cell? ⟨b,o,none⟩)} {v:Value} {e:AC} (h:bG (RW hT) v e):jg hT [v] [e]:=by
 refine ⟨rfl,fun j u x hu hx=>?_⟩
 match j,hu,hx with
 | 0,hu,hx=>simp at hu hx;subst hu hx;exact h
 | j+1,hu,hx=>simp at hu
def rV (n:Int):Prop := -9223372036854775808<=n/\n<=9223372036854775807
def XT (s:ByteArray):Prop:=s.size<=9223372036854775807
def lN {α:Type} (k:Nat) (Q:α->Prop) (l:List α):Prop:=l.length*k<=reachBytes /\ ∀ a∈l,Q a
def mF {H:Type} (t:TypeId) (d:DataW H):Prop := ∀ n∈DataW.weights Tryz.prog t d,n<=reachBytes
theorem MB {H:Type} {e:TypeId} : ∀ {l:List (DataW H)} {d:DataW H}, d∈l -> ∀ n∈DataW.weights Tryz.prog e d,n∈DataW.weightsAll Tryz.prog e l
 | x::l,d,h,n,hn=>by
  rw [DataW.weightsAll,Zq]
  rcases Zf.1 h with rfl|h
  ·exact .inl hn
  ·exact .inr (MB h n hn)
theorem ye {H:Type} : ∀ {ts:List TypeId} {l:List (DataW H)} {i:Nat} {t:TypeId} {d:DataW H}, ts[i]?=some t->l[i]?=some d -> ∀ n∈DataW.weights Tryz.prog t d,n∈DataW.weightsEach Tryz.prog ts l
 | t0::ts,d0::l,0,t,d,h1,h2,n,hn=>by
  simp at h1 h2;subst h1 h2
  rw [DataW.weightsEach,Zq];exact .inl hn
 | t0::ts,d0::l,i+1,t,d,h1,h2,n,hn=>by
  rw [DataW.weightsEach,Zq];exact .inr (ye (by simpa using h1) (by simpa using h2) n hn)
 | [],_,i,t,d,h1,_,n,hn=>by simp at h1
 | _::_,[],i,t,d,_,h2,n,hn=>by simp at h2
section
variable {H:Type} {enc:TypeId × Value->H} {W:World} {hT:jA (fun b o=>W.cell? ⟨b,o,none⟩)} {base:Nat} {spare:Nat->Bool} {held:Bool}
theorem bB {t:TypeId} (ht:Tryz.prog.underlying t=some (.int .i64)) {cs:List Value} {fuel:Nat} {x:DataW H × List MemPlace} (h:DataW.trod enc Tryz.prog W base spare held fuel t cs=some x) : ∃ n:Int,jg hT cs [.int .i64 n]/\rV n:=by
 obtain ⟨n,rfl,_,hw⟩:=DataW.trod_int ht h
 rw [Lit.wf,Zg] at hw
 exact ⟨n,jg.one (.int _ _),Zr hw.1,Zr hw.2⟩
theorem I7 {t:TypeId} (ht:Tryz.prog.underlying t=some .string) {cs:List Value} {fuel:Nat} {x:DataW H × List MemPlace} (h:DataW.trod enc Tryz.prog W base spare held fuel t cs=some x) : ∃ s:ByteArray,jg hT cs [.str s]/\XT s:=by
 obtain ⟨s,rfl,_,hs⟩:=DataW.trod_string ht h
 exact ⟨s,jg.one (.str _),hs⟩
theorem bu {α:Type} {t e:TypeId} {k:Nat} {f:α->List AC} {Q:α->Prop} (ht:Tryz.prog.underlying t=some (.slice e)) (hk:Tryz.prog.cellsOf e=k) {by_:Nat} (hby:Tryz.prog.bytesOf e=by_) (hk0:0<k) (hf : ∀ x,(f x).length=k) {cs:List Value} {fuel:Nat} {x:DataW H × List MemPlace} (h:DataW.trod enc Tryz.prog W base spare held fuel t cs=some x) (hw:mF t x.1)
  (hr : ∀ (fuel':Nat) (cs':List Value) (x':DataW H × List MemPlace),fuel'<fuel->DataW.trod enc Tryz.prog W base spare held fuel' e cs'=some x'->mF e x'.1 -> ∃ a,jg hT cs' (f a)/\Q a) : ∃ l:List α,jg hT cs [.lst (l.map f)]/\lN by_ Q l:=by
 rcases DataW.trod_slice ht h with ⟨rfl,_⟩|⟨a,len,cap,elems,rest,n,hfu,rfl,hxe,_,hlc,hm,hel,hx,_,_⟩
 ·exact ⟨[],jg.one (eT _ _ _),by simp,fun a ha=>by cases ha⟩
 ·have hww:(∀ n∈DataW.weightsAll Tryz.prog e (elems.map (·.1)),n<=reachBytes)/\len*by_<=reachBytes:=by
   rw [hxe] at hw
   unfold mF at hw
   simp only [DataW.weights,ht] at hw
   refine ⟨fun n hn=>hw n (Zm _ (List.mem_append_left _ hn)),?_⟩
   have:=hw _ (List.mem_cons_self ..)
   simp only [Y_,hel,hby] at this
   exact Nat.le_trans (ZB _ (Nat.le_add_right _ _)) this
  have hi : ∀ i,i<len -> ∃ y,(∃ cs',W.cells? base (a.add (i*k)) k=some cs'/\jg hT cs' (f y))/\Q y:=by
   intro i hlt
   have h1:=hx i hlt
   rw [Y7 (by omega),hk] at h1
   cases hc:W.cells? base (a.add (i*k)) k with
   | none=>rw [hc] at h1;cases h1
   | some cs'=>rw [hc] at h1;obtain ⟨y,h2,h3⟩:=hr n cs' _ (by omega) h1 (fun m hm=>hww.1 m (MB (List.mem_map_of_mem (f:=fun p:DataW H × List MemPlace=>p.1) (List.getElem_mem (by omega))) m hm));exact ⟨y,⟨cs',rfl,h2⟩,h3⟩
  rcases Nat.eq_zero_or_pos len with h0|h0
  ·subst h0;exact ⟨[],jg.one (eT _ _ _),by simp,fun a ha=>by cases ha⟩
  ·obtain ⟨y0,⟨cs0,hc0,_⟩,_⟩:=hi 0 h0
   let g:Nat->α:=fun i=>if h:i<len then Classical.choose (hi i h) else y0
   have hg : ∀ i,i<len->(∃ cs',W.cells? base (a.add (i*k)) k=some cs'/\jg hT cs' (f (g i)))/\Q (g i):=by
    intro i hlt
    have:g i=Classical.choose (hi i hlt):=by simp [g,hlt]
    rw [this]
    exact Classical.choose_spec (hi i hlt)
   obtain ⟨b,off,spot⟩:=a
   have hs0:spot=none:=by
    obtain ⟨_,hl,hat⟩:=World.cells?_some hc0
    have h1:=hat 0 hk0
    rw [Y7 (by omega)] at h1
    have:=World.cell?_spot h1
    simpa [Addr.add] using this
   subst hs0
   refine ⟨(List.range len).map g,jg.one ?_,(by rw [Y_,List.length_range];exact hww.2),?_⟩
   ·have cell : ∀ i,i<len -> ∀ j,j<k -> ∃ u y,W.cell? ⟨b,off+(i*k+j),none⟩=some u/\(f (g i))[j]?=some y/\bG (RW hT) u y:=by
     intro i hlt j hj
     obtain ⟨⟨cs',hc,hcr⟩,_⟩:=hg i hlt
     obtain ⟨_,hl,hat⟩:=World.cells?_some hc
     have h1:=hat j hj
     rw [Y7 (by omega)] at h1
     have hfl:=hf (g i)
     refine ⟨_,_,?_,Y7 (by omega),hcr.2 j _ _ (Y7 (by omega)) (Y7 (by omega))⟩
     rw [addr_add,addr_add,Nat.add_assoc] at h1
     exact h1
    refine .lst (some ⟨b,off,none⟩) len cap _ k (fun j=>(W.cell? ⟨b,off+j,none⟩).getD (.bool false)) b off (by simp) hlc ?_ (fun _=>rfl) ?_ ?_
    ·intro e he
     simp only [List.map_map,Zz] at he
     obtain ⟨i,_,rfl⟩:=he
     exact hf _
    ·intro j hj
     have hd:j/k<len:=by rw [Nat.div_lt_iff_lt_mul hk0];exact hj
     obtain ⟨u,y,h1,_,_⟩:=cell (j/k) hd (j%k) (Nat.mod_lt _ hk0)
     have hjj:j/k*k+j%k=j:=by rw [Nat.mul_comm];exact Nat.div_add_mod j k
     rw [hjj] at h1
     show W.cell? _=_
     rw [h1];rfl
    ·intro i e j x he hxx
     have hlt:i<len:=by have:=(YY.1 he).1;simpa using this
     have:e=f (g i):=by simp [hlt] at he;exact he.symm
     subst this
     have hj:j<k:=by have:=(YY.1 hxx).1;rw [hf] at this;exact this
     obtain ⟨u,y,h1,h2,h3⟩:=cell i hlt j hj
     rw [h2] at hxx
     obtain rfl:=Zw hxx
     rw [h1];exact h3
   ·intro a ha
    simp only [Zz,List.mem_range] at ha
    obtain ⟨i,hlt,rfl⟩:=ha
    exact (hg i hlt).2
theorem kU {s:TypeId} {x:DataW H × List MemPlace} {fs:Array Field} {n:Nat} {cs:List Value} {xs:List (DataW H × List MemPlace)} (hs:Tryz.prog.underlying s=some (.struct fs)) (hx:x=(.agg (xs.map (·.1)),xs.flatMap (·.2))) (hw:mF s x.1) (hl:xs.length=fs.size) (hf : ∀ (i:Nat) (f:Field),fs[i]?=some f->DataW.trod enc Tryz.prog W base spare held n f.type ((cs.drop f.offset).take (Tryz.prog.cellsOf f.type))=xs[i]?)
  (i:Nat) {f:Field} {t o k:Nat} (hi:fs[i]?=some f) (h1:f.type=t) (h2:f.offset=o) (h3:Tryz.prog.cellsOf t=k) : ∃ y,DataW.trod enc Tryz.prog W base spare held n t ((cs.drop o).take k)=some y/\mF t y.1:=by
 have hlt:i<fs.size:=(ZI.1 hi).1
 have:=hf i f hi
 rw [h1,h2,h3,Y7 (by omega)] at this
 refine ⟨_,this,fun m hm=>?_⟩
 rw [hx] at hw
 unfold mF at hw
 simp only [DataW.weights,hs] at hw
 refine hw m (ye (i:=i) ?_ ?_ m hm)
 ·rw [Zl,Array.getElem?_toList,hi];simp [h1]
 ·rw [Zl,Y7 (by omega)];rfl
end
structure lC (x:Val):Prop where
 kind:rV x.kind
 int:rV x.int
 text:XT x.text
section
variable {H:Type} {enc:TypeId × Value->H} {W:World} {hT:jA (fun b o=>W.cell? ⟨b,o,none⟩)} {base:Nat} {spare:Nat->Bool} {held:Bool}
theorem PE : ∀ (fuel:Nat) {cs:List Value} {x:DataW H × List MemPlace}, DataW.trod enc Tryz.prog W base spare held fuel 57 cs=some x->mF 57 x.1 -> ∃ a:Val,jg hT cs (cV a)/\lC a:=by
 intro fuel
 intro cs x h hw
 obtain ⟨xs,n,hfu,hxe,hlen,hxs,hf⟩:=DataW.trod_struct Tryz.underlying57 h
 rw [show Tryz.prog.cellsOf 57=3 by kernel_rfl] at hlen
 obtain ⟨c0,c1,c2,rfl⟩:=M7 hlen
 obtain ⟨y0,h0,w0⟩:=kU Tryz.underlying57 hxe hw hxs hf 0 (t:=3) (o:=0) (k:=1) rfl rfl rfl (by kernel_rfl)
 replace h0:DataW.trod enc Tryz.prog W base spare held n 3 [c0]=some y0:=h0
 obtain ⟨l0,r0,q0⟩:=bB Tryz.underlying3 h0
 obtain ⟨y1,h1,w1⟩:=kU Tryz.underlying57 hxe hw hxs hf 1 (t:=3) (o:=1) (k:=1) rfl rfl rfl (by kernel_rfl)
 replace h1:DataW.trod enc Tryz.prog W base spare held n 3 [c1]=some y1:=h1
 obtain ⟨l1,r1,q1⟩:=bB Tryz.underlying3 h1
 obtain ⟨y2,h2,w2⟩:=kU Tryz.underlying57 hxe hw hxs hf 2 (t:=9) (o:=2) (k:=1) rfl rfl rfl (by kernel_rfl)
 replace h2:DataW.trod enc Tryz.prog W base spare held n 9 [c2]=some y2:=h2
 obtain ⟨l2,r2,q2⟩:=I7 Tryz.underlying9 h2
 exact ⟨⟨l0,l1,l2⟩,((r0.app r1).app r2),⟨q0,q1,q2⟩⟩
theorem DX {cs:List Value} {fuel:Nat} {x:DataW H × List MemPlace} (h:DataW.trod enc Tryz.prog W base spare held fuel 34 cs=some x) (hw:mF 34 x.1) : ∃ l:List Int,jg hT cs [.lst (l.map (fun x=>[AC.int .i64 x]))]/\lN 8 rV l :=
 bu (k:=1) (f:=(fun x=>[AC.int .i64 x])) (Q:=rV) Tryz.underlying34 (by kernel_rfl) (by kernel_rfl) (by decide) (fun _=>rfl) h hw (fun f c x _ h hw=>bB Tryz.underlying3 h)
theorem vU {cs:List Value} {fuel:Nat} {x:DataW H × List MemPlace} (h:DataW.trod enc Tryz.prog W base spare held fuel 43 cs=some x) (hw:mF 43 x.1) : ∃ l:List Val,jg hT cs [.lst (l.map cV)]/\lN 32 lC l :=
 bu (k:=3) (f:=cV) (Q:=lC) Tryz.underlying43 (by kernel_rfl) (by kernel_rfl) (by decide) (fun _=>rfl) h hw (fun f c x _ h hw=>PE f h hw)
end
structure Ab (x:eG):Prop where
 lo:rV x.lo
 hi:rV x.hi
section
variable {H:Type} {enc:TypeId × Value->H} {W:World} {hT:jA (fun b o=>W.cell? ⟨b,o,none⟩)} {base:Nat} {spare:Nat->Bool} {held:Bool}
theorem Dg : ∀ (fuel:Nat) {cs:List Value} {x:DataW H × List MemPlace}, DataW.trod enc Tryz.prog W base spare held fuel 45 cs=some x->mF 45 x.1 -> ∃ a:eG,jg hT cs (oC a)/\Ab a:=by
 intro fuel
 intro cs x h hw
 obtain ⟨xs,n,hfu,hxe,hlen,hxs,hf⟩:=DataW.trod_struct Tryz.underlying45 h
 rw [show Tryz.prog.cellsOf 45=2 by kernel_rfl] at hlen
 obtain ⟨c0,c1,rfl⟩:=si hlen
 obtain ⟨y0,h0,w0⟩:=kU Tryz.underlying45 hxe hw hxs hf 0 (t:=3) (o:=0) (k:=1) rfl rfl rfl (by kernel_rfl)
 replace h0:DataW.trod enc Tryz.prog W base spare held n 3 [c0]=some y0:=h0
 obtain ⟨l0,r0,q0⟩:=bB Tryz.underlying3 h0
 obtain ⟨y1,h1,w1⟩:=kU Tryz.underlying45 hxe hw hxs hf 1 (t:=3) (o:=1) (k:=1) rfl rfl rfl (by kernel_rfl)
 replace h1:DataW.trod enc Tryz.prog W base spare held n 3 [c1]=some y1:=h1
 obtain ⟨l1,r1,q1⟩:=bB Tryz.underlying3 h1
 exact ⟨⟨l0,l1⟩,(r0.app r1),⟨q0,q1⟩⟩
end
structure MR (x:zl):Prop where
 id:rV x.id
 schema:rV x.schema
 row:(lN 32 lC) x.row
 valid:Ab x.valid
 system:Ab x.system
 by_:rV x.by_
 til:rV x.til
section
variable {H:Type} {enc:TypeId × Value->H} {W:World} {hT:jA (fun b o=>W.cell? ⟨b,o,none⟩)} {base:Nat} {spare:Nat->Bool} {held:Bool}
theorem Uz : ∀ (fuel:Nat) {cs:List Value} {x:DataW H × List MemPlace}, DataW.trod enc Tryz.prog W base spare held fuel 47 cs=some x->mF 47 x.1 -> ∃ a:zl,jg hT cs (rY a)/\MR a:=by
 intro fuel
 intro cs x h hw
 obtain ⟨xs,n,hfu,hxe,hlen,hxs,hf⟩:=DataW.trod_struct Tryz.underlying47 h
 rw [show Tryz.prog.cellsOf 47=9 by kernel_rfl] at hlen
 obtain ⟨c0,c1,c2,c3,c4,c5,c6,c7,c8,rfl⟩:=WC hlen
 obtain ⟨y0,h0,w0⟩:=kU Tryz.underlying47 hxe hw hxs hf 0 (t:=3) (o:=0) (k:=1) rfl rfl rfl (by kernel_rfl)
 replace h0:DataW.trod enc Tryz.prog W base spare held n 3 [c0]=some y0:=h0
 obtain ⟨l0,r0,q0⟩:=bB Tryz.underlying3 h0
 obtain ⟨y1,h1,w1⟩:=kU Tryz.underlying47 hxe hw hxs hf 1 (t:=3) (o:=1) (k:=1) rfl rfl rfl (by kernel_rfl)
 replace h1:DataW.trod enc Tryz.prog W base spare held n 3 [c1]=some y1:=h1
 obtain ⟨l1,r1,q1⟩:=bB Tryz.underlying3 h1
 obtain ⟨y2,h2,w2⟩:=kU Tryz.underlying47 hxe hw hxs hf 2 (t:=43) (o:=2) (k:=1) rfl rfl rfl (by kernel_rfl)
 replace h2:DataW.trod enc Tryz.prog W base spare held n 43 [c2]=some y2:=h2
 obtain ⟨l2,r2,q2⟩:=vU h2 w2
 obtain ⟨y3,h3,w3⟩:=kU Tryz.underlying47 hxe hw hxs hf 3 (t:=45) (o:=3) (k:=2) rfl rfl rfl (by kernel_rfl)
 replace h3:DataW.trod enc Tryz.prog W base spare held n 45 [c3,c4]=some y3:=h3
 obtain ⟨l3,r3,q3⟩:=Dg n h3 w3
 obtain ⟨y4,h4,w4⟩:=kU Tryz.underlying47 hxe hw hxs hf 4 (t:=45) (o:=5) (k:=2) rfl rfl rfl (by kernel_rfl)
 replace h4:DataW.trod enc Tryz.prog W base spare held n 45 [c5,c6]=some y4:=h4
 obtain ⟨l4,r4,q4⟩:=Dg n h4 w4
 obtain ⟨y5,h5,w5⟩:=kU Tryz.underlying47 hxe hw hxs hf 5 (t:=3) (o:=7) (k:=1) rfl rfl rfl (by kernel_rfl)
 replace h5:DataW.trod enc Tryz.prog W base spare held n 3 [c7]=some y5:=h5
 obtain ⟨l5,r5,q5⟩:=bB Tryz.underlying3 h5
 obtain ⟨y6,h6,w6⟩:=kU Tryz.underlying47 hxe hw hxs hf 6 (t:=3) (o:=8) (k:=1) rfl rfl rfl (by kernel_rfl)
 replace h6:DataW.trod enc Tryz.prog W base spare held n 3 [c8]=some y6:=h6
 obtain ⟨l6,r6,q6⟩:=bB Tryz.underlying3 h6
 exact ⟨⟨l0,l1,l2,l3,l4,l5,l6⟩,((((((r0.app r1).app r2).app r3).app r4).app r5).app r6),⟨q0,q1,q2,q3,q4,q5,q6⟩⟩
end
section
variable {H:Type} {enc:TypeId × Value->H} {W:World} {hT:jA (fun b o=>W.cell? ⟨b,o,none⟩)} {base:Nat} {spare:Nat->Bool} {held:Bool}
theorem Uc {cs:List Value} {fuel:Nat} {x:DataW H × List MemPlace} (h:DataW.trod enc Tryz.prog W base spare held fuel 22 cs=some x) (hw:mF 22 x.1) : ∃ l:List zl,jg hT cs [.lst (l.map rY)]/\lN 88 MR l :=
 bu (k:=9) (f:=rY) (Q:=MR) Tryz.underlying22 (by kernel_rfl) (by kernel_rfl) (by decide) (fun _=>rfl) h hw (fun f c x _ h hw=>Uz f h hw)
end
structure Dt (x:Ip):Prop where
 kinds:(lN 8 rV) x.kinds
 versions:(lN 88 MR) x.versions
section
variable {H:Type} {enc:TypeId × Value->H} {W:World} {hT:jA (fun b o=>W.cell? ⟨b,o,none⟩)} {base:Nat} {spare:Nat->Bool} {held:Bool}
theorem Mc : ∀ (fuel:Nat) {cs:List Value} {x:DataW H × List MemPlace}, DataW.trod enc Tryz.prog W base spare held fuel 73 cs=some x->mF 73 x.1 -> ∃ a:Ip,jg hT cs (Aq a)/\Dt a:=by
 intro fuel
 intro cs x h hw
 obtain ⟨xs,n,hfu,hxe,hlen,hxs,hf⟩:=DataW.trod_struct Tryz.underlying73 h
 rw [show Tryz.prog.cellsOf 73=2 by kernel_rfl] at hlen
 obtain ⟨c0,c1,rfl⟩:=si hlen
 obtain ⟨y0,h0,w0⟩:=kU Tryz.underlying73 hxe hw hxs hf 0 (t:=34) (o:=0) (k:=1) rfl rfl rfl (by kernel_rfl)
 replace h0:DataW.trod enc Tryz.prog W base spare held n 34 [c0]=some y0:=h0
 obtain ⟨l0,r0,q0⟩:=DX h0 w0
 obtain ⟨y1,h1,w1⟩:=kU Tryz.underlying73 hxe hw hxs hf 1 (t:=22) (o:=1) (k:=1) rfl rfl rfl (by kernel_rfl)
 replace h1:DataW.trod enc Tryz.prog W base spare held n 22 [c1]=some y1:=h1
 obtain ⟨l1,r1,q1⟩:=Uc h1 w1
 exact ⟨⟨l0,l1⟩,(r0.app r1),⟨q0,q1⟩⟩
end
set_option maxHeartbeats 8000000
noncomputable section
def uS (a_l:(List zl)) (a_kinds:(List Int)):(Int)->Option (Step (Int) (Bool)):=fun s=>match s with
 | i_1=>bif (decide (i_1<((a_l.length:Nat):Int))) then (au a_l i_1).bind fun x_3=>(qW x_3.row a_kinds).bind fun r_4=>bif (!r_4) then some (.ret false) else
 some (.next (IntKind.i64.wrap (i_1+(1:Int)))) else
 some (.exit i_1)
def uP (a_kinds:(List Int)):Sum (Int) (Bool)->Option ((Bool))
 | .inl i_1=>(uk a_kinds).bind fun r_6=>some r_6
 | .inr q=>some q
def NM (a_l:(List zl)) (a_kinds:(List Int)):Option (Bool):=(ah (uS a_l a_kinds) fuel (0:Int)).bind (uP a_kinds)
theorem MU {a_l:(List zl)} {a_kinds:(List Int)} {r:Bool} (H:NM a_l a_kinds=some r):Pure Tryz.prog 20 [.one (.lst (a_l.map rY)), .one (.lst (a_kinds.map (fun x=>[AC.int .i64 x])))] (.val (.one (.bool r))):=by
 unfold NM at H
 refine po_ Tryz.func20 Tryz.ntmps20 ?_
 refine bf ?_
 refine alM_ (fun s:Int=>match s with|i_1=>[(0, .one (.c (.lst (a_l.map rY)))),(1, .one (.c (.lst (a_kinds.map (fun x=>[AC.int .i64 x]))))),(5, .one (.c (.int .i64 i_1)))]) (fun s=>match s with|i_1=>[]) H (fun _=>Zj _)
  (fm_ bL [] rfl bq trivial) ?_
 rintro i_1 st1 hb1 hk1
 unfold uS at hb1
 dsimp only at hb1 ⊢
 rcases aa hb1 with ⟨q_2,hb1⟩|⟨q_2,hb1⟩
 ·obtain ⟨x_3,i1z,i1,i1x,hb1⟩:=aI (f:=rY) hb1
  obtain ⟨r_4,c2,hb1⟩:=bd_ hb1
  replace c2:=N7 c2
  rcases aa hb1 with ⟨q_5,hb1⟩|⟨q_5,hb1⟩
  ·cases hb1
   have hx1:uP a_kinds (.inr false)=some _:=hk1
   unfold uP at hx1
   dsimp only at hx1
   cases hx1
   exact aj
  cases hb1
  refine bf ?_
  exact ⟨_,rfl,fm_ bL [] rfl bq trivial⟩
 cases hb1
 have hx1:uP a_kinds (.inl i_1)=some _:=hk1
 unfold uP at hx1
 dsimp only at hx1
 obtain ⟨r_6,c3,hx1⟩:=bd_ hx1
 replace c3:=O3 c3
 cases hx1
 exact aj
def j6 (a_l:(List zl)):(Int)->Option (Step (Int) (Bool)):=fun s=>match s with
 | i_1=>bif (decide (i_1<((a_l.length:Nat):Int))) then (au a_l i_1).bind fun x_3=>(oz x_3.valid).bind fun r_4=>bif (!r_4) then some (.ret false) else
 some (.next (IntKind.i64.wrap (i_1+(1:Int)))) else
 some (.exit i_1)
def mW:Sum (Int) (Bool)->Option ((Bool))
 | .inl i_1=>some true
 | .inr q=>some q
def vo (a_l:(List zl)):Option (Bool):=(ah (j6 a_l) fuel (0:Int)).bind (mW)
theorem BA {a_l:(List zl)} {r:Bool} (H:vo a_l=some r):Pure Tryz.prog 37 [.one (.lst (a_l.map rY))] (.val (.one (.bool r))):=by
 unfold vo at H
 refine po_ Tryz.func37 Tryz.ntmps37 ?_
 refine bf ?_
 refine alM_ (fun s:Int=>match s with|i_1=>[(0, .one (.c (.lst (a_l.map rY)))),(3, .one (.c (.int .i64 i_1)))]) (fun s=>match s with|i_1=>[]) H (fun _=>Zj _)
  (fm_ bL [] rfl bq trivial) ?_
 rintro i_1 st1 hb1 hk1
 unfold j6 at hb1
 dsimp only at hb1 ⊢
 rcases aa hb1 with ⟨q_2,hb1⟩|⟨q_2,hb1⟩
 ·obtain ⟨x_3,i1z,i1,i1x,hb1⟩:=aI (f:=rY) hb1
  obtain ⟨r_4,c2,hb1⟩:=bd_ hb1
  replace c2:=wC c2
  rcases aa hb1 with ⟨q_5,hb1⟩|⟨q_5,hb1⟩
  ·cases hb1
   have hx1:mW (.inr false)=some _:=hk1
   unfold mW at hx1
   dsimp only at hx1
   cases hx1
   exact aj
  cases hb1
  refine bf ?_
  exact ⟨_,rfl,fm_ bL [] rfl bq trivial⟩
 cases hb1
 have hx1:mW (.inl i_1)=some _:=hk1
 unfold mW at hx1
 dsimp only at hx1
 cases hx1
 exact aj
def nX (a_a:Ip) (a_b:Ip) (a_rel:Int):Option (Bool):=bif (decide (a_rel<(0:Int))) then some (true) else
 bif (decide ((13:Int)<=a_rel)) then some (true) else
 bif (decide ((10:Int)<((a_a.versions.length:Nat):Int))) then some (true) else
 bif (decide ((10:Int)<((a_b.versions.length:Nat):Int))) then some (true) else
 bif (decide ((20:Int)<(IntKind.i64.wrap (((a_a.kinds.length:Nat):Int)+((a_b.kinds.length:Nat):Int))))) then some (true) else
 (NM a_a.versions a_a.kinds).bind fun r_11=>bif (!r_11) then some (true) else
 (NM a_b.versions a_b.kinds).bind fun r_14=>bif (!r_14) then some (true) else
 (vo a_a.versions).bind fun r_17=>bif (!r_17) then some (true) else
 (vo a_b.versions).bind fun r_20=>bif (!r_20) then some (true) else
 (FU (Pl.mk (5:Int) (0:Int) [] [] (relE a_rel (IntKind.i64.wrap (((a_a.kinds.length:Nat):Int)+(0:Int))) (IntKind.i64.wrap ((IntKind.i64.wrap ((IntKind.i64.wrap (((a_a.kinds.length:Nat):Int)+(5:Int)))+((a_b.kinds.length:Nat):Int)))+(0:Int)))) [] [] [] [(Pl.mk (1:Int) (0:Int) [] [] (Ex.mk (0:Int) (0:Int) (⟨(0:Int),(0:Int),ByteArray.empty⟩:Val) ByteArray.empty []) [] [] [] []),(Pl.mk (1:Int) (1:Int) [] [] (Ex.mk (0:Int) (0:Int) (⟨(0:Int),(0:Int),ByteArray.empty⟩:Val) ByteArray.empty []) [] [] [] [])]) [a_a,a_b]).bind fun r_24=>bif (decide (r_24.2=(0:Int))) then (uF a_a.versions).bind fun r_26=>(uF a_b.versions).bind fun r_27=>(DW r_26 r_27 a_rel).bind fun r_28=>bif (decide (((r_24.1.rows.length:Nat):Int)=((r_28.length:Nat):Int))) then some (true) else
 some false else
 some false
end
end Go.Proofs.YtnbnpnmkgemdeaaGreatDoor
