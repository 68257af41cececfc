/- Parts. No condition. -/
import Derived.Test.YtdkmoemdipgikaaGreatDoorKAR
import Derived.Test.YtdkmoemdipgikaaGreatDoorKAO
set_option linter.unusedSimpArgs false
set_option linter.unusedVariables false
namespace Go.Proofs.YtdkmoemdipgikaaGreatDoor.St
open Go.RowKit Go.Shelf Go.Lib Go.Sort
def KZ:Type :={ p:Int×Int // 0≤p.1∧p.1≤1099511627776 }
instance : Inhabited KZ := ⟨⟨(0, 0), by decide⟩⟩
def e2S (x:KZ):List Value:=e2 x.1
theorem alI:SWO (ltOf fun x y:KZ=>x.1.1-y.1.1) where
 irrefl x:=by simp[ltOf]
 trans x y z h1 h2:=by simp[ltOf]at *;omega
 ntrans x y z h1 h2:=by simp[ltOf]at *;omega
set_option maxHeartbeats 1000000 in
theorem af3 (x y:KZ)(W:World):Calls Tryz.prog 178 #[.agg (e2S x).toArray,.agg (e2S y).toArray] W fun e w'=>e = .returned (.int .i64 (x.1.1-y.1.1))∧∃ q os',w'=grow (W.drewN q) os':=by
 obtain⟨⟨x,a⟩,hx1,hx2⟩:=x;obtain⟨⟨y,b⟩,hy1,hy2⟩:=y;simp only at hx1 hx2 hy1 hy2;show Calls Tryz.prog 178 #[.agg #[.int .i64 x,.int .i64 a],.agg #[.int .i64 y,.int .i64 b]] W _
 go_enter Tryz.func178,Tryz.ntmps178
 go_wp2
 go_ret
 exact⟨rfl,0,_,by rw[alloc_eq_grow,alloc_eq_grow,grow_grow];rfl⟩
theorem JY (l:List KZ):l.flatMap e2S=(l.map (·.1)).flatMap e2:=by
 rw[List.flatMap_map];rfl
theorem aan {w:World}{base:Nat}{v:Value}{l:List KZ}:Own e2S 2 164 w base v l↔Own e2 2 164 w base v (l.map (·.1)):=by
 unfold Own;rw[JY,List.length_map]
theorem adY:∀ {l:List (Int×Int)},(∀ s∈l,0≤s.1∧s.1≤1099511627776)→∃ l':List KZ,l'.map (·.1)=l
 |[],_=>⟨[],rfl⟩
 |s::l,h=>by
  obtain⟨l',e⟩:=adY (l:=l) fun t ht=>h t (by simp[ht])
  exact⟨⟨s,h s m5⟩::l',congrArg (s :: ·) e⟩
theorem GQ (base:Nat)(A:Option Addr)(n c:Nat)(l:List (Int×Int))(w:World)(hr:∀ s∈l,0≤s.1∧s.1≤1099511627776)(ho:Own e2 2 164 w base (.slice A n c) l)(hn:n≤1000000000)(hbase:base≤w.heap.size) :
  Calls Tryz.prog 177 #[.slice A n c,.func (.func 178) #[] #[]] w fun e w'=>e = .returned (.tuple #[])∧∃ l',l'.Perm l∧abY l'∧Own e2 2 164 w' base (.slice A n c) l'∧Below base w w':=by
 obtain⟨ls,rfl⟩:=adY hr;have hcon:=I4 (E:=164) Tryz.sortStep Tryz.isAgg164 Tryz.sizeOf164 (enc:=e2S) (fun x=>dy x.1) (fun x=>lS x.1) (fun x y=>x.1.1-y.1.1) alI 178 (enters_of Tryz.func178 k7 rfl) af3 base A n c ls w (aan.2 ho) hn hbase;change Calls Tryz.prog 177 _ _ _ at hcon;refine hcon.mono fun e w' ⟨he,l',hp,hs,hown,hb⟩=>⟨he,l'.map (·.1),hp.map _,abY.of_pairwise ?_,aan.1 hown,hb⟩
 rw[List.pairwise_map];exact hs.imp fun {x y} h=>by omega
theorem adV {l:List ((Int×Int)×Int)}{k:Nat}{x:(Int×Int)×Int}(hx:l[k]?=some x):sb (l.take (k+1))=sb (l.take k)++iU x:=by
 unfold sb;rw[List.take_add_one,hx];simp
theorem vY {l:List ((Int×Int)×Int)}:∀ s∈sb l,0≤s.1∧s.1≤1099511627776:=by
 intro s hs;obtain⟨c,hc,hs⟩:=List.mem_flatMap.1 hs;unfold iU at hs;split at hs
 ·rename_i hv
  simp[be]at hv;simp at hs;rcases hs with rfl|rfl<;>simp<;>omega
 ·simp at hs
theorem adW (c:(Int×Int)×Int):(iU c).length≤2:=by unfold iU;split<;>simp
theorem N0:∀ l:List ((Int×Int)×Int),(sb l).length≤2*l.length
 |[]=>by simp[sb]
 |c::l=>by
  have h1:=N0 l;have h2:=adW c;have hc:sb (c::l)=iU c++sb l:=by simp[sb]
  rw[hc];simp;omega
theorem nK {C:List (Int×Int)}(h:abY C){k:Nat}{x y:Int}(hx:C[k]?=some (x,y)):∀ s∈C.drop k,x≤s.1:=by
 intro s hs;obtain⟨q,hq,e⟩:=jo.1 hs;by_cases e1:q=k
 ·subst e1;rw[hx]at e;cases e;simp
 ·exact h k q (x,y) s m0 hx e
theorem xH {C:List (Int×Int)}(h:abY C){j q:Nat}{x y:Int}(hx:C[j]?=some (x,y))(hX:∀ t s,j≤t→t<q→C[t]?=some s→s.1=x):∀ s∈C.take q,s.1≤x:=by
 intro s hs;obtain⟨t,ht,e⟩:=fm.1 hs;by_cases e1:t<j
 ·exact h t j s (x,y) e1 e hx
 ·rw[hX t s m0 ht e];omega
theorem iL {α:Type}{C:List α}{n k:Nat}(hl:C.length=n)(hk:¬ k<n){p:α→Prop}:∀ s∈C.drop k,p s:=by
 intro s hs;rw[List.drop_of_length_le m0]at hs;simp at hs
set_option maxRecDepth 100000 in
set_option maxHeartbeats 8000000 in
theorem ag4 (A:Option Addr)(n c:Nat)(l:List ((Int×Int)×Int))(w:World)(ha:Rd e3 3 w w.heap.size A n l)(hn:n≤100000) :
  Calls Tryz.prog 124 #[.slice A n c] w fun e w' =>∃ A' m' c',e = .returned (.slice A' m' c')∧Own e2 2 164 w' w.heap.size (.slice A' m' c') (dI (ga l) (ed l))∧Gr w w':=by
 have hlen:=Lib.hid ha.1;obtain⟨G,hG⟩:∃ G,G=ga l:=⟨_,rfl⟩;obtain⟨R,hR⟩:∃ R,R=dI G (ed l):=⟨_,rfl⟩;rw[← hG,← hR];have HG:=Lib.hid hG;have HR:=Lib.hid hR;clear hG hR
 go_enter Tryz.func124,Tryz.ntmps124
 go_wp2_with fail
 go_loopw [3,12] (fun v i wr =>∃ (k:Nat) (A':Option Addr) (m' c':Nat),k≤n∧i = .int .i64 k∧v = .slice A' m' c'∧m'≤2*k∧Own e2 2 164 wr w.heap.size (.slice A' m' c') (sb (l.take k))∧Gr w wr) (fun _ i _=>n-(intOf i).toNat)
 case atStart=>exact⟨0,none,0,0,Nat.zero_le _,rfl,rfl,m0,Own.nil _ _,Gr.refl _⟩
 case round =>
  obtain⟨k,A',m',c',hk,rfl,rfl,hm',hown,hg⟩:=hrel;by_cases hlt:k<n
  ·obtain⟨b1,o1,x1,y1,z1,hA1,hb1,hx1,d1,d2,d3⟩:=(ha.gr hg).at3 hlt
   cases hA1;have hstep:=Lib.hid (adV hx1);clear hx1;go_wp2_with fail;refine(Ib _ _ _).mono ?_;rintro e w1 ⟨rfl,hg1⟩;have zz:wr.heap.size<w1.heap.size:=by have:=hg1.size;simp at this;omega
   have hGr:Gr w w1:=(hg.allocR _).trans hg1;have hown1:=(hown.alloc (.cells #[.int .i64 x1,.int .i64 y1,.int .i64 z1] 139)).gr hg1;obtain⟨hc,hf⟩:=hg1.cells;have hs:=hGr.size;by_cases hv:be (x1,y1)=true
   ·have hch:=Lib.hid (show iU ((x1,y1),z1)=[(x1,z1),(y1,wrap64 (-z1))]by unfold iU;rw[if_pos hv])
    go_wp2_with (at_builtin;refine uB rfl (.tmp 19) (.tmp 33) rfl w.heap.size _ (sb (l.take k)) rfl hown1 [(x1,z1),(y1,wrap64 (-z1))] 2 rfl rfl (by have:=hown1.len;simp;omega) hs ?_;intro A2 m2 c2 w2 hown2 hbel2);rw[← hch.out,← hstep.out]at hown2;have hm2:m2≤2*(k+1):=by have h1:=hown2.len;have h2:=N0 (l.take (k+1));have h3:(l.take (k+1)).length≤k+1:=List.length_take_le _ _;omega
    go_roundw
    case rel=>exact⟨k+1,_,_,_,m0,by go_num,rfl,hm2,hown2,hGr.out.trans hbel2⟩
    case measure=>simp[intOf];omega
   ·have hvb:be (x1,y1)=false:=by simpa using hv
    have hch:=Lib.hid (show iU ((x1,y1),z1)=[]by unfold iU;rw[if_neg hv]);go_wp2_with fail;rw[show sb (l.take k)=sb (l.take (k+1))by rw[hstep.out,hch.out,List.append_nil]]at hown1
    go_roundw
    case rel=>exact⟨k+1,_,_,_,m0,by go_num,rfl,m0,hown1,hGr⟩
    case measure=>simp[intOf];omega
  ·have hkn:k=n:=m0
   rw[List.take_of_length_le (by rw[hlen.out];omega)]at hown;have hm1:m'≤200000:=m0
   clear hm' hlt hk;go_wp2_with fail;refine(GQ w.heap.size A' m' c' (sb l) _ vY hown m0 hg.size).mono ?_;rintro e w1 ⟨rfl,C,hp,hasc,hown1,hbel⟩;have hg1:Gr w w1:=hg.out.trans hbel;have HC:=Lib.hid hasc;have HP:=Lib.hid hp;have hlC:=Lib.hid hown1.len;have hrg:=Lib.hid (fun s hs=>vY s (hp.mem_iff.1 hs));have hrC:=hown1.rds dy;clear hasc hp hg hbel hown;go_wp2_with fail
   go_loop [7,8] (fun v i =>∃ (q0:Nat) (z:Int),q0≤m'∧i = .int .i64 q0∧v = .int .i64 z∧Hid (z=GL (C.take q0))∧Hid (∀ s∈C.take q0,s.1=0)) (fun _ i=>m'-(intOf i).toNat)
   case atStart=>exact⟨0,0,Nat.zero_le _,rfl,rfl,rfl,fun s hs=>by simp at hs⟩
   case round =>
    obtain⟨q0,z,hq0,rfl,rfl,HZ,H0⟩:=hrel;by_cases hlt0:q0<m'
    ·obtain⟨b0,o0,x0,y0,hA0,hb0,hx0,d1,d2⟩:=hrC.at2 hlt0
     cases hA0;have X0:=Lib.hid hx0;clear hx0;by_cases hxz:x0=0
     ·have hxzb:(x0==0)=true:=by simpa using hxz
      have HXZ:=Lib.hid hxz;clear hxz;go_wp2_with fail
      go_round
      case rel=>exact⟨q0+1,_,m0,by go_num,rfl,(by show _=_;rw[vL X0.out,← HZ.out]),fun s hs=>by
       rw[← qU X0.out]at hs;rcases List.mem_append.1 hs with e|e
       ·exact H0.out s e
       ·simp at e;subst e;exact HXZ.out⟩
      case measure=>simp[intOf];omega
     ·have hxzb:(x0==0)=false:=by simpa using hxz
      have HREST:=Lib.hid (show ∀ s∈C.drop q0,0<s.1 by
       intro s hs;have h1:=nK HC.out X0.out s hs;have h2:=(hrg.out (x0,y0) (List.mem_of_getElem? X0.out)).1;simp at h2;omega)
      clear hxz;have hmet:=Lib.hid (Met.start H0.out HREST.out);have hval:=Lib.hid (show z=G 0 by rw[HZ.out,HG.out];exact mm HP.out (fun s hs=>by rw[H0.out s hs];omega) HREST.out);go_wp2_with fail;refine(mL w1.heap.size none 0 0 [] 0 z _ (Own.nil _ _) m0 (Nat.le_refl _)).mono ?_;rintro e w2 ⟨A2,m2,c2,rfl,hown2,hbel2⟩;have hg2:Gr w1 w2:=hbel2;rw[show bO [] (0,z)=dI G [0]by rw[hval.out];rfl]at hown2;go_wp2_with fail
      go_loopw [6,7,8,9] (fun v s i a wr =>∃ (j:Nat) (z3:Int) (Pr:List Int) (A3:Option Addr) (m3 c3:Nat),j≤m'∧i = .int .i64 j∧s = .int .i64 z3∧v = .slice A3 m3 c3∧Hid (Met C j Pr)∧Hid (z3=GL (C.take j))∧Hid (∀ s∈C.take j,s.1<1099511627776)∧Hid (Pr.length≤j+1)∧Own e2 2 164 wr w1.heap.size (.slice A3 m3 c3) (dI G Pr)∧Gr w1 wr) (fun _ _ i _ _=>m'-(intOf i).toNat)
      case atStart=>exact⟨q0,z,[0],A2,m2,c2,m0,rfl,rfl,rfl,hmet,HZ,(fun s hs=>by rw[H0.out s hs];omega),(by show([0]:List Int).length≤q0+1;simp),hown2,hg2⟩
      case round =>
       obtain⟨j,z3,Pr,A3,m3,c3,hj,rfl,rfl,rfl,HM,HZ3,HF,HL,hown3,hg3⟩:=hrel;by_cases hlt3:j<m'
       ·obtain⟨b1,o1,x1,y1,hA1,hb1,hx1,d1,d2⟩:=(hrC.gr hg3).at2 hlt3
        cases hA1;have X1:=Lib.hid hx1;clear hx1;by_cases hxF:x1<1099511627776
        ·have hxb:decide (x1<1099511627776)=true:=by simpa using hxF
         go_wp2_with fail
         go_loop [7,8] (fun v i =>∃ (q:Nat) (z4:Int),j≤q∧q≤m'∧i = .int .i64 q∧v = .int .i64 z4∧Hid (z4=GL (C.take q))∧Hid (∀ t s,j≤t→t<q→C[t]?=some s→s.1=x1)) (fun _ i=>m'-(intOf i).toNat)
         case atStart=>exact⟨j,z3,Nat.le_refl _,hj,rfl,rfl,HZ3,fun t s h1 h2=>absurd h2 m0⟩
         case round =>
          obtain⟨q,z4,hq1,hq2,rfl,rfl,HZ4,HX⟩:=hrel;by_cases hlt4:q<m'
          ·obtain⟨b2,o2,x2,y2,hA2,hb2,hx2,d3,d4⟩:=(hrC.gr hg3).at2 hlt4
           cases hA2;have X2:=Lib.hid hx2;clear hx2;by_cases hxx:x2=x1
           ·have hxxb:(x2==x1)=true:=by simpa using hxx
            have HXX:=Lib.hid hxx;clear hxx;go_wp2_with fail
            go_round
            case rel=>exact⟨q+1,_,m0,m0,by go_num,rfl,(by show _=_;rw[vL X2.out,← HZ4.out]),fun t s h1 h2 h3=>by
             by_cases e:t=q
             ·subst e;rw[X2.out]at h3;cases h3;exact HXX.out
             ·exact HX.out t s h1 m0 h3⟩
            case measure=>simp[intOf];omega
           ·have hxxb:(x2==x1)=false:=by simpa using hxx
            have HREST4:=Lib.hid (show ∀ s∈C.drop q,x1<s.1 by
             intro s hs;have h1:=nK HC.out X2.out s hs;have h2:x1≤x2:=nK HC.out X1.out (x2,y2) (jo.2 ⟨q,hq1,X2.out⟩);omega)
            have HJ2:j<q:=by
             rcases Nat.lt_or_ge j q with h|h
             ·exact h
             ·exfalso
              obtain rfl:j=q:=m0
              have:=X1.out.symm.trans X2.out;simp at this;exact hxx this.1.symm
            clear hxx;have hjq:j<q:=HJ2;have hnx:=Lib.hid (HM.out.next hjq HX.out (by rw[hlC.out];omega) HREST4.out);have hle:=Lib.hid (xH HC.out X1.out HX.out);have hv4:=Lib.hid (show z4=G x1 by rw[HZ4.out,HG.out];exact mm HP.out hle.out HREST4.out);have hm3:m3≤200001:=by have h1:=hown3.len;have h2:=mW G Pr;have h3:=HL.out;omega
            go_wp2_with fail;refine(mL w1.heap.size A3 m3 c3 _ x1 z4 _ hown3 m0 hg3.size).mono ?_;rintro e w4 ⟨A4,m4,c4,rfl,hown4,hbel4⟩;rw[hv4.out,← jS]at hown4;go_wp2_with fail
            go_roundw
            case rel=>exact⟨q,z4,Pr++[x1],A4,m4,c4,m0,rfl,rfl,rfl,hnx,HZ4,(fun s hs=>by have:=hle.out s hs;omega),(by have:=HL.out;show(Pr++[x1]).length≤q+1;simp;omega),hown4,hg3.out.trans hbel4⟩
            case measure=>simp[intOf];omega
          ·have HREST4:=Lib.hid (iL (p:=fun s=>x1<s.1) hlC.out hlt4)
           have hjq:j<q:=m0
           have hnx:=Lib.hid (HM.out.next hjq HX.out (by rw[hlC.out];omega) HREST4.out);have hle:=Lib.hid (xH HC.out X1.out HX.out);have hv4:=Lib.hid (show z4=G x1 by rw[HZ4.out,HG.out];exact mm HP.out hle.out HREST4.out);have hm3:m3≤200001:=by have h1:=hown3.len;have h2:=mW G Pr;have h3:=HL.out;omega
           go_wp2_with fail;refine(mL w1.heap.size A3 m3 c3 _ x1 z4 _ hown3 m0 hg3.size).mono ?_;rintro e w4 ⟨A4,m4,c4,rfl,hown4,hbel4⟩;rw[hv4.out,← jS]at hown4;go_wp2_with fail
           go_roundw
           case rel=>exact⟨q,z4,Pr++[x1],A4,m4,c4,m0,rfl,rfl,rfl,hnx,HZ4,(fun s hs=>by have:=hle.out s hs;omega),(by have:=HL.out;show(Pr++[x1]).length≤q+1;simp;omega),hown4,hg3.out.trans hbel4⟩
           case measure=>simp[intOf];omega
        ·have hxb:decide (x1<1099511627776)=false:=by simpa using hxF
         have HEND:=Lib.hid (show ∀ s∈C.drop j,1099511627776≤s.1 by
          intro s hs;have:=nK HC.out X1.out s hs;omega)
         have hPr:=Met.done HP.out HM.out HF.out HEND.out;have hRR:=Lib.hid (show dI G Pr=R by rw[hPr,HR.out]);clear hPr;go_wp2_with fail
         go_ret
         exact⟨_,_,_,rfl,by rw[← hRR.out];exact hown3.mono hg1.size,hg1.trans hg3⟩
       ·have HEND:=Lib.hid (iL (p:=fun s=>1099511627776≤s.1) hlC.out hlt3)
        have hPr:=Met.done HP.out HM.out HF.out HEND.out;have hRR:=Lib.hid (show dI G Pr=R by rw[hPr,HR.out]);clear hPr;go_wp2_with fail
        go_ret
        exact⟨_,_,_,rfl,by rw[← hRR.out];exact hown3.mono hg1.size,hg1.trans hg3⟩
    ·have HREST:=Lib.hid (iL (p:=fun s=>0<s.1) hlC.out hlt0)
     have hmet:=Lib.hid (Met.start H0.out HREST.out);have hval:=Lib.hid (show z=G 0 by rw[HZ.out,HG.out];exact mm HP.out (fun s hs=>by rw[H0.out s hs];omega) HREST.out);go_wp2_with fail;refine(mL w1.heap.size none 0 0 [] 0 z _ (Own.nil _ _) m0 (Nat.le_refl _)).mono ?_;rintro e w2 ⟨A2,m2,c2,rfl,hown2,hbel2⟩;have hg2:Gr w1 w2:=hbel2;rw[show bO [] (0,z)=dI G [0]by rw[hval.out];rfl]at hown2;go_wp2_with fail
     go_loopw [6,7,8,9] (fun v s i a wr =>∃ (j:Nat) (z3:Int) (Pr:List Int) (A3:Option Addr) (m3 c3:Nat),j≤m'∧i = .int .i64 j∧s = .int .i64 z3∧v = .slice A3 m3 c3∧Hid (Met C j Pr)∧Hid (z3=GL (C.take j))∧Hid (∀ s∈C.take j,s.1<1099511627776)∧Hid (Pr.length≤j+1)∧Own e2 2 164 wr w1.heap.size (.slice A3 m3 c3) (dI G Pr)∧Gr w1 wr) (fun _ _ i _ _=>m'-(intOf i).toNat)
     case atStart=>exact⟨q0,z,[0],A2,m2,c2,m0,rfl,rfl,rfl,hmet,HZ,(fun s hs=>by rw[H0.out s hs];omega),(by show([0]:List Int).length≤q0+1;simp),hown2,hg2⟩
     case round =>
      obtain⟨j,z3,Pr,A3,m3,c3,hj,rfl,rfl,rfl,HM,HZ3,HF,HL,hown3,hg3⟩:=hrel;by_cases hlt3:j<m'
      ·obtain⟨b1,o1,x1,y1,hA1,hb1,hx1,d1,d2⟩:=(hrC.gr hg3).at2 hlt3
       cases hA1;have X1:=Lib.hid hx1;clear hx1;by_cases hxF:x1<1099511627776
       ·have hxb:decide (x1<1099511627776)=true:=by simpa using hxF
        go_wp2_with fail
        go_loop [7,8] (fun v i =>∃ (q:Nat) (z4:Int),j≤q∧q≤m'∧i = .int .i64 q∧v = .int .i64 z4∧Hid (z4=GL (C.take q))∧Hid (∀ t s,j≤t→t<q→C[t]?=some s→s.1=x1)) (fun _ i=>m'-(intOf i).toNat)
        case atStart=>exact⟨j,z3,Nat.le_refl _,hj,rfl,rfl,HZ3,fun t s h1 h2=>absurd h2 m0⟩
        case round =>
         obtain⟨q,z4,hq1,hq2,rfl,rfl,HZ4,HX⟩:=hrel;by_cases hlt4:q<m'
         ·obtain⟨b2,o2,x2,y2,hA2,hb2,hx2,d3,d4⟩:=(hrC.gr hg3).at2 hlt4
          cases hA2;have X2:=Lib.hid hx2;clear hx2;by_cases hxx:x2=x1
          ·have hxxb:(x2==x1)=true:=by simpa using hxx
           have HXX:=Lib.hid hxx;clear hxx;go_wp2_with fail
           go_round
           case rel=>exact⟨q+1,_,m0,m0,by go_num,rfl,(by show _=_;rw[vL X2.out,← HZ4.out]),fun t s h1 h2 h3=>by
            by_cases e:t=q
            ·subst e;rw[X2.out]at h3;cases h3;exact HXX.out
            ·exact HX.out t s h1 m0 h3⟩
           case measure=>simp[intOf];omega
          ·have hxxb:(x2==x1)=false:=by simpa using hxx
           have HREST4:=Lib.hid (show ∀ s∈C.drop q,x1<s.1 by
            intro s hs;have h1:=nK HC.out X2.out s hs;have h2:x1≤x2:=nK HC.out X1.out (x2,y2) (jo.2 ⟨q,hq1,X2.out⟩);omega)
           have HJ2:j<q:=by
            rcases Nat.lt_or_ge j q with h|h
            ·exact h
            ·exfalso
             obtain rfl:j=q:=m0
             have:=X1.out.symm.trans X2.out;simp at this;exact hxx this.1.symm
           clear hxx;have hjq:j<q:=HJ2;have hnx:=Lib.hid (HM.out.next hjq HX.out (by rw[hlC.out];omega) HREST4.out);have hle:=Lib.hid (xH HC.out X1.out HX.out);have hv4:=Lib.hid (show z4=G x1 by rw[HZ4.out,HG.out];exact mm HP.out hle.out HREST4.out);have hm3:m3≤200001:=by have h1:=hown3.len;have h2:=mW G Pr;have h3:=HL.out;omega
           go_wp2_with fail;refine(mL w1.heap.size A3 m3 c3 _ x1 z4 _ hown3 m0 hg3.size).mono ?_;rintro e w4 ⟨A4,m4,c4,rfl,hown4,hbel4⟩;rw[hv4.out,← jS]at hown4;go_wp2_with fail
           go_roundw
           case rel=>exact⟨q,z4,Pr++[x1],A4,m4,c4,m0,rfl,rfl,rfl,hnx,HZ4,(fun s hs=>by have:=hle.out s hs;omega),(by have:=HL.out;show(Pr++[x1]).length≤q+1;simp;omega),hown4,hg3.out.trans hbel4⟩
           case measure=>simp[intOf];omega
         ·have HREST4:=Lib.hid (iL (p:=fun s=>x1<s.1) hlC.out hlt4)
          have hjq:j<q:=m0
          have hnx:=Lib.hid (HM.out.next hjq HX.out (by rw[hlC.out];omega) HREST4.out);have hle:=Lib.hid (xH HC.out X1.out HX.out);have hv4:=Lib.hid (show z4=G x1 by rw[HZ4.out,HG.out];exact mm HP.out hle.out HREST4.out);have hm3:m3≤200001:=by have h1:=hown3.len;have h2:=mW G Pr;have h3:=HL.out;omega
          go_wp2_with fail;refine(mL w1.heap.size A3 m3 c3 _ x1 z4 _ hown3 m0 hg3.size).mono ?_;rintro e w4 ⟨A4,m4,c4,rfl,hown4,hbel4⟩;rw[hv4.out,← jS]at hown4;go_wp2_with fail
          go_roundw
          case rel=>exact⟨q,z4,Pr++[x1],A4,m4,c4,m0,rfl,rfl,rfl,hnx,HZ4,(fun s hs=>by have:=hle.out s hs;omega),(by have:=HL.out;show(Pr++[x1]).length≤q+1;simp;omega),hown4,hg3.out.trans hbel4⟩
          case measure=>simp[intOf];omega
       ·have hxb:decide (x1<1099511627776)=false:=by simpa using hxF
        have HEND:=Lib.hid (show ∀ s∈C.drop j,1099511627776≤s.1 by
         intro s hs;have:=nK HC.out X1.out s hs;omega)
        have hPr:=Met.done HP.out HM.out HF.out HEND.out;have hRR:=Lib.hid (show dI G Pr=R by rw[hPr,HR.out]);clear hPr;go_wp2_with fail
        go_ret
        exact⟨_,_,_,rfl,by rw[← hRR.out];exact hown3.mono hg1.size,hg1.trans hg3⟩
      ·have HEND:=Lib.hid (iL (p:=fun s=>1099511627776≤s.1) hlC.out hlt3)
       have hPr:=Met.done HP.out HM.out HF.out HEND.out;have hRR:=Lib.hid (show dI G Pr=R by rw[hPr,HR.out]);clear hPr;go_wp2_with fail
       go_ret
       exact⟨_,_,_,rfl,by rw[← hRR.out];exact hown3.mono hg1.size,hg1.trans hg3⟩
