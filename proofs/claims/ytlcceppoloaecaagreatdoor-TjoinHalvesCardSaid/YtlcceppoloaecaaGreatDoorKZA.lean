/- Of of the reference. Condition: at most 100000 pieces. -/
import Derived.Test.YtlcceppoloaecaaGreatDoorKBE
set_option linter.unusedSimpArgs false
set_option linter.unusedVariables false
namespace Go.Proofs.YtlcceppoloaecaaGreatDoor.St
open Go.RowKit
theorem zq1 (x:Int):(e1 x).length=1:=rfl
theorem zq2 (x:Int):∀ u∈e1 x,u.oneCell'=true:=by intro u hu;simp[e1]at hu;subst hu;rfl
section
variable {w:World} {B n i:Nat} {A:Option Addr}
theorem Rd.at1 {l:List Int}(h:Rd e1 1 w B A n l)(hi:i<n):∃ b o x,A=some ⟨b,o,none⟩∧b<B∧l[i]?=some x∧w.cell? ⟨b,o+i,none⟩=some (.int .i64 x):=by
 obtain⟨b,o,e,hb,hc⟩:=h.2 m0S;have hx:l[i]?=some (l[i]'(by have:=h.1;omega)):=List.getElem?_eq_getElem _;refine⟨b,o,_,e,hb,hx,?_⟩;have:=hc i _ hx 0 _ rfl;simpa using this
end
set_option maxHeartbeats 400000 in
theorem zq3 (x y:Int)(w:World) :
  Calls Tryz.prog 33 #[.agg #[.int .i64 x,.int .i64 y]] w fun e w'=>e = .returned (.bool (aQ (x,y)))∧Gr w w':=by
 go_enter Tryz.func33,Tryz.ntmps33
 go_wp2
 all_goals
  go_ret
  refine⟨EP (by simp[aQ];omega),?_⟩
  first|exact Gr.refl _|(repeat (first|exact Gr.refl _|assumption|exact Gr.alloc _ _|refine Gr.allocR ?_ _|refine Gr.drewNR ?_ _|refine Gr.drewR ?_|refine Gr.trans ?_ (by assumption)))
set_option maxHeartbeats 400000 in
theorem zq4 (x y t:Int)(w:World) :
  Calls Tryz.prog 103 #[.agg #[.int .i64 x,.int .i64 y],.int .i64 t] w fun e w'=>e = .returned (.bool (aW (x,y) t))∧Gr w w':=by
 go_enter Tryz.func103,Tryz.ntmps103
 go_wp2_with (first|(go_at_call 33;refine(zq3 _ _ _).mono ?_;rintro e w' ⟨rfl,hb⟩;have hz:=hb.size;(try simp only[World.size_alloc]at hz);have z0:w.heap.size<w'.heap.size:=(by omega);obtain⟨hc,hf⟩:=hb.cells))
 all_goals
  go_ret
  refine⟨EP (by simp_all[aW];try omega),?_⟩
  first|exact Gr.refl _|(repeat (first|exact Gr.refl _|assumption|exact Gr.alloc _ _|refine Gr.allocR ?_ _|refine Gr.drewNR ?_ _|refine Gr.drewR ?_|refine Gr.trans ?_ (by assumption)))
theorem zq5:(Tryz.prog.info? 3).map (fun i=>(i.zero,i.size,i.bytes))=some (some (.int .i64 0),1,8):=k7
theorem zq6 {w:World}{ops:Array Oper}{rest:List Oper}{o:Oper}{a:Act}{Q:Exit→Act→World→Prop}{cs:Array Value}(hgd:o.guard=none)(s x:Operand)
  (ho:o.op = .call { callee := .builtin .append,args :=#[s,x],argTypes :=#[29,29] }) (base:Nat) (v:Value) (l:List (Int)) (hs:a.eval s=v) (hown:Own e1 1 3 w base v l) (xs:List (Int)) (c:Nat)
  (hx:a.eval x = .slice (some ⟨w.heap.size,0,none⟩) xs.length c) (hcs:cs=(xs.flatMap e1).toArray) (hlen:l.length+xs.length≤1000000000) (hbase:base≤w.heap.size)
  (h:∀ A n c w',Own e1 1 3 w' base (.slice A n c) (l++xs)→Below base w w'→wpList Tryz.prog ops Q rest (a.put o.dst (.slice A n c)) w') :
  wpList Tryz.prog ops Q (o::rest) a (w.alloc (.cells cs 3)):=by
 obtain⟨i0,hi,hz0,hz1,hz2⟩:=info_parts zq5;exact pR hgd s x 29 ho i0 _ 8 Tryz.underlying29 hi hz0 hz1 hz2 rfl m0 zq1 zq2 v l hs hown xs c hx hcs m0 m0 hbase h
set_option maxHeartbeats 1000000 in
theorem zq7 (base:Nat)(A:Option Addr)(m c:Nat)(l:List (Int×Int))(at_ n:Int)(w:World)(ho:Own e2 2 201 w base (.slice A m c) l)(hn:m≤1000000)(hbase:base≤w.heap.size) :
  Calls Tryz.prog 245 #[.slice A m c,.int .i64 at_,.int .i64 n] w fun e w' =>∃ A' m' c',e = .returned (.slice A' m' c')∧Own e2 2 201 w' base (.slice A' m' c') (dB l (at_,n))∧Below base w w':=by
 have ha:=ho.rds dO;have hmp:=Lib.hid ho.len;by_cases h0:0<m
 ·obtain⟨b1,o1,x1,y1,rfl,hb1,hx1,c1,c2⟩:=ha.at2 (i:=m-1) m0
  have hlast:l.getLast?=some (x1,y1):=rX (by rw[hmp.out];exact hx1);have h0b:decide (0<(m:Int))=true:=by simpa using h0
  by_cases hy:y1=n
  ·have hyb:(y1==n)=true:=by simpa using hy
   have hp:dB l (at_,n)=l:=by unfold dB;rw[if_pos (by rw[hlast,hy];rfl)]
   have HP:=Lib.hid hp;clear hp hlast hx1 hy
   go_enter Tryz.func245,Tryz.ntmps245
   go_wp2
   go_ret
   rw[HP.out];exact⟨_,_,_,rfl,ho,Below.refl _ _⟩
  ·have hyb:(y1==n)=false:=by simpa using hy
   have hp:dB l (at_,n)=l++[(at_,n)]:=by unfold dB;rw[if_neg (by rw[hlast];simpa using hy)]
   have HP:=Lib.hid hp;clear hp hlast hx1 hy
   go_enter Tryz.func245,Tryz.ntmps245
   go_wp2_with (at_builtin;refine wt rfl (.tmp 22) (.tmp 26) rfl base (.slice (some ⟨b1,o1,none⟩) m c) l rfl ho [(at_,n)] 1 rfl rfl (by rw[hmp.out];simp;omega) hbase ?_;intro A' n' c' w1 hown hbel)
   go_ret
   rw[HP.out];exact⟨_,_,_,rfl,hown,hbel⟩
 ·obtain rfl:m=0:=m0
  have hl:l=[]:=List.eq_nil_of_length_eq_zero hmp.out;subst hl
  go_enter Tryz.func245,Tryz.ntmps245
  go_wp2_with (at_builtin;refine wt rfl (.tmp 22) (.tmp 26) rfl base (.slice A 0 c) [] rfl ho [(at_,n)] 1 rfl rfl m5 hbase ?_;intro A' n' c' w1 hown hbel)
  go_ret
  exact⟨_,_,_,rfl,hown,hbel⟩
theorem zq8 (n:Int):∀ (l:List Int) (k:Nat),(∀ x∈l.take k,x<n)→(∀ y,l[k]?=some y→n≤y)→ins n l=l.take k++(mid n l[k]?++l.drop k)
 |[],k,h,h'=>by simp[ins,mid]
 |x::r,0,h,h'=>by
  have hx:n≤x:=h' x rfl;simp only[ins,mid,List.take_zero,List.nil_append,List.getElem?_cons_zero,List.drop_zero];rw[if_neg m0];split<;>rfl
 |x::r,k+1,h,h'=>by
  have hx:x<n:=h x m5;have:=zq8 n r k (fun y hy=>h y (by simp[hy])) (fun y hy=>h' y (by simpa using hy));simp only[ins];rw[if_pos hx,this];simp
theorem zq9 {α:Type}{l pre:List α}{k j:Nat}{x:α}(hx:l[k+j]?=some x):(pre++(l.drop k).take j)++[x]=pre++(l.drop k).take (j+1):=by
 rw[List.append_assoc,tg (by rw[List.getElem?_drop];exact hx)]
set_option maxHeartbeats 2000000 in
theorem zq10 (A:Option Addr)(n c:Nat)(l:List Int)(z:Int)(w:World)(ha:Rd e1 1 w w.heap.size A n l)(hn:n≤1000000) :
  Calls Tryz.prog 214 #[.slice A n c,.int .i64 z] w fun e w' =>∃ A' m' c',e = .returned (.slice A' m' c')∧Own e1 1 3 w' w.heap.size (.slice A' m' c') (ins z l)∧Gr w w':=by
 have hlen:=Lib.hid ha.1
 go_enter Tryz.func214,Tryz.ntmps214
 go_wp2
 go_loopw [5,6] (fun v i wr =>∃ (k:Nat) (A':Option Addr) (m' c':Nat),k≤n∧i = .int .i64 k∧v = .slice A' m' c'∧Hid (∀ x∈l.take k,x<z)∧Own e1 1 3 wr w.heap.size (.slice A' m' c') (l.take k)∧Gr w wr) (fun _ i _=>n-(intOf i).toNat)
 case atStart=>exact⟨0,none,0,0,Nat.zero_le _,rfl,rfl,(fun x hx=>by simp at hx),Own.nil _ _,Gr.refl _⟩
 case round =>
  obtain⟨k,A',m',c',hk,rfl,rfl,HE,hown,hg⟩:=hrel;have hm':m'≤1000000:=by have:=hown.len;simp at this;omega
  by_cases hgo:∃ x,l[k]?=some x∧x<z
  ·obtain⟨x,hx,hxz⟩:=hgo
   have hlt:k<n:=by rw[← hlen.out];exact(List.getElem?_eq_some_iff.1 hx).1
   obtain⟨b1,o1,x1,rfl,hb1,hx1,c1⟩:=(ha.gr hg).at1 hlt;obtain rfl:x1=x:=by rw[hx]at hx1;exact(Option.some.inj hx1).symm
   have X1:=Lib.hid hx;clear hx hx1 ha;have hzb:decide (x1<z)=true:=by simpa using hxz
   have hs:=hg.size;go_wp2_with (at_builtin;refine zq6 rfl (.tmp 19) (.tmp 24) rfl w.heap.size _ (l.take k) rfl hown [x1] 1 rfl rfl m8 hs ?_;intro A2 m2 c2 w1 hown1 hbel)
   go_roundw
   case rel=>exact⟨k+1,_,_,_,m0,by go_num,rfl,(fun x hx=>by rw[← tg X1.out]at hx;simp at hx;rcases hx with hx|hx;exact HE.out x hx;omega),(by rw[tg X1.out]at hown1;exact hown1),hg.out.trans hbel⟩
   case measure=>simp[intOf];omega
  ·have hge:∀ y,l[k]?=some y→z≤y:=fun y hy=>Int.not_lt.1 fun h=>hgo ⟨y,hy,h⟩
   have hsp:=Lib.hid (zq8 z l k HE.out hge);clear hgo HE;by_cases hlt:k<n
   ·obtain⟨b1,o1,x1,rfl,hb1,hx1,c1⟩:=(ha.gr hg).at1 hlt
    have hz1:=hge x1 hx1;have hzb:decide (x1<z)=false:=by simp;omega
    have hkn:((k:Int)==(n:Int))=false:=by simp;omega
    by_cases hz2:z<x1
    ·have hzc:decide (z<x1)=true:=by simpa using hz2
     have hmid:=Lib.hid (show mid z l[k]?=[z]by rw[hx1];simp[mid,hz2]);have hs:=hg.size;clear hx1 hge;go_wp2_with (at_builtin;refine zq6 rfl (.tmp 40) (.tmp 42) rfl w.heap.size _ (l.take k) rfl hown [z] 1 rfl rfl m8 hs ?_;intro A2 m2 c2 w1 hown1 hbel);have hg1:Gr w w1:=hg.out.trans hbel;have hown2:Own e1 1 3 w1 w.heap.size (.slice A2 m2 c2) (l.take k++mid z l[k]?):=by rw[hmid.out];exact hown1
     generalize hpre:l.take k++mid z l[k]?=pre at hown2;have HPre:=Lib.hid hpre;clear hpre;have hpl:pre.length≤1000001:=by rw[← HPre.out,hmid.out];simp;omega
     go_loopw [5,6] (fun v i wr =>∃ (j:Nat) (A':Option Addr) (m' c':Nat),k+j≤n∧i = .int .i64 ((k+j:Nat):Int)∧v = .slice A' m' c'∧Own e1 1 3 wr w.heap.size (.slice A' m' c') (pre++(l.drop k).take j)∧Gr w wr) (fun _ i _=>n-(intOf i).toNat)
     case atStart=>exact⟨0,_,_,_,m0,rfl,rfl,by simpa using hown2,hg1⟩
     case round =>
      obtain⟨j,A3,m3,c3,hj,rfl,rfl,hown3,hg3⟩:=hrel;by_cases hlt2:k+j<n
      ·obtain⟨b2,o2,x2,hA2,hb2,hx2,d1⟩:=(ha.gr hg3).at1 hlt2
       cases hA2;have X2:=Lib.hid hx2;clear hx2 ha;have hs3:=hg3.size;go_wp2_with (at_builtin;refine zq6 rfl (.tmp 48) (.tmp 53) rfl w.heap.size _ (pre++(l.drop k).take j) rfl hown3 [x2] 1 rfl rfl m8 hs3 ?_;intro A4 m4 c4 w4 hown4 hbel4)
       go_roundw
       case rel=>exact⟨j+1,_,_,_,m0,by go_num,rfl,(by rw[zq9 X2.out]at hown4;exact hown4),hg3.out.trans hbel4⟩
       case measure=>simp[intOf];omega
      ·go_wp2
       go_ret
       refine⟨_,_,_,rfl,?_,hg3⟩;rw[hsp.out,← List.append_assoc,HPre.out];rw[List.take_of_length_le (by rw[List.length_drop,hlen.out];omega)]at hown3;exact hown3
    ·have hzc:decide (z<x1)=false:=by simpa using hz2
     have hmid:=Lib.hid (show mid z l[k]?=[]by rw[hx1];simp[mid,hz2]);clear hx1 hge;go_wp2;have hg1:Gr w wr:=hg;have hown2:Own e1 1 3 wr w.heap.size (.slice A' m' c') (l.take k++mid z l[k]?):=by rw[hmid.out,List.append_nil];exact hown
     generalize hpre:l.take k++mid z l[k]?=pre at hown2;have HPre:=Lib.hid hpre;clear hpre;have hpl:pre.length≤1000001:=by rw[← HPre.out,hmid.out];simp;omega
     go_loopw [5,6] (fun v i wr =>∃ (j:Nat) (A':Option Addr) (m' c':Nat),k+j≤n∧i = .int .i64 ((k+j:Nat):Int)∧v = .slice A' m' c'∧Own e1 1 3 wr w.heap.size (.slice A' m' c') (pre++(l.drop k).take j)∧Gr w wr) (fun _ i _=>n-(intOf i).toNat)
     case atStart=>exact⟨0,_,_,_,m0,rfl,rfl,by simpa using hown2,hg1⟩
     case round =>
      obtain⟨j,A3,m3,c3,hj,rfl,rfl,hown3,hg3⟩:=hrel;by_cases hlt2:k+j<n
      ·obtain⟨b2,o2,x2,hA2,hb2,hx2,d1⟩:=(ha.gr hg3).at1 hlt2
       cases hA2;have X2:=Lib.hid hx2;clear hx2 ha;have hs3:=hg3.size;go_wp2_with (at_builtin;refine zq6 rfl (.tmp 48) (.tmp 53) rfl w.heap.size _ (pre++(l.drop k).take j) rfl hown3 [x2] 1 rfl rfl m8 hs3 ?_;intro A4 m4 c4 w4 hown4 hbel4)
       go_roundw
       case rel=>exact⟨j+1,_,_,_,m0,by go_num,rfl,(by rw[zq9 X2.out]at hown4;exact hown4),hg3.out.trans hbel4⟩
       case measure=>simp[intOf];omega
      ·go_wp2
       go_ret
       refine⟨_,_,_,rfl,?_,hg3⟩;rw[hsp.out,← List.append_assoc,HPre.out];rw[List.take_of_length_le (by rw[List.length_drop,hlen.out];omega)]at hown3;exact hown3
   ·have hkn:((k:Int)==(n:Int))=true:=by simp;omega
    have hnone:l[k]?=none:=List.getElem?_eq_none (by rw[hlen.out];omega);have hmid:=Lib.hid (show mid z l[k]?=[z]by rw[hnone];rfl);have hs:=hg.size;clear hnone hge;go_wp2_with (at_builtin;refine zq6 rfl (.tmp 40) (.tmp 42) rfl w.heap.size _ (l.take k) rfl hown [z] 1 rfl rfl m8 hs ?_;intro A2 m2 c2 w1 hown1 hbel);have hg1:Gr w w1:=hg.out.trans hbel;have hown2:Own e1 1 3 w1 w.heap.size (.slice A2 m2 c2) (l.take k++mid z l[k]?):=by rw[hmid.out];exact hown1
    generalize hpre:l.take k++mid z l[k]?=pre at hown2;have HPre:=Lib.hid hpre;clear hpre;have hpl:pre.length≤1000001:=by rw[← HPre.out,hmid.out];simp;omega
    go_loopw [5,6] (fun v i wr =>∃ (j:Nat) (A':Option Addr) (m' c':Nat),k+j≤n∧i = .int .i64 ((k+j:Nat):Int)∧v = .slice A' m' c'∧Own e1 1 3 wr w.heap.size (.slice A' m' c') (pre++(l.drop k).take j)∧Gr w wr) (fun _ i _=>n-(intOf i).toNat)
    case atStart=>exact⟨0,_,_,_,m0,rfl,rfl,by simpa using hown2,hg1⟩
    case round =>
     obtain⟨j,A3,m3,c3,hj,rfl,rfl,hown3,hg3⟩:=hrel;by_cases hlt2:k+j<n
     ·exact absurd hlt2 m0
     ·go_wp2
      go_ret
      refine⟨_,_,_,rfl,?_,hg3⟩;rw[hsp.out,← List.append_assoc,HPre.out];rw[List.take_of_length_le (by rw[List.length_drop,hlen.out];omega)]at hown3;exact hown3
theorem zq11 {f:Int->Int}{P:List Int}{k:Nat}{x:Int}(hx:P[k]?=some x):cQ f (P.take (k+1))=dB (cQ f (P.take k)) (x,f x):=ib hx
def ofStep (p:List Int)(c:(Int×Int)×Int):List Int:=if aQ c.1 then ins c.1.2 (ins c.1.1 p)else p
theorem ofAll_eq (l:List ((Int×Int)×Int)):Gy l=l.foldl ofStep [0]:=rfl
def rsStep (t:Int)(n:Int)(c:(Int×Int)×Int):Int:=if aW c.1 t then wrap64 (n+c.2)else n
theorem rsum_def (l:List ((Int×Int)×Int))(t:Int):mc l t=l.foldl (rsStep t) 0:=rfl
theorem takeWhile_take {P:List Int}{b:Int}:∀ {k:Nat},(∀ x∈P.take k,x<b)→(∀ y,P[k]?=some y→b≤y)→P.takeWhile (fun p=>decide (p<b))=P.take k:=by
 induction P with
 |nil=>intro k _ _;simp
 |cons a P ih =>
  intro k h1 h2
  match k with
  |0 =>
   have:=h2 a rfl;rw[List.takeWhile_cons_of_neg m8];rfl
  |k+1 =>
   have:=h1 a m5;rw[List.takeWhile_cons_of_pos (by simpa using this),ih (k:=k) (fun x hx=>h1 x (by simp[hx])) (fun y hy=>h2 y (by simpa using hy))];rfl
set_option maxRecDepth 100000 in
set_option maxHeartbeats 8000000 in
theorem of_ref (A:Option Addr)(n c:Nat)(l:List ((Int×Int)×Int))(w:World)(ha:Rd e3 3 w w.heap.size A n l)(hn:n≤100000) :
  Calls Tryz.prog 210 #[.slice A n c] w fun e w' =>∃ A' m' c',e = .returned (.slice A' m' c')∧Own e2 2 201 w' w.heap.size (.slice A' m' c') (cQ (mc l) (ft l))∧Gr w w':=by
 have hlen:=Lib.hid ha.1;obtain⟨G,hG⟩:∃ G,G=mc l:=⟨_,rfl⟩;obtain⟨R,hR⟩:∃ R,R=cQ G (ft l):=⟨_,rfl⟩;rw[← hG,← hR];have HG:=Lib.hid hG;have HR:=Lib.hid hR;clear hG hR
 go_enter Tryz.func210,Tryz.ntmps210
 go_wp2_with fail
 go_loopw [3,4] (fun v i wr =>∃ (k:Nat) (A':Option Addr) (m' c':Nat),k≤n∧i = .int .i64 k∧v = .slice A' m' c'∧m'≤2*k+1∧Rd e1 1 wr wr.heap.size A' m' ((l.take k).foldl ofStep [0])∧Gr w wr) (fun _ i _=>n-(intOf i).toNat)
 case atStart =>
  refine⟨0,_,_,_,Nat.zero_le _,rfl,rfl,m0,⟨rfl,fun _=>⟨w.heap.size,0,rfl,m5,fun i x hx j u hu=>?_⟩⟩,Gr.alloc _ _⟩;have hi:i=0:=by have:=(List.getElem?_eq_some_iff.1 hx).1;simp at this;omega
  subst hi;simp at hx;subst hx;have hj:j=0:=by have:=(List.getElem?_eq_some_iff.1 hu).1;simp[e1]at this;omega
  subst hj;simp[e1]at hu;subst hu;simp
 case round =>
  obtain⟨k,A',m',c',hk,rfl,rfl,hm',hrd,hg⟩:=hrel;by_cases hlt:k<n
  ·obtain⟨b1,o1,x1,y1,z1,hA1,hb1,hx1,d1,d2,d3⟩:=(ha.gr hg).at3 hlt
   cases hA1;have hstep:=Lib.hid (ib (g:=ofStep) (b:=[0]) hx1);clear hx1;go_wp2_with fail;refine(zq3 _ _ _).mono ?_;rintro e w1 ⟨rfl,hg1⟩;obtain⟨hc,hf⟩:=hg1.cells;by_cases hv:aQ (x1,y1)=true
   ·have hch:=Lib.hid (show ∀ p,ofStep p ((x1,y1),z1)=ins y1 (ins x1 p)from fun p=>by unfold ofStep;rw[if_pos hv])
    go_wp2_with fail;refine(zq10 A' m' c' _ x1 _ (hrd.gr hg1) m0).mono ?_;rintro e w2 ⟨A2,m2,c2,rfl,hown2,hg2⟩;have zz:b1<w1.heap.size:=Nat.lt_of_lt_of_le hb1 hg1.size;have hm2:m2≤m'+1:=by have h1:=hown2.len;have h2:=Aq x1 ((l.take k).foldl ofStep [0]);have h3:=hrd.1;omega
    obtain⟨hc2,hf2⟩:=hg2.cells;go_wp2_with fail;refine(zq10 A2 m2 c2 _ y1 _ (hown2.rds zq1) m0).mono ?_;rintro e w3 ⟨A3,m3,c3,rfl,hown3,hg3⟩;have hm3:m3≤m2+1:=by have h1:=hown3.len;have h2:=Aq y1 (ins x1 ((l.take k).foldl ofStep [0]));have h3:=hown2.len;omega
    rw[← hch.out,← hstep.out]at hown3;clear hc hf hc2 hf2;go_wp2_with fail
    go_roundw
    case rel=>exact⟨k+1,_,_,_,m0,by go_num,rfl,m0,hown3.rds zq1,((hg.trans hg1).trans hg2).trans hg3⟩
    case measure=>simp[intOf];omega
   ·have hvb:aQ (x1,y1)=false:=by simpa using hv
    have hch:=Lib.hid (show ∀ p,ofStep p ((x1,y1),z1)=p from fun p=>by unfold ofStep;rw[if_neg hv]);have hrd2:=hrd.gr hg1;rw[← hch.out ((l.take k).foldl ofStep [0]),← hstep.out]at hrd2;clear hc hf;go_wp2_with fail
    go_roundw
    case rel=>exact⟨k+1,_,_,_,m0,by go_num,rfl,m0,hrd2,hg.trans hg1⟩
    case measure=>simp[intOf];omega
  ·rw[List.take_of_length_le (by rw[hlen.out];omega),← ofAll_eq]at hrd
   have hm1:m'≤200001:=m0
   obtain⟨P,hP⟩:∃ P,P=Gy l:=⟨_,rfl⟩;rw[← hP]at hrd;have HPR:=Lib.hid (show P.takeWhile (fun p=>decide (p<1099511627776))=ft l by rw[hP];rfl);have hlP:=Lib.hid hrd.1;clear hm' hP;obtain⟨w1,rfl⟩:∃ w1:World,w1=wr:=⟨_,rfl⟩;go_wp2_with fail
   go_loopw [5,6,7,8] (fun v i nn gV wr =>∃ (j:Nat) (A3:Option Addr) (m3 c3:Nat),j≤m'∧i = .int .i64 j∧v = .slice A3 m3 c3∧m3≤j∧Hid (∀ x∈P.take j,x<1099511627776)∧Own e2 2 201 wr w1.heap.size (.slice A3 m3 c3) (cQ G (P.take j))∧Gr w1 wr) (fun _ i _ _ _=>m'-(intOf i).toNat)
   case atStart=>exact⟨0,none,0,0,Nat.zero_le _,rfl,rfl,m0,fun x hx=>by simp at hx,Own.nil _ _,Gr.refl _⟩
   case round =>
    obtain⟨j,A3,m3,c3,hj,rfl,rfl,hm3,HF,hown3,hg3⟩:=hrel;by_cases hlt3:j<m'
    ·obtain⟨b1,o1,x1,hA1,hb1,hx1,d0⟩:=hrd.at1 hlt3
     cases hA1;have d1:=(hg3.cells.1 b1 (o1+j) hb1).trans d0;clear d0;have X1:=Lib.hid hx1;clear hx1;by_cases hxF:x1<1099511627776
     ·have hxb:decide (x1<1099511627776)=true:=by simpa using hxF
      have hstep:=Lib.hid (zq11 (f:=G) X1.out);obtain⟨w2,rfl⟩:∃ w2:World,w2=wr:=⟨_,rfl⟩;have hb2:b1<w2.heap.size:=Nat.lt_of_lt_of_le hb1 hg3.size;go_wp2_with fail
      go_loopw [7,8] (fun v i wr =>∃ (q:Nat) (z:Int),q≤n∧i = .int .i64 q∧v = .int .i64 z∧Hid (z=(l.take q).foldl (rsStep x1) 0)∧Gr w2 wr) (fun _ i _=>n-(intOf i).toNat)
      case atStart=>exact⟨0,0,Nat.zero_le _,rfl,rfl,rfl,Gr.refl _⟩
      case round =>
       obtain⟨q,z,hq,rfl,rfl,HZ,hg4⟩:=hrel;by_cases hlt4:q<n
       ·obtain⟨b5,oq,wE,y5,z5,hA5,hb5,hx5,f1,f2,f3⟩:=((ha.gr hg).gr hg3).at3 hlt4
        cases hA5;have f1':=(hg4.cells.1 _ _ hb5).trans f1;have f2':=(hg4.cells.1 _ _ hb5).trans f2;have f3':=(hg4.cells.1 _ _ hb5).trans f3;have e1':=(hg4.cells.1 _ _ hb2).trans d1;have hfold:=Lib.hid (ib (g:=rsStep x1) (b:=0) hx5);clear hx5 f1 f2 f3;go_wp2_with fail
        go_region_held3 (fun W=>Gr w2 W∧W.cell? ⟨b1,o1+j,none⟩=some (.int .i64 x1)∧W.cell? ⟨b5,oq+q*3,none⟩=some (.int .i64 wE)∧W.cell? ⟨b5,oq+q*3+1,none⟩=some (.int .i64 y5)∧W.cell? ⟨b5,oq+q*3+2,none⟩=some (.int .i64 z5))
         (first|(refine⟨hg4.drewR,?_,?_,?_,?_⟩<;>assumption)|(go_split_ands;refine⟨Gr.trans (by assumption) hgN,?_,?_,?_,?_⟩;all_goals (refine(hgN.cells.1 _ _ ?_).trans (by assumption);first|exact Nat.lt_of_lt_of_le hb2 (Gr.size (by assumption))|exact Nat.lt_of_lt_of_le hb5 (Gr.size (by assumption))))|go_keep)
         (first|(go_at_call 103;refine(zq4 _ _ _ _).mono ?_;rintro e w5 ⟨rfl,hgN⟩))
        rename_i hH;obtain⟨hgH,k1,k2,k3,k4⟩:=hH
        cases hv:aW (wE,y5) x1
        rotate_left 1
        ·have hfv:=Lib.hid (show rsStep x1 z ((wE,y5),z5)=wrap64 (z+z5)by unfold rsStep;rw[if_pos hv])
         go_wp2_with fail
         go_roundw
         case rel=>exact⟨q+1,_,m0,by go_num,rfl,(by show _=_;rw[hfold.out,← HZ.out,hfv.out]),hgH⟩
         case measure=>simp[intOf];omega
        ·have hfv:=Lib.hid (show rsStep x1 z ((wE,y5),z5)=z by unfold rsStep;rw[if_neg (by simp[hv])])
         go_wp2_with fail
         go_roundw
         case rel=>exact⟨q+1,_,m0,by go_num,rfl,(by show _=_;rw[hfold.out,← HZ.out,hfv.out]),hgH⟩
         case measure=>simp[intOf];omega
       ·have hzG:=Lib.hid (show z=G x1 by rw[HZ.out,HG.out,rsum_def,List.take_of_length_le (by rw[hlen.out];omega)])
        have e1':=(hg4.cells.1 _ _ hb2).trans d1;go_wp2_with fail;refine(zq7 w1.heap.size A3 m3 c3 _ x1 z _ (hown3.gr hg4) m0 (hg3.trans hg4).size).mono ?_;rintro e w6 ⟨Az,mM,c6,rfl,hown6,hbel6⟩;rw[hzG.out,← hstep.out]at hown6;have hm6:mM≤j+1:=by have h1:=hown6.len;have h2:=nu G (P.take (j+1));have h3:(P.take (j+1)).length≤j+1:=List.length_take_le _ _;omega
        clear e1';go_wp2_with fail
        go_roundw
        case rel=>exact⟨j+1,_,_,_,m0,by go_num,rfl,hm6,(fun x hx=>by rw[← tg X1.out]at hx;rcases List.mem_append.1 hx with e|e;exact HF.out x e;(simp at e;omega)),hown6,(hg3.trans hg4).out.trans hbel6⟩
        case measure=>simp[intOf];omega
     ·have hxb:decide (x1<1099511627776)=false:=by simpa using hxF
      have hRR:=Lib.hid (show cQ G (P.take j)=R by rw[HR.out,← HPR.out,takeWhile_take HF.out fun y hy=>by rw[X1.out]at hy;cases hy;omega]);go_wp2_with fail
      go_ret
      exact⟨_,_,_,rfl,by rw[← hRR.out];exact hown3.mono hg.size,hg.trans hg3⟩
    ·have hRR:=Lib.hid (show cQ G (P.take j)=R by rw[HR.out,← HPR.out,takeWhile_take HF.out fun y hy=>absurd (List.getElem?_eq_some_iff.1 hy).1 (by rw[hlP.out];omega)])
     go_wp2_with fail
     go_ret
     exact⟨_,_,_,rfl,by rw[← hRR.out];exact hown3.mono hg.size,hg.trans hg3⟩
