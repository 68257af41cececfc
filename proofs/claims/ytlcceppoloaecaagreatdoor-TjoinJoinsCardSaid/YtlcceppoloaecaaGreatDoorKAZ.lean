/- Parts. No condition. -/
import Derived.Test.YtlcceppoloaecaaGreatDoorKAX
import Derived.Deep.RegionLaw
set_option linter.unusedSimpArgs false
set_option linter.unusedVariables false
namespace Go.Proofs.YtlcceppoloaecaaGreatDoor.St
open Go.RowKit
theorem aez:(Tryz.prog.info? 197).map (λi=>(i.zero,i.size,i.bytes))=some (some (.agg #[.int .i64 0,.int .i64 0]),2,16):=k7
theorem Oq {w:World}{ops:Array Oper}{rest:List Oper}{o:Oper}{a:Act}{Q:Exit→Act→World→Prop}{cs:Array Value}(hgd:o.guard=none)(s x:Operand)
  (ho:o.op = .call { callee := .builtin .append,args :=#[s,x],argTypes :=#[195,195] }) (base:Nat) (v:Value) (l:List (Int×Int)) (hs:a.eval s=v) (hown:Own e2 2 197 w base v l) (nb m c:Nat) (xs:List (Int×Int)) (hm:xs.length=m)
  (hx:a.eval x = .slice (some ⟨nb,0,none⟩) m c) (hb:w.heap[nb]?=some (.cells cs 197 (0,0))) (hcs:cs=(xs.flatMap e2).toArray) (hlen:l.length+m≤1000000000) (hbase:base≤w.heap.size)
  (h:∀ A n c w',Own e2 2 197 w' base (.slice A n c) (l++xs)→w.grownBy w' v.ownBlock→wpList Tryz.prog ops Q rest (a.put o.dst (.slice A n c)) w') :
  wpList Tryz.prog ops Q (o::rest) a w:=by
 obtain⟨i0,hi,hz0,hz1,hz2⟩:=info_parts aez;exact g7 hgd s x 195 ho i0 _ 16 Tryz.underlying195 hi hz0 hz1 hz2 rfl m0 dU oQ v l hs hown nb m c xs hm hx hb hcs m0 m0 hbase h
def Im (w0:World)(B:Nat)(at_ n:Int)(st out:List (Int×Int))(e:Ending)(w':World):Prop :=
 e = .returned (.tuple #[])∧∃ sv st' ov out',Lv w0 w' B n sv st' ov out'∧(∀ p∈st',0<p.2)∧ex st'=yT (ex st) at_ n.toNat∧out'.Perm (out++((ex st).drop n.toNat).map λf=>(f,at_))
set_option maxRecDepth 100000 in
set_option maxHeartbeats 4000000 in
theorem ajL (w0:World)(B:Nat)(h at_ n:Int)(sv ov:Value)(st out:List (Int×Int))(W:World)(H:Lv w0 W B h sv st ov out)(hpos:∀ p∈st,0<p.2)(hE:((ex st).length:Int)=h)(hn2:n≤1048576)(hlt:h<n) :
  Calls Tryz.prog 203 #[.int .i64 at_,.int .i64 n,.pointer (some ⟨B+2,0,none⟩),.pointer (some ⟨B+1,0,none⟩),.pointer (some ⟨B,0,none⟩)] W (Im w0 B at_ n st out):=by
 obtain⟨A1,c1,hsv⟩:=H.sown.form;generalize hn1:st.length=n1 at hsv;subst hsv;have k1:=cell_of_one H.hgt;have k2:=free_of_one H.hgt;have k3:=cell_of_one H.stk;have k4:=free_of_one H.stk;have hsz:=H.siz;have hh0:0≤h:=m0
 have hst:=zh hpos;have hlnb:st.length≤1048576:=m0
 have HE:=Lib.hid hE;have HPOS:=Lib.hid hpos;clear hpos hE hst hn1;obtain⟨o,ho⟩:∃ o:Obj,o = .cells #[.int .i64 at_,.int .i64 (n-h)] 197:=⟨_,rfl⟩;have HHA:=Lib.hid (H.alloc o);have hoA:=H.sown.alloc o;have hszA:B+3≤(W.alloc o).heap.size:=by simp;omega
 subst ho
 go_enter Tryz.func203,Tryz.ntmps203
 go_wp2_with (at_builtin;refine Oq rfl (.tmp 12) (.tmp 18) rfl (B+3) _ st rfl hoA W.heap.size 1 1 [(at_,n-h)] rfl rfl (heap_alloc_new _ _) rfl m0 hszA ?_;intro A2 m2 c2 w2 hown2 hgr2;have hb2:=hoA.grown hszA hgr2;have j1:=cell_of_one ((hb2.block (B+2) m0).trans HHA.out.hgt);have j2:=free_of_one ((hb2.block (B+2) m0).trans HHA.out.hgt);have j3:=cell_of_one ((hb2.block (B+1) m0).trans HHA.out.stk);have j4:=free_of_one ((hb2.block (B+1) m0).trans HHA.out.stk));refine wp_loop_rounds 1 ?_;rw[rounds_succ];go_wp2_with fail
 go_end0
 refine⟨rfl,_,st++[(at_,n-h)],ov,out,(HHA.out.setS hgr2 hown2).setH n,?_,?_,?_⟩
 ·intro p hp
  obtain e|e:=List.mem_append.1 hp
  ·exact HPOS.out p e
  ·simp at e;subst e;simp;omega
 ·rw[Ix]
  unfold yT;have:=HE.out;rw[List.take_of_length_le m0];congr 2;omega
 ·have:=HE.out
  rw[List.drop_of_length_le m0];simp
theorem Own.cap {α:Type}{enc:α→List Value}{k:Nat}{w:World}{E:TypeId}{base n c:Nat}{A:Option Addr}{l:List α}(h:Own enc k E w base (.slice A n c) l):n≤c:=by
 obtain⟨hv,_⟩|⟨g,cap,cur,hv,_,_,hc,_⟩:=h.2
 ·injection hv with h1 h2 h3;omega
 ·injection hv with h1 h2 h3;omega
theorem FR {α:Type}{out out1 D R:List α}(h:out1.Perm (out++D)):(out1++R).Perm (out++(R++D)) :=
 (h.append_right R).trans (by rw[List.append_assoc];exact(List.perm_append_comm).append_left out)
def Down (w0 wr:World)(B:Nat)(at_ h1:Int)(E:List Int)(out:List (Int×Int)):Prop :=
 ∃ sv st1 ov out1,Lv w0 wr B h1 sv st1 ov out1∧(∀ p∈st1,0<p.2)∧ex st1=E.take h1.toNat∧out1.Perm (out++(E.drop h1.toNat).map λf=>(f,at_))
set_option maxRecDepth 100000 in
set_option maxHeartbeats 8000000 in
theorem aem (w0:World)(B:Nat)(h at_ n:Int)(sv ov:Value)(st out:List (Int×Int))(W:World)(H:Lv w0 W B h sv st ov out)(hpos:∀ p∈st,0<p.2)(hE:((ex st).length:Int)=h)(hn0:0≤n)(hh:h≤1048576)(hge:n≤h)(hout:out.length≤1000000) :
  Calls Tryz.prog 203 #[.int .i64 at_,.int .i64 n,.pointer (some ⟨B+2,0,none⟩),.pointer (some ⟨B+1,0,none⟩),.pointer (some ⟨B,0,none⟩)] W (Im w0 B at_ n st out):=by
 have k1:=cell_of_one H.hgt;have k2:=free_of_one H.hgt;obtain⟨E,h53⟩:∃ E,E=ex st:=⟨_,rfl⟩;rw[← h53]at hE;have H53:=Lib.hid h53;have HE:=Lib.hid hE;have hD0:Down w0 W B at_ h E out:=⟨sv,st,ov,out,H,hpos,by rw[← hE,h53];simp,by rw[← hE];simp⟩;have HD0:=Lib.hid hD0;have hdec:decide (h<n)=false:=by simp;omega
 clear hpos hE h53 hD0
 go_enter Tryz.func203,Tryz.ntmps203
 go_wp2_with fail;clear k1 k2 H
 go_loopg [7,8] (h-n).toNat (λkx _ _ wr =>∃ h1:Int,n≤h1∧h1≤h∧(h1-n).toNat≤kx∧Hid (Down w0 wr B at_ h1 E out))
 case atStart=>exact⟨h,hge,Int.le_refl _,Nat.le_refl _,HD0⟩
 case round =>
  obtain⟨h1,hh1,hh2,hkx,HD⟩:=hrel;obtain⟨sv1,st1,ov1,out1,H1,hp1,hex1,hperm1⟩:=HD.out;have k1:=cell_of_one H1.hgt;have k2:=free_of_one H1.hgt;by_cases hgt:n<h1
  ·have hlE:(ex st1).length=h1.toNat:=by rw[hex1,List.length_take];have:=HE.out;omega
   have hne:st1≠[]:=by intro e;subst e;simp[ex]at hlE;omega
   obtain⟨st0,f,m,rfl⟩:∃ st0 f m,st1=st0++[(f,m)]:=⟨st1.dropLast,(st1.getLast hne).1,(st1.getLast hne).2,(List.dropLast_concat_getLast hne).symm⟩;have hm0:0<m:=hp1 (f,m) m5;have hp0:∀ p∈st0,0<p.2:=λp hp=>hp1 p (by simp[hp])
   rw[Ix]at hex1 hlE;simp only[List.length_append,List.length_replicate]at hlE;obtain⟨A1,c1,hsv⟩:=H1.sown.form;generalize hn1:(st0++[(f,m)]).length=n1 at hsv;subst hsv;have hn1':st0.length+1=n1:=by simpa using hn1
   obtain⟨g,hA1,hg1,hg2,hfr⟩:=H1.sown.at m0
   cases hA1;have hx0:(st0++[(f,m)])[n1-1]?=some (f,m):=by rw[← hn1'];simp
   obtain⟨b3,o3,x3,y3,hA4,hb3,hx3,t1,t2⟩:=(H1.sown.rds dU).at2 (i:=n1-1) m0;injection hA4 with hA4
   injection hA4 with hA5 hA6
   subst hA5 hA6;rw[hx0]at hx3
   cases hx3;simp only[Nat.zero_add]at t1 t2;have t3:=hfr ((n1-1)*2+1);have k3:=cell_of_one H1.stk;have k4:=free_of_one H1.stk;have hml:m≤h1:=m0
   have hn1b:n1≤1048577:=by have:=zh hp0;omega
   have hn1p:0<n1:=m0
   have hcap1:=H1.sown.cap;by_cases hmk:m≤h1-n
   ·go_wp2_with fail
    go_quiet (fail)
    go_wp2_with fail
    go_loopw [38] (λi wr2 =>∃ (j:Nat) (ov2:Value),(j:Int)≤m∧i = .int .i64 j∧Hid (Lv w0 wr2 B h1 (.slice (some ⟨g,0,none⟩) n1 c1) (st0++[(f,m)]) ov2 (out1++List.replicate j (f,at_)))) (λi _=>(m).toNat-(intOf i).toNat)
    case atStart=>exact⟨0,ov1,m0,rfl,by unfold Hid;simpa using H1.drewN _⟩
    case round =>
     obtain⟨j,ov2,hj,rfl,HI⟩:=hrel;have H2:=HI.out;have i1:=cell_of_one H2.hgt;have i2:=free_of_one H2.hgt;have i3:=cell_of_one H2.stk;have i4:=free_of_one H2.stk;obtain⟨b4,o4,x4,y4,hA7,hb4,hx4,t4,t5⟩:=(H2.sown.rds dU).at2 (i:=n1-1) m0;injection hA7 with hA7
     injection hA7 with hA8 hA9
     subst hA8 hA9;rw[hx0]at hx4
     cases hx4;simp only[Nat.zero_add]at t4 t5;obtain⟨g6,hA10,hg6,hg7,hfr6⟩:=H2.sown.at m0
     cases hA10;have t6:=hfr6 ((n1-1)*2+1);obtain⟨Ao,co,hov⟩:=H2.oown.form;generalize hno:(out1++List.replicate j (f,at_)).length=no at hov;subst hov;have i5:=cell_of_one H2.ou;have i6:=free_of_one H2.ou;have hol:(out1++List.replicate j (f,at_)).length≤100000000:=by
      have q1:=hperm1.length_eq;have q3:=HE.out;simp at q1 ⊢;omega
     have hsz2:=H2.siz;have hBl:B<wr.heap.size:=m0
     have hBne:wr.heap.size≠B:=m0
     have hgne:wr.heap.size≠g:=m0
     clear hfr6 hno;by_cases hjk:(j:Int)<m
     ·have HHA:=Lib.hid ((H2.alloc (.cells #[.int .i64 f,.int .i64 at_] 53)).drew)
      have hoA:=(H2.oown.alloc (.cells #[.int .i64 f,.int .i64 at_] 53)).drew;have hszA:B+3≤(World.drew (wr.alloc (.cells #[.int .i64 f,.int .i64 at_] 53))).heap.size:=by show B+3≤(wr.alloc _).heap.size;simp;omega
      clear H2;go_wp2_with fail
      go_region_law ((refine mN rfl (.tmp 40) (.tmp 47) rfl (B+3) (.slice Ao no co) (out1++List.replicate j (f,at_)) rfl hoA wr.heap.size 1 1 [(f,at_)] rfl rfl (heap_alloc_new wr _) rfl m0 hszA ?_;intro A7 m7 c7 w7 hown7 hgr7;have hb7:=hoA.grown hszA hgr7;have j5:=cell_of_one ((hb7.block B m0).trans HHA.out.ou);have j6:=free_of_one ((hb7.block B m0).trans HHA.out.ou)))
      all_goals
       go_wp2_with fail;rw[List.append_assoc,← List.replicate_succ']at hown7
       go_roundw
       case rel=>exact⟨j+1,.slice A7 m7 c7,m0,by go_num,HHA.out.setO hgr7 hown7⟩
       case measure=>simp[intOf];omega
     ·have hjm:(j:Int)=m:=m0
      have HJ:=Lib.hid (show j=(m).toNat by omega);clear hjm;have hs1:B+2≠g:=m0
      have hs2:g≠B+2:=m0
      have hs3:B+1≠g:=m0
      have hs4:g≠B+1:=m0
      go_wp2_with fail;have H3:=(((H2.setH (h1-m)).setTop (m':=0) hg1 hx0));rw[show(st0++[(f,m)]).set (n1-1) (f,0)=st0++[(f,0)]by rw[← hn1'];simp]at H3;have H4:=H3.popS;rw[HJ.out]at H4;obtain⟨e1,e2⟩:=Lh hex1.symm (by have:=HE.out;omega) (Nat.le_refl m.toNat);rw[Nat.sub_self,List.replicate_zero,List.append_nil,show h1.toNat-m.toNat=(h1-m).toNat by omega]at e1;rw[show h1.toNat-m.toNat=(h1-m).toNat by omega]at e2;have hD:Down w0 _ B at_ (h1-m) E out:=⟨_,st0,_,_,H4,hp0,e1.symm,by rw[e2,List.map_append,List.map_replicate];exact FR hperm1⟩
      go_roundg ((h1-m-n).toNat)
      case measure=>omega
      case rel=>exact⟨h1-m,m0,m0,Nat.le_refl _,hD⟩
   ·go_wp2_with fail
    go_quiet (fail)
    go_wp2_with fail
    go_loopw [38] (λi wr2 =>∃ (j:Nat) (ov2:Value),(j:Int)≤h1-n∧i = .int .i64 j∧Hid (Lv w0 wr2 B h1 (.slice (some ⟨g,0,none⟩) n1 c1) (st0++[(f,m)]) ov2 (out1++List.replicate j (f,at_)))) (λi _=>(h1-n).toNat-(intOf i).toNat)
    case atStart=>exact⟨0,ov1,m0,rfl,by unfold Hid;simpa using H1.drewN _⟩
    case round =>
     obtain⟨j,ov2,hj,rfl,HI⟩:=hrel;have H2:=HI.out;have i1:=cell_of_one H2.hgt;have i2:=free_of_one H2.hgt;have i3:=cell_of_one H2.stk;have i4:=free_of_one H2.stk;obtain⟨b4,o4,x4,y4,hA7,hb4,hx4,t4,t5⟩:=(H2.sown.rds dU).at2 (i:=n1-1) m0;injection hA7 with hA7
     injection hA7 with hA8 hA9
     subst hA8 hA9;rw[hx0]at hx4
     cases hx4;simp only[Nat.zero_add]at t4 t5;obtain⟨g6,hA10,hg6,hg7,hfr6⟩:=H2.sown.at m0
     cases hA10;have t6:=hfr6 ((n1-1)*2+1);obtain⟨Ao,co,hov⟩:=H2.oown.form;generalize hno:(out1++List.replicate j (f,at_)).length=no at hov;subst hov;have i5:=cell_of_one H2.ou;have i6:=free_of_one H2.ou;have hol:(out1++List.replicate j (f,at_)).length≤100000000:=by
      have q1:=hperm1.length_eq;have q3:=HE.out;simp at q1 ⊢;omega
     have hsz2:=H2.siz;have hBl:B<wr.heap.size:=m0
     have hBne:wr.heap.size≠B:=m0
     have hgne:wr.heap.size≠g:=m0
     clear hfr6 hno;by_cases hjk:(j:Int)<h1-n
     ·have HHA:=Lib.hid ((H2.alloc (.cells #[.int .i64 f,.int .i64 at_] 53)).drew)
      have hoA:=(H2.oown.alloc (.cells #[.int .i64 f,.int .i64 at_] 53)).drew;have hszA:B+3≤(World.drew (wr.alloc (.cells #[.int .i64 f,.int .i64 at_] 53))).heap.size:=by show B+3≤(wr.alloc _).heap.size;simp;omega
      clear H2;go_wp2_with fail
      go_region_law ((refine mN rfl (.tmp 40) (.tmp 47) rfl (B+3) (.slice Ao no co) (out1++List.replicate j (f,at_)) rfl hoA wr.heap.size 1 1 [(f,at_)] rfl rfl (heap_alloc_new wr _) rfl m0 hszA ?_;intro A7 m7 c7 w7 hown7 hgr7;have hb7:=hoA.grown hszA hgr7;have j5:=cell_of_one ((hb7.block B m0).trans HHA.out.ou);have j6:=free_of_one ((hb7.block B m0).trans HHA.out.ou)))
      all_goals
       go_wp2_with fail;rw[List.append_assoc,← List.replicate_succ']at hown7
       go_roundw
       case rel=>exact⟨j+1,.slice A7 m7 c7,m0,by go_num,HHA.out.setO hgr7 hown7⟩
       case measure=>simp[intOf];omega
     ·have hjm:(j:Int)=h1-n:=m0
      have HJ:=Lib.hid (show j=(h1-n).toNat by omega);clear hjm;have hs1:B+2≠g:=m0
      have hs2:g≠B+2:=m0
      have hs3:B+1≠g:=m0
      have hs4:g≠B+1:=m0
      have hmne:((m-(h1-n))==0)=false:=by simp;omega
      have hhn:h1-(h1-n)=n:=m0
      go_wp2_with fail;have H3:=(((H2.setH n).setTop (m':=m-(h1-n)) hg1 hx0));rw[show(st0++[(f,m)]).set (n1-1) (f,m-(h1-n))=st0++[(f,m-(h1-n))]by rw[← hn1'];simp,HJ.out]at H3;obtain⟨e1,e2⟩:=Lh hex1.symm (by have:=HE.out;omega) (show(h1-n).toNat≤m.toNat by omega);rw[show h1.toNat-(h1-n).toNat=n.toNat by omega,show m.toNat-(h1-n).toNat=(m-(h1-n)).toNat by omega,← Ix]at e1;rw[show h1.toNat-(h1-n).toNat=n.toNat by omega]at e2;have hD:Down w0 _ B at_ n E out:=⟨_,_,_,_,H3,(λp hp=>by rcases List.mem_append.1 hp with e|e;exact hp0 p e;(simp at e;subst e;simp;omega)),e1.symm,by rw[e2,List.map_append,List.map_replicate];exact FR hperm1⟩
      go_roundg 0
      case measure=>omega
      case rel=>exact⟨n,m0,m0,m0,hD⟩
  ·have hhn:h1=n:=m0
   subst hhn;go_wp2_with fail
   go_end0
   refine⟨rfl,sv1,st1,ov1,out1,H1,hp1,?_,?_⟩
   ·rw[hex1,H53.out]
    unfold yT;rw[← H53.out,show h1.toNat-E.length=0 by have:=HE.out;omega];simp
   ·rw[← H53.out];exact hperm1
