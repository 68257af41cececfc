/- Parts of the proof, joined. No condition. -/
import Derived.Test.YtnbnpnmkgemdeaaGreatDoorKAA
import Derived.Test.YtnbnpnmkgemdeaaGreatDoorKAT
import Derived.Test.YtnbnpnmkgemdeaaGreatDoorKAU
import Derived.Test.YtnbnpnmkgemdeaaGreatDoorKAV
import Derived.Test.YtnbnpnmkgemdeaaGreatDoorKAR
import Derived.Shelf.Spec.SlicesGrow
import Derived.Shelf.SlGeneric
import Derived.Test.YtnbnpnmkgemdeaaGreatDoorProg
import Derived.Test.YtnbnpnmkgemdeaaGreatDoorKAF
import Derived.Test.YtnbnpnmkgemdeaaGreatDoorKAJ
import Derived.Test.YtnbnpnmkgemdeaaGreatDoorKAI
import Derived.Test.YtnbnpnmkgemdeaaGreatDoorKAO
import Derived.Shelf.LaysM
import Derived.Shelf.Strconv.Itoa3
import Derived.Ground.NamesProg
import Derived.Lib.Walk
import Derived.Lib.ItoaMem
import Derived.WalkKit
import Derived.BigCall
import Derived.BigGuard
import Derived.Lib.AppendIntMem
import Derived.Test.YtnbnpnmkgemdeaaGreatDoorKAP
set_option linter.unusedSimpArgs false
set_option linter.unusedVariables false
namespace Go.Proofs.YtnbnpnmkgemdeaaGreatDoor
open Go.RowKit Go.MapKept
set_option maxRecDepth 100000
set_option maxHeartbeats 8000000
theorem OB {rec:Nat->List (List Val)->Int->Int->Int->((List Val)->(List Val)->Option Int)->Option (List (List Val))} {n:Nat}  (hrec : ∀ {n:Nat} {X:List (List Val)} {a m b:Int} {cmp:(List Val)->(List Val)->Option Int} {v:Nat} {F_a_cmp:FuncId} {caps_a_cmp:List AC} (hf_a_cmp : ∀ (y0:(List Val)) (y1:(List Val)) (r:Int),cmp y0 y1=some r->Pure Tryz.prog F_a_cmp ([.one (.lst (y0.map cV)), .one (.lst (y1.map cV))]++caps_a_cmp.map .one) (.val (.one (.int .i64 r)))) {r:List (List Val)}, rec n X a m b cmp=some r->Run Tryz.prog 202 [bX (fun x=>[AC.lst (x.map cV)]) 1 v X] [.one (.sl 0 v 0 n), .one (.c (.int .i64 a)), .one (.c (.int .i64 m)), .one (.c (.int .i64 b)), .one (.c (.fn F_a_cmp caps_a_cmp))] [bX (fun x=>[AC.lst (x.map cV)]) 1 v r] (.tup [])) {a_data:(List (List Val))} {a_a:Int} {a_m:Int} {a_b:Int} {a_cmp:(List Val)->(List Val)->Option (Int)} {v:Nat} {r:List (List Val)} {F_a_cmp:FuncId} {caps_a_cmp:List AC} (hf_a_cmp : ∀ (y0:(List Val)) (y1:(List Val)) (r:Int),a_cmp y0 y1=some r->Pure Tryz.prog F_a_cmp ([.one (.lst (y0.map cV)), .one (.lst (y1.map cV))]++caps_a_cmp.map .one) (.val (.one (.int .i64 r)))) (H:rH rec n a_data a_a a_m a_b a_cmp=some r):Run Tryz.prog 202 [bX (fun x=>[AC.lst (x.map cV)]) 1 v a_data] [.one (.sl 0 v 0 n), .one (.c (.int .i64 a_a)), .one (.c (.int .i64 a_m)), .one (.c (.int .i64 a_b)), .one (.c (.fn F_a_cmp caps_a_cmp))] [bX (fun x=>[AC.lst (x.map cV)]) 1 v r] (.tup []):=by
 rcases hq0:(decide ((IntKind.i64.wrap (a_m-a_a))=(1:Int))) with _|_
 ·rcases hq1:(decide ((IntKind.i64.wrap (a_b-a_m))=(1:Int))) with _|_
  ·rcases hq2:(decide ((bH (IntKind.i64.wrap (a_a+a_b)))<a_m)) with _|_
   ·exact LA hrec hf_a_cmp hq0 hq1 hq2 H
   ·exact KP hrec hf_a_cmp hq0 hq1 hq2 H
  ·exact LJ hrec hf_a_cmp hq0 hq1 H
 ·exact K9 hrec hf_a_cmp hq0 H
theorem CF : ∀ (q:Nat) {n:Nat} {X:List (List Val)} {a m b:Int} {cmp:(List Val)->(List Val)->Option Int} {v:Nat} {F_a_cmp:FuncId} {caps_a_cmp:List AC} (hf_a_cmp : ∀ (y0:(List Val)) (y1:(List Val)) (r:Int),cmp y0 y1=some r->Pure Tryz.prog F_a_cmp ([.one (.lst (y0.map cV)), .one (.lst (y1.map cV))]++caps_a_cmp.map .one) (.val (.one (.int .i64 r)))) {r:List (List Val)}, CB q n X a m b cmp=some r->Run Tryz.prog 202 [bX (fun x=>[AC.lst (x.map cV)]) 1 v X] [.one (.sl 0 v 0 n), .one (.c (.int .i64 a)), .one (.c (.int .i64 m)), .one (.c (.int .i64 b)), .one (.c (.fn F_a_cmp caps_a_cmp))] [bX (fun x=>[AC.lst (x.map cV)]) 1 v r] (.tup [])
 | 0,_,_,_,_,_,_,_,_,_,_,_,h=>nomatch h
 | q+1,_,_,_,_,_,_,_,_,_,hf,_,h=>OB (CF q) hf h
theorem Jd {n:Nat}  {a_data:(List (List Val))} {a_n:Int} {a_cmp:(List Val)->(List Val)->Option (Int)} {v:Nat} {r:List (List Val)} {F_a_cmp:FuncId} {caps_a_cmp:List AC} (hf_a_cmp : ∀ (y0:(List Val)) (y1:(List Val)) (r:Int),a_cmp y0 y1=some r->Pure Tryz.prog F_a_cmp ([.one (.lst (y0.map cV)), .one (.lst (y1.map cV))]++caps_a_cmp.map .one) (.val (.one (.int .i64 r)))) (H:xh n a_data a_n a_cmp=some r):Run Tryz.prog 150 [bX (fun x=>[AC.lst (x.map cV)]) 1 v a_data] [.one (.sl 0 v 0 n), .one (.c (.int .i64 a_n)), .one (.c (.fn F_a_cmp caps_a_cmp))] [bX (fun x=>[AC.lst (x.map cV)]) 1 v r] (.tup []):=by
 unfold xh at H
 refine bI af Tryz.func150 rfl rfl Tryz.ntmps150 (by simp) ?_
 simp only [jG]
 refine vC ?_
 refine alM_ (fun s:(List (List Val)) × Int × Int=>match s with|(c_1,a_2,b_3)=>[(0, .one (.sl 0 v 0 n)),(1, .one (.c (.int .i64 a_n))),(2, .one (.c (.fn F_a_cmp caps_a_cmp))),(6, .one (.c (.int .i64 (20:Int)))),(7, .one (.c (.int .i64 a_2))),(8, .one (.c (.int .i64 b_3)))]) (fun s=>match s with|(c_1,a_2,b_3)=>[bX (fun x=>[AC.lst (x.map cV)]) 1 v c_1]) H (fun _=>Ze _)
  (fm_ bL [] rfl bq ⟨aK _ _ _ _ _,trivial⟩) ?_
 rintro ⟨c_1,a_2,b_3⟩ st1 hb1 hk1
 unfold iK at hb1
 dsimp only at hb1 ⊢
 rcases aa hb1 with ⟨q_4,hb1⟩|⟨q_4,hb1⟩
 ·obtain ⟨c_5,c1,hb1⟩:=bd_ hb1
  replace c1:=yC (v:=v) (caps_a_cmp:=caps_a_cmp) hf_a_cmp c1
  cases hb1
  refine vC ?_
  exact ⟨_,rfl,fm_ bL [] rfl bq ⟨aK _ _ _ _ _,trivial⟩⟩
 cases hb1
 have hx1:qM a_n a_cmp n (.inl (c_1,a_2,b_3))=some _:=hk1
 unfold qM at hx1
 dsimp only at hx1
 obtain ⟨c_6,c2,hx1⟩:=bd_ hx1
 replace c2:=yC (v:=v) (caps_a_cmp:=caps_a_cmp) hf_a_cmp c2
 refine vC ?_
 refine alM_ (fun s:(List (List Val)) × Int=>match s with|(c_7,blockSize_8)=>[(0, .one (.sl 0 v 0 n)),(1, .one (.c (.int .i64 a_n))),(2, .one (.c (.fn F_a_cmp caps_a_cmp))),(6, .one (.c (.int .i64 blockSize_8)))]) (fun s=>match s with|(c_7,blockSize_8)=>[bX (fun x=>[AC.lst (x.map cV)]) 1 v c_7]) hx1 (fun _=>Ze _)
  (fm_ bL [] rfl bq ⟨aK _ _ _ _ _,trivial⟩) ?_
 rintro ⟨c_7,blockSize_8⟩ st4 hb4 hk4
 unfold iQ at hb4
 dsimp only at hb4 ⊢
 rcases aa hb4 with ⟨q_9,hb4⟩|⟨q_9,hb4⟩
 ·refine vC ?_
  refine alM_ (fun s:(List (List Val)) × Int × Int=>match s with|(c_10,a_11,b_12)=>[(0, .one (.sl 0 v 0 n)),(1, .one (.c (.int .i64 a_n))),(2, .one (.c (.fn F_a_cmp caps_a_cmp))),(6, .one (.c (.int .i64 blockSize_8))),(7, .one (.c (.int .i64 a_11))),(8, .one (.c (.int .i64 b_12)))]) (fun s=>match s with|(c_10,a_11,b_12)=>[bX (fun x=>[AC.lst (x.map cV)]) 1 v c_10]) hb4 (fun _=>Ze _)
   (fm_ bL [] rfl bq ⟨aK _ _ _ _ _,trivial⟩) ?_
  rintro ⟨c_10,a_11,b_12⟩ st5 hb5 hk5
  unfold iP at hb5
  dsimp only at hb5 ⊢
  rcases aa hb5 with ⟨q_13,hb5⟩|⟨q_13,hb5⟩
  ·obtain ⟨c_14,c3,hb5⟩:=bd_ hb5
   replace c3:=CF fuel (v:=v) (caps_a_cmp:=caps_a_cmp) hf_a_cmp c3
   cases hb5
   refine vC ?_
   exact ⟨_,rfl,fm_ bL [] rfl bq ⟨aK _ _ _ _ _,trivial⟩⟩
  cases hb5
  have hx5:qH a_n a_cmp n blockSize_8 (.inl (c_10,a_11,b_12))=some _:=hk5
  unfold qH at hx5
  dsimp only at hx5
  rcases aa hx5 with ⟨q_15,hx5⟩|⟨q_15,hx5⟩
  ·obtain ⟨c_16,c4,hx5⟩:=bd_ hx5
   replace c4:=CF fuel (v:=v) (caps_a_cmp:=caps_a_cmp) hf_a_cmp c4
   cases hx5
   refine vC ?_
   exact ⟨_,rfl,fm_ bL [] rfl bq ⟨aK _ _ _ _ _,trivial⟩⟩
  cases hx5
  refine vC ?_
  exact ⟨_,rfl,fm_ bL [] rfl bq ⟨aK _ _ _ _ _,trivial⟩⟩
 cases hb4
 have hx4:wI (.inl (c_7,blockSize_8))=some _:=hk4
 unfold wI at hx4
 dsimp only at hx4
 cases hx4
 exact jh
theorem Iy {n:Nat}  {a_x:(List (List Val))} {a_cmp:(List Val)->(List Val)->Option (Int)} {v:Nat} {r:List (List Val)} {F_a_cmp:FuncId} {caps_a_cmp:List AC} (hf_a_cmp : ∀ (y0:(List Val)) (y1:(List Val)) (r:Int),a_cmp y0 y1=some r->Pure Tryz.prog F_a_cmp ([.one (.lst (y0.map cV)), .one (.lst (y1.map cV))]++caps_a_cmp.map .one) (.val (.one (.int .i64 r)))) (H:yD n a_x a_cmp=some r):Run Tryz.prog 106 [bX (fun x=>[AC.lst (x.map cV)]) 1 v a_x] [.one (.sl 0 v 0 n), .one (.c (.fn F_a_cmp caps_a_cmp))] [bX (fun x=>[AC.lst (x.map cV)]) 1 v r] (.tup []):=by
 unfold yD at H
 refine bI af Tryz.func106 rfl rfl Tryz.ntmps106 (by simp) ?_
 simp only [jG]
 obtain ⟨c_1,c1,H⟩:=bd_ H
 replace c1:=Jd (v:=v) (caps_a_cmp:=caps_a_cmp) hf_a_cmp c1
 cases H
 exact jh
theorem Rm (v:Nat) (X:List (List Val)):bX (fun x=>[AC.lst (x.map cV)]) 1 v X = .row v ((X.map fe).map gC) 1:=by
 unfold bX
 rw [List.map_map,List.map_map]
 rfl
theorem NF (v:Nat) {X:List (List Val)} {n:Nat} (hn:X.length=n) (hl:n<=100000000) (hr : ∀ x∈X,x.length<=1000000):Run Tryz.prog 106 [.row v ((X.map fe).map gC) 1] [.one (.sl 0 v 0 n), .one (.c (.fn 81 []))] [.row v (((aT X).map fe).map gC) 1] (.tup []):=by
 subst hn
 have:=Iy (n:=X.length) (a_x:=X) (a_cmp:=D7) (v:=v) (F_a_cmp:=81) (caps_a_cmp:=[]) (fun y0 y1 r h=>PK h) (Rp hl hr)
 rw [Rm,Rm] at this
 exact this
theorem Lc (r:List Val) (h0:r≠[]) (hr:r.length<=1000000):Pure Tryz.prog 105 [.one (fe r)] (.val (.one (fe r))):=by
 refine pa_ af Tryz.func105 rfl rfl Tryz.ntmps105 (by simp) ?_
 simp only [argT,PV.av,Y9,Zd]
 obtain ⟨x,r,rfl⟩ : ∃ x r',r=x::r':=by cases r with|nil=>exact absurd rfl h0|cons x r=>exact ⟨x,r,rfl⟩
 have hw:=RP (x::r)
 have hlen:((x::r).map cV).length=r.length+1:=by simp
 simp only [Zk] at hr
 repeat' (first
  | refine st_nil ?_
  | (refine aL rfl rfl rfl rfl ?_ ?_; · (repeat' (first|exact trivial|rfl|exact Y8 rfl|omega|exact hw|(rw [hlen];omega)|apply And.intro)))
  | (refine aP rfl rfl rfl rfl ?_ ?_; · (repeat' (first|exact trivial|rfl|exact Y8 rfl|omega|exact hw|(rw [hlen];omega)|apply And.intro)))
  | (refine sS_ rfl rfl rfl ?_ ?_; · (repeat' (first|exact trivial|rfl|exact Y8 rfl|omega|exact hw|(rw [hlen];omega)|apply And.intro)))
  | (refine aO rfl rfl rfl rfl ?_ ?_; · (repeat' (first|exact trivial|rfl|exact Y8 rfl|omega|exact hw|(rw [hlen];omega)|apply And.intro)))
  | refine aH rfl rfl rfl ?_
  | refine sk0_ rfl rfl ?_
  | (refine bn rfl (fun hb=>?_) (fun hb=>?_)<;>(first|exact (fx_ hb).elim|rw [hb]))
  | refine aw_seq ?_
  | refine aw_region af _ rfl ?_
  | refine aw_drawn2 bC _ rfl mixed (by decide +kernel) ?_
  | (refine aG rfl (fun hb=>?_) (fun hb=>?_)<;>(try exact (fx_ hb).elim))
  | refine aw_block ?_
  | refine aw_exit ?_
  | refine aw_ret ?_
  | refine aw_skip ?_
  | (refine eH rfl rfl rfl rfl rfl (wH rfl rfl (af.kind 43 _ rfl)) ?_))
 all_goals exact aV (aX rfl (by trivial) rfl)
set_option maxHeartbeats 2000000 in
theorem GG (l:List (List Val)) (hl:l.length<=300) (hr : ∀ r∈l,r≠[]/\r.length<=1000000):Pure Tryz.prog 80 [.one (nW l), .one (.fn 81 [])] (.val (.one (.lst (((aT l).map fe).map fun x=>[x])))):=by
 refine pa_ af Tryz.func80 rfl rfl Tryz.ntmps80 (by simp) ?_
 simp only [argT,PV.av,Y9,Zd]
 obtain ⟨n,hn⟩ : ∃ n,l.length=n:=⟨_,rfl⟩
 have hml:(l.map fun r=>[fe r]).length=n:=by simp [hn]
 repeat' (first
  | refine st_nil ?_
  | (refine fG rfl rfl rfl rfl rfl (Ac af (k:=1) (by_:=24) rfl rfl rfl (by decide) rfl rfl rfl (by decide) (by omega) (by rw [hml];omega) (by rw [hml];omega)) ?_)
  | refine aL rfl rfl rfl rfl ph_ ?_
  | refine aP rfl rfl rfl rfl ph_ ?_
  | refine sS_ rfl rfl rfl ph_ ?_
  | refine aO rfl rfl rfl rfl ph_ ?_
  | refine aH rfl rfl rfl ?_
  | refine sk0_ rfl rfl ?_
  | (refine bn rfl (fun hb=>?_) (fun hb=>?_)<;>(first|exact (fx_ hb).elim|rw [hb]))
  | refine aw_seq ?_
  | refine aw_region af _ rfl ?_
  | refine aw_drawn2 bC _ rfl mixed (by decide +kernel) ?_
  | (refine aG rfl (fun hb=>?_) (fun hb=>?_)<;>(try exact (fx_ hb).elim))
  | refine aw_block ?_
  | refine aw_exit ?_
  | refine aw_ret ?_
  | refine aw_skip ?_)
 refine qU (fun i:Nat=>[(0, .one (.c (nW l))),(1, .one (.c (.fn 81 []))),(5, .one (.sl 0 (43+65536+65536*i) 0 i)),(11, .one (.c (nW l))),(12, .one (.c (.int .i64 n))),(13, .one (.c (.int .i64 i)))]) (fun i=>[.row (43+65536+65536*i) (((l.take i).map fe).map gC) 1]) (fun i=>i<=n) (fun i=>n-i) 0 (by omega) (fun _ _=>Zj _)
  (fm_ ⟨rfl,rfl,rfl,rfl,iC (by simp [hn]),rfl,trivial⟩ [] rfl ⟨trivial,trivial,(by show 0<1;omega),trivial,trivial,trivial,trivial⟩ ⟨wX _ _ _ _,trivial⟩) ?_
 intro i hi
 by_cases hlt:i<n
 ·obtain ⟨r,hx⟩:=gol_ (show i<l.length by omega)
  have hcl:=Lc r (hr r (Y4 hx)).1 (hr r (Y4 hx)).2
  have hlen:(((l.take i).map fe).map gC).length=i:=by simp;omega
  have hnx:((l.take (i+1)).map fe).map gC=((l.take i).map fe).map gC++[gC (fe r)]:=by rw [mg hx];simp
  repeat' (first
   | refine st_nil ?_
   | (refine fG rfl rfl rfl rfl rfl (nV af (k:=1) (by_:=24) (xs:=[gC (fe r)]) rfl rfl rfl rfl ⟨rfl,_,rfl,by intro e he;simp at he;subst he;rfl⟩ rfl (by omega) rfl rfl rfl (by decide) hlen (by show (i+1)*24<=_;omega) (by show i+1<=_;omega)) ?_)
   | (refine aL rfl rfl rfl rfl ?_ ?_; · (repeat' (first|exact trivial|rfl|exact Y8 rfl|omega|(intro e he;simp at he;subst he;rfl)|apply And.intro)))
   | (refine eX rfl rfl rfl rfl rfl rfl rfl rfl (dz hx) ?_ ?_; · exact ⟨by omega,rfl⟩)
   | (refine aP rfl rfl rfl rfl ?_ ?_; · (repeat' (first|exact trivial|rfl|exact Y8 rfl|omega|(intro e he;simp at he;subst he;rfl)|apply And.intro)))
   | (refine sS_ rfl rfl rfl ?_ ?_; · (repeat' (first|exact trivial|rfl|exact Y8 rfl|omega|(intro e he;simp at he;subst he;rfl)|apply And.intro)))
   | (refine aO rfl rfl rfl rfl ?_ ?_; · (repeat' (first|exact trivial|rfl|exact Y8 rfl|omega|(intro e he;simp at he;subst he;rfl)|apply And.intro)))
   | refine aH rfl rfl rfl ?_
   | refine sk0_ rfl rfl ?_
   | refine aJ rfl rfl rfl rfl hcl rfl ?_
   | (refine bn rfl (fun hb=>?_) (fun hb=>?_)<;>(first|exact (fx_ hb).elim|rw [hb]))
   | refine aw_seq ?_
   | refine aw_region af _ rfl ?_
   | refine aw_drawn2 bC _ rfl mixed (by decide +kernel) ?_
   | (refine aG rfl (fun hb=>?_) (fun hb=>?_)<;>(try exact (fx_ hb).elim))
   | refine aw_block ?_
   | refine aw_exit ?_
   | refine aw_ret ?_
   | refine aw_skip ?_)
  have hv:43+65536+65536*(i+1)=43+65536+65536*i+65536:=by omega
  exact ⟨i+1,by omega,by omega,fm_ ⟨rfl,rfl,(by rw [hv];rfl),rfl,rfl,iC (kF (by omega) (by omega)),trivial⟩ [] (by rw [hv,hnx];rfl) ⟨trivial,trivial,(by show 0<1;omega),trivial,trivial,trivial,trivial⟩ ⟨wX _ _ _ _,trivial⟩⟩
 ·have hi2:i=n:=by omega
  subst hi2
  have htk:l.take i=l:=by rw [<- hn,List.take_length]
  rw [htk]
  have hfr:=PX ((aT l).map fe)
  have hil:(((aT l).map fe).map fun x=>[x]).length=i:=by rw [Y_,Y_,(dH l).length_eq,hn]
  repeat' (first
   | refine st_nil ?_
   | (refine wF 0 5 rfl hfr rfl hil ?_)
   | refine aL rfl rfl rfl rfl ph_ ?_
   | refine aP rfl rfl rfl rfl ph_ ?_
   | refine sS_ rfl rfl rfl ph_ ?_
   | refine aO rfl rfl rfl rfl ph_ ?_
   | refine aH rfl rfl rfl ?_
   | refine sk0_ rfl rfl ?_
   | (refine cZ [0] rfl rfl rfl rfl (NF (43+65536+65536*i) (X:=l) (n:=i) hn (by omega) (fun x hx=>(hr x hx).2)) rfl (YN rfl (nK ⟨(by show 0<1;omega),trivial,trivial⟩)) rfl (j1 (L':=[.row (43+65536+65536*i) (((aT l).map fe).map gC) 1]) rfl) ?_)
   | (refine bn rfl (fun hb=>?_) (fun hb=>?_)<;>(first|exact (fx_ hb).elim|rw [hb]))
   | refine aw_seq ?_
   | refine aw_region af _ rfl ?_
   | refine aw_drawn2 bC _ rfl mixed (by decide +kernel) ?_
   | (refine aG rfl (fun hb=>?_) (fun hb=>?_)<;>(try exact (fx_ hb).elim))
   | refine aw_block ?_
   | refine aw_exit ?_
   | refine aw_ret ?_
   | refine aw_skip ?_)
  exact aV (aX rfl (by trivial) rfl)
theorem Gj {l r:List (List Val)} (H:yM l=some r):Pure Tryz.prog 51 [.one (.lst (l.map (fun x=>[AC.lst (x.map cV)])))] (.val (.one (.lst (r.map (fun x=>[AC.lst (x.map cV)]))))):=by
 unfold yM at H
 cases hk:yJ l with
 | false=>rw [hk] at H;cases H
 | true =>
  rw [hk] at H
  obtain rfl:=Zw H
  obtain ⟨h1,h2⟩:=Pj hk
  have c1:=GG l h1 h2
  have e1:((aT l).map fe).map (fun x=>[x])=(aT l).map (fun x=>[AC.lst (x.map cV)]):=by rw [List.map_map];rfl
  rw [e1] at c1
  have c1:Pure Tryz.prog 80 [.one (.lst (l.map (fun x=>[AC.lst (x.map cV)]))), .one (.fn 81 [])] (.val (.one (.lst ((aT l).map (fun x=>[AC.lst (x.map cV)]))))):=c1
  refine pa_ af Tryz.func51 rfl rfl Tryz.ntmps51 (by simp) ?_
  simp only [argT,PV.av,Y9,Zd]
  exact aj
end Go.Proofs.YtnbnpnmkgemdeaaGreatDoor
namespace Go.Proofs
open Go.Shelf
def Tryz.growV_ren:Go.Shelf.Ren:=⟨fun|4=>259|n=>n,fun|22=>43|25=>57|3=>3|4=>4|9=>9|20=>20|0=>0|n=>n,fun|n=>n⟩
theorem Tryz.growV:Go.Proofs.Lays8.n4 Tryz.prog Tryz.growV_ren := {
 mixed:=by kernel_rfl
 f4:=⟨Tryz.f259.name,by decide,Tryz.func259.trans (congrArg some (by kernel_rfl))⟩
 t0:=Tryz.underlying0
 a0:=Tryz.isAgg0
 z0:=Tryz.sizeOf0
 v0:=Tryz.zeroValue0
 t3:=Tryz.underlying3
 a3:=Tryz.isAgg3
 z3:=Tryz.sizeOf3
 v3:=Tryz.zeroValue3
 t4:=Tryz.underlying4
 a4:=Tryz.isAgg4
 z4:=Tryz.sizeOf4
 v4:=Tryz.zeroValue4
 t9:=Tryz.underlying9
 a9:=Tryz.isAgg9
 z9:=Tryz.sizeOf9
 v9:=Tryz.zeroValue9
 t20:=Tryz.underlying20
 a20:=Tryz.isAgg20
 z20:=Tryz.sizeOf20
 v20:=Tryz.zeroValue20
 t22:=Tryz.underlying43
 a22:=Tryz.isAgg43
 z22:=Tryz.sizeOf43
 v22:=Tryz.zeroValue43 }
end Go.Proofs
namespace Go.Proofs.YtnbnpnmkgemdeaaGreatDoor
open Go.RowKit
open Go.RowKit Go.MapKept
set_option maxRecDepth 100000
theorem Ra (n:Nat) (h0:0<n) (hn:n<=1000000000):Run Tryz.prog 259 [] [.one .emp, .one (.c (.int .i64 n))] [.row (57+65536) [] 3] (.one (.sl 0 (57+65536) 0 0)):=by
 refine ⟨⟨_,Tryz.func259,by kernel_rfl,by kernel_rfl⟩,fun B R γ w vs hi hs hv=>?_⟩
 obtain ⟨v1,v2,rfl⟩ : ∃ a b,vs = #[a,b]:=by
  match vs,hs with
  | ⟨[a,b]⟩,_=>exact ⟨a,b,rfl⟩
 obtain ⟨a,rfl⟩:=hv 0 v1 _ rfl rfl
 have h2:bG R v2 (.int .i64 n):=hv 1 v2 _ rfl rfl
 cases h2
 obtain ⟨inf,z,hinf,hzz,hisz,hzc⟩:=af.zok 57 rfl 3 (af.size _ _ rfl)
 have hbytes:inf.bytes=32:=by have hby:=af.bytes 57 32 rfl;unfold nN at hby;rw [hinf] at hby;simpa using hby
 have hgr:=Any8.slices_Grow_grow Tryz.growV inf z hinf hzz (by rw [hisz];decide) a 0 0 n [] w (Ze _) (by omega) (by rw [hbytes];omega) (by omega) (by simp) (fun _=>rfl) (fun _ _ j v h=>by simp at h)
 refine (show Calls Tryz.prog 259 #[.slice a 0 0, .int .i64 n] w _ from hgr).mono ?_
 rintro e w' ⟨rfl,rfl⟩
 have hcap:=grownCap_ge w (0+n) 0 57
 have hE:(Tryz.growV_ren.t 25)=57:=rfl
 rw [hE]
 generalize grownCap w (0+n) 0 57=cap at hcap
 have hγ:γ=[]:=Zo (by rw [hi.len];rfl)
 subst hγ
 have hm:Mv R R ([]:List Gh) ([]++[.arr w.heap.size cap]) [] ([]++[.row (57+65536) [] 3]):=Mv.push _ _ hi.len
 have hIp:Inv B R ([]++[.arr w.heap.size cap]) ([]++[.row (57+65536) [] 3]) (w.alloc (.cells (([]:List Value).toArray++Builtin.zeroCells z.cells (0+n-0)++Builtin.zeroCells z.cells (cap-(0+n))) 57)):=by
  refine hi.push _ _ _ rfl ⟨⟨_,57,⟨eZ w _,by show (57:Nat)=(57+65536)%65536;omega,by show 65536<=(57:Nat)+65536;omega⟩,?_,fun i e j u x he hu hx=>by simp at he⟩,Zj _,by decide,(fun e he=>by cases he),fun o=>hi.none_at o⟩
  rw [Array.size_append,Array.size_append,size_zeroCells,size_zeroCells,hzc]
  simp only [List.size_toArray,Zu]
  rw [ZG, <- Nat.add_mul];congr 1;omega
 refine ⟨_,R,_,rfl,⟨hIp.len,fun b o u h=>hIp.val b o u h,fun i x g h1 h2=>(hIp.obj i x g h1 h2).mv Mv.refl (fun _ _=>rfl) (fun _ _ _ h=>h),hIp.inj,hIp.new,hIp.bsz⟩,⟨⟨rfl,rfl,rfl,by show w.heap.size<=(w.heap.push _).size;simp,fun b hb=>fP w.drew _ (hi.bsz b hb)⟩,PH.sub_refl _,fun _ _ _=>rfl⟩,hm,⟨rfl,rfl⟩,by simp,fun ver2 es2 k2 e2=>?_⟩
 simp at e2
 obtain ⟨q1,q2,q3⟩:=e2
 subst q1 q2 q3
 exact ⟨Ze _,fun _=>⟨by simp, .arr w.heap.size cap,rfl, .inl (by simp)⟩⟩
def dA (p:SV) (u:Nat) (s:ByteArray) (i:Nat):Ob := .row (219+65536) [[p, .sl (i+1) u 0 s.size]] 2
def dw (u:Nat) (s:ByteArray):Ob := .row u (bz s) 1
theorem Ji (σ:List Nat) (s:ByteArray):(bz s).map (List.map (SV.ren σ))=bz s:=by
 unfold bz
 rw [List.map_map];rfl
theorem gP (σ:List Nat) (u:Nat) (s:ByteArray):(dw u s).ren σ=dw u s:=by simp only [dw,Ob.ren,Ji]
theorem BU {i j:Nat} {L L':List Ob} {a b a' b':Ob} (ha:a.ren [i,j]=a') (hb:b.ren [i,j]=b') (h:(L.set i a').set j b'=L'):joinL [i,j] L [a,b]=L':=by
 subst ha hb h
 simp [joinL,join,lm,eU,zk]
end Go.Proofs.YtnbnpnmkgemdeaaGreatDoor
namespace Go.Proofs
open Go.Shelf
end Go.Proofs
namespace Go.Proofs.YtnbnpnmkgemdeaaGreatDoor
open Go.Shelf Go.RowKit Go.Sort Go.Lib
set_option maxHeartbeats 6400000
set_option maxRecDepth 100000
section
variable {P:Program} {ρ:Ren}
def Jb (g:Nat) (w:World):Prop := ∀ q,q<20->w.cell? ⟨g,q,none⟩=some (.int .u64 ((10 ^ q:Nat):Int))
theorem Jb.alloc {g:Nat} {w:World} (h:Jb g w) (o:Obj):Jb g (w.alloc o):=fun q hq=>by
 rw [World.cell?_alloc_old]
 ·exact h q hq
 ·exact Nat.ne_of_lt (lt_of_cell (h q hq))
end
open Go.RowKit Go.MapKept
def c32:ByteArray:=⟨#[32]⟩
def pB (fresh:Bool):SV:=if fresh then .c (.nul .ptr) else (.ep 0 (219+65536) 0 0)
theorem j2 {L L':List Ob} {u:Nat} {s:ByteArray} (h:(L.set 0 (dA (.ep 0 (219+65536) 0 0) u s 0)).set 1 (dw u s)=L'):joinL [0,1] L [dA (.ep 0 (219+65536) 0 0) u s 0,dw u s]=L':=BU rfl (gP _ _ _) h
set_option maxHeartbeats 8000000
def VT:TI := { tab with owns:=fun f=>f==259||tab.owns f }
theorem iB:TIok Tryz.prog VT:=⟨tab_ok.size,tab_ok.agg,tab_ok.elem,tab_ok.field,tab_ok.zero,tab_ok.bytes,tab_ok.kind,tab_ok.struct,tab_ok.zok,tab_ok.eqs⟩
def Ff (a b:List Val):Nat->Nat
 | 0=>0
 | 1=>a.length
 | _=>a.length+b.length
def Ri (a b:List Val):Nat->List Val
 | 0=>[]
 | 1=>a
 | _=>a++b
theorem Jf (l:List Val) : ∀ e∈l.map cV,e.length=3:=by intro e he;obtain ⟨x,_,rfl⟩:=Zz.1 he;rfl
theorem Ii {id v w n m:Nat} (h:n=m) (hv:v=w):some (AV.one (.sl id v 0 n))=some (AV.one (.sl id w 0 m)):=by subst h hv;rfl
theorem La {v w k:Nat} {a b:List (List SV)} (h:a=b) (hv:v=w):[Ob.row v a k]=[Ob.row w b k]:=by rw [h,hv]
theorem Iq (a b:List Val) (h0:0<a.length+b.length) (h1:a.length+b.length<=1000000):Pure Tryz.prog 218 [.one (.lst [[fe a],[fe b]])] (.val (.one (fe (a++b)))):=by
 refine pa_ iB Tryz.func218 rfl rfl Tryz.ntmps218 (by simp) ?_
 simp only [argT,PV.av,Y9,Zd]
 have ha:(((a.map cV).length:Nat):Int)=a.length:=by simp
 have hb:(((b.map cV).length:Nat):Int)=b.length:=by simp
 have w1:IntKind.i64.wrap (((Ff a b 0:Nat):Int)+((a.map cV).length:Nat))=((Ff a b 1:Nat):Int):=by rw [ha];exact kF (by simp [Ff]) (by simp only [Ff];omega)
 have w2:IntKind.i64.wrap (((Ff a b 1:Nat):Int)+((b.map cV).length:Nat))=((Ff a b 2:Nat):Int):=by rw [hb];exact kF (by simp [Ff]) (by simp only [Ff];omega)
 have n1:decide (((Ff a b 1:Nat):Int)<0)=false:=Y1 (by omega)
 have n2:decide (((Ff a b 2:Nat):Int)<0)=false:=Y1 (by omega)
 repeat' (first
  | refine st_nil ?_
  | refine aL rfl rfl rfl rfl ph_ ?_
  | refine aP rfl rfl rfl rfl ph_ ?_
  | refine sS_ rfl rfl rfl ph_ ?_
  | refine aO rfl rfl rfl rfl ph_ ?_
  | refine aH rfl rfl rfl ?_
  | refine sk0_ rfl rfl ?_
  | (refine bn rfl (fun hb=>?_) (fun hb=>?_)<;>(first|exact (fx_ hb).elim|rw [hb]))
  | refine aw_seq ?_
  | refine aw_region iB _ rfl ?_
  | refine aw_drawn2 tabS_ok _ rfl mixed (by decide +kernel) ?_
  | (refine aG rfl (fun hb=>?_) (fun hb=>?_)<;>(try exact (fx_ hb).elim))
  | refine aw_block ?_
  | refine aw_exit ?_
  | refine aw_ret ?_
  | refine aw_skip ?_)
 refine qU (fun i:Nat=>[(0, .one (.c (.lst [[fe a],[fe b]]))),(3, .one (.c (.int .i64 (Ff a b i)))),(9, .one (.c (.lst [[fe a],[fe b]]))),(10, .one (.c (.int .i64 2))),(11, .one (.c (.int .i64 i)))]) (fun _=>[]) (fun i=>i<=2) (fun i=>2-i) 0 (by omega) (fun _ _=>Zj _)
  (fm_ ⟨rfl,rfl,rfl,rfl,rfl,trivial⟩ [] rfl (by repeat' (first|exact trivial|apply And.intro)) (by repeat' (first|exact trivial|apply And.intro))) ?_
 intro i hi
 match i,hi with
 | 0,_ =>
  repeat' (first
   | refine st_nil ?_
   | rw [w1]
   | rw [n1]
   | refine aL rfl rfl rfl rfl ph_ ?_
   | refine aP rfl rfl rfl rfl ph_ ?_
   | refine sS_ rfl rfl rfl ph_ ?_
   | refine aO rfl rfl rfl rfl ph_ ?_
   | refine aH rfl rfl rfl ?_
   | refine sk0_ rfl rfl ?_
   | (refine bn rfl (fun hb=>?_) (fun hb=>?_)<;>(first|exact (fx_ hb).elim|rw [hb]))
   | refine aw_seq ?_
   | refine aw_region iB _ rfl ?_
   | refine aw_drawn2 tabS_ok _ rfl mixed (by decide +kernel) ?_
   | (refine aG rfl (fun hb=>?_) (fun hb=>?_)<;>(try exact (fx_ hb).elim))
   | refine aw_block ?_
   | refine aw_exit ?_
   | refine aw_ret ?_
   | refine aw_skip ?_)
  exact ⟨1,by omega,by omega,fm_ ⟨rfl,rfl,rfl,rfl,rfl,trivial⟩ [] rfl (by repeat' (first|exact trivial|apply And.intro)) (by repeat' (first|exact trivial|apply And.intro))⟩
 | 1,_ =>
  repeat' (first
   | refine st_nil ?_
   | rw [w2]
   | rw [n2]
   | refine aL rfl rfl rfl rfl ph_ ?_
   | refine aP rfl rfl rfl rfl ph_ ?_
   | refine sS_ rfl rfl rfl ph_ ?_
   | refine aO rfl rfl rfl rfl ph_ ?_
   | refine aH rfl rfl rfl ?_
   | refine sk0_ rfl rfl ?_
   | (refine bn rfl (fun hb=>?_) (fun hb=>?_)<;>(first|exact (fx_ hb).elim|rw [hb]))
   | refine aw_seq ?_
   | refine aw_region iB _ rfl ?_
   | refine aw_drawn2 tabS_ok _ rfl mixed (by decide +kernel) ?_
   | (refine aG rfl (fun hb=>?_) (fun hb=>?_)<;>(try exact (fx_ hb).elim))
   | refine aw_block ?_
   | refine aw_exit ?_
   | refine aw_ret ?_
   | refine aw_skip ?_)
  exact ⟨2,by omega,by omega,fm_ ⟨rfl,rfl,rfl,rfl,rfl,trivial⟩ [] rfl (by repeat' (first|exact trivial|apply And.intro)) (by repeat' (first|exact trivial|apply And.intro))⟩
 | 2,_ =>
  have hg:=Ra (a.length+b.length) h0 (by omega)
  repeat' (first
   | refine st_nil ?_
   | refine aL rfl rfl rfl rfl ph_ ?_
   | refine aP rfl rfl rfl rfl ph_ ?_
   | refine sS_ rfl rfl rfl ph_ ?_
   | refine aO rfl rfl rfl rfl ph_ ?_
   | refine aH rfl rfl rfl ?_
   | refine sk0_ rfl rfl ?_
   | (refine cZ [] (r' := .one (.sl 0 (57+65536) 0 0)) (L':=[.row (57+65536) [] 3]) rfl rfl rfl rfl hg rfl ⟨rfl,by simp,fun i x hx=>by simp at hx,fun x hx=>by simp at hx,nK ⟨trivial,trivial,trivial⟩⟩ rfl rfl ?_)
   | (refine bn rfl (fun hb=>?_) (fun hb=>?_)<;>(first|exact (fx_ hb).elim|rw [hb]))
   | refine aw_seq ?_
   | refine aw_region iB _ rfl ?_
   | refine aw_drawn2 tabS_ok _ rfl mixed (by decide +kernel) ?_
   | (refine aG rfl (fun hb=>?_) (fun hb=>?_)<;>(try exact (fx_ hb).elim))
   | refine aw_block ?_
   | refine aw_exit ?_
   | refine aw_ret ?_
   | refine aw_skip ?_)
  refine qU (fun i:Nat=>[(6, .one (.sl 0 (57+65536+65536*i) 0 (Ff a b i))),(25, .one (.c (.lst [[fe a],[fe b]]))),(26, .one (.c (.int .i64 2))),(27, .one (.c (.int .i64 i)))]) (fun i=>[.row (57+65536+65536*i) (((Ri a b i).map cV).map (List.map SV.c)) 3]) (fun i=>i<=2) (fun i=>2-i) 0 (by omega) (fun _ _=>Zj _)
   (fm_ ⟨Ii rfl (by omega),rfl,rfl,rfl,trivial⟩ [] (La rfl (by omega)) ⟨Nat.zero_lt_one,trivial,trivial,trivial,trivial⟩ ⟨jZ _ _ _ _ _,trivial⟩) ?_
  intro i hi
  match i,hi with
  | 0,_ =>
   repeat' (first
    | refine st_nil ?_
    | (refine fG rfl rfl rfl rfl rfl (nV iB (k:=3) (by_:=32) (xs:=(a.map cV).map (List.map SV.c)) rfl rfl rfl rfl ⟨rfl,_,rfl,Jf _⟩ rfl (by omega) rfl rfl rfl (by decide) (by simp [Ri,Ff]) (by rw [Y_,Y_];simp only [Ff];omega) (by rw [Y_,Y_];simp only [Ff];omega)) ?_)
    | refine aL rfl rfl rfl rfl ph_ ?_
    | refine aP rfl rfl rfl rfl ph_ ?_
    | refine sS_ rfl rfl rfl ph_ ?_
    | refine aO rfl rfl rfl rfl ph_ ?_
    | refine aH rfl rfl rfl ?_
    | refine sk0_ rfl rfl ?_
    | (refine bn rfl (fun hb=>?_) (fun hb=>?_)<;>(first|exact (fx_ hb).elim|rw [hb]))
    | refine aw_seq ?_
    | refine aw_region iB _ rfl ?_
    | refine aw_drawn2 tabS_ok _ rfl mixed (by decide +kernel) ?_
    | (refine aG rfl (fun hb=>?_) (fun hb=>?_)<;>(try exact (fx_ hb).elim))
    | refine aw_block ?_
    | refine aw_exit ?_
    | refine aw_ret ?_
    | refine aw_skip ?_)
   exact ⟨1,by omega,by omega,fm_ ⟨Ii (by simp [Ff]) (by omega),rfl,rfl,rfl,trivial⟩ [] (La (by simp [Ri]) (by omega)) ⟨Nat.zero_lt_one,trivial,trivial,trivial,trivial⟩ ⟨jZ _ _ _ _ _,trivial⟩⟩
  | 1,_ =>
   repeat' (first
    | refine st_nil ?_
    | (refine fG rfl rfl rfl rfl rfl (nV iB (k:=3) (by_:=32) (xs:=(b.map cV).map (List.map SV.c)) rfl rfl rfl rfl ⟨rfl,_,rfl,Jf _⟩ rfl (by omega) rfl rfl rfl (by decide) (by simp [Ri,Ff]) (by rw [Y_,Y_];simp only [Ff];omega) (by rw [Y_,Y_];simp only [Ff];omega)) ?_)
    | refine aL rfl rfl rfl rfl ph_ ?_
    | refine aP rfl rfl rfl rfl ph_ ?_
    | refine sS_ rfl rfl rfl ph_ ?_
    | refine aO rfl rfl rfl rfl ph_ ?_
    | refine aH rfl rfl rfl ?_
    | refine sk0_ rfl rfl ?_
    | (refine bn rfl (fun hb=>?_) (fun hb=>?_)<;>(first|exact (fx_ hb).elim|rw [hb]))
    | refine aw_seq ?_
    | refine aw_region iB _ rfl ?_
    | refine aw_drawn2 tabS_ok _ rfl mixed (by decide +kernel) ?_
    | (refine aG rfl (fun hb=>?_) (fun hb=>?_)<;>(try exact (fx_ hb).elim))
    | refine aw_block ?_
    | refine aw_exit ?_
    | refine aw_ret ?_
    | refine aw_skip ?_)
   exact ⟨2,by omega,by omega,fm_ ⟨Ii (by simp [Ff]) (by omega),rfl,rfl,rfl,trivial⟩ [] (La (by simp [Ri]) (by omega)) ⟨Nat.zero_lt_one,trivial,trivial,trivial,trivial⟩ ⟨jZ _ _ _ _ _,trivial⟩⟩
  | 2,_ =>
   refine wF 0 6 (cs:=(a++b).map cV) rfl (xm _) rfl (by rw [Y_,Y6];rfl) ?_
   repeat' (first
    | refine st_nil ?_
    | refine aL rfl rfl rfl rfl ph_ ?_
    | refine aP rfl rfl rfl rfl ph_ ?_
    | refine sS_ rfl rfl rfl ph_ ?_
    | refine aO rfl rfl rfl rfl ph_ ?_
    | refine aH rfl rfl rfl ?_
    | refine sk0_ rfl rfl ?_
    | (refine bn rfl (fun hb=>?_) (fun hb=>?_)<;>(first|exact (fx_ hb).elim|rw [hb]))
    | refine aw_seq ?_
    | refine aw_region iB _ rfl ?_
    | refine aw_drawn2 tabS_ok _ rfl mixed (by decide +kernel) ?_
    | (refine aG rfl (fun hb=>?_) (fun hb=>?_)<;>(try exact (fx_ hb).elim))
    | refine aw_block ?_
    | refine aw_exit ?_
    | refine aw_ret ?_
    | refine aw_skip ?_)
   exact aV (aX rfl (by trivial) rfl)
def KQ (a b:List Val):Bool:=decide (0<a.length+b.length)&&decide (a.length+b.length<=1000000)
def pY (a b:List Val):Option (List Val):=bif KQ a b then some (a++b) else none
theorem zN {a b r:List Val} (H:pY a b=some r):Pure Tryz.prog 167 [.one (.lst (a.map cV)), .one (.lst (b.map cV))] (.val (.one (.lst (r.map cV)))):=by
 unfold pY at H
 obtain ⟨g,H⟩:=xg H
 obtain rfl:=Zw H
 unfold KQ at g
 rw [Zg] at g
 have hc:=Iq a b (Zr g.1) (Zr g.2)
 refine po_ Tryz.func167 Tryz.ntmps167 ?_
 repeat' (first
  | refine st_nil ?_
  | refine t_ rfl rfl rfl rfl ?_
  | refine aL rfl rfl rfl rfl ph_ ?_
  | refine aP rfl rfl rfl rfl ph_ ?_
  | refine sS_ rfl rfl rfl ph_ ?_
  | refine aO rfl rfl rfl rfl ph_ ?_
  | refine aH rfl rfl rfl ?_
  | refine sk0_ rfl rfl ?_
  | refine aJ rfl rfl rfl rfl hc rfl ?_
  | (refine bn rfl (fun hb=>?_) (fun hb=>?_)<;>(first|exact (fx_ hb).elim|rw [hb]))
  | refine aw_seq ?_
  | refine aw_region tab_ok _ rfl ?_
  | refine aw_drawn2 tabS_ok _ rfl mixed (by decide +kernel) ?_
  | (refine aG rfl (fun hb=>?_) (fun hb=>?_)<;>(try exact (fx_ hb).elim))
  | refine aw_block ?_
  | refine aw_exit ?_
  | refine aw_ret ?_
  | refine aw_skip ?_)
 exact aV (aX rfl (by trivial) rfl)
def xk (n:Int):Option (List Val):=bif decide (n<1) then some [] else bif decide (4096<n) then some [] else some (List.replicate n.toNat ⟨0,0,ByteArray.empty⟩)
theorem KM {n:Int} {r:List Val} (H:xk n=some r):Pure Tryz.prog 168 [.one (.int .i64 n)] (.val (.one (.lst (r.map cV)))):=by
 unfold xk at H
 have hnr:oh (List.replicate n.toNat [SV.c (.int .i64 0), .c (.int .i64 0), .c (.str ByteArray.empty)])=some (List.replicate n.toNat (cV ⟨0,0,ByteArray.empty⟩)):=by
  have:=xm (List.replicate n.toNat (cV ⟨0,0,ByteArray.empty⟩))
  rwa [List.map_replicate] at this
 refine po_ Tryz.func168 Tryz.ntmps168 ?_
 rcases h1:decide (n<1) with _|_
 ·rw [h1,YZ] at H
  rcases h2:decide (4096<n) with _|_
  ·rw [h2,YZ] at H
   obtain rfl:=Zw H
   have g1:=of_decide_eq_false h1
   have g2:=of_decide_eq_false h2
   repeat' (first
    | refine st_nil ?_
    | rw [h1]
    | rw [h2]
    | (refine fG rfl rfl rfl rfl rfl (uI tab_ok (k:=3) (by_:=32) rfl rfl rfl (by decide) rfl rfl rfl rfl rfl (by decide) (by omega) (by omega) (by omega)) ?_)
    | (refine wF 0 2 (cs:=List.replicate n.toNat (cV ⟨0,0,ByteArray.empty⟩)) rfl hnr rfl (by simp) ?_)
    | refine aL rfl rfl rfl rfl ph_ ?_
    | refine aP rfl rfl rfl rfl ph_ ?_
    | refine sS_ rfl rfl rfl ph_ ?_
    | refine aO rfl rfl rfl rfl ph_ ?_
    | refine aH rfl rfl rfl ?_
    | refine sk0_ rfl rfl ?_
    | (refine bn rfl (fun hb=>?_) (fun hb=>?_)<;>(first|exact (fx_ hb).elim|rw [hb]))
    | refine aw_seq ?_
    | refine aw_region tab_ok _ rfl ?_
    | refine aw_drawn2 tabS_ok _ rfl mixed (by decide +kernel) ?_
    | (refine aG rfl (fun hb=>?_) (fun hb=>?_)<;>(try exact (fx_ hb).elim))
    | refine aw_block ?_
    | refine aw_exit ?_
    | refine aw_ret ?_
    | refine aw_skip ?_)
   exact aV (aX rfl (by trivial) (by rw [List.map_replicate];rfl))
  ·rw [h2,Y0] at H
   obtain rfl:=Zw H
   repeat' (first
    | refine st_nil ?_
    | rw [h1]
    | rw [h2]
    | refine aL rfl rfl rfl rfl ph_ ?_
    | refine aP rfl rfl rfl rfl ph_ ?_
    | refine sS_ rfl rfl rfl ph_ ?_
    | refine aO rfl rfl rfl rfl ph_ ?_
    | refine aH rfl rfl rfl ?_
    | refine sk0_ rfl rfl ?_
    | (refine bn rfl (fun hb=>?_) (fun hb=>?_)<;>(first|exact (fx_ hb).elim|rw [hb]))
    | refine aw_seq ?_
    | refine aw_region tab_ok _ rfl ?_
    | refine aw_drawn2 tabS_ok _ rfl mixed (by decide +kernel) ?_
    | (refine aG rfl (fun hb=>?_) (fun hb=>?_)<;>(try exact (fx_ hb).elim))
    | refine aw_block ?_
    | refine aw_exit ?_
    | refine aw_ret ?_
    | refine aw_skip ?_)
   exact aV (aX rfl (by trivial) rfl)
 ·rw [h1,Y0] at H
  obtain rfl:=Zw H
  repeat' (first
   | refine st_nil ?_
   | rw [h1]
   | refine aL rfl rfl rfl rfl ph_ ?_
   | refine aP rfl rfl rfl rfl ph_ ?_
   | refine sS_ rfl rfl rfl ph_ ?_
   | refine aO rfl rfl rfl rfl ph_ ?_
   | refine aH rfl rfl rfl ?_
   | refine sk0_ rfl rfl ?_
   | (refine bn rfl (fun hb=>?_) (fun hb=>?_)<;>(first|exact (fx_ hb).elim|rw [hb]))
   | refine aw_seq ?_
   | refine aw_region tab_ok _ rfl ?_
   | refine aw_drawn2 tabS_ok _ rfl mixed (by decide +kernel) ?_
   | (refine aG rfl (fun hb=>?_) (fun hb=>?_)<;>(try exact (fx_ hb).elim))
   | refine aw_block ?_
   | refine aw_exit ?_
   | refine aw_ret ?_
   | refine aw_skip ?_)
  exact aV (aX rfl (by trivial) rfl)
set_option maxHeartbeats 8000000
noncomputable section
def uR (a_e:Ex) (a_row:(List Val)):Option (Int):=(tX fuel a_e a_row).bind fun r_1=>(kC r_1).bind fun r_2=>some r_2
theorem CQ {a_e:Ex} {a_row:(List Val)} {r:Int} (H:uR a_e a_row=some r):Pure Tryz.prog 162 [.agg (tE a_e), .one (.lst (a_row.map cV))] (.val (.one (.int .i64 r))):=by
 unfold uR at H
 rw [aF a_e]
 refine po_ Tryz.func162 Tryz.ntmps162 ?_
 obtain ⟨r_1,c1,H⟩:=bd_ H
 replace c1:=De fuel c1
 try simp only [Zb,Y9,Zd,Y3,aF,aQ] at c1
 obtain ⟨r_2,c2,H⟩:=bd_ H
 replace c2:=mE c2
 cases H
 exact aj
def vL (a_kinds:(List Int)) (a_rows:(List (List Val))):Option (aW):=bif (decide (a_kinds.length<=17592186044416)) then ((yM a_rows).bind fun r_1=>some (⟨a_kinds,r_1⟩:aW)) else none
theorem p9 {a_kinds:(List Int)} {a_rows:(List (List Val))} {r:aW} (H:vL a_kinds a_rows=some r):Pure Tryz.prog 120 [.one (.lst (a_kinds.map (fun x=>[AC.int .i64 x]))), .one (.lst (a_rows.map (fun x=>[AC.lst (x.map cV)])))] (.val (.agg (bJ r))):=by
 unfold vL at H
 refine po_ Tryz.func120 Tryz.ntmps120 ?_
 obtain ⟨g1,H⟩:=az H
 obtain ⟨r_1,c2,H⟩:=bd_ H
 replace c2:=Gj c2
 cases H
 exact aj
def EN (a_l:(List Ex)) (a_kinds:(List Int)):((List Int) × Int)->Option (Step ((List Int) × Int) ((List Int) × Int)):=fun s=>match s with
 | (out_1,v_2)=>bif (decide (v_2<((a_l.length:Nat):Int))) then (au a_l v_2).bind fun x_4=>(qd x_4 a_kinds).bind fun r_5=>bif (decide (r_5.2≠(0:Int))) then some (.ret ([],r_5.2)) else
 bif (decide (r_5.1=(0:Int))) then some (.ret ([],(7:Int))) else
 bif (decide (out_1.length+1<=17592186044416)) then (some (.next ((out_1++[r_5.1]),(IntKind.i64.wrap (v_2+(1:Int)))))) else none else
 some (.exit (out_1,v_2))
def j5:Sum ((List Int) × Int) ((List Int) × Int)->Option (((List Int) × Int))
 | .inl (out_1,v_2)=>some (out_1,(0:Int))
 | .inr q=>some q
def GN (a_l:(List Ex)) (a_kinds:(List Int)):Option ((List Int) × Int):=(ah (EN a_l a_kinds) fuel ([],(0:Int))).bind (j5)
theorem FC {a_l:(List Ex)} {a_kinds:(List Int)} {r:(List Int) × Int} (H:GN a_l a_kinds=some r):Pure Tryz.prog 159 [.one (.lst (a_l.map tE)), .one (.lst (a_kinds.map (fun x=>[AC.int .i64 x])))] (.tup [.one (.lst (r.1.map (fun x=>[AC.int .i64 x]))), .one (.int .i64 r.2)]):=by
 unfold GN at H
 refine po_ Tryz.func159 Tryz.ntmps159 ?_
 refine bf ?_
 refine dM 6 1 rfl ?_
 refine alM_ (fun s:(List Int) × Int=>match s with|(out_1,v_2)=>[(1, .one (.c (.lst (a_kinds.map (fun x=>[AC.int .i64 x]))))),(6, .one (.own (out_1.map (fun x=>[AC.int .i64 x])) 0)),(11, .one (.c (.lst (a_l.map tE)))),(12, .one (.c (.int .i64 ((a_l.length:Nat):Int)))),(13, .one (.c (.int .i64 v_2)))]) (fun s=>match s with|(out_1,v_2)=>[.spare out_1.length 1]) H (fun _=>Zj _)
  (fm_ bL [] rfl bq cO) ?_
 rintro ⟨out_1,v_2⟩ st1 hb1 hk1
 unfold EN at hb1
 dsimp only at hb1 ⊢
 rcases aa hb1 with ⟨q_3,hb1⟩|⟨q_3,hb1⟩
 ·obtain ⟨x_4,i1z,i1,i1x,hb1⟩:=aI (f:=tE) hb1
  simp only [Zb,Y9,Zd,Y3,aF] at i1x
  obtain ⟨r_5,c2,hb1⟩:=bd_ hb1
  replace c2:=Ja c2
  try simp only [Zb,Y9,Zd,Y3,aF,aQ] at c2
  rcases aa hb1 with ⟨q_6,hb1⟩|⟨q_6,hb1⟩
  ·cases hb1
   have hx1:j5 (.inr ([],r_5.2))=some _:=hk1
   unfold j5 at hx1
   dsimp only at hx1
   cases hx1
   exact aj
  rcases aa hb1 with ⟨q_7,hb1⟩|⟨q_7,hb1⟩
  ·cases hb1
   have hx1:j5 (.inr ([],(7:Int)))=some _:=hk1
   unfold j5 at hx1
   dsimp only at hx1
   cases hx1
   exact aj
  obtain ⟨g3,hb1⟩:=az hb1
  cases hb1
  refine bf ?_
  exact ⟨_,rfl,fm_ oH [_] kI bq cO⟩
 cases hb1
 have hx1:j5 (.inl (out_1,v_2))=some _:=hk1
 unfold j5 at hx1
 dsimp only at hx1
 cases hx1
 exact aj
def pQ (a_b:aW) (a_e:Ex) (x_4:(List Val)):((List (List Val)) × Bool × Int)->Option (Step ((List (List Val)) × Bool × Int) (aW)):=fun s=>match s with
 | (out_5,alone_6,v_7)=>bif (decide (v_7<((a_b.rows.length:Nat):Int))) then (au a_b.rows v_7).bind fun x_9=>(pY x_4 x_9).bind fun r_10=>(uR a_e r_10).bind fun r_11=>bif (decide (r_11=(2:Int))) then bif (decide (out_5.length+1<=5864062014805)) then (some (.next ((out_5++[r_10]),false,(IntKind.i64.wrap (v_7+(1:Int)))))) else none else
 some (.next (out_5,alone_6,(IntKind.i64.wrap (v_7+(1:Int))))) else
 some (.exit (out_5,alone_6,v_7))
def ve (a_b:aW) (a_left:Bool) (v_2:Int) (x_4:(List Val)):Sum ((List (List Val)) × Bool × Int) (aW)->Option (Step ((List (List Val)) × Int) (aW))
 | .inl (out_5,alone_6,v_7)=>bif alone_6 then bif a_left then (xk ((a_b.kinds.length:Nat):Int)).bind fun r_15=>(pY x_4 r_15).bind fun r_16=>bif (decide (out_5.length+1<=5864062014805)) then (some (.next ((out_5++[r_16]),(IntKind.i64.wrap (v_2+(1:Int)))))) else none else
 some (.next (out_5,(IntKind.i64.wrap (v_2+(1:Int))))) else
 some (.next (out_5,(IntKind.i64.wrap (v_2+(1:Int)))))
 | .inr q=>some (.ret q)
def uG (a_a:aW) (a_b:aW) (a_e:Ex) (a_left:Bool):((List (List Val)) × Int)->Option (Step ((List (List Val)) × Int) (aW)):=fun s=>match s with
 | (out_1,v_2)=>bif (decide (v_2<((a_a.rows.length:Nat):Int))) then (au a_a.rows v_2).bind fun x_4=>(ah (pQ a_b a_e x_4) fuel (out_1,true,(0:Int))).bind (ve a_b a_left v_2 x_4) else
 some (.exit (out_1,v_2))
def uY (a_a:aW) (a_b:aW):Sum ((List (List Val)) × Int) (aW)->Option ((aW))
 | .inl (out_1,v_2)=>bif (decide (a_a.kinds.length<=17592186044416)) then (bif (decide (a_a.kinds.length+a_b.kinds.length<=17592186044416)) then ((vL (a_a.kinds++a_b.kinds) out_1).bind fun r_17=>some r_17) else none) else none
 | .inr q=>some q
def yU (a_a:aW) (a_b:aW) (a_e:Ex) (a_left:Bool):Option (aW):=(ah (uG a_a a_b a_e a_left) fuel ([],(0:Int))).bind (uY a_a a_b)
theorem Fb {a_a:aW} {a_b:aW} {a_e:Ex} {a_left:Bool} {r:aW} (H:yU a_a a_b a_e a_left=some r):Pure Tryz.prog 125 [.agg (bJ a_a), .agg (bJ a_b), .agg (tE a_e), .one (.bool a_left)] (.val (.agg (bJ r))):=by
 unfold yU at H
 rw [aF a_e]
 refine po_ Tryz.func125 Tryz.ntmps125 ?_
 refine bf ?_
 refine dM 9 1 rfl ?_
 refine alM_ (fun s:(List (List Val)) × Int=>match s with|(out_1,v_2)=>[(3, .one (.c (.bool a_left))),(4, .one (.ptr 0 0)),(5, .one (.ptr 1 0)),(6, .one (.ptr 2 0)),(8, .one (.ptr 3 0)),(9, .one (.own (out_1.map (fun x=>[AC.lst (x.map cV)])) 4)),(17, .one (.c (.lst (a_a.rows.map (fun x=>[AC.lst (x.map cV)]))))),(18, .one (.c (.int .i64 ((a_a.rows.length:Nat):Int)))),(19, .one (.c (.int .i64 v_2)))]) (fun s=>match s with|(out_1,v_2)=>[.box [.c (.lst (a_a.kinds.map (fun x=>[AC.int .i64 x]))), .c (.lst (a_a.rows.map (fun x=>[AC.lst (x.map cV)])))], .box [.c (.lst (a_b.kinds.map (fun x=>[AC.int .i64 x]))), .c (.lst (a_b.rows.map (fun x=>[AC.lst (x.map cV)])))], .box [.c (.int .i64 a_e.op), .c (.int .i64 a_e.int), .c (.int .i64 a_e.v.kind), .c (.int .i64 a_e.v.int), .c (.str a_e.v.text), .c (.str a_e.nm), .c (.lst (a_e.args.map tE))], .box [.emp, .emp], .spare out_1.length 1]) H (fun _=>Zj _)
  (fm_ bL [] rfl bq cO) ?_
 rintro ⟨out_1,v_2⟩ st3 hb3 hk3
 unfold uG at hb3
 dsimp only at hb3 ⊢
 rcases aa hb3 with ⟨q_3,hb3⟩|⟨q_3,hb3⟩
 ·obtain ⟨x_4,i1z,i1,i1x,hb3⟩:=aI (f:=(fun x=>[AC.lst (x.map cV)])) hb3
  refine bf ?_
  refine alM_ (fun s:(List (List Val)) × Bool × Int=>match s with|(out_5,alone_6,v_7)=>[(3, .one (.c (.bool a_left))),(4, .one (.ptr 0 0)),(5, .one (.ptr 1 0)),(6, .one (.ptr 2 0)),(8, .one (.ptr 3 0)),(9, .one (.own (out_5.map (fun x=>[AC.lst (x.map cV)])) 4)),(11, .one (.c (.lst (x_4.map cV)))),(12, .one (.c (.bool alone_6))),(17, .one (.c (.lst (a_a.rows.map (fun x=>[AC.lst (x.map cV)]))))),(18, .one (.c (.int .i64 ((a_a.rows.length:Nat):Int)))),(19, .one (.c (.int .i64 v_2))),(24, .one (.c (.lst (a_b.rows.map (fun x=>[AC.lst (x.map cV)]))))),(25, .one (.c (.int .i64 ((a_b.rows.length:Nat):Int)))),(26, .one (.c (.int .i64 v_7)))]) (fun s=>match s with|(out_5,alone_6,v_7)=>[.box [.c (.lst (a_a.kinds.map (fun x=>[AC.int .i64 x]))), .c (.lst (a_a.rows.map (fun x=>[AC.lst (x.map cV)])))], .box [.c (.lst (a_b.kinds.map (fun x=>[AC.int .i64 x]))), .c (.lst (a_b.rows.map (fun x=>[AC.lst (x.map cV)])))], .box [.c (.int .i64 a_e.op), .c (.int .i64 a_e.int), .c (.int .i64 a_e.v.kind), .c (.int .i64 a_e.v.int), .c (.str a_e.v.text), .c (.str a_e.nm), .c (.lst (a_e.args.map tE))], .box [.emp, .emp], .spare out_5.length 1]) hb3 (fun _=>Zj _)
   (fm_ bL [] rfl bq cO) ?_
  rintro ⟨out_5,alone_6,v_7⟩ st4 hb4 hk4
  unfold pQ at hb4
  dsimp only at hb4 ⊢
  rcases aa hb4 with ⟨q_8,hb4⟩|⟨q_8,hb4⟩
  ·obtain ⟨x_9,i2z,i2,i2x,hb4⟩:=aI (f:=(fun x=>[AC.lst (x.map cV)])) hb4
   obtain ⟨r_10,c3,hb4⟩:=bd_ hb4
   replace c3:=zN c3
   obtain ⟨r_11,c4,hb4⟩:=bd_ hb4
   replace c4:=CQ c4
   try simp only [Zb,Y9,Zd,Y3,aF,aQ] at c4
   rcases aa hb4 with ⟨q_12,hb4⟩|⟨q_12,hb4⟩
   ·obtain ⟨g5,hb4⟩:=az hb4
    cases hb4
    refine bf ?_
    exact ⟨_,rfl,fm_ oH [] kI bq cO⟩
   cases hb4
   refine bf ?_
   exact ⟨_,rfl,fm_ oH [] kI bq cO⟩
  cases hb4
  have hx4:ve a_b a_left v_2 x_4 (.inl (out_5,alone_6,v_7))=some _:=hk4
  unfold ve at hx4
  dsimp only at hx4
  rcases aa hx4 with ⟨q_13,hx4⟩|⟨q_13,hx4⟩
  ·rcases aa hx4 with ⟨q_14,hx4⟩|⟨q_14,hx4⟩
   ·obtain ⟨r_15,c6,hx4⟩:=bd_ hx4
    replace c6:=KM c6
    obtain ⟨r_16,c7,hx4⟩:=bd_ hx4
    replace c7:=zN c7
    obtain ⟨g8,hx4⟩:=az hx4
    cases hx4
    refine bf ?_
    exact ⟨_,rfl,fm_ oH [] kI bq cO⟩
   cases hx4
   refine bf ?_
   exact ⟨_,rfl,fm_ oH [] kI bq cO⟩
  cases hx4
  refine bf ?_
  exact ⟨_,rfl,fm_ oH [] kI bq cO⟩
 cases hb3
 have hx3:uY a_a a_b (.inl (out_1,v_2))=some _:=hk3
 unfold uY at hx3
 dsimp only at hx3
 obtain ⟨g9,hx3⟩:=az hx3
 obtain ⟨g10,hx3⟩:=az hx3
 obtain ⟨r_17,c11,hx3⟩:=bd_ hx3
 replace c11:=p9 c11
 try simp only [Zb,Y9,Zd,Y3,aF,aQ] at c11
 cases hx3
 exact aj
end
set_option maxHeartbeats 8000000
noncomputable section
def E5 (a_row:(List Val)) (a_kinds:(List Int)):(Int)->Option (Step (Int) (Bool)):=fun s=>match s with
 | v_2=>bif (decide (v_2<((a_row.length:Nat):Int))) then (au a_row v_2).bind fun x_4=>(lT x_4).bind fun r_5=>bif (!r_5) then some (.ret false) else
 (au a_kinds v_2).bind fun x_7=>bif (decide (x_4.kind≠x_7)) then bif (decide (x_4.kind≠(0:Int))) then some (.ret false) else
 some (.next (IntKind.i64.wrap (v_2+(1:Int)))) else
 some (.next (IntKind.i64.wrap (v_2+(1:Int)))) else
 some (.exit v_2)
def jW:Sum (Int) (Bool)->Option ((Bool))
 | .inl v_2=>some true
 | .inr q=>some q
def Lg (a_row:(List Val)) (a_kinds:(List Int)):Option (Bool):=bif (decide (((a_row.length:Nat):Int)≠((a_kinds.length:Nat):Int))) then some false else
 (ah (E5 a_row a_kinds) fuel (0:Int)).bind (jW)
theorem Ov {a_row:(List Val)} {a_kinds:(List Int)} {r:Bool} (H:Lg a_row a_kinds=some r):Pure Tryz.prog 204 [.one (.lst (a_row.map cV)), .one (.lst (a_kinds.map (fun x=>[AC.int .i64 x])))] (.val (.one (.bool r))):=by
 unfold Lg at H
 refine po_ Tryz.func204 Tryz.ntmps204 ?_
 rcases aa H with ⟨q_1,H⟩|⟨q_1,H⟩
 ·cases H
  exact aj
 refine bf ?_
 refine alM_ (fun s:Int=>match s with|v_2=>[(1, .one (.c (.lst (a_kinds.map (fun x=>[AC.int .i64 x]))))),(12, .one (.c (.lst (a_row.map cV)))),(13, .one (.c (.int .i64 ((a_row.length:Nat):Int)))),(14, .one (.c (.int .i64 v_2)))]) (fun s=>match s with|v_2=>[]) H (fun _=>Zj _)
  (fm_ bL [] rfl bq trivial) ?_
 rintro v_2 st1 hb1 hk1
 unfold E5 at hb1
 dsimp only at hb1 ⊢
 rcases aa hb1 with ⟨q_3,hb1⟩|⟨q_3,hb1⟩
 ·obtain ⟨x_4,i1z,i1,i1x,hb1⟩:=aI (f:=cV) hb1
  obtain ⟨r_5,c2,hb1⟩:=bd_ hb1
  replace c2:=qV c2
  rcases aa hb1 with ⟨q_6,hb1⟩|⟨q_6,hb1⟩
  ·cases hb1
   have hx1:jW (.inr false)=some _:=hk1
   unfold jW at hx1
   dsimp only at hx1
   cases hx1
   exact aj
  obtain ⟨x_7,i3z,i3,i3x,hb1⟩:=aI (f:=(fun x=>[AC.int .i64 x])) hb1
  rcases aa hb1 with ⟨q_8,hb1⟩|⟨q_8,hb1⟩
  ·rcases aa hb1 with ⟨q_9,hb1⟩|⟨q_9,hb1⟩
   ·cases hb1
    have hx1:jW (.inr false)=some _:=hk1
    unfold jW at hx1
    dsimp only at hx1
    cases hx1
    exact aj
   cases hb1
   refine bf ?_
   exact ⟨_,rfl,fm_ bL [_] rfl bq trivial⟩
  cases hb1
  refine bf ?_
  exact ⟨_,rfl,fm_ bL [_] rfl bq trivial⟩
 cases hb1
 have hx1:jW (.inl v_2)=some _:=hk1
 unfold jW at hx1
 dsimp only at hx1
 cases hx1
 exact aj
def rC (a_kinds:(List Int)):(Int)->Option (Step (Int) (Bool)):=fun s=>match s with
 | v_1=>bif (decide (v_1<((a_kinds.length:Nat):Int))) then (au a_kinds v_1).bind fun x_3=>bif (decide (x_3<(1:Int))) then some (.ret false) else
 bif (decide ((3:Int)<x_3)) then some (.ret false) else
 some (.next (IntKind.i64.wrap (v_1+(1:Int)))) else
 some (.exit v_1)
def iN:Sum (Int) (Bool)->Option ((Bool))
 | .inl v_1=>some true
 | .inr q=>some q
def u7 (a_kinds:(List Int)):Option (Bool):=(ah (rC a_kinds) fuel (0:Int)).bind (iN)
theorem Bw {a_kinds:(List Int)} {r:Bool} (H:u7 a_kinds=some r):Pure Tryz.prog 156 [.one (.lst (a_kinds.map (fun x=>[AC.int .i64 x])))] (.val (.one (.bool r))):=by
 unfold u7 at H
 refine po_ Tryz.func156 Tryz.ntmps156 ?_
 refine bf ?_
 refine alM_ (fun s:Int=>match s with|v_1=>[(5, .one (.c (.lst (a_kinds.map (fun x=>[AC.int .i64 x]))))),(6, .one (.c (.int .i64 ((a_kinds.length:Nat):Int)))),(7, .one (.c (.int .i64 v_1)))]) (fun s=>match s with|v_1=>[]) H (fun _=>Zj _)
  (fm_ bL [] rfl bq trivial) ?_
 rintro v_1 st1 hb1 hk1
 unfold rC at hb1
 dsimp only at hb1 ⊢
 rcases aa hb1 with ⟨q_2,hb1⟩|⟨q_2,hb1⟩
 ·obtain ⟨x_3,i1z,i1,i1x,hb1⟩:=aI (f:=(fun x=>[AC.int .i64 x])) hb1
  rcases aa hb1 with ⟨q_4,hb1⟩|⟨q_4,hb1⟩
  ·cases hb1
   have hx1:iN (.inr false)=some _:=hk1
   unfold iN at hx1
   dsimp only at hx1
   cases hx1
   exact aj
  rcases aa hb1 with ⟨q_5,hb1⟩|⟨q_5,hb1⟩
  ·cases hb1
   have hx1:iN (.inr false)=some _:=hk1
   unfold iN at hx1
   dsimp only at hx1
   cases hx1
   exact aj
  cases hb1
  refine bf ?_
  exact ⟨_,rfl,fm_ bL [] rfl bq trivial⟩
 cases hb1
 have hx1:iN (.inl v_1)=some _:=hk1
 unfold iN at hx1
 dsimp only at hx1
 cases hx1
 exact aj
def sj (a_op:Int):Option (Int):=bif (decide (a_op=(1:Int))) then some (0:Int) else
 bif (decide (a_op=(2:Int))) then some (0:Int) else
 bif (decide (a_op=(3:Int))) then some (1:Int) else
 bif (decide (a_op=(4:Int))) then some (1:Int) else
 bif (decide (a_op=(10:Int))) then some (1:Int) else
 bif (decide (a_op=(11:Int))) then some (1:Int) else
 bif (decide (a_op=(5:Int))) then some (2:Int) else
 bif (decide (a_op=(6:Int))) then some (2:Int) else
 bif (decide (a_op=(7:Int))) then some (2:Int) else
 bif (decide (a_op=(8:Int))) then some (2:Int) else
 bif (decide (a_op=(9:Int))) then some (2:Int) else
 some (-1:Int)
theorem IQ {a_op:Int} {r:Int} (H:sj a_op=some r):Pure Tryz.prog 118 [.one (.int .i64 a_op)] (.val (.one (.int .i64 r))):=by
 unfold sj at H
 refine po_ Tryz.func118 Tryz.ntmps118 ?_
 rcases aa H with ⟨q_1,H⟩|⟨q_1,H⟩
 ·cases H
  exact aj
 rcases aa H with ⟨q_2,H⟩|⟨q_2,H⟩
 ·cases H
  exact aj
 rcases aa H with ⟨q_3,H⟩|⟨q_3,H⟩
 ·cases H
  exact aj
 rcases aa H with ⟨q_4,H⟩|⟨q_4,H⟩
 ·cases H
  exact aj
 rcases aa H with ⟨q_5,H⟩|⟨q_5,H⟩
 ·cases H
  exact aj
 rcases aa H with ⟨q_6,H⟩|⟨q_6,H⟩
 ·cases H
  exact aj
 rcases aa H with ⟨q_7,H⟩|⟨q_7,H⟩
 ·cases H
  exact aj
 rcases aa H with ⟨q_8,H⟩|⟨q_8,H⟩
 ·cases H
  exact aj
 rcases aa H with ⟨q_9,H⟩|⟨q_9,H⟩
 ·cases H
  exact aj
 rcases aa H with ⟨q_10,H⟩|⟨q_10,H⟩
 ·cases H
  exact aj
 rcases aa H with ⟨q_11,H⟩|⟨q_11,H⟩
 ·cases H
  exact aj
 cases H
 exact aj
def wU (a_e:Ex) (a_kinds:(List Int)):Option (Int):=(qd a_e a_kinds).bind fun r_1=>bif (decide (r_1.2≠(0:Int))) then some r_1.2 else
 bif (decide (r_1.1≠(3:Int))) then bif (decide (r_1.1≠(0:Int))) then some (7:Int) else
 some (0:Int) else
 some (0:Int)
theorem yH {a_e:Ex} {a_kinds:(List Int)} {r:Int} (H:wU a_e a_kinds=some r):Pure Tryz.prog 158 [.agg (tE a_e), .one (.lst (a_kinds.map (fun x=>[AC.int .i64 x])))] (.val (.one (.int .i64 r))):=by
 unfold wU at H
 rw [aF a_e]
 refine po_ Tryz.func158 Tryz.ntmps158 ?_
 obtain ⟨r_1,c1,H⟩:=bd_ H
 replace c1:=Ja c1
 try simp only [Zb,Y9,Zd,Y3,aF,aQ] at c1
 rcases aa H with ⟨q_2,H⟩|⟨q_2,H⟩
 ·cases H
  exact aj
 rcases aa H with ⟨q_3,H⟩|⟨q_3,H⟩
 ·rcases aa H with ⟨q_4,H⟩|⟨q_4,H⟩
  ·cases H
   exact aj
  cases H
  exact aj
 cases H
 exact aj
def xM (a_l:(List Ag)) (a_kinds:(List Int)):((List Int) × Int)->Option (Step ((List Int) × Int) ((List Int) × Int)):=fun s=>match s with
 | (out_8,v_9)=>bif (decide (v_9<((a_l.length:Nat):Int))) then (au a_l v_9).bind fun x_11=>bif (decide (x_11.op<(1:Int))) then some (.ret ([],(7:Int))) else
 bif (decide ((4:Int)<x_11.op)) then some (.ret ([],(7:Int))) else
 bif (decide (x_11.arg=(-1:Int))) then bif (decide (x_11.op=(1:Int))) then bif (decide (out_8.length+1<=17592186044416)) then (some (.next ((out_8++[(1:Int)]),(IntKind.i64.wrap (v_9+(1:Int)))))) else none else
 some (.ret ([],(6:Int))) else
 bif (decide (x_11.arg<(0:Int))) then some (.ret ([],(6:Int))) else
 bif (decide (((a_kinds.length:Nat):Int)<=x_11.arg)) then some (.ret ([],(6:Int))) else
 bif (decide (x_11.op=(2:Int))) then (au a_kinds x_11.arg).bind fun x_22=>bif (decide (x_22≠(1:Int))) then some (.ret ([],(7:Int))) else
 bif (decide (out_8.length+1<=17592186044416)) then (some (.next ((out_8++[(1:Int)]),(IntKind.i64.wrap (v_9+(1:Int)))))) else none else
 bif (decide (x_11.op=(3:Int))) then (au a_kinds x_11.arg).bind fun x_27=>bif (decide (out_8.length+1<=17592186044416)) then (some (.next ((out_8++[x_27]),(IntKind.i64.wrap (v_9+(1:Int)))))) else none else
 bif (decide (x_11.op=(4:Int))) then (au a_kinds x_11.arg).bind fun x_29=>bif (decide (out_8.length+1<=17592186044416)) then (some (.next ((out_8++[x_29]),(IntKind.i64.wrap (v_9+(1:Int)))))) else none else
 bif (decide (out_8.length+1<=17592186044416)) then (some (.next ((out_8++[(1:Int)]),(IntKind.i64.wrap (v_9+(1:Int)))))) else none else
 some (.exit (out_8,v_9))
def bF:Sum ((List Int) × Int) ((List Int) × Int)->Option (((List Int) × Int))
 | .inl (out_8,v_9)=>some (out_8,(0:Int))
 | .inr q=>some q
def yE (a_keys:(List Int)) (a_kinds:(List Int)):((List Int) × Int)->Option (Step ((List Int) × Int) ((List Int) × Int)):=fun s=>match s with
 | (out_1,v_2)=>bif (decide (v_2<((a_keys.length:Nat):Int))) then (au a_keys v_2).bind fun x_4=>bif (decide (x_4<(0:Int))) then some (.ret ([],(6:Int))) else
 bif (decide (((a_kinds.length:Nat):Int)<=x_4)) then some (.ret ([],(6:Int))) else
 (au a_kinds x_4).bind fun x_7=>bif (decide (out_1.length+1<=17592186044416)) then (some (.next ((out_1++[x_7]),(IntKind.i64.wrap (v_2+(1:Int)))))) else none else
 some (.exit (out_1,v_2))
def fH (a_l:(List Ag)) (a_kinds:(List Int)):Sum ((List Int) × Int) ((List Int) × Int)->Option (((List Int) × Int))
 | .inl (out_1,v_2)=>(ah (xM a_l a_kinds) fuel (out_1,(0:Int))).bind (bF)
 | .inr q=>some q
def zb (a_keys:(List Int)) (a_l:(List Ag)) (a_kinds:(List Int)):Option ((List Int) × Int):=(ah (yE a_keys a_kinds) fuel ([],(0:Int))).bind (fH a_l a_kinds)
theorem Hm {a_keys:(List Int)} {a_l:(List Ag)} {a_kinds:(List Int)} {r:(List Int) × Int} (H:zb a_keys a_l a_kinds=some r):Pure Tryz.prog 160 [.one (.lst (a_keys.map (fun x=>[AC.int .i64 x]))), .one (.lst (a_l.map Km)), .one (.lst (a_kinds.map (fun x=>[AC.int .i64 x])))] (.tup [.one (.lst (r.1.map (fun x=>[AC.int .i64 x]))), .one (.int .i64 r.2)]):=by
 unfold zb at H
 refine po_ Tryz.func160 Tryz.ntmps160 ?_
 refine bf ?_
 refine dM 8 1 rfl ?_
 refine alM_ (fun s:(List Int) × Int=>match s with|(out_1,v_2)=>[(1, .one (.c (.lst (a_l.map Km)))),(2, .one (.c (.lst (a_kinds.map (fun x=>[AC.int .i64 x]))))),(8, .one (.own (out_1.map (fun x=>[AC.int .i64 x])) 0)),(13, .one (.c (.lst (a_keys.map (fun x=>[AC.int .i64 x]))))),(14, .one (.c (.int .i64 ((a_keys.length:Nat):Int)))),(15, .one (.c (.int .i64 v_2)))]) (fun s=>match s with|(out_1,v_2)=>[.spare out_1.length 1]) H (fun _=>Zj _)
  (fm_ bL [] rfl bq cO) ?_
 rintro ⟨out_1,v_2⟩ st1 hb1 hk1
 unfold yE at hb1
 dsimp only at hb1 ⊢
 rcases aa hb1 with ⟨q_3,hb1⟩|⟨q_3,hb1⟩
 ·obtain ⟨x_4,i1z,i1,i1x,hb1⟩:=aI (f:=(fun x=>[AC.int .i64 x])) hb1
  rcases aa hb1 with ⟨q_5,hb1⟩|⟨q_5,hb1⟩
  ·cases hb1
   have hx1:fH a_l a_kinds (.inr ([],(6:Int)))=some _:=hk1
   unfold fH at hx1
   dsimp only at hx1
   cases hx1
   exact aj
  rcases aa hb1 with ⟨q_6,hb1⟩|⟨q_6,hb1⟩
  ·cases hb1
   have hx1:fH a_l a_kinds (.inr ([],(6:Int)))=some _:=hk1
   unfold fH at hx1
   dsimp only at hx1
   cases hx1
   exact aj
  obtain ⟨x_7,i2z,i2,i2x,hb1⟩:=aI (f:=(fun x=>[AC.int .i64 x])) hb1
  obtain ⟨g3,hb1⟩:=az hb1
  cases hb1
  refine bf ?_
  exact ⟨_,rfl,fm_ oH [] kI bq cO⟩
 cases hb1
 have hx1:fH a_l a_kinds (.inl (out_1,v_2))=some _:=hk1
 unfold fH at hx1
 dsimp only at hx1
 refine bf ?_
 refine alM_ (fun s:(List Int) × Int=>match s with|(out_8,v_9)=>[(2, .one (.c (.lst (a_kinds.map (fun x=>[AC.int .i64 x]))))),(8, .one (.own (out_8.map (fun x=>[AC.int .i64 x])) 0)),(35, .one (.c (.lst (a_l.map Km)))),(36, .one (.c (.int .i64 ((a_l.length:Nat):Int)))),(37, .one (.c (.int .i64 v_9)))]) (fun s=>match s with|(out_8,v_9)=>[.spare out_8.length 1]) hx1 (fun _=>Zj _)
  (fm_ bL [] rfl bq cO) ?_
 rintro ⟨out_8,v_9⟩ st2 hb2 hk2
 unfold xM at hb2
 dsimp only at hb2 ⊢
 rcases aa hb2 with ⟨q_10,hb2⟩|⟨q_10,hb2⟩
 ·obtain ⟨x_11,i4z,i4,i4x,hb2⟩:=aI (f:=Km) hb2
  rcases aa hb2 with ⟨q_12,hb2⟩|⟨q_12,hb2⟩
  ·cases hb2
   have hx2:bF (.inr ([],(7:Int)))=some _:=hk2
   unfold bF at hx2
   dsimp only at hx2
   cases hx2
   exact aj
  rcases aa hb2 with ⟨q_13,hb2⟩|⟨q_13,hb2⟩
  ·cases hb2
   have hx2:bF (.inr ([],(7:Int)))=some _:=hk2
   unfold bF at hx2
   dsimp only at hx2
   cases hx2
   exact aj
  rcases aa hb2 with ⟨q_14,hb2⟩|⟨q_14,hb2⟩
  ·rcases aa hb2 with ⟨q_15,hb2⟩|⟨q_15,hb2⟩
   ·have q_16:(decide (x_11.op=(3:Int)))=false:=by rw [Zr q_15];decide
    have q_17:(decide (x_11.op=(4:Int)))=false:=by rw [Zr q_15];decide
    obtain ⟨g5,hb2⟩:=az hb2
    cases hb2
    refine bf ?_
    exact ⟨_,rfl,fm_ oH [_] kI bq cO⟩
   have q_18:(decide (x_11.arg<(0:Int)))=true:=by rw [Zr q_14];decide
   cases hb2
   have hx2:bF (.inr ([],(6:Int)))=some _:=hk2
   unfold bF at hx2
   dsimp only at hx2
   cases hx2
   exact aj
  rcases aa hb2 with ⟨q_19,hb2⟩|⟨q_19,hb2⟩
  ·cases hb2
   have hx2:bF (.inr ([],(6:Int)))=some _:=hk2
   unfold bF at hx2
   dsimp only at hx2
   cases hx2
   exact aj
  rcases aa hb2 with ⟨q_20,hb2⟩|⟨q_20,hb2⟩
  ·cases hb2
   have hx2:bF (.inr ([],(6:Int)))=some _:=hk2
   unfold bF at hx2
   dsimp only at hx2
   cases hx2
   exact aj
  rcases aa hb2 with ⟨q_21,hb2⟩|⟨q_21,hb2⟩
  ·obtain ⟨x_22,i6z,i6,i6x,hb2⟩:=aI (f:=(fun x=>[AC.int .i64 x])) hb2
   rcases aa hb2 with ⟨q_23,hb2⟩|⟨q_23,hb2⟩
   ·cases hb2
    have hx2:bF (.inr ([],(7:Int)))=some _:=hk2
    unfold bF at hx2
    dsimp only at hx2
    cases hx2
    exact aj
   have q_24:(decide (x_11.op=(3:Int)))=false:=by rw [Zr q_21];decide
   have q_25:(decide (x_11.op=(4:Int)))=false:=by rw [Zr q_21];decide
   obtain ⟨g7,hb2⟩:=az hb2
   cases hb2
   refine bf ?_
   exact ⟨_,rfl,fm_ oH [_] kI bq cO⟩
  rcases aa hb2 with ⟨q_26,hb2⟩|⟨q_26,hb2⟩
  ·obtain ⟨x_27,i8z,i8,i8x,hb2⟩:=aI (f:=(fun x=>[AC.int .i64 x])) hb2
   obtain ⟨g9,hb2⟩:=az hb2
   cases hb2
   refine bf ?_
   exact ⟨_,rfl,fm_ oH [_] kI bq cO⟩
  rcases aa hb2 with ⟨q_28,hb2⟩|⟨q_28,hb2⟩
  ·obtain ⟨x_29,i10z,i10,i10x,hb2⟩:=aI (f:=(fun x=>[AC.int .i64 x])) hb2
   obtain ⟨g11,hb2⟩:=az hb2
   cases hb2
   refine bf ?_
   exact ⟨_,rfl,fm_ oH [_] kI bq cO⟩
  obtain ⟨g12,hb2⟩:=az hb2
  cases hb2
  refine bf ?_
  exact ⟨_,rfl,fm_ oH [_] kI bq cO⟩
 cases hb2
 have hx2:bF (.inl (out_8,v_9))=some _:=hk2
 unfold bF at hx2
 dsimp only at hx2
 cases hx2
 exact aj
def zX (a_p:Pl):(Int)->Option (Step (Int) (Int)):=fun s=>match s with
 | v_4=>bif (decide (v_4<((a_p.rows.length:Nat):Int))) then (au a_p.rows v_4).bind fun x_6=>(Lg x_6 a_p.kinds).bind fun r_7=>bif (!r_7) then some (.ret (8:Int)) else
 some (.next (IntKind.i64.wrap (v_4+(1:Int)))) else
 some (.exit v_4)
def kN:Sum (Int) (Int)->Option ((Int))
 | .inl v_4=>some (0:Int)
 | .inr q=>some q
def Cr (a_p:Pl):Option (Int):=bif (decide ((4096:Int)<((a_p.rows.length:Nat):Int))) then some (5:Int) else
 (u7 a_p.kinds).bind fun r_2=>bif (!r_2) then some (7:Int) else
 (ah (zX a_p) fuel (0:Int)).bind (kN)
theorem Ka {a_p:Pl} {r:Int} (H:Cr a_p=some r):Pure Tryz.prog 157 [.agg (tP a_p)] (.val (.one (.int .i64 r))):=by
 unfold Cr at H
 rw [aQ a_p]
 refine po_ Tryz.func157 Tryz.ntmps157 ?_
 rcases aa H with ⟨q_1,H⟩|⟨q_1,H⟩
 ·cases H
  exact aj
 obtain ⟨r_2,c1,H⟩:=bd_ H
 replace c1:=Bw c1
 rcases aa H with ⟨q_3,H⟩|⟨q_3,H⟩
 ·cases H
  exact aj
 refine bf ?_
 refine alM_ (fun s:Int=>match s with|v_4=>[(1, .one (.ptr 0 0)),(14, .one (.c (.lst (a_p.rows.map (fun x=>[AC.lst (x.map cV)]))))),(15, .one (.c (.int .i64 ((a_p.rows.length:Nat):Int)))),(16, .one (.c (.int .i64 v_4)))]) (fun s=>match s with|v_4=>[.box [.c (.int .i64 a_p.op), .c (.int .i64 a_p.int), .c (.lst (a_p.kinds.map (fun x=>[AC.int .i64 x]))), .c (.lst (a_p.rows.map (fun x=>[AC.lst (x.map cV)]))), .c (.int .i64 a_p.pred.op), .c (.int .i64 a_p.pred.int), .c (.int .i64 a_p.pred.v.kind), .c (.int .i64 a_p.pred.v.int), .c (.str a_p.pred.v.text), .c (.str a_p.pred.nm), .c (.lst (a_p.pred.args.map tE)), .c (.lst (a_p.exprs.map tE)), .c (.lst (a_p.keys.map (fun x=>[AC.int .i64 x]))), .c (.lst (a_p.aggs.map Km)), .c (.lst (a_p.inputs.map tP))]]) H (fun _=>Zj _)
  (fm_ bL [] rfl bq cO) ?_
 rintro v_4 st1 hb1 hk1
 unfold zX at hb1
 dsimp only at hb1 ⊢
 rcases aa hb1 with ⟨q_5,hb1⟩|⟨q_5,hb1⟩
 ·obtain ⟨x_6,i2z,i2,i2x,hb1⟩:=aI (f:=(fun x=>[AC.lst (x.map cV)])) hb1
  obtain ⟨r_7,c3,hb1⟩:=bd_ hb1
  replace c3:=Ov c3
  rcases aa hb1 with ⟨q_8,hb1⟩|⟨q_8,hb1⟩
  ·cases hb1
   have hx1:kN (.inr (8:Int))=some _:=hk1
   unfold kN at hx1
   dsimp only at hx1
   cases hx1
   exact aj
  cases hb1
  refine bf ?_
  exact ⟨_,rfl,fm_ bL [] rfl bq cO⟩
 cases hb1
 have hx1:kN (.inl v_4)=some _:=hk1
 unfold kN at hx1
 dsimp only at hx1
 cases hx1
 exact aj
def D8 (a_a:(List Int)) (a_b:(List Int)):(Int)->Option (Step (Int) (Int)):=fun s=>match s with
 | v_2=>bif (decide (v_2<((a_a.length:Nat):Int))) then (au a_a v_2).bind fun x_4=>(au a_b v_2).bind fun x_5=>bif (decide (x_4≠x_5)) then some (.ret (7:Int)) else
 some (.next (IntKind.i64.wrap (v_2+(1:Int)))) else
 some (.exit v_2)
def mO:Sum (Int) (Int)->Option ((Int))
 | .inl v_2=>some (0:Int)
 | .inr q=>some q
def yc (a_a:(List Int)) (a_b:(List Int)):Option (Int):=bif (decide (((a_a.length:Nat):Int)≠((a_b.length:Nat):Int))) then some (13:Int) else
 (ah (D8 a_a a_b) fuel (0:Int)).bind (mO)
theorem vV {a_a:(List Int)} {a_b:(List Int)} {r:Int} (H:yc a_a a_b=some r):Pure Tryz.prog 161 [.one (.lst (a_a.map (fun x=>[AC.int .i64 x]))), .one (.lst (a_b.map (fun x=>[AC.int .i64 x])))] (.val (.one (.int .i64 r))):=by
 unfold yc at H
 refine po_ Tryz.func161 Tryz.ntmps161 ?_
 rcases aa H with ⟨q_1,H⟩|⟨q_1,H⟩
 ·cases H
  exact aj
 refine bf ?_
 refine alM_ (fun s:Int=>match s with|v_2=>[(0, .one (.c (.lst (a_a.map (fun x=>[AC.int .i64 x]))))),(1, .one (.c (.lst (a_b.map (fun x=>[AC.int .i64 x]))))),(12, .one (.c (.int .i64 ((a_a.length:Nat):Int)))),(13, .one (.c (.int .i64 v_2)))]) (fun s=>match s with|v_2=>[]) H (fun _=>Zj _)
  (fm_ bL [] rfl bq trivial) ?_
 rintro v_2 st1 hb1 hk1
 unfold D8 at hb1
 dsimp only at hb1 ⊢
 rcases aa hb1 with ⟨q_3,hb1⟩|⟨q_3,hb1⟩
 ·obtain ⟨x_4,i1z,i1,i1x,hb1⟩:=aI (f:=(fun x=>[AC.int .i64 x])) hb1
  obtain ⟨x_5,i2z,i2,i2x,hb1⟩:=aI (f:=(fun x=>[AC.int .i64 x])) hb1
  rcases aa hb1 with ⟨q_6,hb1⟩|⟨q_6,hb1⟩
  ·cases hb1
   have hx1:mO (.inr (7:Int))=some _:=hk1
   unfold mO at hx1
   dsimp only at hx1
   cases hx1
   exact aj
  cases hb1
  refine bf ?_
  exact ⟨_,rfl,fm_ bL [] rfl bq trivial⟩
 cases hb1
 have hx1:mO (.inl v_2)=some _:=hk1
 unfold mO at hx1
 dsimp only at hx1
 cases hx1
 exact aj
end
set_option maxHeartbeats 8000000
noncomputable section
def wB (a_p:Pl) (a_in:(List (List Int))) (a_sub:(List (List Int))):Option ((List Int) × Int):=bif (decide (a_p.op=(1:Int))) then bif (decide (a_p.int<(0:Int))) then some ([],(6:Int)) else
 bif (decide (((a_in.length:Nat):Int)<=a_p.int)) then some ([],(6:Int)) else
 (au a_in a_p.int).bind fun x_4=>(u7 x_4).bind fun r_5=>bif (!r_5) then some ([],(7:Int)) else
 some (x_4,(0:Int)) else
 bif (decide (a_p.op=(2:Int))) then (Cr a_p).bind fun r_8=>some (a_p.kinds,r_8) else
 bif (decide (a_p.op=(3:Int))) then (au a_sub (0:Int)).bind fun x_10=>(wU a_p.pred x_10).bind fun r_11=>some (x_10,r_11) else
 bif (decide (a_p.op=(4:Int))) then (au a_sub (0:Int)).bind fun x_13=>(GN a_p.exprs x_13).bind fun r_14=>some (r_14.1,r_14.2) else
 bif (decide (a_p.op=(11:Int))) then (au a_sub (0:Int)).bind fun x_16=>(zb a_p.keys a_p.aggs x_16).bind fun r_17=>some (r_17.1,r_17.2) else
 bif (decide (a_p.op=(5:Int))) then (au a_sub (0:Int)).bind fun x_19=>bif (decide (x_19.length<=17592186044416)) then ((au a_sub (1:Int)).bind fun x_20=>bif (decide (x_19.length+x_20.length<=17592186044416)) then ((wU a_p.pred (x_19++x_20)).bind fun r_21=>some ((x_19++x_20),r_21)) else none) else none else
 bif (decide (a_p.op=(6:Int))) then (au a_sub (0:Int)).bind fun x_23=>bif (decide (x_23.length<=17592186044416)) then ((au a_sub (1:Int)).bind fun x_24=>bif (decide (x_23.length+x_24.length<=17592186044416)) then ((wU a_p.pred (x_23++x_24)).bind fun r_25=>some ((x_23++x_24),r_25)) else none) else none else
 bif (decide (a_p.op=(7:Int))) then (au a_sub (0:Int)).bind fun x_27=>(au a_sub (1:Int)).bind fun x_28=>(yc x_27 x_28).bind fun r_29=>some (x_27,r_29) else
 bif (decide (a_p.op=(8:Int))) then (au a_sub (0:Int)).bind fun x_31=>(au a_sub (1:Int)).bind fun x_32=>(yc x_31 x_32).bind fun r_33=>some (x_31,r_33) else
 bif (decide (a_p.op=(9:Int))) then (au a_sub (0:Int)).bind fun x_35=>(au a_sub (1:Int)).bind fun x_36=>(yc x_35 x_36).bind fun r_37=>some (x_35,r_37) else
 (au a_sub (0:Int)).bind fun x_38=>some (x_38,(0:Int))
theorem Oh {a_p:Pl} {a_in:(List (List Int))} {a_sub:(List (List Int))} {r:(List Int) × Int} (H:wB a_p a_in a_sub=some r):Pure Tryz.prog 119 [.agg (tP a_p), .one (.lst (a_in.map (fun x=>[AC.lst (x.map (fun x=>[AC.int .i64 x]))]))), .one (.lst (a_sub.map (fun x=>[AC.lst (x.map (fun x=>[AC.int .i64 x]))])))] (.tup [.one (.lst (r.1.map (fun x=>[AC.int .i64 x]))), .one (.int .i64 r.2)]):=by
 unfold wB at H
 rw [aQ a_p]
 refine po_ Tryz.func119 Tryz.ntmps119 ?_
 rcases aa H with ⟨q_1,H⟩|⟨q_1,H⟩
 ·rcases aa H with ⟨q_2,H⟩|⟨q_2,H⟩
  ·cases H
   exact aj
  rcases aa H with ⟨q_3,H⟩|⟨q_3,H⟩
  ·cases H
   exact aj
  obtain ⟨x_4,i1z,i1,i1x,H⟩:=aI (f:=(fun x=>[AC.lst (x.map (fun x=>[AC.int .i64 x]))])) H
  obtain ⟨r_5,c2,H⟩:=bd_ H
  replace c2:=Bw c2
  rcases aa H with ⟨q_6,H⟩|⟨q_6,H⟩
  ·cases H
   exact aj
  cases H
  exact aj
 rcases aa H with ⟨q_7,H⟩|⟨q_7,H⟩
 ·obtain ⟨r_8,c3,H⟩:=bd_ H
  replace c3:=Ka c3
  try simp only [Zb,Y9,Zd,Y3,aF,aQ] at c3
  cases H
  exact aj
 rcases aa H with ⟨q_9,H⟩|⟨q_9,H⟩
 ·obtain ⟨x_10,i4z,i4,i4x,H⟩:=aI (f:=(fun x=>[AC.lst (x.map (fun x=>[AC.int .i64 x]))])) H
  obtain ⟨r_11,c5,H⟩:=bd_ H
  replace c5:=yH c5
  try simp only [Zb,Y9,Zd,Y3,aF,aQ] at c5
  cases H
  exact aj
 rcases aa H with ⟨q_12,H⟩|⟨q_12,H⟩
 ·obtain ⟨x_13,i6z,i6,i6x,H⟩:=aI (f:=(fun x=>[AC.lst (x.map (fun x=>[AC.int .i64 x]))])) H
  obtain ⟨r_14,c7,H⟩:=bd_ H
  replace c7:=FC c7
  cases H
  exact aj
 rcases aa H with ⟨q_15,H⟩|⟨q_15,H⟩
 ·obtain ⟨x_16,i8z,i8,i8x,H⟩:=aI (f:=(fun x=>[AC.lst (x.map (fun x=>[AC.int .i64 x]))])) H
  obtain ⟨r_17,c9,H⟩:=bd_ H
  replace c9:=Hm c9
  cases H
  exact aj
 rcases aa H with ⟨q_18,H⟩|⟨q_18,H⟩
 ·obtain ⟨x_19,i10z,i10,i10x,H⟩:=aI (f:=(fun x=>[AC.lst (x.map (fun x=>[AC.int .i64 x]))])) H
  obtain ⟨g11,H⟩:=az H
  obtain ⟨x_20,i12z,i12,i12x,H⟩:=aI (f:=(fun x=>[AC.lst (x.map (fun x=>[AC.int .i64 x]))])) H
  obtain ⟨g13,H⟩:=az H
  obtain ⟨r_21,c14,H⟩:=bd_ H
  replace c14:=yH c14
  try simp only [Zb,Y9,Zd,Y3,aF,aQ] at c14
  cases H
  exact aj
 rcases aa H with ⟨q_22,H⟩|⟨q_22,H⟩
 ·obtain ⟨x_23,i15z,i15,i15x,H⟩:=aI (f:=(fun x=>[AC.lst (x.map (fun x=>[AC.int .i64 x]))])) H
  obtain ⟨g16,H⟩:=az H
  obtain ⟨x_24,i17z,i17,i17x,H⟩:=aI (f:=(fun x=>[AC.lst (x.map (fun x=>[AC.int .i64 x]))])) H
  obtain ⟨g18,H⟩:=az H
  obtain ⟨r_25,c19,H⟩:=bd_ H
  replace c19:=yH c19
  try simp only [Zb,Y9,Zd,Y3,aF,aQ] at c19
  cases H
  exact aj
 rcases aa H with ⟨q_26,H⟩|⟨q_26,H⟩
 ·obtain ⟨x_27,i20z,i20,i20x,H⟩:=aI (f:=(fun x=>[AC.lst (x.map (fun x=>[AC.int .i64 x]))])) H
  obtain ⟨x_28,i21z,i21,i21x,H⟩:=aI (f:=(fun x=>[AC.lst (x.map (fun x=>[AC.int .i64 x]))])) H
  obtain ⟨r_29,c22,H⟩:=bd_ H
  replace c22:=vV c22
  cases H
  exact aj
 rcases aa H with ⟨q_30,H⟩|⟨q_30,H⟩
 ·obtain ⟨x_31,i23z,i23,i23x,H⟩:=aI (f:=(fun x=>[AC.lst (x.map (fun x=>[AC.int .i64 x]))])) H
  obtain ⟨x_32,i24z,i24,i24x,H⟩:=aI (f:=(fun x=>[AC.lst (x.map (fun x=>[AC.int .i64 x]))])) H
  obtain ⟨r_33,c25,H⟩:=bd_ H
  replace c25:=vV c25
  cases H
  exact aj
 rcases aa H with ⟨q_34,H⟩|⟨q_34,H⟩
 ·obtain ⟨x_35,i26z,i26,i26x,H⟩:=aI (f:=(fun x=>[AC.lst (x.map (fun x=>[AC.int .i64 x]))])) H
  obtain ⟨x_36,i27z,i27,i27x,H⟩:=aI (f:=(fun x=>[AC.lst (x.map (fun x=>[AC.int .i64 x]))])) H
  obtain ⟨r_37,c28,H⟩:=bd_ H
  replace c28:=vV c28
  cases H
  exact aj
 obtain ⟨x_38,i29z,i29,i29x,H⟩:=aI (f:=(fun x=>[AC.lst (x.map (fun x=>[AC.int .i64 x]))])) H
 cases H
 exact aj
end
def dh:ByteArray:=⟨#[58]⟩
def V5:TI := { Qj with dyn:=true }
theorem bQ:TIok Tryz.prog V5:=⟨af.size,af.agg,af.elem,af.field,af.zero,af.bytes,af.kind,af.struct,af.zok,af.eqs⟩
def Wq:TI := { V5 with soft:=true }
theorem cK:TIok Tryz.prog Wq:=⟨af.size,af.agg,af.elem,af.field,af.zero,af.bytes,af.kind,af.struct,af.zok,af.eqs⟩
end Go.Proofs.YtnbnpnmkgemdeaaGreatDoor
