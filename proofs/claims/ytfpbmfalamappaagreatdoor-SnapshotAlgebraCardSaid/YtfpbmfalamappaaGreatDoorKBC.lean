/- Parts of the proof, joined. No condition. -/
import Derived.Test.YtfpbmfalamappaaGreatDoorKAA
import Derived.Test.YtfpbmfalamappaaGreatDoorKAZ
import Derived.Test.YtfpbmfalamappaaGreatDoorKBA
import Derived.Test.YtfpbmfalamappaaGreatDoorKBB
import Derived.Test.YtfpbmfalamappaaGreatDoorKAY
import Derived.Shelf.Spec.SlicesGrow
import Derived.Shelf.SlGeneric
import Derived.Test.YtfpbmfalamappaaGreatDoorProg
import Derived.Test.YtfpbmfalamappaaGreatDoorKAF
import Derived.Test.YtfpbmfalamappaaGreatDoorKAJ
import Derived.Test.YtfpbmfalamappaaGreatDoorKAI
import Derived.Test.YtfpbmfalamappaaGreatDoorKAS
import Derived.Test.YtfpbmfalamappaaGreatDoorKAW
import Derived.Test.YtfpbmfalamappaaGreatDoorKAT
import Derived.Test.YtfpbmfalamappaaGreatDoorKAU
import Derived.Test.YtfpbmfalamappaaGreatDoorKAR
import Derived.Test.YtfpbmfalamappaaGreatDoorKAX
import Derived.Test.YtfpbmfalamappaaGreatDoorKAV
import Derived.Test.YtfpbmfalamappaaGreatDoorKAE
set_option linter.unusedSimpArgs false
set_option linter.unusedVariables false
namespace Go.Proofs.YtfpbmfalamappaaGreatDoor
open Go.RowKit Go.MapKept
set_option maxRecDepth 100000
set_option maxHeartbeats 8000000
theorem Ri {rec:Nat->List (List Val)->Int->Int->Int->((List Val)->(List Val)->Option Int)->Option (List (List Val))} {n:Nat}  (hrec : ∀ {n:Nat} {X:List (List Val)} {a m b:Int} {cmp:(List Val)->(List Val)->Option Int} {v:Nat} {F_a_cmp:FuncId} {caps_a_cmp:List AC} (hf_a_cmp : ∀ (y0:(List Val)) (y1:(List Val)) (r:Int),cmp y0 y1=some r->Pure Tryz.prog F_a_cmp ([.one (.lst (y0.map cV)), .one (.lst (y1.map cV))]++caps_a_cmp.map .one) (.val (.one (.int .i64 r)))) {r:List (List Val)}, rec n X a m b cmp=some r->Run Tryz.prog 209 [dz (fun x=>[AC.lst (x.map cV)]) 1 v X] [.one (.sl 0 v 0 n), .one (.c (.int .i64 a)), .one (.c (.int .i64 m)), .one (.c (.int .i64 b)), .one (.c (.fn F_a_cmp caps_a_cmp))] [dz (fun x=>[AC.lst (x.map cV)]) 1 v r] (.tup [])) {a_data:(List (List Val))} {a_a:Int} {a_m:Int} {a_b:Int} {a_cmp:(List Val)->(List Val)->Option (Int)} {v:Nat} {r:List (List Val)} {F_a_cmp:FuncId} {caps_a_cmp:List AC} (hf_a_cmp : ∀ (y0:(List Val)) (y1:(List Val)) (r:Int),a_cmp y0 y1=some r->Pure Tryz.prog F_a_cmp ([.one (.lst (y0.map cV)), .one (.lst (y1.map cV))]++caps_a_cmp.map .one) (.val (.one (.int .i64 r)))) (H:ut rec n a_data a_a a_m a_b a_cmp=some r):Run Tryz.prog 209 [dz (fun x=>[AC.lst (x.map cV)]) 1 v a_data] [.one (.sl 0 v 0 n), .one (.c (.int .i64 a_a)), .one (.c (.int .i64 a_m)), .one (.c (.int .i64 a_b)), .one (.c (.fn F_a_cmp caps_a_cmp))] [dz (fun x=>[AC.lst (x.map cV)]) 1 v r] (.tup []):=by
 rcases hq0:(decide ((IntKind.i64.wrap (a_m-a_a))=(1:Int))) with _|_
 ·rcases hq1:(decide ((IntKind.i64.wrap (a_b-a_m))=(1:Int))) with _|_
  ·rcases hq2:(decide ((bW (IntKind.i64.wrap (a_a+a_b)))<a_m)) with _|_
   ·exact OC hrec hf_a_cmp hq0 hq1 hq2 H
   ·exact Po hrec hf_a_cmp hq0 hq1 hq2 H
  ·exact OV hrec hf_a_cmp hq0 hq1 H
 ·exact OU hrec hf_a_cmp hq0 H
theorem E5 : ∀ (q:Nat) {n:Nat} {X:List (List Val)} {a m b:Int} {cmp:(List Val)->(List Val)->Option Int} {v:Nat} {F_a_cmp:FuncId} {caps_a_cmp:List AC} (hf_a_cmp : ∀ (y0:(List Val)) (y1:(List Val)) (r:Int),cmp y0 y1=some r->Pure Tryz.prog F_a_cmp ([.one (.lst (y0.map cV)), .one (.lst (y1.map cV))]++caps_a_cmp.map .one) (.val (.one (.int .i64 r)))) {r:List (List Val)}, Hg q n X a m b cmp=some r->Run Tryz.prog 209 [dz (fun x=>[AC.lst (x.map cV)]) 1 v X] [.one (.sl 0 v 0 n), .one (.c (.int .i64 a)), .one (.c (.int .i64 m)), .one (.c (.int .i64 b)), .one (.c (.fn F_a_cmp caps_a_cmp))] [dz (fun x=>[AC.lst (x.map cV)]) 1 v r] (.tup [])
 | 0,_,_,_,_,_,_,_,_,_,_,_,h=>nomatch h
 | q+1,_,_,_,_,_,_,_,_,_,hf,_,h=>Ri (E5 q) hf h
theorem MF {n:Nat}  {a_data:(List (List Val))} {a_n:Int} {a_cmp:(List Val)->(List Val)->Option (Int)} {v:Nat} {r:List (List Val)} {F_a_cmp:FuncId} {caps_a_cmp:List AC} (hf_a_cmp : ∀ (y0:(List Val)) (y1:(List Val)) (r:Int),a_cmp y0 y1=some r->Pure Tryz.prog F_a_cmp ([.one (.lst (y0.map cV)), .one (.lst (y1.map cV))]++caps_a_cmp.map .one) (.val (.one (.int .i64 r)))) (H:zC n a_data a_n a_cmp=some r):Run Tryz.prog 198 [dz (fun x=>[AC.lst (x.map cV)]) 1 v a_data] [.one (.sl 0 v 0 n), .one (.c (.int .i64 a_n)), .one (.c (.fn F_a_cmp caps_a_cmp))] [dz (fun x=>[AC.lst (x.map cV)]) 1 v r] (.tup []):=by
 unfold zC at H
 refine bQ au Tryz.func198 rfl rfl Tryz.ntmps198 (by simp) ?_
 simp only [j4]
 refine xR ?_
 refine alM_ (fun s:(List (List Val)) × Int × Int=>match s with|(c_1,a_2,b_3)=>[(0, .one (.sl 0 v 0 n)),(1, .one (.c (.int .i64 a_n))),(2, .one (.c (.fn F_a_cmp caps_a_cmp))),(6, .one (.c (.int .i64 (20:Int)))),(7, .one (.c (.int .i64 a_2))),(8, .one (.c (.int .i64 b_3)))]) (fun s=>match s with|(c_1,a_2,b_3)=>[dz (fun x=>[AC.lst (x.map cV)]) 1 v c_1]) H (fun _=>abp _)
  (fm_ bV [] rfl bE ⟨aV _ _ _ _ _,trivial⟩) ?_
 rintro ⟨c_1,a_2,b_3⟩ st1 hb1 hk1
 unfold jB at hb1
 dsimp only at hb1 ⊢
 rcases cnd_ hb1 with ⟨q_4,hb1⟩|⟨q_4,hb1⟩
 ·obtain ⟨c_5,c1,hb1⟩:=bd_ hb1
  replace c1:=zx (v:=v) (caps_a_cmp:=caps_a_cmp) hf_a_cmp c1
  cases hb1
  refine xR ?_
  exact ⟨_,rfl,fm_ bV [] rfl bE ⟨aV _ _ _ _ _,trivial⟩⟩
 cases hb1
 have hx1:sS a_n a_cmp n (.inl (c_1,a_2,b_3))=some _:=hk1
 unfold sS at hx1
 dsimp only at hx1
 obtain ⟨c_6,c2,hx1⟩:=bd_ hx1
 replace c2:=zx (v:=v) (caps_a_cmp:=caps_a_cmp) hf_a_cmp c2
 refine xR ?_
 refine alM_ (fun s:(List (List Val)) × Int=>match s with|(c_7,blockSize_8)=>[(0, .one (.sl 0 v 0 n)),(1, .one (.c (.int .i64 a_n))),(2, .one (.c (.fn F_a_cmp caps_a_cmp))),(6, .one (.c (.int .i64 blockSize_8)))]) (fun s=>match s with|(c_7,blockSize_8)=>[dz (fun x=>[AC.lst (x.map cV)]) 1 v c_7]) hx1 (fun _=>abp _)
  (fm_ bV [] rfl bE ⟨aV _ _ _ _ _,trivial⟩) ?_
 rintro ⟨c_7,blockSize_8⟩ st4 hb4 hk4
 unfold jA at hb4
 dsimp only at hb4 ⊢
 rcases cnd_ hb4 with ⟨q_9,hb4⟩|⟨q_9,hb4⟩
 ·refine xR ?_
  refine alM_ (fun s:(List (List Val)) × Int × Int=>match s with|(c_10,a_11,b_12)=>[(0, .one (.sl 0 v 0 n)),(1, .one (.c (.int .i64 a_n))),(2, .one (.c (.fn F_a_cmp caps_a_cmp))),(6, .one (.c (.int .i64 blockSize_8))),(7, .one (.c (.int .i64 a_11))),(8, .one (.c (.int .i64 b_12)))]) (fun s=>match s with|(c_10,a_11,b_12)=>[dz (fun x=>[AC.lst (x.map cV)]) 1 v c_10]) hb4 (fun _=>abp _)
   (fm_ bV [] rfl bE ⟨aV _ _ _ _ _,trivial⟩) ?_
  rintro ⟨c_10,a_11,b_12⟩ st5 hb5 hk5
  unfold jC at hb5
  dsimp only at hb5 ⊢
  rcases cnd_ hb5 with ⟨q_13,hb5⟩|⟨q_13,hb5⟩
  ·obtain ⟨c_14,c3,hb5⟩:=bd_ hb5
   replace c3:=E5 fuel (v:=v) (caps_a_cmp:=caps_a_cmp) hf_a_cmp c3
   cases hb5
   refine xR ?_
   exact ⟨_,rfl,fm_ bV [] rfl bE ⟨aV _ _ _ _ _,trivial⟩⟩
  cases hb5
  have hx5:tu a_n a_cmp n blockSize_8 (.inl (c_10,a_11,b_12))=some _:=hk5
  unfold tu at hx5
  dsimp only at hx5
  rcases cnd_ hx5 with ⟨q_15,hx5⟩|⟨q_15,hx5⟩
  ·obtain ⟨c_16,c4,hx5⟩:=bd_ hx5
   replace c4:=E5 fuel (v:=v) (caps_a_cmp:=caps_a_cmp) hf_a_cmp c4
   cases hx5
   refine xR ?_
   exact ⟨_,rfl,fm_ bV [] rfl bE ⟨aV _ _ _ _ _,trivial⟩⟩
  cases hx5
  refine xR ?_
  exact ⟨_,rfl,fm_ bV [] rfl bE ⟨aV _ _ _ _ _,trivial⟩⟩
 cases hb4
 have hx4:yV (.inl (c_7,blockSize_8))=some _:=hk4
 unfold yV at hx4
 dsimp only at hx4
 cases hx4
 exact j3
theorem Ny {n:Nat}  {a_x:(List (List Val))} {a_cmp:(List Val)->(List Val)->Option (Int)} {v:Nat} {r:List (List Val)} {F_a_cmp:FuncId} {caps_a_cmp:List AC} (hf_a_cmp : ∀ (y0:(List Val)) (y1:(List Val)) (r:Int),a_cmp y0 y1=some r->Pure Tryz.prog F_a_cmp ([.one (.lst (y0.map cV)), .one (.lst (y1.map cV))]++caps_a_cmp.map .one) (.val (.one (.int .i64 r)))) (H:zU n a_x a_cmp=some r):Run Tryz.prog 173 [dz (fun x=>[AC.lst (x.map cV)]) 1 v a_x] [.one (.sl 0 v 0 n), .one (.c (.fn F_a_cmp caps_a_cmp))] [dz (fun x=>[AC.lst (x.map cV)]) 1 v r] (.tup []):=by
 unfold zU at H
 refine bQ au Tryz.func173 rfl rfl Tryz.ntmps173 (by simp) ?_
 simp only [j4]
 obtain ⟨c_1,c1,H⟩:=bd_ H
 replace c1:=MF (v:=v) (caps_a_cmp:=caps_a_cmp) hf_a_cmp c1
 cases H
 exact j3
theorem Uy (v:Nat) (X:List (List Val)):dz (fun x=>[AC.lst (x.map cV)]) 1 v X = .row v ((X.map bO).map gC) 1:=by
 unfold dz
 rw [List.map_map,List.map_map]
 rfl
theorem R8 (v:Nat) {X:List (List Val)} {n:Nat} (hn:X.length=n) (hl:n<=100000000) (hr : ∀ x∈X,x.length<=1000000):Run Tryz.prog 173 [.row v ((X.map bO).map gC) 1] [.one (.sl 0 v 0 n), .one (.c (.fn 134 []))] [.row v (((aI X).map bO).map gC) 1] (.tup []):=by
 subst hn
 have:=Ny (n:=X.length) (a_x:=X) (a_cmp:=CK) (v:=v) (F_a_cmp:=134) (caps_a_cmp:=[]) (fun y0 y1 r h=>M8 h) (UN hl hr)
 rw [Uy,Uy] at this
 exact this
theorem Ow (r:List Val) (h0:r≠[]) (hr:r.length<=1000000):Pure Tryz.prog 172 [.one (bO r)] (.val (.one (bO r))):=by
 refine pa_ au Tryz.func172 rfl rfl Tryz.ntmps172 (by simp) ?_
 simp only [argT,PV.av,abk,abo]
 obtain ⟨x,r,rfl⟩ : ∃ x r',r=x::r':=by cases r with|nil=>exact absurd rfl h0|cons x r=>exact ⟨x,r,rfl⟩
 have hw:=V4 (x::r)
 have hlen:((x::r).map cV).length=r.length+1:=by simp
 simp only [abw] at hr
 repeat' (first
  | refine st_nil ?_
  | (refine ay rfl rfl rfl rfl ?_ ?_; · (repeat' (first|exact trivial|rfl|exact abj rfl|omega|exact hw|(rw [hlen];omega)|apply And.intro)))
  | (refine az rfl rfl rfl rfl ?_ ?_; · (repeat' (first|exact trivial|rfl|exact abj rfl|omega|exact hw|(rw [hlen];omega)|apply And.intro)))
  | (refine sS_ rfl rfl rfl ?_ ?_; · (repeat' (first|exact trivial|rfl|exact abj rfl|omega|exact hw|(rw [hlen];omega)|apply And.intro)))
  | (refine aC rfl rfl rfl rfl ?_ ?_; · (repeat' (first|exact trivial|rfl|exact abj rfl|omega|exact hw|(rw [hlen];omega)|apply And.intro)))
  | refine aj rfl rfl rfl ?_
  | refine sk0_ rfl rfl ?_
  | (refine aM rfl (fun hb=>?_) (fun hb=>?_)<;>(first|exact (fx_ hb).elim|rw [hb]))
  | refine aw_seq ?_
  | refine aw_region au _ rfl ?_
  | refine aw_drawn2 bK _ rfl mixed (by decide +kernel) ?_
  | (refine ah rfl (fun hb=>?_) (fun hb=>?_)<;>(try exact (fx_ hb).elim))
  | refine aw_block ?_
  | refine aw_exit ?_
  | refine aw_ret ?_
  | refine aw_skip ?_
  | (refine dB rfl rfl rfl rfl rfl (yC rfl rfl (au.kind 49 _ rfl)) ?_))
 all_goals exact aO (aR rfl (by trivial) rfl)
set_option maxHeartbeats 2000000 in
theorem Kl (l:List (List Val)) (hl:l.length<=300) (hr : ∀ r∈l,r≠[]/\r.length<=1000000):Pure Tryz.prog 133 [.one (bM l), .one (.fn 134 [])] (.val (.one (.lst (((aI l).map bO).map fun x=>[x])))):=by
 refine pa_ au Tryz.func133 rfl rfl Tryz.ntmps133 (by simp) ?_
 simp only [argT,PV.av,abk,abo]
 obtain ⟨n,hn⟩ : ∃ n,l.length=n:=⟨_,rfl⟩
 have hml:(l.map fun r=>[bO r]).length=n:=by simp [hn]
 repeat' (first
  | refine st_nil ?_
  | (refine cZ rfl rfl rfl rfl rfl (CQ au (k:=1) (by_:=24) rfl rfl rfl (by decide) rfl rfl rfl (by decide) (by omega) (by rw [hml];omega) (by rw [hml];omega)) ?_)
  | refine ay rfl rfl rfl rfl ph_ ?_
  | refine az rfl rfl rfl rfl ph_ ?_
  | refine sS_ rfl rfl rfl ph_ ?_
  | refine aC rfl rfl rfl rfl ph_ ?_
  | refine aj rfl rfl rfl ?_
  | refine sk0_ rfl rfl ?_
  | (refine aM rfl (fun hb=>?_) (fun hb=>?_)<;>(first|exact (fx_ hb).elim|rw [hb]))
  | refine aw_seq ?_
  | refine aw_region au _ rfl ?_
  | refine aw_drawn2 bK _ rfl mixed (by decide +kernel) ?_
  | (refine ah rfl (fun hb=>?_) (fun hb=>?_)<;>(try exact (fx_ hb).elim))
  | refine aw_block ?_
  | refine aw_exit ?_
  | refine aw_ret ?_
  | refine aw_skip ?_)
 refine df (fun i:Nat=>[(0, .one (.c (bM l))),(1, .one (.c (.fn 134 []))),(5, .one (.sl 0 (49+65536+65536*i) 0 i)),(11, .one (.c (bM l))),(12, .one (.c (.int .i64 n))),(13, .one (.c (.int .i64 i)))]) (fun i=>[.row (49+65536+65536*i) (((l.take i).map bO).map gC) 1]) (fun i=>i<=n) (fun i=>n-i) 0 (by omega) (fun _ _=>abv _)
  (fm_ ⟨rfl,rfl,rfl,rfl,aT (by simp [hn]),rfl,trivial⟩ [] rfl ⟨trivial,trivial,(by show 0<1;omega),trivial,trivial,trivial,trivial⟩ ⟨yz _ _ _ _,trivial⟩) ?_
 intro i hi
 by_cases hlt:i<n
 ·obtain ⟨r,hx⟩:=gol_ (show i<l.length by omega)
  have hcl:=Ow r (hr r (abe hx)).1 (hr r (abe hx)).2
  have hlen:(((l.take i).map bO).map gC).length=i:=by simp;omega
  have hnx:((l.take (i+1)).map bO).map gC=((l.take i).map bO).map gC++[gC (bO r)]:=by rw [bS hx];simp
  repeat' (first
   | refine st_nil ?_
   | (refine cZ rfl rfl rfl rfl rfl (lI au (k:=1) (by_:=24) (xs:=[gC (bO r)]) rfl rfl rfl rfl ⟨rfl,_,rfl,by intro e he;simp at he;subst he;rfl⟩ rfl (by omega) rfl rfl rfl (by decide) hlen (by show (i+1)*24<=_;omega) (by show i+1<=_;omega)) ?_)
   | (refine ay rfl rfl rfl rfl ?_ ?_; · (repeat' (first|exact trivial|rfl|exact abj rfl|omega|(intro e he;simp at he;subst he;rfl)|apply And.intro)))
   | (refine aW rfl rfl rfl rfl rfl rfl rfl rfl (bg hx) ?_ ?_; · exact ⟨by omega,rfl⟩)
   | (refine az rfl rfl rfl rfl ?_ ?_; · (repeat' (first|exact trivial|rfl|exact abj rfl|omega|(intro e he;simp at he;subst he;rfl)|apply And.intro)))
   | (refine sS_ rfl rfl rfl ?_ ?_; · (repeat' (first|exact trivial|rfl|exact abj rfl|omega|(intro e he;simp at he;subst he;rfl)|apply And.intro)))
   | (refine aC rfl rfl rfl rfl ?_ ?_; · (repeat' (first|exact trivial|rfl|exact abj rfl|omega|(intro e he;simp at he;subst he;rfl)|apply And.intro)))
   | refine aj rfl rfl rfl ?_
   | refine sk0_ rfl rfl ?_
   | refine aG rfl rfl rfl rfl hcl rfl ?_
   | (refine aM rfl (fun hb=>?_) (fun hb=>?_)<;>(first|exact (fx_ hb).elim|rw [hb]))
   | refine aw_seq ?_
   | refine aw_region au _ rfl ?_
   | refine aw_drawn2 bK _ rfl mixed (by decide +kernel) ?_
   | (refine ah rfl (fun hb=>?_) (fun hb=>?_)<;>(try exact (fx_ hb).elim))
   | refine aw_block ?_
   | refine aw_exit ?_
   | refine aw_ret ?_
   | refine aw_skip ?_)
  have hv:49+65536+65536*(i+1)=49+65536+65536*i+65536:=by omega
  exact ⟨i+1,by omega,by omega,fm_ ⟨rfl,rfl,(by rw [hv];rfl),rfl,rfl,aT (bu (by omega) (by omega)),trivial⟩ [] (by rw [hv,hnx];rfl) ⟨trivial,trivial,(by show 0<1;omega),trivial,trivial,trivial,trivial⟩ ⟨yz _ _ _ _,trivial⟩⟩
 ·have hi2:i=n:=by omega
  subst hi2
  have htk:l.take i=l:=by rw [<- hn,List.take_length]
  rw [htk]
  have hfr:=UL ((aI l).map bO)
  have hil:(((aI l).map bO).map fun x=>[x]).length=i:=by rw [abl,abl,(bn l).length_eq,hn]
  repeat' (first
   | refine st_nil ?_
   | (refine jy 0 5 rfl hfr rfl hil ?_)
   | refine ay rfl rfl rfl rfl ph_ ?_
   | refine az rfl rfl rfl rfl ph_ ?_
   | refine sS_ rfl rfl rfl ph_ ?_
   | refine aC rfl rfl rfl rfl ph_ ?_
   | refine aj rfl rfl rfl ?_
   | refine sk0_ rfl rfl ?_
   | (refine dF [0] rfl rfl rfl rfl (R8 (49+65536+65536*i) (X:=l) (n:=i) hn (by omega) (fun x hx=>(hr x hx).2)) rfl (rf1 rfl (kU ⟨(by show 0<1;omega),trivial,trivial⟩)) rfl (j1 (L':=[.row (49+65536+65536*i) (((aI l).map bO).map gC) 1]) rfl) ?_)
   | (refine aM rfl (fun hb=>?_) (fun hb=>?_)<;>(first|exact (fx_ hb).elim|rw [hb]))
   | refine aw_seq ?_
   | refine aw_region au _ rfl ?_
   | refine aw_drawn2 bK _ rfl mixed (by decide +kernel) ?_
   | (refine ah rfl (fun hb=>?_) (fun hb=>?_)<;>(try exact (fx_ hb).elim))
   | refine aw_block ?_
   | refine aw_exit ?_
   | refine aw_ret ?_
   | refine aw_skip ?_)
  exact aO (aR rfl (by trivial) rfl)
theorem Cr {l r:List (List Val)} (H:tq l=some r):Pure Tryz.prog 97 [.one (.lst (l.map (fun x=>[AC.lst (x.map cV)])))] (.val (.one (.lst (r.map (fun x=>[AC.lst (x.map cV)]))))):=by
 unfold tq at H
 cases hk:BM l with
 | false=>rw [hk] at H;cases H
 | true =>
  rw [hk] at H
  obtain rfl:=abH H
  obtain ⟨h1,h2⟩:=Ry hk
  have c1:=Kl l h1 h2
  have e1:((aI l).map bO).map (fun x=>[x])=(aI l).map (fun x=>[AC.lst (x.map cV)]):=by rw [List.map_map];rfl
  rw [e1] at c1
  have c1:Pure Tryz.prog 133 [.one (.lst (l.map (fun x=>[AC.lst (x.map cV)]))), .one (.fn 134 [])] (.val (.one (.lst ((aI l).map (fun x=>[AC.lst (x.map cV)]))))):=c1
  refine pa_ au Tryz.func97 rfl rfl Tryz.ntmps97 (by simp) ?_
  simp only [argT,PV.av,abk,abo]
  exact go_
end Go.Proofs.YtfpbmfalamappaaGreatDoor
namespace Go.Proofs
open Go.Shelf
end Go.Proofs
namespace Go.Proofs.YtfpbmfalamappaaGreatDoor
open Go.RowKit
open Go.RowKit Go.MapKept
set_option maxRecDepth 100000
set_option maxHeartbeats 8000000
set_option maxHeartbeats 8000000
noncomputable section
def xn (a_e:Ex) (a_row:(List Val)):Option (Int):=(uR fuel a_e a_row).bind fun r_1=>(lK r_1).bind fun r_2=>some r_2
theorem Er {a_e:Ex} {a_row:(List Val)} {r:Int} (H:xn a_e a_row=some r):Pure Tryz.prog 70 [.agg (tE a_e), .one (.lst (a_row.map cV))] (.val (.one (.int .i64 r))):=by
 unfold xn at H
 rw [tE_eq a_e]
 refine po_ Tryz.func70 Tryz.ntmps70 ?_
 obtain ⟨r_1,c1,H⟩:=bd_ H
 replace c1:=Ev fuel c1
 try simp only [abm,abk,abo,abd,tE_eq,tP_eq] at c1
 obtain ⟨r_2,c2,H⟩:=bd_ H
 replace c2:=oO c2
 cases H
 exact go_
def mI (a_kinds:(List Int)) (a_rows:(List (List Val))):Option (Bag):=bif (decide (a_kinds.length<=17592186044416)) then ((tq a_rows).bind fun r_1=>some (⟨a_kinds,r_1⟩:Bag)) else none
theorem mq {a_kinds:(List Int)} {a_rows:(List (List Val))} {r:Bag} (H:mI a_kinds a_rows=some r):Pure Tryz.prog 58 [.one (.lst (a_kinds.map (fun x=>[AC.int .i64 x]))), .one (.lst (a_rows.map (fun x=>[AC.lst (x.map cV)])))] (.val (.agg (cBag r))):=by
 unfold mI at H
 refine po_ Tryz.func58 Tryz.ntmps58 ?_
 obtain ⟨g1,H⟩:=aK H
 obtain ⟨r_1,c2,H⟩:=bd_ H
 replace c2:=Cr c2
 cases H
 exact go_
def pW (a_b:Bag) (a_e:Ex):((List (List Val)) × Int)->Option (Step ((List (List Val)) × Int) (Bag)):=fun s=>match s with
 | (out_1,v_2)=>bif (decide (v_2<((a_b.rows.length:Nat):Int))) then (aL a_b.rows v_2).bind fun x_4=>(xn a_e x_4).bind fun r_5=>bif (decide (r_5=(2:Int))) then bif (decide (out_1.length+1<=5864062014805)) then (some (.next ((out_1++[x_4]),(IntKind.i64.wrap (v_2+(1:Int)))))) else none else
 some (.next (out_1,(IntKind.i64.wrap (v_2+(1:Int))))) else
 some (.exit (out_1,v_2))
def pg (a_b:Bag):Sum ((List (List Val)) × Int) (Bag)->Option ((Bag))
 | .inl (out_1,v_2)=>(mI a_b.kinds out_1).bind fun r_7=>some r_7
 | .inr q=>some q
def gFilterS (a_b:Bag) (a_e:Ex):Option (Bag):=(ax (pW a_b a_e) fuel ([],(0:Int))).bind (pg a_b)
theorem gFilterS_ok {a_b:Bag} {a_e:Ex} {r:Bag} (H:gFilterS a_b a_e=some r):Pure Tryz.prog 34 [.agg (cBag a_b), .agg (tE a_e)] (.val (.agg (cBag r))):=by
 unfold gFilterS at H
 rw [tE_eq a_e]
 refine po_ Tryz.func34 Tryz.ntmps34 ?_
 refine bC ?_
 refine dh 5 1 rfl ?_
 refine alM_ (fun s:(List (List Val)) × Int=>match s with|(out_1,v_2)=>[(2, .one (.ptr 0 0)),(3, .one (.ptr 1 0)),(4, .one (.ptr 2 0)),(5, .one (.own (out_1.map (fun x=>[AC.lst (x.map cV)])) 3)),(9, .one (.c (.lst (a_b.rows.map (fun x=>[AC.lst (x.map cV)]))))),(10, .one (.c (.int .i64 ((a_b.rows.length:Nat):Int)))),(11, .one (.c (.int .i64 v_2)))]) (fun s=>match s with|(out_1,v_2)=>[.box [.c (.lst (a_b.kinds.map (fun x=>[AC.int .i64 x]))), .c (.lst (a_b.rows.map (fun x=>[AC.lst (x.map cV)])))], .box [.c (.int .i64 a_e.op), .c (.int .i64 a_e.int), .c (.int .i64 a_e.v.kind), .c (.int .i64 a_e.v.int), .c (.str a_e.v.text), .c (.str a_e.nm), .c (.lst (a_e.args.map tE))], .box [.emp, .emp], .spare out_1.length 1]) H (fun _=>abv _)
  (fm_ bV [] rfl bE dw) ?_
 rintro ⟨out_1,v_2⟩ st1 hb1 hk1
 unfold pW at hb1
 dsimp only at hb1 ⊢
 rcases cnd_ hb1 with ⟨q_3,hb1⟩|⟨q_3,hb1⟩
 ·obtain ⟨x_4,i1z,i1,i1x,hb1⟩:=aX (f:=(fun x=>[AC.lst (x.map cV)])) hb1
  obtain ⟨r_5,c2,hb1⟩:=bd_ hb1
  replace c2:=Er c2
  try simp only [abm,abk,abo,abd,tE_eq,tP_eq] at c2
  rcases cnd_ hb1 with ⟨q_6,hb1⟩|⟨q_6,hb1⟩
  ·obtain ⟨g3,hb1⟩:=aK hb1
   cases hb1
   refine bC ?_
   exact ⟨_,rfl,fm_ o8 [] kJ bE dw⟩
  cases hb1
  refine bC ?_
  exact ⟨_,rfl,fm_ o8 [] kJ bE dw⟩
 cases hb1
 have hx1:pg a_b (.inl (out_1,v_2))=some _:=hk1
 unfold pg at hx1
 dsimp only at hx1
 obtain ⟨r_7,c4,hx1⟩:=bd_ hx1
 replace c4:=mq c4
 cases hx1
 exact go_
def lm (a_l:(List Ex)) (a_kinds:(List Int)):((List Int) × Int)->Option (Step ((List Int) × Int) ((List Int) × Int)):=fun s=>match s with
 | (out_1,v_2)=>bif (decide (v_2<((a_l.length:Nat):Int))) then (aL a_l v_2).bind fun x_4=>(IE x_4 a_kinds).bind fun r_5=>bif (decide (r_5.2≠(0:Int))) then some (.ret ([],r_5.2)) else
 bif (decide (r_5.1=(0:Int))) then some (.ret ([],(7:Int))) else
 bif (decide (out_1.length+1<=17592186044416)) then (some (.next ((out_1++[r_5.1]),(IntKind.i64.wrap (v_2+(1:Int)))))) else none else
 some (.exit (out_1,v_2))
def jQ:Sum ((List Int) × Int) ((List Int) × Int)->Option (((List Int) × Int))
 | .inl (out_1,v_2)=>some (out_1,(0:Int))
 | .inr q=>some q
def KP (a_l:(List Ex)) (a_kinds:(List Int)):Option ((List Int) × Int):=(ax (lm a_l a_kinds) fuel ([],(0:Int))).bind (jQ)
theorem RO {a_l:(List Ex)} {a_kinds:(List Int)} {r:(List Int) × Int} (H:KP a_l a_kinds=some r):Pure Tryz.prog 73 [.one (.lst (a_l.map tE)), .one (.lst (a_kinds.map (fun x=>[AC.int .i64 x])))] (.tup [.one (.lst (r.1.map (fun x=>[AC.int .i64 x]))), .one (.int .i64 r.2)]):=by
 unfold KP at H
 refine po_ Tryz.func73 Tryz.ntmps73 ?_
 refine bC ?_
 refine dh 6 1 rfl ?_
 refine alM_ (fun s:(List Int) × Int=>match s with|(out_1,v_2)=>[(1, .one (.c (.lst (a_kinds.map (fun x=>[AC.int .i64 x]))))),(6, .one (.own (out_1.map (fun x=>[AC.int .i64 x])) 0)),(11, .one (.c (.lst (a_l.map tE)))),(12, .one (.c (.int .i64 ((a_l.length:Nat):Int)))),(13, .one (.c (.int .i64 v_2)))]) (fun s=>match s with|(out_1,v_2)=>[.spare out_1.length 1]) H (fun _=>abv _)
  (fm_ bV [] rfl bE dw) ?_
 rintro ⟨out_1,v_2⟩ st1 hb1 hk1
 unfold lm at hb1
 dsimp only at hb1 ⊢
 rcases cnd_ hb1 with ⟨q_3,hb1⟩|⟨q_3,hb1⟩
 ·obtain ⟨x_4,i1z,i1,i1x,hb1⟩:=aX (f:=tE) hb1
  simp only [abm,abk,abo,abd,tE_eq] at i1x
  obtain ⟨r_5,c2,hb1⟩:=bd_ hb1
  replace c2:=U5 c2
  try simp only [abm,abk,abo,abd,tE_eq,tP_eq] at c2
  rcases cnd_ hb1 with ⟨q_6,hb1⟩|⟨q_6,hb1⟩
  ·cases hb1
   have hx1:jQ (.inr ([],r_5.2))=some _:=hk1
   unfold jQ at hx1
   dsimp only at hx1
   cases hx1
   exact go_
  rcases cnd_ hb1 with ⟨q_7,hb1⟩|⟨q_7,hb1⟩
  ·cases hb1
   have hx1:jQ (.inr ([],(7:Int)))=some _:=hk1
   unfold jQ at hx1
   dsimp only at hx1
   cases hx1
   exact go_
  obtain ⟨g3,hb1⟩:=aK hb1
  cases hb1
  refine bC ?_
  exact ⟨_,rfl,fm_ o8 [_] kJ bE dw⟩
 cases hb1
 have hx1:jQ (.inl (out_1,v_2))=some _:=hk1
 unfold jQ at hx1
 dsimp only at hx1
 cases hx1
 exact go_
def kg (a_l:(List Ex)) (x_4:(List Val)):((List Val) × Int)->Option (Step ((List Val) × Int) (Bag)):=fun s=>match s with
 | (next_5,v_6)=>bif (decide (v_6<((a_l.length:Nat):Int))) then (aL a_l v_6).bind fun x_8=>(uR fuel x_8 x_4).bind fun r_9=>bif (decide (next_5.length+1<=4398046511104)) then (some (.next ((next_5++[r_9]),(IntKind.i64.wrap (v_6+(1:Int)))))) else none else
 some (.exit (next_5,v_6))
def m_ (out_1:(List (List Val))) (v_2:Int):Sum ((List Val) × Int) (Bag)->Option (Step ((List (List Val)) × Int) (Bag))
 | .inl (next_5,v_6)=>bif (decide (out_1.length+1<=5864062014805)) then (some (.next ((out_1++[next_5]),(IntKind.i64.wrap (v_2+(1:Int)))))) else none
 | .inr q=>some (.ret q)
def mX (a_b:Bag) (a_l:(List Ex)):((List (List Val)) × Int)->Option (Step ((List (List Val)) × Int) (Bag)):=fun s=>match s with
 | (out_1,v_2)=>bif (decide (v_2<((a_b.rows.length:Nat):Int))) then (aL a_b.rows v_2).bind fun x_4=>(ax (kg a_l x_4) fuel ([],(0:Int))).bind (m_ out_1 v_2) else
 some (.exit (out_1,v_2))
def nu (a_b:Bag) (a_l:(List Ex)):Sum ((List (List Val)) × Int) (Bag)->Option ((Bag))
 | .inl (out_1,v_2)=>(KP a_l a_b.kinds).bind fun r_10=>(mI r_10.1 out_1).bind fun r_11=>some r_11
 | .inr q=>some q
def gProjectS (a_b:Bag) (a_l:(List Ex)):Option (Bag):=(ax (mX a_b a_l) fuel ([],(0:Int))).bind (nu a_b a_l)
theorem gProjectS_ok {a_b:Bag} {a_l:(List Ex)} {r:Bag} (H:gProjectS a_b a_l=some r):Pure Tryz.prog 36 [.agg (cBag a_b), .one (.lst (a_l.map tE))] (.val (.agg (cBag r))):=by
 unfold gProjectS at H
 refine po_ Tryz.func36 Tryz.ntmps36 ?_
 refine bC ?_
 refine dh 5 1 rfl ?_
 refine alM_ (fun s:(List (List Val)) × Int=>match s with|(out_1,v_2)=>[(1, .one (.c (.lst (a_l.map tE)))),(2, .one (.ptr 0 0)),(4, .one (.ptr 1 0)),(5, .one (.own (out_1.map (fun x=>[AC.lst (x.map cV)])) 2)),(14, .one (.c (.lst (a_b.rows.map (fun x=>[AC.lst (x.map cV)]))))),(15, .one (.c (.int .i64 ((a_b.rows.length:Nat):Int)))),(16, .one (.c (.int .i64 v_2)))]) (fun s=>match s with|(out_1,v_2)=>[.box [.c (.lst (a_b.kinds.map (fun x=>[AC.int .i64 x]))), .c (.lst (a_b.rows.map (fun x=>[AC.lst (x.map cV)])))], .box [.emp, .emp], .spare out_1.length 1]) H (fun _=>abv _)
  (fm_ bV [] rfl bE dw) ?_
 rintro ⟨out_1,v_2⟩ st3 hb3 hk3
 unfold mX at hb3
 dsimp only at hb3 ⊢
 rcases cnd_ hb3 with ⟨q_3,hb3⟩|⟨q_3,hb3⟩
 ·obtain ⟨x_4,i1z,i1,i1x,hb3⟩:=aX (f:=(fun x=>[AC.lst (x.map cV)])) hb3
  refine bC ?_
  refine dh 8 3 rfl ?_
  refine alM_ (fun s:(List Val) × Int=>match s with|(next_5,v_6)=>[(1, .one (.c (.lst (a_l.map tE)))),(2, .one (.ptr 0 0)),(4, .one (.ptr 1 0)),(5, .one (.own (out_1.map (fun x=>[AC.lst (x.map cV)])) 2)),(7, .one (.c (.lst (x_4.map cV)))),(8, .one (.own (next_5.map cV) 3)),(14, .one (.c (.lst (a_b.rows.map (fun x=>[AC.lst (x.map cV)]))))),(15, .one (.c (.int .i64 ((a_b.rows.length:Nat):Int)))),(16, .one (.c (.int .i64 v_2))),(20, .one (.c (.lst (a_l.map tE)))),(21, .one (.c (.int .i64 ((a_l.length:Nat):Int)))),(22, .one (.c (.int .i64 v_6)))]) (fun s=>match s with|(next_5,v_6)=>[.box [.c (.lst (a_b.kinds.map (fun x=>[AC.int .i64 x]))), .c (.lst (a_b.rows.map (fun x=>[AC.lst (x.map cV)])))], .box [.emp, .emp], .spare out_1.length 1, .spare next_5.length 3]) hb3 (fun _=>abv _)
   (fm_ bV [] rfl bE dw) ?_
  rintro ⟨next_5,v_6⟩ st4 hb4 hk4
  unfold kg at hb4
  dsimp only at hb4 ⊢
  rcases cnd_ hb4 with ⟨q_7,hb4⟩|⟨q_7,hb4⟩
  ·obtain ⟨x_8,i2z,i2,i2x,hb4⟩:=aX (f:=tE) hb4
   simp only [abm,abk,abo,abd,tE_eq] at i2x
   obtain ⟨r_9,c3,hb4⟩:=bd_ hb4
   replace c3:=Ev fuel c3
   try simp only [abm,abk,abo,abd,tE_eq,tP_eq] at c3
   obtain ⟨g4,hb4⟩:=aK hb4
   cases hb4
   refine bC ?_
   exact ⟨_,rfl,fm_ o8 [_] kJ bE dw⟩
  cases hb4
  have hx4:m_ out_1 v_2 (.inl (next_5,v_6))=some _:=hk4
  unfold m_ at hx4
  dsimp only at hx4
  obtain ⟨g5,hx4⟩:=aK hx4
  cases hx4
  refine bC ?_
  exact ⟨_,rfl,fm_ o8 [_] kJ bE dw⟩
 cases hb3
 have hx3:nu a_b a_l (.inl (out_1,v_2))=some _:=hk3
 unfold nu at hx3
 dsimp only at hx3
 obtain ⟨r_10,c6,hx3⟩:=bd_ hx3
 replace c6:=RO c6
 obtain ⟨r_11,c7,hx3⟩:=bd_ hx3
 replace c7:=mq c7
 cases hx3
 exact go_
end
set_option maxHeartbeats 8000000
noncomputable section
def nK (a_e:Ex) (a_row:(List Val)):Option (Int):=(jc fuel a_e a_row).bind fun r_1=>(iq r_1).bind fun r_2=>some r_2
theorem AA {a_e:Ex} {a_row:(List Val)} {r:Int} (H:nK a_e a_row=some r):Pure Tryz.prog 71 [.agg (tE a_e), .one (.lst (a_row.map cV))] (.val (.one (.int .i64 r))):=by
 unfold nK at H
 rw [tE_eq a_e]
 refine po_ Tryz.func71 Tryz.ntmps71 ?_
 obtain ⟨r_1,c1,H⟩:=bd_ H
 replace c1:=Bu fuel c1
 try simp only [abm,abk,abo,abd,tE_eq,tP_eq] at c1
 obtain ⟨r_2,c2,H⟩:=bd_ H
 replace c2:=lw c2
 cases H
 exact go_
def sH (a_l:(List Ex)) (a_row:(List Val)):((List Val) × Int)->Option (Step ((List Val) × Int) ((List Val))):=fun s=>match s with
 | (out_1,i_2)=>bif (decide (i_2<((a_l.length:Nat):Int))) then (aL a_l i_2).bind fun x_4=>(jc fuel x_4 a_row).bind fun r_5=>bif (decide (out_1.length+1<=4398046511104)) then (some (.next ((out_1++[r_5]),(IntKind.i64.wrap (i_2+(1:Int)))))) else none else
 some (.exit (out_1,i_2))
def yG:Sum ((List Val) × Int) ((List Val))->Option (((List Val)))
 | .inl (out_1,i_2)=>some out_1
 | .inr q=>some q
def zN (a_l:(List Ex)) (a_row:(List Val)):Option ((List Val)):=(ax (sH a_l a_row) fuel ([],(0:Int))).bind (yG)
theorem Oj {a_l:(List Ex)} {a_row:(List Val)} {r:(List Val)} (H:zN a_l a_row=some r):Pure Tryz.prog 74 [.one (.lst (a_l.map tE)), .one (.lst (a_row.map cV))] (.val (.one (.lst (r.map cV)))):=by
 unfold zN at H
 refine po_ Tryz.func74 Tryz.ntmps74 ?_
 refine bC ?_
 refine dh 5 3 rfl ?_
 refine alM_ (fun s:(List Val) × Int=>match s with|(out_1,i_2)=>[(0, .one (.c (.lst (a_l.map tE)))),(1, .one (.c (.lst (a_row.map cV)))),(5, .one (.own (out_1.map cV) 0)),(6, .one (.c (.int .i64 i_2)))]) (fun s=>match s with|(out_1,i_2)=>[.spare out_1.length 3]) H (fun _=>abv _)
  (fm_ bV [] rfl bE dw) ?_
 rintro ⟨out_1,i_2⟩ st1 hb1 hk1
 unfold sH at hb1
 dsimp only at hb1 ⊢
 rcases cnd_ hb1 with ⟨q_3,hb1⟩|⟨q_3,hb1⟩
 ·obtain ⟨x_4,i1z,i1,i1x,hb1⟩:=aX (f:=tE) hb1
  simp only [abm,abk,abo,abd,tE_eq] at i1x
  obtain ⟨r_5,c2,hb1⟩:=bd_ hb1
  replace c2:=Bu fuel c2
  try simp only [abm,abk,abo,abd,tE_eq,tP_eq] at c2
  obtain ⟨g3,hb1⟩:=aK hb1
  cases hb1
  refine bC ?_
  exact ⟨_,rfl,fm_ o8 [] kJ bE dw⟩
 cases hb1
 have hx1:yG (.inl (out_1,i_2))=some _:=hk1
 unfold yG at hx1
 dsimp only at hx1
 cases hx1
 exact go_
def mP (a_b:Bag) (a_e:Ex):((List (List Val)) × Int)->Option (Step ((List (List Val)) × Int) (Bag)):=fun s=>match s with
 | (c_1,i_2)=>bif (decide (i_2<((a_b.rows.length:Nat):Int))) then (aL a_b.rows i_2).bind fun x_4=>(nK a_e x_4).bind fun r_5=>bif (decide (r_5=(2:Int))) then bif (decide (c_1.length+1<=5864062014805)) then (some (.next ((c_1++[x_4]),(IntKind.i64.wrap (i_2+(1:Int)))))) else none else
 some (.next (c_1,(IntKind.i64.wrap (i_2+(1:Int))))) else
 some (.exit (c_1,i_2))
def mW (a_b:Bag):Sum ((List (List Val)) × Int) (Bag)->Option ((Bag))
 | .inl (c_1,i_2)=>(ku c_1).bind fun r_7=>some (⟨a_b.kinds,r_7⟩:Bag)
 | .inr q=>some q
def gFilter21 (a_b:Bag) (a_e:Ex):Option (Bag):=(ax (mP a_b a_e) fuel ([],(0:Int))).bind (mW a_b)
theorem gFilter21_ok {a_b:Bag} {a_e:Ex} {r:Bag} (H:gFilter21 a_b a_e=some r):Pure Tryz.prog 35 [.agg (cBag a_b), .agg (tE a_e)] (.val (.agg (cBag r))):=by
 unfold gFilter21 at H
 rw [tE_eq a_e]
 refine po_ Tryz.func35 Tryz.ntmps35 ?_
 refine bC ?_
 refine nI 3 1 1 rfl rfl ?_
 refine alM_ (fun s:(List (List Val)) × Int=>match s with|(c_1,i_2)=>[(2, .one (.ptr 0 0)),(3, .one (.ptr 1 0)),(4, .one (.ptr 2 0)),(5, .one (.ptr 3 0)),(6, .one (.c (.int .i64 i_2)))]) (fun s=>match s with|(c_1,i_2)=>[.box [.c (.lst (a_b.kinds.map (fun x=>[AC.int .i64 x]))), .c (.lst (a_b.rows.map (fun x=>[AC.lst (x.map cV)])))], .box [.c (.int .i64 a_e.op), .c (.int .i64 a_e.int), .c (.int .i64 a_e.v.kind), .c (.int .i64 a_e.v.int), .c (.str a_e.v.text), .c (.str a_e.nm), .c (.lst (a_e.args.map tE))], .box [.emp, .emp], .box [.c (.lst (a_b.kinds.map (fun x=>[AC.int .i64 x]))), .own (c_1.map (fun x=>[AC.lst (x.map cV)])) 4], .spare c_1.length 1]) H (fun _=>abv _)
  (fm_ bV [] rfl bE dw) ?_
 rintro ⟨c_1,i_2⟩ st1 hb1 hk1
 unfold mP at hb1
 dsimp only at hb1 ⊢
 rcases cnd_ hb1 with ⟨q_3,hb1⟩|⟨q_3,hb1⟩
 ·obtain ⟨x_4,i1z,i1,i1x,hb1⟩:=aX (f:=(fun x=>[AC.lst (x.map cV)])) hb1
  obtain ⟨r_5,c2,hb1⟩:=bd_ hb1
  replace c2:=AA c2
  try simp only [abm,abk,abo,abd,tE_eq,tP_eq] at c2
  rcases cnd_ hb1 with ⟨q_6,hb1⟩|⟨q_6,hb1⟩
  ·obtain ⟨g3,hb1⟩:=aK hb1
   cases hb1
   refine bC ?_
   exact ⟨_,rfl,fm_ bV [] kJ bE dw⟩
  cases hb1
  refine bC ?_
  exact ⟨_,rfl,fm_ bV [] kJ bE dw⟩
 cases hb1
 have hx1:mW a_b (.inl (c_1,i_2))=some _:=hk1
 unfold mW at hx1
 dsimp only at hx1
 obtain ⟨r_7,c4,hx1⟩:=bd_ hx1
 replace c4:=fH c4
 cases hx1
 exact go_
def lH (a_b:Bag) (a_l:(List Ex)):((List (List Val)) × Int)->Option (Step ((List (List Val)) × Int) (Bag)):=fun s=>match s with
 | (c_2,i_3)=>bif (decide (i_3<((a_b.rows.length:Nat):Int))) then (aL a_b.rows i_3).bind fun x_5=>(zN a_l x_5).bind fun r_6=>bif (decide (c_2.length+1<=5864062014805)) then (some (.next ((c_2++[r_6]),(IntKind.i64.wrap (i_3+(1:Int)))))) else none else
 some (.exit (c_2,i_3))
def lF (r_1:(List Int) × Int):Sum ((List (List Val)) × Int) (Bag)->Option ((Bag))
 | .inl (c_2,i_3)=>(ku c_2).bind fun r_7=>some (⟨r_1.1,r_7⟩:Bag)
 | .inr q=>some q
def gProject21 (a_b:Bag) (a_l:(List Ex)):Option (Bag):=(gProj21 a_b.kinds a_l).bind fun r_1=>(ax (lH a_b a_l) fuel ([],(0:Int))).bind (lF r_1)
theorem gProject21_ok {a_b:Bag} {a_l:(List Ex)} {r:Bag} (H:gProject21 a_b a_l=some r):Pure Tryz.prog 37 [.agg (cBag a_b), .one (.lst (a_l.map tE))] (.val (.agg (cBag r))):=by
 unfold gProject21 at H
 refine po_ Tryz.func37 Tryz.ntmps37 ?_
 obtain ⟨r_1,c1,H⟩:=bd_ H
 replace c1:=gProj21_ok c1
 refine bC ?_
 refine nI 2 1 1 rfl rfl ?_
 refine alM_ (fun s:(List (List Val)) × Int=>match s with|(c_2,i_3)=>[(1, .one (.c (.lst (a_l.map tE)))),(2, .one (.ptr 0 0)),(4, .one (.ptr 1 0)),(7, .one (.ptr 2 0)),(8, .one (.c (.int .i64 i_3)))]) (fun s=>match s with|(c_2,i_3)=>[.box [.c (.lst (a_b.kinds.map (fun x=>[AC.int .i64 x]))), .c (.lst (a_b.rows.map (fun x=>[AC.lst (x.map cV)])))], .box [.emp, .emp], .box [.c (.lst (r_1.1.map (fun x=>[AC.int .i64 x]))), .own (c_2.map (fun x=>[AC.lst (x.map cV)])) 3], .spare c_2.length 1]) H (fun _=>abv _)
  (fm_ bV [] rfl bE dw) ?_
 rintro ⟨c_2,i_3⟩ st1 hb1 hk1
 unfold lH at hb1
 dsimp only at hb1 ⊢
 rcases cnd_ hb1 with ⟨q_4,hb1⟩|⟨q_4,hb1⟩
 ·obtain ⟨x_5,i2z,i2,i2x,hb1⟩:=aX (f:=(fun x=>[AC.lst (x.map cV)])) hb1
  obtain ⟨r_6,c3,hb1⟩:=bd_ hb1
  replace c3:=Oj c3
  obtain ⟨g4,hb1⟩:=aK hb1
  cases hb1
  refine bC ?_
  exact ⟨_,rfl,fm_ bV [] kJ bE dw⟩
 cases hb1
 have hx1:lF r_1 (.inl (c_2,i_3))=some _:=hk1
 unfold lF at hx1
 dsimp only at hx1
 obtain ⟨r_7,c5,hx1⟩:=bd_ hx1
 replace c5:=fH c5
 cases hx1
 exact go_
def fB (r_1:(List (List Val))):((List (List Val)) × Int)->Option (Step ((List (List Val)) × Int) ((List (List Val)))):=fun s=>match s with
 | (out_2,i_3)=>bif (decide (i_3<((r_1.length:Nat):Int))) then bif (decide (i_3=(0:Int))) then (aL r_1 i_3).bind fun x_6=>bif (decide (out_2.length+1<=5864062014805)) then (some (.next ((out_2++[x_6]),(IntKind.i64.wrap (i_3+(1:Int)))))) else none else
 (aL r_1 (IntKind.i64.wrap (i_3-(1:Int)))).bind fun x_7=>(aL r_1 i_3).bind fun x_8=>(gU x_7 x_8).bind fun r_9=>bif (!r_9) then bif (decide (out_2.length+1<=5864062014805)) then (some (.next ((out_2++[x_8]),(IntKind.i64.wrap (i_3+(1:Int)))))) else none else
 some (.next (out_2,(IntKind.i64.wrap (i_3+(1:Int))))) else
 some (.exit (out_2,i_3))
def qh:Sum ((List (List Val)) × Int) ((List (List Val)))->Option (((List (List Val))))
 | .inl (out_2,i_3)=>some out_2
 | .inr q=>some q
def oP (a_l:(List (List Val))):Option ((List (List Val))):=(ku a_l).bind fun r_1=>(ax (fB r_1) fuel ([],(0:Int))).bind (qh)
theorem Il {a_l:(List (List Val))} {r:(List (List Val))} (H:oP a_l=some r):Pure Tryz.prog 22 [.one (.lst (a_l.map (fun x=>[AC.lst (x.map cV)])))] (.val (.one (.lst (r.map (fun x=>[AC.lst (x.map cV)]))))):=by
 unfold oP at H
 refine po_ Tryz.func22 Tryz.ntmps22 ?_
 obtain ⟨r_1,c1,H⟩:=bd_ H
 replace c1:=fH c1
 refine bC ?_
 refine dh 4 1 rfl ?_
 refine alM_ (fun s:(List (List Val)) × Int=>match s with|(out_2,i_3)=>[(3, .one (.c (.lst (r_1.map (fun x=>[AC.lst (x.map cV)]))))),(4, .one (.own (out_2.map (fun x=>[AC.lst (x.map cV)])) 0)),(5, .one (.c (.int .i64 i_3)))]) (fun s=>match s with|(out_2,i_3)=>[.spare out_2.length 1]) H (fun _=>abv _)
  (fm_ bV [] rfl bE dw) ?_
 rintro ⟨out_2,i_3⟩ st1 hb1 hk1
 unfold fB at hb1
 dsimp only at hb1 ⊢
 rcases cnd_ hb1 with ⟨q_4,hb1⟩|⟨q_4,hb1⟩
 ·rcases cnd_ hb1 with ⟨q_5,hb1⟩|⟨q_5,hb1⟩
  ·obtain ⟨x_6,i2z,i2,i2x,hb1⟩:=aX (f:=(fun x=>[AC.lst (x.map cV)])) hb1
   obtain ⟨g3,hb1⟩:=aK hb1
   cases hb1
   refine bC ?_
   exact ⟨_,rfl,fm_ o8 [] kJ bE dw⟩
  obtain ⟨x_7,i4z,i4,i4x,hb1⟩:=aX (f:=(fun x=>[AC.lst (x.map cV)])) hb1
  obtain ⟨x_8,i5z,i5,i5x,hb1⟩:=aX (f:=(fun x=>[AC.lst (x.map cV)])) hb1
  obtain ⟨r_9,c6,hb1⟩:=bd_ hb1
  replace c6:=oN c6
  rcases cnd_ hb1 with ⟨q_10,hb1⟩|⟨q_10,hb1⟩
  ·obtain ⟨g7,hb1⟩:=aK hb1
   cases hb1
   refine bC ?_
   exact ⟨_,rfl,fm_ o8 [] kJ bE dw⟩
  cases hb1
  refine bC ?_
  exact ⟨_,rfl,fm_ o8 [] kJ bE dw⟩
 cases hb1
 have hx1:qh (.inl (out_2,i_3))=some _:=hk1
 unfold qh at hx1
 dsimp only at hx1
 cases hx1
 exact go_
def gDistinct21 (a_b:Bag):Option (Bag):=(oP a_b.rows).bind fun r_1=>some (⟨a_b.kinds,r_1⟩:Bag)
theorem gDistinct21_ok {a_b:Bag} {r:Bag} (H:gDistinct21 a_b=some r):Pure Tryz.prog 39 [.agg (cBag a_b)] (.val (.agg (cBag r))):=by
 unfold gDistinct21 at H
 refine po_ Tryz.func39 Tryz.ntmps39 ?_
 obtain ⟨r_1,c1,H⟩:=bd_ H
 replace c1:=Il c1
 cases H
 exact go_
def iM (a_b:Bag):(Int)->Option (Step (Int) (Bool)):=fun s=>match s with
 | i_1=>bif (decide (i_1<((a_b.rows.length:Nat):Int))) then (aL a_b.rows i_1).bind fun x_3=>(vW x_3 a_b.kinds).bind fun r_4=>bif (!r_4) then some (.ret false) else
 some (.next (IntKind.i64.wrap (i_1+(1:Int)))) else
 some (.exit i_1)
def gF (a_b:Bag):Sum (Int) (Bool)->Option ((Bool))
 | .inl i_1=>bif (decide ((0:Int)<((a_b.kinds.length:Nat):Int))) then bif (decide (((a_b.kinds.length:Nat):Int)<=(48:Int))) then (Ej a_b.kinds).bind fun r_8=>some r_8 else
 some false else
 some false
 | .inr q=>some q
def Ab (a_b:Bag):Option (Bool):=(ax (iM a_b) fuel (0:Int)).bind (gF a_b)
theorem LC {a_b:Bag} {r:Bool} (H:Ab a_b=some r):Pure Tryz.prog 52 [.agg (cBag a_b)] (.val (.one (.bool r))):=by
 unfold Ab at H
 refine po_ Tryz.func52 Tryz.ntmps52 ?_
 refine bC ?_
 refine alM_ (fun s:Int=>match s with|i_1=>[(1, .one (.ptr 0 0)),(3, .one (.c (.int .i64 i_1)))]) (fun s=>match s with|i_1=>[.box [.c (.lst (a_b.kinds.map (fun x=>[AC.int .i64 x]))), .c (.lst (a_b.rows.map (fun x=>[AC.lst (x.map cV)])))]]) H (fun _=>abv _)
  (fm_ bV [] rfl bE dw) ?_
 rintro i_1 st1 hb1 hk1
 unfold iM at hb1
 dsimp only at hb1 ⊢
 rcases cnd_ hb1 with ⟨q_2,hb1⟩|⟨q_2,hb1⟩
 ·obtain ⟨x_3,i1z,i1,i1x,hb1⟩:=aX (f:=(fun x=>[AC.lst (x.map cV)])) hb1
  obtain ⟨r_4,c2,hb1⟩:=bd_ hb1
  replace c2:=Rl c2
  rcases cnd_ hb1 with ⟨q_5,hb1⟩|⟨q_5,hb1⟩
  ·cases hb1
   have hx1:gF a_b (.inr false)=some _:=hk1
   unfold gF at hx1
   dsimp only at hx1
   cases hx1
   exact go_
  cases hb1
  refine bC ?_
  exact ⟨_,rfl,fm_ bV [] rfl bE dw⟩
 cases hb1
 have hx1:gF a_b (.inl i_1)=some _:=hk1
 unfold gF at hx1
 dsimp only at hx1
 rcases cnd_ hx1 with ⟨q_6,hx1⟩|⟨q_6,hx1⟩
 ·rcases cnd_ hx1 with ⟨q_7,hx1⟩|⟨q_7,hx1⟩
  ·obtain ⟨r_8,c3,hx1⟩:=bd_ hx1
   replace c3:=Rt c3
   cases hx1
   exact go_
  cases hx1
  exact go_
 cases hx1
 exact go_
def gFew21 (a_b:Bag) (a_most:Int):Option (Bool):=bif (decide (((a_b.rows.length:Nat):Int)<=a_most)) then bif (decide (((a_b.kinds.length:Nat):Int)<=(48:Int))) then (Ab a_b).bind fun r_3=>some r_3 else
 some false else
 some false
theorem gFew21_ok {a_b:Bag} {a_most:Int} {r:Bool} (H:gFew21 a_b a_most=some r):Pure Tryz.prog 15 [.agg (cBag a_b), .one (.int .i64 a_most)] (.val (.one (.bool r))):=by
 unfold gFew21 at H
 refine po_ Tryz.func15 Tryz.ntmps15 ?_
 rcases cnd_ H with ⟨q_1,H⟩|⟨q_1,H⟩
 ·rcases cnd_ H with ⟨q_2,H⟩|⟨q_2,H⟩
  ·obtain ⟨r_3,c1,H⟩:=bd_ H
   replace c1:=LC c1
   cases H
   exact go_
  cases H
  exact go_
 cases H
 exact go_
def gSlight (a_l:(List Ex)):Option (Bool):=(Gq a_l (200:Int)).bind fun r_1=>some r_1
theorem gSlight_ok {a_l:(List Ex)} {r:Bool} (H:gSlight a_l=some r):Pure Tryz.prog 31 [.one (.lst (a_l.map tE))] (.val (.one (.bool r))):=by
 unfold gSlight at H
 refine po_ Tryz.func31 Tryz.ntmps31 ?_
 obtain ⟨r_1,c1,H⟩:=bd_ H
 replace c1:=Sy c1
 cases H
 exact go_
end
def Im (e:Ex) (row:List Val):Val:=(jc fuel e row).getD gH
theorem val_ok {e:Ex} (h:gY fuel e) (row:List Val):jc fuel e row=some (Im e row)/\uR fuel e row=some (Im e row)/\vF (Im e row)=true:=by
 obtain ⟨v,h1,h2,h3⟩:=I6 row fuel e h
 unfold Im
 rw [h1];exact ⟨rfl,h2,h3⟩
def gm (e:Ex) (row:List Val):Bool:=decide (tF_ (Im e row)=2)
theorem Fq {e:Ex} (h:gY fuel e) (row:List Val):xn e row=some (tF_ (Im e row)):=by
 unfold xn
 rw [(val_ok h row).2.1,aa8,jH];rfl
theorem z_ {e:Ex} (h:gY fuel e) (row:List Val):nK e row=some (tF_ (Im e row)):=by
 unfold nK
 rw [(val_ok h row).1,aa8,og];rfl
theorem yD {e:Ex} (kinds:List Int) (h:gY fuel e) : ∃ n,gPred21 e kinds=some n:=by
 obtain ⟨c,c1,_⟩:=M5 kinds h
 unfold gPred21
 rw [c1,aa8]
 cases decide (c.2≠0)<;>cases decide (c.1≠3)<;>cases decide (c.1≠0)<;>exact ⟨_,rfl⟩
def nV (e:Ex) (kinds:List Int):Int × Int:=(wF e kinds).getD (0,0)
theorem UT {e:Ex} (kinds:List Int) (h:gY fuel e):wF e kinds=some (nV e kinds)/\IE e kinds=some (nV e kinds):=by
 obtain ⟨c,c1,c2⟩:=M5 kinds h
 unfold nV
 rw [c1];exact ⟨rfl,c2⟩
theorem JM {kinds:List Int} {l:List Ex} (hl:l.length<=100000) (he : ∀ e∈l,gY fuel e) : ∀ (n i:Nat) (s:List Int),s.length=i->i<=l.length->l.length-i<n -> ∃ p,(ax (cO kinds l) n (s,(i:Int))).bind gM=some p/\(p.2=0->p.1=s++(l.drop i).map (fun e=>(nV e kinds).1))
 | 0,i,s,_,_,h=>by omega
 | n+1,i,s,hs,hi,hn=>by
  rw [ax]
  by_cases hlt:i<l.length
  ·obtain ⟨x,hx⟩:=gol_ hlt
   have hc:=(UT kinds (he x (abe hx))).1
   by_cases h0:(nV x kinds).2=0
   ·by_cases h1:(nV x kinds).1=0
    ·have hb:cO kinds l (s,(i:Int))=some (.ret ([],7)):=by
      unfold cO
      dsimp only
      rw [aY hx,aa',gn_ hx,aa8,hc,aa8,aba (show ¬ (nV x kinds).2≠0 by omega),aa_,abb h1,aa']
     rw [hb]
     exact ⟨_,rfl,fun h=>absurd (show (7:Int)=0 from h) (by decide)⟩
    ·have hb:cO kinds l (s,(i:Int))=some (.next (s++[(nV x kinds).1],((i+1:Nat):Int))):=by
      unfold cO
      dsimp only
      rw [aY hx,aa',gn_ hx,aa8,hc,aa8,aba (show ¬ (nV x kinds).2≠0 by omega),aa_,aba h1,aa_,abb (by omega),aa',wrapN (by omega)]
     rw [hb]
     obtain ⟨p,p1,p2⟩:=JM hl he n (i+1) (s++[(nV x kinds).1]) (by rw [abg,hs];rfl) (by omega) (by omega)
     refine ⟨p,p1,fun h=>?_⟩
     rw [p2 h,abG hlt,(aa9.1 hx).2,abk,abB];rfl
   ·have hb:cO kinds l (s,(i:Int))=some (.ret ([],(nV x kinds).2)):=by
     unfold cO
     dsimp only
     rw [aY hx,aa',gn_ hx,aa8,hc,aa8,abb (show (nV x kinds).2≠0 from h0),aa']
    rw [hb]
    exact ⟨_,rfl,fun h=>absurd h h0⟩
  ·have:i=l.length:=by omega
   subst this
   have hb:cO kinds l (s,((l.length:Nat):Int))=some (.exit (s,((l.length:Nat):Int))):=by
    unfold cO
    dsimp only
    rw [lF_,aa_]
   rw [hb]
   exact ⟨_,rfl,fun _=>by rw [ab1];simp⟩
def Cy (l:List Ex) (kinds:List Int):List Int:=l.map fun e=>(nV e kinds).1
theorem CF {kinds:List Int} {l:List Ex} (hl:l.length<=100000) (he : ∀ e∈l,gY fuel e) : ∃ p,gProj21 kinds l=some p/\(p.2=0->p.1=Cy l kinds):=by
 obtain ⟨p,p1,p2⟩:=JM (kinds:=kinds) hl he fuel 0 [] rfl (abv _) (by unfold fuel;omega)
 exact ⟨p,p1,p2⟩
def NA (l:List Ex) (row:List Val):List Val:=l.map fun e=>Im e row
theorem OM {l:List Ex} (hl:l.length<=100000) (he : ∀ e∈l,gY fuel e) (row:List Val):zN l row=some (NA l row):=by
 unfold zN
 rw [eu (l:=l) (fun e=>[Im e row]) 4398046511104 ?_ ?_ (by unfold fuel;omega) [] (by rw [fo_];simp;omega)]
 ·rw [aa8,abd,fo_];rfl
 ·intro s i x hx hs
  have hi:=(aa9.1 hx).1
  unfold sH
  dsimp only
  rw [aY hx,aa',gn_ hx,aa8,(val_ok (he x (abe hx)) row).1,aa8,wrapN (by omega),abb (show s.length+1<=4398046511104 from hs),aa']
 ·intro s
  unfold sH
  dsimp only
  rw [lF_,aa_]
theorem O9 {row:List Val} {kinds:List Int} (hk:kinds.length<=1000000) : ∃ b,vW row kinds=some b/\(b=true->row.length=kinds.length /\ ∀ v∈row,vF v=true):=by
 by_cases he:row.length=kinds.length
 ·obtain ⟨b,hb⟩:=R7 row kinds (by omega)
  refine ⟨b,hb,fun hbt=>⟨he,?_⟩⟩
  subst hbt
  unfold vW at hb
  rw [show decide (((row.length:Nat):Int)≠((kinds.length:Nat):Int))=false from aba (by omega),aa_] at hb
  have key : ∀ (n i:Nat),i<=row.length->row.length-i<n->(ax (iP row kinds) n (i:Int)).bind jW=some true -> ∀ v∈row.drop i,vF v=true:=by
   intro n
   induction n with
   | zero=>intro i _ h;omega
   | succ n ih =>
    intro i hi hn hb v hv
    rw [ax] at hb
    by_cases hlt:i<row.length
    ·obtain ⟨x,hx⟩:=gol_ hlt
     obtain ⟨k,hk⟩:=gol_ (l:=kinds) (i:=i) (by omega)
     have h1:iP row kinds (i:Int)=bif (!vF x) then some (.ret false) else bif decide (x.kind≠0) then bif decide (x.kind≠k) then some (.ret false) else some (.next ((i+1:Nat):Int)) else some (.next ((i+1:Nat):Int)):=by
      unfold iP
      dsimp only
      rw [aY hx,aa',gn_ hx,gn_ hk]
      simp only [aa8]
      rw [jJ,aa8,wrapN (by omega)]
     have hd:row.drop i=x::row.drop (i+1):=by rw [abG hlt,(aa9.1 hx).2]
     rw [hd] at hv
     cases hvx:vF x with
     | false=>rw [h1,hvx] at hb;exact absurd (show (some false:Option Bool)=some true from hb) (by decide)
     | true =>
      have h2:iP row kinds (i:Int)=some (.next ((i+1:Nat):Int)):=by
       rw [h1,hvx,Bool.not_true,aa_]
       cases c1:decide (x.kind≠0) with
       | false=>rfl
       | true =>
        cases c2:decide (x.kind≠k) with
        | false=>rfl
        | true=>rw [h1,hvx,Bool.not_true,aa_,c1,c2] at hb;exact absurd (show (some false:Option Bool)=some true from hb) (by decide)
      rw [h2] at hb
      rcases abq.1 hv with rfl|hv
      ·exact hvx
      ·exact ih (i+1) (by omega) (by omega) hb v hv
    ·rw [List.drop_eq_nil_of_le (by omega)] at hv;cases hv
  exact fun v hv=>key fuel 0 (abv _) (by unfold fuel;omega) hb v (by rw [List.drop_zero];exact hv)
 ·refine ⟨false,?_,fun h=>by cases h⟩
  unfold vW
  rw [show decide (((row.length:Nat):Int)≠((kinds.length:Nat):Int))=true from abb (by omega)];rfl
structure ym (n:Nat) (b:Bag):Prop where
 len:b.rows.length<=n
 pos:0<b.kinds.length
 kinds:b.kinds.length<=48
 row : ∀ r∈b.rows,r.length=b.kinds.length
 val : ∀ r∈b.rows, ∀ v∈r,vF v=true
theorem KC {b:Bag} (hl:b.rows.length<=1000) (hk:b.kinds.length<=48) : ∃ c,Ab b=some c/\(c=true->0<b.kinds.length /\ ∀ r∈b.rows,r.length=b.kinds.length /\ ∀ v∈r,vF v=true):=by
 have key : ∀ (n i:Nat),i<=b.rows.length->b.rows.length-i<n -> ∃ c,(ax (iM b) n (i:Int)).bind (gF b)=some c/\(c=true->0<b.kinds.length /\ ∀ r∈b.rows.drop i,r.length=b.kinds.length /\ ∀ v∈r,vF v=true):=by
  intro n
  induction n with
  | zero=>intro i _ h;omega
  | succ n ih =>
   intro i hi hn
   rw [ax]
   by_cases hlt:i<b.rows.length
   ·obtain ⟨x,hx⟩:=gol_ hlt
    have hd:b.rows.drop i=x::b.rows.drop (i+1):=by rw [abG hlt,(aa9.1 hx).2]
    obtain ⟨c,hc,hc2⟩:=O9 (row:=x) (kinds:=b.kinds) (by omega)
    have h1:iM b (i:Int)=bif !c then some (.ret false) else some (.next ((i+1:Nat):Int)):=by
     unfold iM
     dsimp only
     rw [aY hx,aa',gn_ hx,aa8,hc,aa8,wrapN (by omega)]
    rw [h1]
    cases c with
    | false=>exact ⟨false,rfl,fun h=>by cases h⟩
    | true =>
     obtain ⟨d,hd1,hd2⟩:=ih (i+1) (by omega) (by omega)
     refine ⟨d,hd1,fun h=>⟨(hd2 h).1,fun r hr=>?_⟩⟩
     rw [hd] at hr
     rcases abq.1 hr with rfl|hr
     ·exact hc2 rfl
     ·exact (hd2 h).2 r hr
   ·have:i=b.rows.length:=by omega
    subst this
    have h1:iM b ((b.rows.length:Nat):Int)=some (.exit ((b.rows.length:Nat):Int)):=by
     unfold iM
     dsimp only
     rw [lF_,aa_]
    rw [h1]
    obtain ⟨c,hc⟩:=Rf b.kinds (by omega)
    have : ∃ d,gF b (.inl ((b.rows.length:Nat):Int))=some d/\(d=true->0<b.kinds.length):=by
     unfold gF
     dsimp only
     rw [hc]
     by_cases h0:0<b.kinds.length
     ·cases decide ((0:Int)<((b.kinds.length:Nat):Int))<;>cases decide (((b.kinds.length:Nat):Int)<=48)<;>exact ⟨_,rfl,fun _=>h0⟩
     ·rw [aba (show ¬ (0:Int)<((b.kinds.length:Nat):Int) by omega)]
      exact ⟨false,rfl,fun h=>by cases h⟩
    obtain ⟨d,hd,hd2⟩:=this
    refine ⟨d,hd,fun h=>⟨hd2 h,fun f hf=>?_⟩⟩
    rw [ab1] at hf;cases hf
 obtain ⟨c,hc,hc2⟩:=key fuel 0 (abv _) (by unfold fuel;omega)
 refine ⟨c,hc,fun h=>?_⟩
 have:=hc2 h
 rw [List.drop_zero] at this
 exact this
theorem jK (b:Bag) (m:Nat) (hm:m<=1000) : ∃ c,gFew21 b (m:Int)=some c/\(c=true->ym m b):=by
 unfold gFew21
 by_cases h1:b.rows.length<=m
 ·rw [abb (show ((b.rows.length:Nat):Int)<=m by omega),aa']
  by_cases h2:b.kinds.length<=48
  ·rw [abb (show ((b.kinds.length:Nat):Int)<=48 by omega),aa']
   obtain ⟨c,hc,hc2⟩:=KC (b:=b) (by omega) h2
   rw [hc]
   exact ⟨c,rfl,fun h=>⟨h1,(hc2 h).1,h2,fun r hr=>((hc2 h).2 r hr).1,fun r hr=>((hc2 h).2 r hr).2⟩⟩
  ·rw [aba (show ¬ ((b.kinds.length:Nat):Int)<=48 by omega)]
   exact ⟨false,rfl,fun h=>by cases h⟩
 ·rw [aba (show ¬ ((b.rows.length:Nat):Int)<=m by omega)]
  exact ⟨false,rfl,fun h=>by cases h⟩
theorem Kg {b:Bag} {e:Ex} (hl:b.rows.length<=300) (hr : ∀ x∈b.rows,x.length<=1000000) (he:gY fuel e):gFilter21 b e=some ⟨b.kinds,aI (b.rows.filter (gm e))⟩:=by
 unfold gFilter21
 rw [eu (l:=b.rows) (fun x=>if gm e x then [x] else []) 5864062014805 ?_ ?_ (by unfold fuel;omega) [] (by rw [nT];have:=List.length_filter_le (gm e) b.rows;simp only [abF];omega)]
 ·rw [aa8,abd,nT]
  unfold mW
  dsimp only
  rw [fO _ (Nat.le_trans (List.length_filter_le _ _) hl) (fun x hx=>hr x (List.mem_filter.1 hx).1)];rfl
 ·intro s i x hx hs
  have hi:=(aa9.1 hx).1
  unfold mP
  dsimp only
  rw [aY hx,aa',gn_ hx,aa8,z_ he,aa8,wrapN (by omega)]
  show (bif gm e x then _ else _)=_
  cases hc:gm e x with
  | false=>simp
  | true =>
   rw [hc] at hs
   rw [aa',abb (show s.length+1<=5864062014805 from hs)];rfl
 ·intro s
  unfold mP
  dsimp only
  rw [lF_,aa_]
theorem Ip {b:Bag} {l:List Ex} (hn:b.rows.length<=300) (hl:l.length<=48) (he : ∀ e∈l,gY fuel e) (hp:gProj21 b.kinds l=some (Cy l b.kinds,0)):gProject21 b l=some ⟨Cy l b.kinds,aI (b.rows.map (NA l))⟩:=by
 unfold gProject21
 rw [hp,aa8,eu (l:=b.rows) (fun x=>[NA l x]) 5864062014805 ?_ ?_ (by unfold fuel;omega) [] (by rw [fo_];simp;omega)]
 ·rw [aa8,abd,fo_]
  unfold lF
  dsimp only
  rw [fO _ (by rw [abl];exact hn) (fun x hx=>by obtain ⟨y,_,rfl⟩:=abK.1 hx;show (l.map _).length<=_;rw [abl];omega)];rfl
 ·intro s i x hx hs
  have hi:=(aa9.1 hx).1
  unfold lH
  dsimp only
  rw [aY hx,aa',gn_ hx,aa8,OM (by omega) he,aa8,wrapN (by omega),abb (show s.length+1<=5864062014805 from hs),aa']
 ·intro s
  unfold lH
  dsimp only
  rw [lF_,aa_]
set_option maxHeartbeats 8000000
theorem M9 {kinds:List Int} {rows:List (List Val)} (hk:kinds.length<=1000000) (hl:rows.length<=300) (hr : ∀ r∈rows,r≠[]/\r.length<=1000000):mI kinds rows=some ⟨kinds,aI rows⟩:=by
 unfold mI
 rw [abb (show kinds.length<=17592186044416 by omega),aa']
 unfold tq
 rw [Bp hl hr];rfl
theorem pM (l:List Ex) : ∃ b,gSlight l=some b/\(b=true->l.length<=200 /\ ∀ e∈l,gY fuel e):=by
 obtain ⟨b,h1,h2⟩:=R_ l
 refine ⟨b,by unfold gSlight;rw [h1];rfl,fun h=>⟨(h2 h).1,fun e he=>Rz ((h2 h).2 e he)⟩⟩
instance decEqRow : DecidableEq (List Val) := decRow
theorem D8 {l m:List (List Val)} (h1:Asc bD l) (h2:Asc bD m) (h : ∀ r,l.count r=m.count r):l=m:=ol tCr_ h1 h2 (List.perm_iff_count.2 h)
theorem fw (l:List (List Val)) (r:List Val):(aI l).count r=l.count r:=(bn l).count_eq r
def iy (n:List Val->Nat):List (List Val)->List (List Val) × List (List Val)
 | []=>([],[])
 | x::l=>if 0<n x then (x::(iy (fun y=>if y=x then n x-1 else n y) l).1,(iy (fun y=>if y=x then n x-1 else n y) l).2) else ((iy n l).1,x::(iy n l).2)
theorem lC (r:List Val) : ∀ (l:List (List Val)) (n:List Val->Nat),(iy n l).1.count r=min (l.count r) (n r)/\(iy n l).2.count r=l.count r-n r
 | [],n=>by simp [iy]
 | x::l,n=>by
  unfold iy
  by_cases hx:0<n x
  ·rw [if_pos hx]
   have ih:=lC r l (fun y=>if y=x then n x-1 else n y)
   by_cases e:r=x
   ·subst e
    simp only [eq_self,if_true,List.count_cons_self] at ih ⊢
    omega
   ·have e2 : ¬ x=r:=fun h=>e h.symm
    simp only [if_neg e] at ih
    rw [List.count_cons_of_ne e2,List.count_cons_of_ne e2]
    exact ih
  ·rw [if_neg hx]
   have ih:=lC r l n
   by_cases e:r=x
   ·subst e
    simp only [List.count_cons_self]
    omega
   ·have e2 : ¬ x=r:=fun h=>e h.symm
    rw [List.count_cons_of_ne e2,List.count_cons_of_ne e2]
    exact ih
theorem Nz (l:List (List Val)) (n:List Val->Nat):(iy n l).1.length+(iy n l).2.length=l.length:=by
 induction l generalizing n with
 | nil=>rfl
 | cons x l ih =>
  unfold iy
  by_cases hx:0<n x
  ·rw [if_pos hx]
   have:=ih (fun y=>if y=x then n x-1 else n y)
   simp only [abw]
   omega
  ·rw [if_neg hx]
   have:=ih n
   simp only [abw]
   omega
theorem LF (x:List Val) (l:List (List Val)) (n:List Val->Nat):(x∈(iy n l).1->x∈l)/\(x∈(iy n l).2->x∈l):=by
 have h:=lC x l n
 refine ⟨fun hx=>?_,fun hx=>?_⟩
 ·have:=List.count_pos_iff.2 hx
  exact List.count_pos_iff.1 (by omega)
 ·have:=List.count_pos_iff.2 hx
  exact List.count_pos_iff.1 (by omega)
def fF:List (List Val)->List (List Val)->List (List Val)
 | _,[]=>[]
 | seen,x::l=>if x∈seen then fF seen l else x::fF (x::seen) l
theorem jF (r:List Val) : ∀ (l seen:List (List Val)),(fF seen l).count r=if r∈l/\r∉seen then 1 else 0
 | [],seen=>by simp [fF]
 | x::l,seen=>by
  unfold fF
  by_cases hx:x∈seen
  ·rw [if_pos hx,jF r l seen]
   by_cases e:r=x
   ·subst e;simp [hx]
   ·simp [e]
  ·rw [if_neg hx]
   by_cases e:r=x
   ·subst e
    rw [List.count_cons_self,jF r l (r::seen)]
    simp [hx]
   ·have e2 : ¬ x=r:=fun h=>e h.symm
    rw [List.count_cons_of_ne e2,jF r l (x::seen)]
    simp [e]
theorem pU {l:List (List Val)} (h:yc l):l.Nodup:=h.imp fun {a b} hlt e=>by rw [e,tCr_.refl] at hlt;omega
def UC (b:UInt8):Prop:=48<=b.toNat/\b.toNat<=57
theorem J2 {d:Nat} (h:d<10):(UInt8.ofNat (48+d)).toNat=48+d:=by
 rw [UInt8.toNat_ofNat'];omega
theorem je (u:Nat) : ∀ b∈Lib.decDigits u,UC b:=by
 induction u using Nat.strongRecOn with
 | _ u ih =>
  intro b hb
  rw [Lib.decDigits] at hb
  split at hb
  ·rename_i h
   rw [List.mem_singleton.1 hb];unfold UC;rw [J2 h];omega
  ·rename_i h
   rcases abC.1 hb with hb|hb
   ·exact ih (u/10) (by omega) b hb
   ·rw [List.mem_singleton.1 hb];unfold UC;rw [J2 (by omega)];omega
def Ky (l:List UInt8):Nat:=l.foldl (fun a b=>a*10+(b.toNat-48)) 0
theorem MB (l:List UInt8) (b:UInt8):Ky (l++[b])=Ky l*10+(b.toNat-48):=by unfold Ky;rw [List.foldl_append];rfl
theorem yw (u:Nat):Ky (Lib.decDigits u)=u:=by
 induction u using Nat.strongRecOn with
 | _ u ih =>
  rw [Lib.decDigits]
  split
  ·rename_i h
   show 0*10+((UInt8.ofNat (48+u)).toNat-48)=u
   rw [J2 h];omega
  ·rename_i h
   rw [MB,ih (u/10) (by omega),J2 (by omega)];omega
theorem yu {u v:Nat} (h:Lib.decDigits u=Lib.decDigits v):u=v:=by rw [<- yw u,h,yw]
theorem qZ {n m:Int} (h:Lib.itoa n=Lib.itoa m):n=m:=by
 have key : ∀ (a b:Nat),Lib.decDigits a≠45::Lib.decDigits b:=by
  intro a b e
  have:=(je a 45 (by rw [e];simp)).1
  exact absurd this (by decide)
 unfold Lib.itoa at h
 split at h<;>split at h
 ·have:=yu (List.cons.inj h).2;omega
 ·exact absurd h.symm (key _ _)
 ·exact absurd h (key _ _)
 ·have:=yu h;omega
theorem T_ (a b:ByteArray):(a++b).data.toList=a.data.toList++b.data.toList:=by simp
def dK:ByteArray:=⟨#[58]⟩
def eX (l:List Val):ByteArray:=l.foldl (fun a v=>a++dG v.kind++dK++dG v.int++dK++dG v.text.size++dK++v.text) ⟨#[]⟩
theorem D9 : ∀ (a b x y:List UInt8),(58:UInt8)∉a->(58:UInt8)∉b->a++58::x=b++58::y->a=b/\x=y
 | [],[],x,y,_,_,h=>by simpa using h
 | [],c::b,x,y,_,hb,h=>by
  simp at h
  exact absurd h.1.symm (fun e=>hb (by rw [e];simp))
 | c::a,[],x,y,ha,_,h=>by
  simp at h
  exact absurd h.1 (fun e=>ha (by rw [e];simp))
 | c::a,d::b,x,y,ha,hb,h=>by
  simp at h
  obtain ⟨h1,h2⟩:=D9 a b x y (fun q=>ha (aby _ q)) (fun q=>hb (aby _ q)) h.2
  exact ⟨by rw [h.1,h1],h2⟩
theorem nM (n:Int):(58:UInt8)∉Lib.itoa n:=by
 intro h
 unfold Lib.itoa at h
 split at h
 ·rcases abq.1 h with h|h
  ·exact absurd h (by decide)
  ·have:=(je _ _ h).2;exact absurd this (by decide)
 ·have:=(je _ _ h).2;exact absurd this (by decide)
def Au (v:Val):List UInt8:=Lib.itoa v.kind++58::(Lib.itoa v.int++58::(Lib.itoa v.text.size++58::v.text.data.toList))
def yf (l:List Val):List UInt8:=l.flatMap Au
theorem JJ (l:List Val):(eX l).data.toList=yf l:=by
 have : ∀ (l:List Val) (a:ByteArray),(l.foldl (fun a v=>a++dG v.kind++dK++dG v.int++dK++dG v.text.size++dK++v.text) a).data.toList=a.data.toList++yf l:=by
  intro l
  induction l with
  | nil=>intro a;simp [yf]
  | cons v l ih =>
   intro a
   rw [abX,ih]
   have e1 : ∀ n,(dG n).data.toList=Lib.itoa n:=fun n=>rfl
   have e2:dK.data.toList=[58]:=rfl
   simp only [T_,e1,e2,yf,abN,Au,abB,List.cons_append,abd]
 have:=this l ⟨#[]⟩
 simpa [eX] using this
theorem NS {v w:Val} {x y:List UInt8} (h:Au v++x=Au w++y):v=w/\x=y:=by
 unfold Au at h
 simp only [abB,List.cons_append] at h
 obtain ⟨h1,h⟩:=D9 _ _ _ _ (nM _) (nM _) h
 obtain ⟨h2,h⟩:=D9 _ _ _ _ (nM _) (nM _) h
 obtain ⟨h3,h⟩:=D9 _ _ _ _ (nM _) (nM _) h
 have h3:=qZ h3
 have hs:v.text.data.toList.length=w.text.data.toList.length:=by
  have e : ∀ s:ByteArray,s.data.toList.length=s.size:=fun s=>rfl
  rw [e,e];omega
 obtain ⟨h4,h5⟩:=List.append_inj h hs
 refine ⟨?_,h5⟩
 obtain ⟨a,b,⟨⟨c⟩⟩⟩:=v
 obtain ⟨a',b',⟨⟨c'⟩⟩⟩:=w
 simp only at h1 h2 h4
 rw [qZ h1,qZ h2,h4]
theorem Jk : ∀ (a b:List Val),yf a=yf b->a=b
 | [],[],_=>rfl
 | [],w::b,h=>by
  have:=congrArg List.length h
  simp [yf,Au] at this
 | v::a,[],h=>by
  have:=congrArg List.length h
  simp [yf,Au] at this
 | v::a,w::b,h=>by
  have h':Au v++yf a=Au w++yf b:=h
  obtain ⟨h1,h2⟩:=NS h'
  rw [h1,Jk a b h2]
theorem vO {a b:List Val} (h:eX a=eX b):a=b:=Jk a b (by rw [<- JJ, <- JJ,h])
section
variable {α:Type}
def qO (e:α->AC) (M:List (ByteArray × α)):List (AC × AV):=M.map fun p=>(.str p.1, .one (.c (e p.2)))
def o9 (z:α):List (ByteArray × α)->ByteArray->α
 | [],_=>z
 | p::r,s=>if s=p.1 then p.2 else o9 z r s
def yN:List (ByteArray × α)->ByteArray->α->List (ByteArray × α)
 | [],s,n=>[(s,n)]
 | p::r,s,n=>if s=p.1 then (s,n)::r else p::yN r s n
theorem I1 (e:α->AC) (M:List (ByteArray × α)):strKeys (qO e M):=by intro p hp;obtain ⟨q,_,rfl⟩:=abK.1 hp;exact ⟨q.1,rfl⟩
theorem N_ (e:α->AC) (z:α) (s:ByteArray) : ∀ (M:List (ByteArray × α)),(iR s (qO e M)=none/\o9 z M s=z /\ ∀ n,yN M s n=M++[(s,n)])\/(∃ i p,iR s (qO e M)=some i/\M[i]?=some p/\o9 z M s=p.2 /\ ∀ n,yN M s n=M.set i (s,n))
 | [] => .inl ⟨rfl,rfl,fun _=>rfl⟩
 | p::r=>by
  have hk:iR s (qO e (p::r))=if s=p.1 then some 0 else (iR s (qO e r)).map (· + 1):=rfl
  by_cases h:s=p.1
  ·exact .inr ⟨0,p,by rw [hk,if_pos h],rfl,by simp [o9,h],fun n=>by simp [yN,h]⟩
  ·rcases N_ e z s r with ⟨h1,h2,h3⟩|⟨i,q,h1,h2,h3,h4⟩
   ·exact .inl ⟨by rw [hk,if_neg h,h1];rfl,by simp [o9,h,h2],fun n=>by simp [yN,h,h3]⟩
   ·exact .inr ⟨i+1,q,by rw [hk,if_neg h,h1];rfl,by simpa using h2,by simp [o9,h,h3],fun n=>by simp [yN,h,h4]⟩
theorem XB (e:α->AC) (z:α) (M:List (ByteArray × α)) (s:ByteArray):qB (qO e M) s (.one (.c (e z))) = .one (.c (e (o9 z M s))):=by
 unfold qB
 rcases N_ e z s M with ⟨h1,h2,_⟩|⟨i,p,h1,h2,h3,_⟩
 ·rw [h1,h2]
 ·have:(qO e M)[i]?=some (.str p.1, .one (.c (e p.2))):=by unfold qO;rw [abx,h2];rfl
  rw [h1];simp only [this];rw [h3]
theorem Xj (e:α->AC) (z:α) (M:List (ByteArray × α)) (s:ByteArray) (n:α):DI (qO e M) s (.one (.c (e n)))=qO e (yN M s n):=by
 unfold DI
 rcases N_ e z s M with ⟨h1,_,h3⟩|⟨i,p,h1,h2,_,h4⟩
 ·rw [h1,h3];simp [qO]
 ·rw [h1,h4];unfold qO;rw [List.map_set]
theorem zk (e:α->AC) (n:Nat) (M:List (ByteArray × α)):(Ob.map (qO e M)).below n:=by
 intro p hp;obtain ⟨q,_,rfl⟩:=abK.1 hp;trivial
theorem Nl {P:Program} {ti:TI} {ρ:Operand->Option AV} {L:List Ob} {t:TypeId} {kt et:TypeId} {x k:Operand} {s:ByteArray} {id:Nat} (e:α->AC) (z:α) {M:List (ByteArray × α)} (hti:TIok P ti) (hx:ρ x=some (.one (.mp id))) (hk:ρ k=some (.one (.c (.str s)))) (hL:L[id]?=some (.map (qO e M)))
  (ht:ti.kind t=some (.map kt et)) (hkt:ti.kind kt=some .string) (hz:ti.zero et=some (.one (.c (e z)))):rX P ρ L (.lookup t x k false) (.one (.c (e (o9 z M s)))) L:=by
 have:=yE (P:=P) hx hk hL (I1 e M) (hti.kind _ _ ht) (hti.kind _ _ hkt) (hti.zero _ _ hz)
 rw [XB] at this
 exact this
theorem Vi {P:Program} {ti:TI} {ρ:Operand->Option AV} {L:List Ob} {t:TypeId} {kt et:TypeId} {x k y:Operand} {s:ByteArray} {id:Nat} (e:α->AC) {n:α} {M:List (ByteArray × α)} (hti:TIok P ti) (hx:ρ x=some (.one (.mp id))) (hk:ρ k=some (.one (.c (.str s)))) (hy:ρ y=some (.one (.c (e n)))) (hL:L[id]?=some (.map (qO e M)))
  (ht:ti.kind t=some (.map kt et)) (hkt:ti.kind kt=some .string):rX P ρ L (.mapUpdate t x k y) .undef (L.set id (.map (qO e (yN M s n)))):=by
 have:=qp (P:=P) hx hk hy hL (I1 e M) (hti.kind _ _ ht) (hti.kind _ _ hkt)
 rw [Xj e n] at this
 exact this
theorem LY (z:α) (s t:ByteArray) (n:α) : ∀ (M:List (ByteArray × α)),o9 z (yN M s n) t=if t=s then n else o9 z M t
 | []=>by by_cases h:t=s<;>simp [yN,o9,h]
 | p::r=>by
  unfold yN
  by_cases h:s=p.1
  ·rw [if_pos h]
   by_cases h2:t=s
   ·simp [o9,h2]
   ·have : ¬ t=p.1:=fun e=>h2 (e.trans h.symm)
    simp [o9,h2,this]
  ·rw [if_neg h]
   have ih:=LY z s t n r
   by_cases h2:t=p.1
   ·have : ¬ t=s:=fun e=>h (e.symm.trans h2)
    simp [o9,h2,this]
    intro e;exact absurd e.symm h
   ·simp only [o9,h2,if_false,ih]
end
structure YQ where
 M:List (ByteArray × Bool)
 O:List (List Val)
def Hd (s:YQ) (r:List Val):YQ:=bif o9 false s.M (eX r) then s else ⟨yN s.M (eX r) true,s.O++[r]⟩
def dst (a:List (List Val)):YQ:=a.foldl Hd ⟨[],[]⟩
theorem TN (a:List (List Val)) (r:List Val):dst (a++[r])=Hd (dst a) r:=by unfold dst;rw [List.foldl_append];rfl
theorem EX : ∀ (a seen:List (List Val)) (s:YQ),(∀ r,o9 false s.M (eX r)=decide (r∈seen))->(a.foldl Hd s).O=s.O++fF seen a
 | [],seen,s,h=>by simp [fF]
 | x::a,seen,s,h=>by
  have e0:Hd s x=bif o9 false s.M (eX x) then s else ⟨yN s.M (eX x) true,s.O++[x]⟩:=rfl
  rw [abX,e0,h x]
  unfold fF
  by_cases hx:x∈seen
  ·rw [abb hx,aa',if_pos hx]
   exact EX a seen s h
  ·rw [aba hx,aa_,if_neg hx,EX a (x::seen) _ (fun r=>?_)]
   ·simp
   ·show o9 false (yN s.M (eX x) true) (eX r)=_
    rw [LY]
    by_cases e:r=x
    ·subst e
     rw [if_pos rfl];simp
    ·rw [if_neg (fun q=>e (vO q)),h r]
     simp [e]
theorem Kz (a:List (List Val)):(dst a).O=fF [] a:=by
 have:=EX a [] ⟨[],[]⟩ (fun r=>by simp [o9])
 rw [abd] at this
 exact this
theorem DK (a:List (List Val)):(dst a).O.length<=a.length:=by
 have : ∀ (a:List (List Val)) (s:YQ),(a.foldl Hd s).O.length<=s.O.length+a.length:=by
  intro a
  induction a with
  | nil=>intro s;simp
  | cons x a ih =>
   intro s
   rw [abX]
   have h1:=ih (Hd s x)
   have h2:(Hd s x).O.length<=s.O.length+1:=by
    unfold Hd
    cases o9 false s.M (eX x)<;>simp
   rw [abw];omega
 have:=this a ⟨[],[]⟩
 simpa [dst] using this
end Go.Proofs.YtfpbmfalamappaaGreatDoor
