/- Parts of the proof, joined. No condition. -/
import Derived.Test.YtlcceppoloaecaaGreatDoorKAA
import Derived.Test.YtlcceppoloaecaaGreatDoorKBI
import Derived.Test.YtlcceppoloaecaaGreatDoorKBN
import Derived.Test.YtlcceppoloaecaaGreatDoorKBO
import Derived.Test.YtlcceppoloaecaaGreatDoorKBH
import Derived.Test.YtlcceppoloaecaaGreatDoorKBJ
import Derived.Test.YtlcceppoloaecaaGreatDoorKBG
import Derived.Test.YtlcceppoloaecaaGreatDoorKAJ
import Derived.Test.YtlcceppoloaecaaGreatDoorKBM
set_option linter.unusedSimpArgs false
set_option linter.unusedVariables false
namespace Go.Proofs.YtlcceppoloaecaaGreatDoor
open Go.RowKit Go.MapKept
set_option maxRecDepth 100000
set_option maxHeartbeats 8000000
theorem aeb {rec:Nat->List aa->Int->Int->Int->(aa->aa->Option Int)->Option (List aa)} {n:Nat}  (hrec : ∀ {n:Nat} {X:List aa} {a m b:Int} {cmp:aa->aa->Option Int} {v:Nat} {F_a_cmp:FuncId} {caps_a_cmp:List AC} (hf_a_cmp : ∀ (y0:aa) (y1:aa) (r:Int),cmp y0 y1=some r->Pure Tryz.prog F_a_cmp ([.agg (ah y0), .agg (ah y1)]++caps_a_cmp.map .one) (.val (.one (.int .i64 r)))) {r:List aa}, rec n X a m b cmp=some r->Run Tryz.prog 277 [dV ah 2 v X] [.one (.sl 0 v 0 n), .one (.c (.int .i64 a)), .one (.c (.int .i64 m)), .one (.c (.int .i64 b)), .one (.c (.fn F_a_cmp caps_a_cmp))] [dV ah 2 v r] (.tup [])) {a_data:(List aa)} {a_a:Int} {a_m:Int} {a_b:Int} {a_cmp:aa->aa->Option (Int)} {v:Nat} {r:List aa} {F_a_cmp:FuncId} {caps_a_cmp:List AC} (hf_a_cmp : ∀ (y0:aa) (y1:aa) (r:Int),a_cmp y0 y1=some r->Pure Tryz.prog F_a_cmp ([.agg (ah y0), .agg (ah y1)]++caps_a_cmp.map .one) (.val (.one (.int .i64 r)))) (H:zX rec n a_data a_a a_m a_b a_cmp=some r):Run Tryz.prog 277 [dV ah 2 v a_data] [.one (.sl 0 v 0 n), .one (.c (.int .i64 a_a)), .one (.c (.int .i64 a_m)), .one (.c (.int .i64 a_b)), .one (.c (.fn F_a_cmp caps_a_cmp))] [dV ah 2 v r] (.tup []):=by
 rcases hq0:(decide ((IntKind.i64.wrap (a_m-a_a))=(1:Int))) with _|_
 ·rcases hq1:(decide ((IntKind.i64.wrap (a_b-a_m))=(1:Int))) with _|_
  ·rcases hq2:(decide ((df (IntKind.i64.wrap (a_a+a_b)))<a_m)) with _|_
   ·exact Zz hrec hf_a_cmp hq0 hq1 hq2 H
   ·exact aa3 hrec hf_a_cmp hq0 hq1 hq2 H
  ·exact Zv hrec hf_a_cmp hq0 hq1 H
 ·exact aaX hrec hf_a_cmp hq0 H
theorem Ql : ∀ (q:Nat) {n:Nat} {X:List aa} {a m b:Int} {cmp:aa->aa->Option Int} {v:Nat} {F_a_cmp:FuncId} {caps_a_cmp:List AC} (hf_a_cmp : ∀ (y0:aa) (y1:aa) (r:Int),cmp y0 y1=some r->Pure Tryz.prog F_a_cmp ([.agg (ah y0), .agg (ah y1)]++caps_a_cmp.map .one) (.val (.one (.int .i64 r)))) {r:List aa}, Mq q n X a m b cmp=some r->Run Tryz.prog 277 [dV ah 2 v X] [.one (.sl 0 v 0 n), .one (.c (.int .i64 a)), .one (.c (.int .i64 m)), .one (.c (.int .i64 b)), .one (.c (.fn F_a_cmp caps_a_cmp))] [dV ah 2 v r] (.tup [])
 | 0,_,_,_,_,_,_,_,_,_,_,_,h=>nomatch h
 | q+1,_,_,_,_,_,_,_,_,_,hf,_,h=>aeb (Ql q) hf h
theorem YP {n:Nat}  {a_data:(List aa)} {a_n:Int} {a_cmp:aa->aa->Option (Int)} {v:Nat} {r:List aa} {F_a_cmp:FuncId} {caps_a_cmp:List AC} (hf_a_cmp : ∀ (y0:aa) (y1:aa) (r:Int),a_cmp y0 y1=some r->Pure Tryz.prog F_a_cmp ([.agg (ah y0), .agg (ah y1)]++caps_a_cmp.map .one) (.val (.one (.int .i64 r)))) (H:Ih n a_data a_n a_cmp=some r):Run Tryz.prog 254 [dV ah 2 v a_data] [.one (.sl 0 v 0 n), .one (.c (.int .i64 a_n)), .one (.c (.fn F_a_cmp caps_a_cmp))] [dV ah 2 v r] (.tup []):=by
 unfold Ih at H
 refine bP aj Tryz.func254 rfl rfl Tryz.ntmps254 (by simp) ?_
 simp only [iH]
 refine DF ?_
 refine alM_ (fun s:(List aa) × Int × Int=>match s with|(c_1,a_2,b_3)=>[(0, .one (.sl 0 v 0 n)),(1, .one (.c (.int .i64 a_n))),(2, .one (.c (.fn F_a_cmp caps_a_cmp))),(6, .one (.c (.int .i64 (20:Int)))),(7, .one (.c (.int .i64 a_2))),(8, .one (.c (.int .i64 b_3)))]) (fun s=>match s with|(c_1,a_2,b_3)=>[dV ah 2 v c_1]) H (fun _=>aqe _)
  (fm_ bY [] rfl bA ⟨bq _ _ _ _ _,trivial⟩) ?_
 rintro ⟨c_1,a_2,b_3⟩ st1 hb1 hk1
 unfold l8 at hb1
 dsimp only at hb1 ⊢
 rcases af hb1 with ⟨q_4,hb1⟩|⟨q_4,hb1⟩
 ·obtain ⟨c_5,c1,hb1⟩:=bd_ hb1
  replace c1:=Gp (v:=v) (caps_a_cmp:=caps_a_cmp) hf_a_cmp c1
  cases hb1
  refine DF ?_
  exact ⟨_,rfl,fm_ bY [] rfl bA ⟨bq _ _ _ _ _,trivial⟩⟩
 cases hb1
 have hx1:zw a_n a_cmp n (.inl (c_1,a_2,b_3))=some _:=hk1
 unfold zw at hx1
 dsimp only at hx1
 obtain ⟨c_6,c2,hx1⟩:=bd_ hx1
 replace c2:=Gp (v:=v) (caps_a_cmp:=caps_a_cmp) hf_a_cmp c2
 refine DF ?_
 refine alM_ (fun s:(List aa) × Int=>match s with|(c_7,blockSize_8)=>[(0, .one (.sl 0 v 0 n)),(1, .one (.c (.int .i64 a_n))),(2, .one (.c (.fn F_a_cmp caps_a_cmp))),(6, .one (.c (.int .i64 blockSize_8)))]) (fun s=>match s with|(c_7,blockSize_8)=>[dV ah 2 v c_7]) hx1 (fun _=>aqe _)
  (fm_ bY [] rfl bA ⟨bq _ _ _ _ _,trivial⟩) ?_
 rintro ⟨c_7,blockSize_8⟩ st4 hb4 hk4
 unfold lZ at hb4
 dsimp only at hb4 ⊢
 rcases af hb4 with ⟨q_9,hb4⟩|⟨q_9,hb4⟩
 ·refine DF ?_
  refine alM_ (fun s:(List aa) × Int × Int=>match s with|(c_10,a_11,b_12)=>[(0, .one (.sl 0 v 0 n)),(1, .one (.c (.int .i64 a_n))),(2, .one (.c (.fn F_a_cmp caps_a_cmp))),(6, .one (.c (.int .i64 blockSize_8))),(7, .one (.c (.int .i64 a_11))),(8, .one (.c (.int .i64 b_12)))]) (fun s=>match s with|(c_10,a_11,b_12)=>[dV ah 2 v c_10]) hb4 (fun _=>aqe _)
   (fm_ bY [] rfl bA ⟨bq _ _ _ _ _,trivial⟩) ?_
  rintro ⟨c_10,a_11,b_12⟩ st5 hb5 hk5
  unfold mG at hb5
  dsimp only at hb5 ⊢
  rcases af hb5 with ⟨q_13,hb5⟩|⟨q_13,hb5⟩
  ·obtain ⟨c_14,c3,hb5⟩:=bd_ hb5
   replace c3:=Ql fuel (v:=v) (caps_a_cmp:=caps_a_cmp) hf_a_cmp c3
   cases hb5
   refine DF ?_
   exact ⟨_,rfl,fm_ bY [] rfl bA ⟨bq _ _ _ _ _,trivial⟩⟩
  cases hb5
  have hx5:yP a_n a_cmp n blockSize_8 (.inl (c_10,a_11,b_12))=some _:=hk5
  unfold yP at hx5
  dsimp only at hx5
  rcases af hx5 with ⟨q_15,hx5⟩|⟨q_15,hx5⟩
  ·obtain ⟨c_16,c4,hx5⟩:=bd_ hx5
   replace c4:=Ql fuel (v:=v) (caps_a_cmp:=caps_a_cmp) hf_a_cmp c4
   cases hx5
   refine DF ?_
   exact ⟨_,rfl,fm_ bY [] rfl bA ⟨bq _ _ _ _ _,trivial⟩⟩
  cases hx5
  refine DF ?_
  exact ⟨_,rfl,fm_ bY [] rfl bA ⟨bq _ _ _ _ _,trivial⟩⟩
 cases hb4
 have hx4:E8 (.inl (c_7,blockSize_8))=some _:=hk4
 unfold E8 at hx4
 dsimp only at hx4
 cases hx4
 exact mY
theorem Yf {n:Nat}  {a_x:(List aa)} {a_cmp:aa->aa->Option (Int)} {v:Nat} {r:List aa} {F_a_cmp:FuncId} {caps_a_cmp:List AC} (hf_a_cmp : ∀ (y0:aa) (y1:aa) (r:Int),a_cmp y0 y1=some r->Pure Tryz.prog F_a_cmp ([.agg (ah y0), .agg (ah y1)]++caps_a_cmp.map .one) (.val (.one (.int .i64 r)))) (H:Gw n a_x a_cmp=some r):Run Tryz.prog 238 [dV ah 2 v a_x] [.one (.sl 0 v 0 n), .one (.c (.fn F_a_cmp caps_a_cmp))] [dV ah 2 v r] (.tup []):=by
 unfold Gw at H
 refine bP aj Tryz.func238 rfl rfl Tryz.ntmps238 (by simp) ?_
 simp only [iH]
 obtain ⟨c_1,c1,H⟩:=bd_ H
 replace c1:=YP (v:=v) (caps_a_cmp:=caps_a_cmp) hf_a_cmp c1
 cases H
 exact mY
theorem Yq {s:ByteArray} : ∀ {G:List bV}, iQ s G=none -> ∀ g∈G,s≠eQ g.f.row
 | [],_,_,h=>by cases h
 | g0::G,h,g,hg=>by
  unfold iQ at h
  by_cases e:s=eQ g0.f.row
  ·rw [if_pos e] at h;cases h
  ·rw [if_neg e] at h
   cases hr:iQ s G with
   | none =>
    rcases aqf.1 hg with rfl|hg
    ·exact e
    ·exact Yq hr g hg
   | some j=>rw [hr] at h;cases h
theorem agJ {G:List bV} (h:G.Pairwise fun a b=>eQ a.f.row≠eQ b.f.row) (f:aC):(jK G f).Pairwise fun a b=>eQ a.f.row≠eQ b.f.row:=by
 unfold jK
 cases aD f.valid with
 | false=>exact h
 | true =>
  rw [ap2]
  cases hf:iQ (eQ f.row) G with
  | none =>
   show (G++[(⟨f,[f.valid]⟩:bV)]).Pairwise _
   refine List.pairwise_append.2 ⟨h,by simp,fun a ha b hb=>?_⟩
   rw [aqF.1 hb]
   exact fun e=>Yq hf a ha e.symm
  | some i =>
   show (match G[i]? with|some g=>G.set i (⟨g.f,g.ps++[f.valid]⟩:bV)|none=>G).Pairwise _
   cases hg:G[i]? with
   | none=>exact h
   | some g =>
    show (G.set i (⟨g.f,g.ps++[f.valid]⟩:bV)).Pairwise _
    have hk:(G.set i (⟨g.f,g.ps++[f.valid]⟩:bV)).map (fun a=>eQ a.f.row)=G.map fun a=>eQ a.f.row:=by
     rw [List.map_set]
     have:(G.map fun a=>eQ a.f.row)[i]?=some (eQ g.f.row):=by rw [aql,hg];rfl
     apply List.ext_getElem?
     intro j
     by_cases e:i=j
     ·subst e
      have hlt:=(ap0.1 this).1
      rw [aqh hlt,this]
     ·rw [aqi e]
    have hp : ∀ l:List bV,(l.map fun a=>eQ a.f.row).Pairwise (fun a b=>a≠b)↔l.Pairwise fun a b=>eQ a.f.row≠eQ b.f.row:=fun l=>List.pairwise_map
    rw [<- hp,hk,hp]
    exact h
theorem ag6 (l:List aC):(fK l).Pairwise fun a b=>eQ a.f.row≠eQ b.f.row:=by
 have : ∀ (l:List aC) (G:List bV),(G.Pairwise fun a b=>eQ a.f.row≠eQ b.f.row)->(l.foldl jK G).Pairwise fun a b=>eQ a.f.row≠eQ b.f.row:=by
  intro l
  induction l with
  | nil=>intro G h;exact h
  | cons f l ih=>intro G h;exact ih _ (agJ h f)
 exact this l [] List.Pairwise.nil
theorem afD (l:List aC):((fK l).map fun g=>(⟨g.f.row,g.ps⟩:aa)).Pairwise fun a b=>a.row≠b.row:=by
 rw [List.pairwise_map]
 refine (ag6 l).imp ?_
 intro a b h e
 exact h (by show eQ a.f.row=eQ b.f.row;rw [show a.f.row=b.f.row from e])
def ajx (a b:aa):Bool:=decide (jO a b<0)
theorem ah7 {α:Type} {R:α->α->Prop} (hs : ∀ a b,R a b->R b a) : ∀ {l:List α}, l.Pairwise R -> ∀ a∈l, ∀ b∈l,a≠b->R a b
 | [],_,a,ha,_,_,_=>by cases ha
 | x::l,h,a,ha,b,hb,hne=>by
  obtain ⟨h1,h2⟩:=aqV.1 h
  rcases aqf.1 ha with ea|ha
  ·rcases aqf.1 hb with eb|hb
   ·exact absurd (ea.trans eb.symm) hne
   ·rw [ea];exact h1 b hb
  ·rcases aqf.1 hb with eb|hb
   ·rw [eb];exact hs _ _ (h1 a ha)
   ·exact ah7 hs h2 a ha b hb hne
theorem af2 {X:List aa} (hd:X.Pairwise fun a b=>a.row≠b.row):He ajx (fun x=>x∈X):=by
 refine ⟨fun x _=>?_,fun x y z _ _ _ h1 h2=>?_,fun x y hx hy h1 h2=>?_⟩
 ·unfold ajx jO
  rw [tCr_.refl];rfl
 ·exact ap4 (tCr_.trans _ _ _ (aqs h1) (aqs h2))
 ·have h1 : ¬ cO x.row y.row<0:=of_decide_eq_false h1
  have h2 : ¬ cO y.row x.row<0:=of_decide_eq_false h2
  have hz:cO x.row y.row=0:=by
   have:=tCr_.anti x.row y.row
   have:=tCr_.anti y.row x.row
   omega
  have hrow:=tCr_.zero _ _ hz
  refine Classical.byContradiction fun hne=>?_
  exact ah7 (R:=fun a b:aa=>a.row≠b.row) (fun _ _ h e=>h e.symm) hd x hx y hy hne hrow
theorem abu (X:List aa):gP ajx (sN jO X):=by
 refine (Tz (c:=jO) (fun a b d h1 h2=>?_) (fun a b h=>?_) X).imp ?_
 ·have:=tCr_.anti
  by_cases e1:cO a.row b.row=0
  ·have:=tCr_.zero _ _ e1;show cO a.row d.row<=0;rw [this];exact h2
  ·by_cases e2:cO b.row d.row=0
   ·have:=tCr_.zero _ _ e2;show cO a.row d.row<=0;rw [<- this];exact h1
   ·exact Int.le_of_lt (tCr_.trans _ _ _ (show cO a.row b.row<0 by have:cO a.row b.row<=0:=h1;omega) (show cO b.row d.row<0 by have:cO b.row d.row<=0:=h2;omega))
 ·have:=tCr_.anti b.row a.row
  show cO b.row a.row<=0
  have h : ¬ cO a.row b.row<0:=h
  have h3:=tCr_.anti a.row b.row
  omega
 ·intro a b h
  have h:cO a.row b.row<=0:=h
  refine ap3 ?_
  show ¬ cO b.row a.row<0
  have:=tCr_.anti b.row a.row
  omega
theorem aiJ (X:List aa) (hr : ∀ s∈X,s.row.length<=4000000000000):sO EP ajx (fun x=>x∈X):=fun x y hx hy=>⟨_,adW x y (hr x hx) (hr y hy),rfl⟩
theorem aeq {X:List aa} (hd:X.Pairwise fun a b=>a.row≠b.row) (hl:X.length<=100000000) (hr : ∀ s∈X,s.row.length<=4000000000000):Gw X.length X EP=some (sN jO X):=by
 obtain ⟨r,h1,h2,h3⟩:=aa4 (af2 hd) (aiJ X hr) hl (fun z hz=>hz) rfl
 rw [h1,Rb (af2 hd) (fun x hx=>h3.mem_iff.1 hx) h2 (abu X) (h3.trans (zH jO X).symm)]
theorem acp (v:Nat) (X:List aa):dV ah 2 v X = .row v ((X.map lN).map xx) 2:=by
 unfold dV
 rw [List.map_map,List.map_map]
 rfl
theorem ae2 (v:Nat) {X:List aa} {n:Nat} (hn:X.length=n) (hd:X.Pairwise fun a b=>a.row≠b.row) (hl:n<=100000000) (hr : ∀ s∈X,s.row.length<=4000000000000):Run Tryz.prog 238 [.row v ((X.map lN).map xx) 2] [.one (.sl 0 v 0 n), .one (.c (.fn 239 []))] [.row v (((sN jO X).map lN).map xx) 2] (.tup []):=by
 subst hn
 have:=Yf (n:=X.length) (a_x:=X) (a_cmp:=EP) (v:=v) (F_a_cmp:=239) (caps_a_cmp:=[]) (fun y0 y1 r h=>adD h) (aeq hd hl hr)
 rw [acp,acp] at this
 exact this
theorem akX {P:Program} {ti:TI} {N:Nat} {ds:List (Option Tmp)} {K:Tm->List Ob->Prop} {o:Oper} {rest:List Oper} {T:Tm} {L L':List Ob} {x y:Operand} {t tx E:TypeId} {es xs:List (List AC)} {i n k by_ d:Nat} {vx:AV} (hd:o.dst=some d) (hN:Nat.blt d N=true) (hg:kH ds T o.guard=some true)
  (ho:o.op = .call { callee := .builtin .append,args := #[x,y],argTypes := #[t,tx] }) (hx:look T x=some (.one (.own es i))) (hy:look T y=some vx) (hl:gH vx=some xs) (ht:ti.elem t=some E) (hsz:ti.size E=some k) (hb:ti.bytes E=some by_) (hL:L[i]?=some (.spare n k))
  (hφ:(ti.elem tx).isSome/\es.length=n/\(ti.zok E=true/\0<k)/\(∀ e∈xs,e.length=k)/\(n+xs.length)*by_<=140737488355328/\n+xs.length<=140737488355328) (hL':L.set i (.spare (n+xs.length) k)=L')
  (h:aX P ti N ds K rest ((d, .one (.own (es++xs) i))::T) L'):aX P ti N ds K (o::rest) T L :=
 aN hd hN hg (v := .one (.own (es++xs) i)) (L':=L.set i (.spare (n+xs.length) k)) (φ:=(ti.elem tx).isSome/\k=k/\es.length=n/\(ti.zok E=true/\0<k)/\(∀ e∈xs,e.length=k)/\(n+xs.length)*by_<=140737488355328/\n+xs.length<=140737488355328)
  (by rw [ho];simp [K9,hx,hy,AZ,hl,ht,hsz,hb,hL]) ⟨hφ.1,rfl,hφ.2⟩ (by rw [hL'];exact h)
set_option maxHeartbeats 8000000 in
theorem adl (l:List aC) (hl:l.length<=300) (h : ∀ f∈l,f.row.length<=1000 /\ ∀ v∈f.row,VOK v):Pure Tryz.prog 202 [.one (.lst (l.map aU))] (.val (.one (.lst ((tK l).map ah)))):=by
 refine pa_ dR Tryz.func202 rfl rfl Tryz.ntmps202 (by simp) ?_
 simp only [argT,PV.av,ap',aqd]
 obtain ⟨n,hn⟩ : ∃ n,l.length=n:=⟨_,rfl⟩
 have hml:(((l.map aU).length:Nat):Int)=n:=by simp [hn]
 repeat' (first
  | refine st_nil ?_
  | refine aM rfl rfl rfl rfl ph_ ?_
  | refine aN rfl rfl rfl rfl ph_ ?_
  | refine sS_ rfl rfl rfl ph_ ?_
  | refine aO rfl rfl rfl rfl ph_ ?_
  | refine aH rfl rfl rfl ?_
  | refine sk0_ rfl rfl ?_
  | (refine aV rfl (fun hb=>?_) (fun hb=>?_)<;>(first|exact (fx_ hb).elim|rw [hb]))
  | refine aw_seq ?_
  | refine aw_region dR _ rfl ?_
  | refine aw_drawn2 bG _ rfl mixed (by decide +kernel) ?_
  | (refine aG rfl (fun hb=>?_) (fun hb=>?_)<;>(try exact (fx_ hb).elim))
  | refine aw_block ?_
  | refine aw_exit ?_
  | refine aw_ret ?_
  | refine aw_skip ?_
  | (refine dS rfl rfl rfl rfl rfl Ko ?_))
 refine eH (fun i:Nat=>[(0, .one (.c (.lst (l.map aU)))),(3, .one (.mp 0)),(4,XF (fK (l.take i))),(11, .one (.c (.lst (l.map aU)))),(12, .one (.c (.int .i64 n))),(13, .one (.c (.int .i64 i)))]) (fun i=>V8 (fK (l.take i))) (fun i=>i<=n) (fun i=>n-i) 0 (by omega) (fun _ _=>aqj _)
  (fm_ ⟨rfl,rfl,rfl,rfl,bB hml,rfl,trivial⟩ [] rfl ⟨trivial,(by cases (fK (l.take 0))<;>first|(show 0<_;simp [V8,Bp])|skip),Av _,trivial,trivial,trivial,trivial⟩ (tN _)) ?_
 intro i hi
 have hgl:=Ew (l.take i)
 have hgm:=Qf (l.take i)
 rw [aqQ] at hgl
 by_cases hlt:i<n
 ·obtain ⟨f,hx⟩:=gol_ (show i<l.length by omega)
  have hfm:=ap6 hx
  have hN:decide ((i:Int)<n)=true:=by simp;exact hlt
  have hnx:fK (l.take (i+1))=jK (fK (l.take i)) f:=by rw [dw hx];exact Y4 _ _
  have hpv:=yQ (lm f.valid)
  have hky:=ae5 f.row (h f hfm).1 (h f hfm).2
  have hidx:(l.map aU)[((i:Nat):Int).toNat]?=some (aU f):=cZ hx
  generalize fK (l.take i)=G at hgl hgm hnx
  unfold jK at hnx
  obtain ⟨row,lo,hi2⟩:=f
  dsimp only at hnx hky hpv
  have hcnt:l.length<=300:=hl
  repeat' (first
   | refine st_nil ?_
   | refine aM rfl rfl rfl rfl ph_ ?_
   | refine aN rfl rfl rfl rfl ph_ ?_
   | refine sS_ rfl rfl rfl ph_ ?_
   | refine aO rfl rfl rfl rfl ph_ ?_
   | refine aH rfl rfl rfl ?_
   | refine sk0_ rfl rfl ?_
   | (refine aV rfl (fun hb=>?_) (fun hb=>?_)<;>(first|exact (fx_ hb).elim|rw [hb]))
   | refine aw_seq ?_
   | (refine aG rfl (fun hb=>?_) (fun hb=>?_)<;>(try exact (fx_ hb).elim))
   | refine aw_block ?_
   | refine aw_exit ?_
   | refine aw_ret ?_
   | refine aw_skip ?_)
  refine aw_region dR _ rfl ?_
  repeat' (first
   | refine st_nil ?_
   | rw [hN]
   | refine aM rfl rfl rfl rfl ph_ ?_
   | (refine dm rfl rfl rfl rfl rfl rfl rfl rfl hidx ?_ ?_; · exact ⟨by omega,rfl⟩)
   | refine aN rfl rfl rfl rfl ph_ ?_
   | refine sS_ rfl rfl rfl ph_ ?_
   | refine aO rfl rfl rfl rfl ph_ ?_
   | refine aH rfl rfl rfl ?_
   | refine sk0_ rfl rfl ?_
   | (refine aV rfl (fun hb=>?_) (fun hb=>?_)<;>(first|exact (fx_ hb).elim|rw [hb]))
   | refine aw_seq ?_
   | (refine aG rfl (fun hb=>?_) (fun hb=>?_)<;>(try exact (fx_ hb).elim))
   | refine aw_block ?_
   | refine aw_exit ?_
   | refine aw_ret ?_
   | refine aw_skip ?_)
  refine aw_region dR _ rfl ?_
  repeat' (first
   | refine st_nil ?_
   | (refine adw rfl rfl rfl rfl rfl rfl rfl ?_)
   | refine aM rfl rfl rfl rfl ph_ ?_
   | (refine dm rfl rfl rfl rfl rfl rfl rfl rfl hidx ?_ ?_; · exact ⟨by omega,rfl⟩)
   | refine aN rfl rfl rfl rfl ph_ ?_
   | refine sS_ rfl rfl rfl ph_ ?_
   | refine aO rfl rfl rfl rfl ph_ ?_
   | refine aH rfl rfl rfl ?_
   | refine sk0_ rfl rfl ?_
   | (refine aV rfl (fun hb=>?_) (fun hb=>?_)<;>(first|exact (fx_ hb).elim|rw [hb]))
   | refine aw_seq ?_
   | (refine aG rfl (fun hb=>?_) (fun hb=>?_)<;>(try exact (fx_ hb).elim))
   | refine aw_block ?_
   | refine aw_exit ?_
   | refine aw_ret ?_
   | refine aw_skip ?_)
  refine ajA (A:=V8 G) rfl (by simp only [ap',aqd,ahO];simp only [unA,unS,if_true,List.drop_zero];rfl) ?_
  cases hv:aD ⟨lo,hi2⟩ with
  | false =>
   rw [hv,ap1] at hnx
   rw [hv] at hpv
   repeat' (first
    | refine st_nil ?_
    | rw [hN]
    | refine aM rfl rfl rfl rfl ph_ ?_
    | (refine dm rfl rfl rfl rfl rfl rfl rfl rfl hidx ?_ ?_; · exact ⟨by omega,rfl⟩)
    | refine aN rfl rfl rfl rfl ph_ ?_
    | refine sS_ rfl rfl rfl ph_ ?_
    | refine aO rfl rfl rfl rfl ph_ ?_
    | refine aH rfl rfl rfl ?_
    | refine sk0_ rfl rfl ?_
    | refine aZ rfl rfl rfl rfl hpv rfl ?_
    | refine aZ rfl rfl rfl rfl hky rfl ?_
    | (refine aV rfl (fun hb=>?_) (fun hb=>?_)<;>(first|exact (fx_ hb).elim|rw [hb]))
    | refine aw_seq ?_
    | refine aw_region dR _ rfl ?_
    | refine aw_drawn2 bG _ rfl mixed (by decide +kernel) ?_
    | (refine aG rfl (fun hb=>?_) (fun hb=>?_)<;>(try exact (fx_ hb).elim))
    | refine aw_block ?_
    | refine aw_exit ?_
    | refine aw_ret ?_
    | refine aw_skip ?_)
   exact ⟨i+1,by omega,by omega,by rw [hnx];exact fm_ ⟨rfl,rfl,rfl,rfl,rfl,bB (bF (by omega) (by omega)),trivial⟩ [.dead] rfl ⟨trivial,(by cases G<;>first|(show 0<_;simp [V8,Bp])),Av _,trivial,trivial,trivial,trivial⟩ (tN _)⟩
  | true =>
   rw [hv,ap2] at hnx
   rw [hv] at hpv
   cases hf:iQ (eQ row) G with
   | some j =>
    have hjl:=PU hf
    obtain ⟨g,hg⟩:=gol_ hjl
    rw [hf] at hnx
    dsimp only at hnx
    rw [hg] at hnx
    dsimp only at hnx
    have hGn:G≠[]:=by intro e;rw [e] at hjl;simp at hjl
    have hgl2:=(hgm g (ap6 hg)).1
    rw [aqQ] at hgl2
    rw [zb hGn,Ae hGn]
    have ej:0+((j:Nat):Int).toNat=j:=by simp
    have hgj:(jr 0 G)[0+((j:Nat):Int).toNat]?=some [.c (dM g.f.row), .own (DJ g.ps) (4+3*(0+j))]:=by rw [ej];exact X6 G 0 j g hg
    have hLl:=tZ hGn
    have hLj:(Bp G++[Ob.dead])[4+3*(0+j)]?=some (.spare g.ps.length 2):=by
     rw [aqc (by omega)]
     rw [show 4+3*(0+j)=3*j+1+1+1+1 by omega]
     exact ai3 hg
    have hset:(Bp G++[Ob.dead]).set (4+3*(0+j)) (.spare (g.ps.length+1) 2) = .map (wJ 0 G) :: .dead::LC G :: .row (194+65536*G.length) (jr 0 G) 2::(Fx (G.set j ⟨g.f,g.ps++[⟨lo,hi2⟩]⟩)++[.dead]):=by
     rw [List.set_append_left _ _ (by omega)]
     have e6:g.ps.length+1=(g.ps++[(⟨lo,hi2⟩:aP)]).length:=by simp
     rw [e6,show 4+3*(0+j)=3*j+1+1+1+1 by omega, <- ajL (g.ps++[(⟨lo,hi2⟩:aP)]) hg]
     rfl
    have hpl:(DJ g.ps).length=g.ps.length:=by simp [DJ]
    have hstr:(.map (wJ 0 G) :: .dead::LC G :: .row (194+65536*G.length) (jr 0 G) 2::(Fx (G.set j ⟨g.f,g.ps++[⟨lo,hi2⟩]⟩)++[Ob.dead])).set 3 (.row (194+65536*G.length) ((jr 0 G).set (0+((j:Nat):Int).toNat) [.c (dM g.f.row), .own (DJ g.ps++[[.int .i64 lo, .int .i64 hi2]]) (4+3*(0+j))]) 2)=Bp (G.set j ⟨g.f,g.ps++[⟨lo,hi2⟩]⟩)++[.dead]:=by
     have e7:DJ g.ps++[[.int .i64 lo, .int .i64 hi2]]=DJ (g.ps++[⟨lo,hi2⟩]):=by simp [DJ,bv]
     rw [ej,e7,Y9 G 0 j g _ hg]
     unfold Bp
     rw [ajq _ hg,aj4 hg,List.length_set]
     rfl
    have hG2:G.set j ⟨g.f,g.ps++[⟨lo,hi2⟩]⟩≠[]:=by intro e;have:=congrArg List.length e;simp at this;exact hGn this
    repeat' (first
     | refine st_nil ?_
     | (refine sP rfl rfl rfl rfl rfl rfl rfl (e:=[.c (dM g.f.row), .own (DJ g.ps) (4+3*(0+j))]) (by exact hgj) rfl ?_)
     | (refine akX (k:=2) (by_:=16) rfl rfl rfl rfl rfl rfl rfl rfl rfl rfl (by exact hLj) ⟨rfl,hpl,⟨rfl,by decide⟩,by intro e he;simp at he;subst he;rfl,by show (_+1)*16<=_;omega,by show _+1<=_;omega⟩ (by exact hset) ?_)
     | (refine vw rfl rfl rfl rfl rfl rfl (e:=[.c (dM g.f.row), .own (DJ g.ps) (4+3*(0+j))]) (by exact hgj) ⟨aqe _,rfl⟩ (by exact hstr) ?_)
     | (refine aM rfl rfl rfl rfl ?_ ?_; · (repeat' (first|exact trivial|rfl|exact ap_ rfl|omega|(intro e he;simp at he;subst he;rfl)|apply And.intro)))
     | (refine aN rfl rfl rfl rfl ?_ ?_; · (repeat' (first|exact trivial|rfl|exact ap_ rfl|omega|(intro e he;simp at he;subst he;rfl)|apply And.intro)))
     | (refine sS_ rfl rfl rfl ?_ ?_; · (repeat' (first|exact trivial|rfl|exact ap_ rfl|omega|(intro e he;simp at he;subst he;rfl)|apply And.intro)))
     | (refine aO rfl rfl rfl rfl ?_ ?_; · (repeat' (first|exact trivial|rfl|exact ap_ rfl|omega|(intro e he;simp at he;subst he;rfl)|apply And.intro)))
     | refine aH rfl rfl rfl ?_
     | refine sk0_ rfl rfl ?_
     | refine aZ rfl rfl rfl rfl hpv rfl ?_
     | refine aZ rfl rfl rfl rfl hky rfl ?_
     | (refine aV rfl (fun hb=>?_) (fun hb=>?_)<;>(first|exact (fx_ hb).elim|rw [hb]))
     | refine aw_seq ?_
     | refine aw_region dR _ rfl ?_
     | refine aw_drawn2 bG _ rfl mixed (by decide +kernel) ?_
     | (refine aG rfl (fun hb=>?_) (fun hb=>?_)<;>(try exact (fx_ hb).elim))
     | refine aw_block ?_
     | refine aw_exit ?_
     | refine aw_ret ?_
     | refine aw_skip ?_
     | (refine ib rfl rfl rfl rfl rfl (aiw dR hf rfl rfl rfl rfl rfl rfl) ?_))
    exact ⟨i+1,by omega,by omega,by rw [hnx,zb hG2,Ae hG2,List.length_set];exact fm_ ⟨rfl,rfl,rfl,rfl,rfl,bB (bF (by omega) (by omega)),trivial⟩ [.dead] rfl ⟨trivial,(by show 0<_;rw [tZ hG2];omega),(by show 3<_;rw [tZ hG2,List.length_set];omega),trivial,trivial,trivial,trivial⟩ (by rw [<- zb hG2];exact tN _)⟩
   | none =>
    rw [hf] at hnx
    dsimp only at hnx
    cases hGe:G with
    | nil =>
     rw [hGe] at hf hnx
     repeat' (first
      | refine st_nil ?_
      | (refine Uw rfl rfl rfl rfl (Pi (G:=[]) ⟨⟨row,⟨lo,hi2⟩⟩,[⟨lo,hi2⟩]⟩ dR hf rfl rfl rfl rfl rfl rfl rfl) ?_)
      | (refine dS rfl rfl rfl rfl rfl (M3 (k:=2) (E:=194) (cs:=[.c (dM row), .emp]) dR rfl rfl (by decide) (by decide) rfl (by decide) rfl rfl) ?_)
      | (refine dS rfl rfl rfl rfl rfl (Yt (E:=194) (k:=2) (by_:=48) (xs:=[[.c (dM row), .emp]]) dR rfl rfl rfl ⟨rfl,_,rfl,ap_ rfl⟩ rfl (by decide) rfl rfl rfl (by decide) (ap_ rfl) (ap_ rfl) (ap_ rfl)) ?_)
      | (refine sP rfl rfl rfl rfl rfl rfl rfl (e:=[.c (dM row), .emp]) (by rfl) rfl ?_)
      | (refine vw rfl rfl rfl rfl rfl rfl (e:=[.c (dM row), .emp]) (by rfl) ⟨aqe _,rfl⟩ rfl ?_)
      | (refine aM rfl rfl rfl rfl ?_ ?_; · (repeat' (first|exact trivial|rfl|exact ap_ rfl|omega|(intro e he;simp at he;subst he;rfl)|decide|(simp only [aqk,aqu];omega)|(simp only [aqk,aqu,aqH];decide)|apply And.intro)))
      | (refine aN rfl rfl rfl rfl ?_ ?_; · (repeat' (first|exact trivial|rfl|exact ap_ rfl|omega|(intro e he;simp at he;subst he;rfl)|decide|(simp only [aqk,aqu];omega)|(simp only [aqk,aqu,aqH];decide)|apply And.intro)))
      | (refine sS_ rfl rfl rfl ?_ ?_; · (repeat' (first|exact trivial|rfl|exact ap_ rfl|omega|(intro e he;simp at he;subst he;rfl)|decide|(simp only [aqk,aqu];omega)|(simp only [aqk,aqu,aqH];decide)|apply And.intro)))
      | (refine aO rfl rfl rfl rfl ?_ ?_; · (repeat' (first|exact trivial|rfl|exact ap_ rfl|omega|(intro e he;simp at he;subst he;rfl)|decide|(simp only [aqk,aqu];omega)|(simp only [aqk,aqu,aqH];decide)|apply And.intro)))
      | refine aH rfl rfl rfl ?_
      | refine sk0_ rfl rfl ?_
      | refine aZ rfl rfl rfl rfl hpv rfl ?_
      | refine aZ rfl rfl rfl rfl hky rfl ?_
      | (refine aV rfl (fun hb=>?_) (fun hb=>?_)<;>(first|exact (fx_ hb).elim|rw [hb]))
      | refine aw_seq ?_
      | refine aw_region dR _ rfl ?_
      | refine aw_drawn2 bG _ rfl mixed (by decide +kernel) ?_
      | (refine aG rfl (fun hb=>?_) (fun hb=>?_)<;>(try exact (fx_ hb).elim))
      | refine aw_block ?_
      | refine aw_exit ?_
      | refine aw_ret ?_
      | refine aw_skip ?_
      | (refine ib rfl rfl rfl rfl rfl (Nh (G:=[]) dR hf rfl rfl rfl rfl rfl rfl) ?_))
     exact ⟨i+1,by omega,by omega,by rw [hnx];exact fm_ ⟨rfl,rfl,rfl,rfl,rfl,bB (bF (by omega) (by omega)),trivial⟩ [] rfl ⟨trivial,(by show 0<5;omega),Av _,trivial,trivial,trivial,trivial⟩ (tN _)⟩
    | cons g0 G0 =>
     have hGn:G≠[]:=by rw [hGe];simp
     rw [<- hGe]
     rw [zb hGn,Ae hGn]
     have htl:=ac7 hGn
     obtain ⟨gn,hgn⟩ : ∃ gn:bV,gn=⟨⟨row,⟨lo,hi2⟩⟩,[⟨lo,hi2⟩]⟩:=⟨_,rfl⟩
     have hgk:eQ gn.f.row=eQ row:=by rw [hgn]
     rw [<- hgn] at hnx
     have hgbe:gbG gn=Ob.row (194+65536) [[SV.c (dM row),SV.emp]] 2:=by rw [hgn];rfl
     have hLa:(Ob.map (wJ 0 (G++[gn]))::Ob.dead::LC G::Ob.row (194+65536*G.length) (jr 0 G) 2::(Fx G++[Ob.dead])).length=3+3*G.length:=by simp;omega
     have hq:((Ob.map (wJ 0 (G++[gn]))::Ob.dead::LC G::Ob.row (194+65536*G.length) (jr 0 G) 2::(Fx G++[Ob.dead]))++[Ob.row (194+65536) [[SV.c (dM row),SV.emp]] 2])[3+3*G.length]?=some (Ob.row (194+65536) [[SV.c (dM row),SV.emp]] 2):=by
      rw [ap7 (by rw [hLa];exact aqe _),hLa,Nat.sub_self];rfl
     have hsrc:V_ ((Ob.map (wJ 0 (G++[gn]))::Ob.dead::LC G::Ob.row (194+65536*G.length) (jr 0 G) 2::(Fx G++[Ob.dead]))++[Ob.row (194+65536) [[SV.c (dM row),SV.emp]] 2]) (.one (.sl (3+3*G.length) (194+65536) 0 1))=some [[SV.c (dM row),SV.emp]]:=by
      simp only [V_,hq];rfl
     have hsok:O1 aoi ((Ob.map (wJ 0 (G++[gn]))::Ob.dead::LC G::Ob.row (194+65536*G.length) (jr 0 G) 2::(Fx G++[Ob.dead]))++[Ob.row (194+65536) [[SV.c (dM row),SV.emp]] 2]) 2 191 (.one (.sl (3+3*G.length) (194+65536) 0 1)):=⟨rfl,[[SV.c (dM row),SV.emp]],hq,aqe _⟩
     have hL2:((Ob.map (wJ 0 (G++[gn]))::Ob.dead::LC G::Ob.row (194+65536*G.length) (jr 0 G) 2::(Fx G++[Ob.dead]))++[Ob.row (194+65536) [[SV.c (dM row),SV.emp]] 2]).set 3 (Ob.row (194+65536*G.length+65536) (jr 0 G++[[SV.c (dM row),SV.emp]]) 2)=Ob.map (wJ 0 (G++[gn]))::Ob.dead::LC G::Ob.row (194+65536*G.length+65536) (jr 0 G++[[SV.c (dM row),SV.emp]]) 2::(Fx G++[Ob.dead,Ob.row (194+65536) [[SV.c (dM row),SV.emp]] 2]):=by simp
     have hL2l:(Ob.map (wJ 0 (G++[gn]))::Ob.dead::LC G::Ob.row (194+65536*G.length+65536) (jr 0 G++[[SV.c (dM row),SV.emp]]) 2::(Fx G++[Ob.dead,Ob.row (194+65536) [[SV.c (dM row),SV.emp]] 2])).length=4+3*G.length:=by simp;omega
     have eG:0+((G.length:Nat):Int).toNat=G.length:=by simp
     have hgG:(jr 0 G++[[SV.c (dM row), .emp]])[0+((G.length:Nat):Int).toNat]?=some [SV.c (dM row),SV.emp]:=by
      rw [eG,ap7 (by rw [xc];exact aqe _),xc];simp
     have e10:(G++[gn]).length=G.length+1:=by simp
     have e9:194+65536*(G++[gn]).length=194+65536*G.length+65536:=by rw [e10];omega
     have hG2:G++[gn]≠[]:=by simp
     have hstr:((Ob.map (wJ 0 (G++[gn]))::Ob.dead::LC G::Ob.row (194+65536*G.length+65536) (jr 0 G++[[SV.c (dM row),SV.emp]]) 2::(Fx G++[Ob.dead,Ob.row (194+65536) [[SV.c (dM row),SV.emp]] 2]))++[Ob.spare 1 2]).set 3 (Ob.row (194+65536*G.length+65536) ((jr 0 G++[[SV.c (dM row), .emp]]).set (0+((G.length:Nat):Int).toNat) [SV.c (dM row),SV.own [[.int .i64 lo, .int .i64 hi2]] (Ob.map (wJ 0 (G++[gn]))::Ob.dead::LC G::Ob.row (194+65536*G.length+65536) (jr 0 G++[[SV.c (dM row),SV.emp]]) 2::(Fx G++[Ob.dead,Ob.row (194+65536) [[SV.c (dM row),SV.emp]] 2])).length]) 2)=Bp (G++[gn]):=by
      have e8:(jr 0 G++[[SV.c (dM row), .emp]]).set G.length [SV.c (dM row),SV.own [[.int .i64 lo, .int .i64 hi2]] (4+3*G.length)]=jr 0 (G++[gn]):=by
       rw [Ri,List.set_append_right _ _ (by rw [xc];exact aqe _),xc,hgn]
       simp [DJ,bv]
      rw [eG,hL2l,e8]
      unfold Bp
      rw [ah' gn hGn,aic gn hGn,e9,hgbe,hgn]
      simp [bxG]
     repeat' (first
      | refine st_nil ?_
      | (refine aM rfl rfl rfl rfl ?_ ?_; · (repeat' (first|exact trivial|rfl|exact ap_ rfl|omega|(intro e he;simp at he;subst he;rfl)|decide|(show _<_+1;omega)|apply And.intro)))
      | (refine aN rfl rfl rfl rfl ?_ ?_; · (repeat' (first|exact trivial|rfl|exact ap_ rfl|omega|(intro e he;simp at he;subst he;rfl)|decide|(show _<_+1;omega)|apply And.intro)))
      | (refine sS_ rfl rfl rfl ?_ ?_; · (repeat' (first|exact trivial|rfl|exact ap_ rfl|omega|(intro e he;simp at he;subst he;rfl)|decide|(show _<_+1;omega)|apply And.intro)))
      | (refine aO rfl rfl rfl rfl ?_ ?_; · (repeat' (first|exact trivial|rfl|exact ap_ rfl|omega|(intro e he;simp at he;subst he;rfl)|decide|(show _<_+1;omega)|apply And.intro)))
      | refine aH rfl rfl rfl ?_
      | refine sk0_ rfl rfl ?_
      | refine aZ rfl rfl rfl rfl hpv rfl ?_
      | refine aZ rfl rfl rfl rfl hky rfl ?_
      | (refine aV rfl (fun hb=>?_) (fun hb=>?_)<;>(first|exact (fx_ hb).elim|rw [hb]))
      | refine aw_seq ?_
      | refine aw_region dR _ rfl ?_
      | refine aw_drawn2 bG _ rfl mixed (by decide +kernel) ?_
      | (refine aG rfl (fun hb=>?_) (fun hb=>?_)<;>(try exact (fx_ hb).elim))
      | refine aw_block ?_
      | refine aw_exit ?_
      | refine aw_ret ?_
      | refine aw_skip ?_
      | (refine ib rfl rfl rfl rfl rfl (Nh (G:=G) dR hf rfl rfl rfl rfl rfl rfl) ?_))
     refine Uw (L':=(Ob.map (wJ 0 (G++[gn]))::Ob.dead::LC G::Ob.row (194+65536*G.length) (jr 0 G) 2::(Fx G++[Ob.dead]))) rfl rfl rfl rfl (Pi (G:=G) (id:=0) gn dR hf hgk rfl rfl rfl rfl rfl rfl) ?_
     repeat' (first
      | refine st_nil ?_
      | (refine Uw (L':=(Ob.map (wJ 0 (G++[gn]))::Ob.dead::LC G::Ob.row (194+65536*G.length) (jr 0 G) 2::(Fx G++[Ob.dead]))) rfl rfl rfl rfl (Pi (G:=G) (id:=0) gn dR hf hgk rfl rfl rfl rfl rfl rfl) ?_)
      | (refine dS (v := .one (.sl (3+3*G.length) (194+65536) 0 1)) (L':=(Ob.map (wJ 0 (G++[gn]))::Ob.dead::LC G::Ob.row (194+65536*G.length) (jr 0 G) 2::(Fx G++[Ob.dead]))++[Ob.row (194+65536) [[SV.c (dM row),SV.emp]] 2]) rfl rfl rfl rfl rfl (by rw [<- hLa];exact M3 (k:=2) (E:=194) (cs:=[SV.c (dM row),SV.emp]) dR rfl rfl (by decide) (by decide) rfl (by decide) rfl rfl) ?_)
      | (refine dS (v := .one (.sl 3 (194+65536*G.length+65536) 0 (G.length+1))) (L':=(Ob.map (wJ 0 (G++[gn]))::Ob.dead::LC G::Ob.row (194+65536*G.length+65536) (jr 0 G++[[SV.c (dM row),SV.emp]]) 2::(Fx G++[Ob.dead,Ob.row (194+65536) [[SV.c (dM row),SV.emp]] 2]))) rfl rfl rfl rfl rfl (by rw [<- hL2];exact iD (k:=2) (by_:=48) (xs:=[[SV.c (dM row),SV.emp]]) dR rfl rfl rfl hsrc hsok rfl (by show (194+65536*G.length)%65536=194;omega) rfl rfl rfl (by decide) (xc G 0) (by show (_+1)*48<=_;omega) (by show _+1<=_;omega)) ?_)
      | (refine sP rfl rfl rfl rfl rfl rfl rfl (e:=[SV.c (dM row),SV.emp]) (by exact hgG) rfl ?_)
      | (refine vw rfl rfl rfl rfl rfl rfl (e:=[SV.c (dM row),SV.emp]) (by exact hgG) ⟨aqe _,rfl⟩ (by exact hstr) ?_)
      | (refine aM rfl rfl rfl rfl ?_ ?_; · (repeat' (first|exact trivial|rfl|exact ap_ rfl|omega|(intro e he;simp at he;subst he;rfl)|decide|(show _<_+1;omega)|apply And.intro)))
      | (refine aN rfl rfl rfl rfl ?_ ?_; · (repeat' (first|exact trivial|rfl|exact ap_ rfl|omega|(intro e he;simp at he;subst he;rfl)|decide|(show _<_+1;omega)|apply And.intro)))
      | (refine sS_ rfl rfl rfl ?_ ?_; · (repeat' (first|exact trivial|rfl|exact ap_ rfl|omega|(intro e he;simp at he;subst he;rfl)|decide|(show _<_+1;omega)|apply And.intro)))
      | (refine aO rfl rfl rfl rfl ?_ ?_; · (repeat' (first|exact trivial|rfl|exact ap_ rfl|omega|(intro e he;simp at he;subst he;rfl)|decide|(show _<_+1;omega)|apply And.intro)))
      | refine aH rfl rfl rfl ?_
      | refine sk0_ rfl rfl ?_
      | refine aZ rfl rfl rfl rfl hpv rfl ?_
      | refine aZ rfl rfl rfl rfl hky rfl ?_
      | (refine aV rfl (fun hb=>?_) (fun hb=>?_)<;>(first|exact (fx_ hb).elim|rw [hb]))
      | refine aw_seq ?_
      | refine aw_region dR _ rfl ?_
      | refine aw_drawn2 bG _ rfl mixed (by decide +kernel) ?_
      | (refine aG rfl (fun hb=>?_) (fun hb=>?_)<;>(try exact (fx_ hb).elim))
      | refine aw_block ?_
      | refine aw_exit ?_
      | refine aw_ret ?_
      | refine aw_skip ?_
      | (refine ib rfl rfl rfl rfl rfl (Nh (G:=G) dR hf rfl rfl rfl rfl rfl rfl) ?_))
     exact ⟨i+1,by omega,by omega,by rw [hnx,zb hG2,Ae hG2,e9,e10];exact fm_ ⟨rfl,rfl,rfl,rfl,rfl,bB (bF (by omega) (by omega)),trivial⟩ [] (aqy _).symm ⟨trivial,(by show 0<_;rw [tZ hG2];omega),(by show 3<_;rw [tZ hG2,e10];omega),trivial,trivial,trivial,trivial⟩ (by rw [<- zb hG2];exact tN _)⟩
 ·have htk:l.take i=l:=aqE (by omega)
  have hN:decide ((i:Int)<n)=false:=by simp;omega
  rw [htk] at hgl hgm ⊢
  have hgl2:=Ew l
  have hrP:tK l=sN jO ((fK l).map fun g=>(⟨g.f.row,g.ps⟩:aa)):=rfl
  rw [hrP]
  clear hrP
  have hgm2 : ∀ g∈fK l,g.f.row.length<=1000:=fun g hg=>(h _ (Qf l g hg).2.1).1
  have hgn2:=afD l
  generalize fK l=G at hgl hgm hgl2 hgm2 hgn2 ⊢
  repeat' (first
   | refine st_nil ?_
   | refine aM rfl rfl rfl rfl ph_ ?_
   | refine aN rfl rfl rfl rfl ph_ ?_
   | refine sS_ rfl rfl rfl ph_ ?_
   | refine aO rfl rfl rfl rfl ph_ ?_
   | refine aH rfl rfl rfl ?_
   | refine sk0_ rfl rfl ?_
   | (refine aV rfl (fun hb=>?_) (fun hb=>?_)<;>(first|exact (fx_ hb).elim|rw [hb]))
   | refine aw_seq ?_
   | (refine aG rfl (fun hb=>?_) (fun hb=>?_)<;>(try exact (fx_ hb).elim))
   | refine aw_block ?_
   | refine aw_exit ?_
   | refine aw_ret ?_
   | refine aw_skip ?_)
  refine aw_region dR _ rfl ?_
  repeat' (first
   | refine st_nil ?_
   | rw [hN]
   | refine aM rfl rfl rfl rfl ph_ ?_
   | (refine dm rfl rfl rfl rfl rfl rfl rfl rfl hidx ?_ ?_; · exact ⟨by omega,rfl⟩)
   | refine aN rfl rfl rfl rfl ph_ ?_
   | refine sS_ rfl rfl rfl ph_ ?_
   | refine aO rfl rfl rfl rfl ph_ ?_
   | refine aH rfl rfl rfl ?_
   | refine sk0_ rfl rfl ?_
   | (refine aV rfl (fun hb=>?_) (fun hb=>?_)<;>(first|exact (fx_ hb).elim|rw [hb]))
   | refine aw_seq ?_
   | (refine aG rfl (fun hb=>?_) (fun hb=>?_)<;>(try exact (fx_ hb).elim))
   | refine aw_block ?_
   | refine aw_exit ?_
   | refine aw_ret ?_
   | refine aw_skip ?_)
  cases hGe:G with
  | nil =>
   have e0:(sN jO (([]:List bV).map fun g=>(⟨g.f.row,g.ps⟩:aa))).map ah=[]:=rfl
   rw [e0]
   repeat' (first
    | refine st_nil ?_
    | refine aM rfl rfl rfl rfl ph_ ?_
    | refine aN rfl rfl rfl rfl ph_ ?_
    | refine sS_ rfl rfl rfl ph_ ?_
    | refine aO rfl rfl rfl rfl ph_ ?_
    | refine aH rfl rfl rfl ?_
    | refine sk0_ rfl rfl ?_
    | refine aZ rfl rfl rfl rfl aac rfl ?_
    | (refine aV rfl (fun hb=>?_) (fun hb=>?_)<;>(first|exact (fx_ hb).elim|rw [hb]))
    | refine aw_seq ?_
    | refine aw_region dR _ rfl ?_
    | refine aw_drawn2 bG _ rfl mixed (by decide +kernel) ?_
    | (refine aG rfl (fun hb=>?_) (fun hb=>?_)<;>(try exact (fx_ hb).elim))
    | refine aw_block ?_
    | refine aw_exit ?_
    | refine aw_ret ?_
    | refine aw_skip ?_)
   exact bL (bR rfl (by trivial) rfl)
  | cons g0 G0 =>
   have hGn:G≠[]:=by rw [hGe];simp
   rw [<- hGe,zb hGn,Ae hGn]
   refine aa_ 3 rfl (OA G 0) ?_
   have e1:(G.map fun g=>[dM g.f.row,AC.lst (DJ g.ps)]).map (List.map SV.c)=((G.map fun g=>(⟨g.f.row,g.ps⟩:aa)).map lN).map xx:=by
    simp only [List.map_map];rfl
   rw [e1]
   obtain ⟨X,hX⟩ : ∃ X:List aa,X=G.map fun g=>⟨g.f.row,g.ps⟩:=⟨_,rfl⟩
   have hXl:X.length=G.length:=by rw [hX];simp
   have hXr : ∀ s∈X,s.row.length<=1000:=by
    intro s hs
    rw [hX] at hs
    obtain ⟨g,hg,rfl⟩:=aqz.1 hs
    exact hgm2 g hg
   rw [<- hX]
   have e2:(Bp G).set 3 (.row (194+65536*G.length) ((X.map lN).map xx) 2) = .map (wJ 0 G) :: .dead::LC G :: .row (194+65536*G.length) ((X.map lN).map xx) 2::Fx G:=rfl
   rw [e2]
   rw [<- hX] at hgn2
   have hrun:=ae2 (194+65536*G.length) (X:=X) (n:=G.length) hXl hgn2 (by omega) (fun s hs=>by have:=hXr s hs;omega)
   refine aw_region dR _ rfl ?_
   repeat' (first
    | refine st_nil ?_
    | (refine eP [3] rfl rfl rfl rfl hrun rfl (apD rfl (dE ⟨(by show 0<1;omega),trivial,trivial⟩)) rfl (jG3 (L' := .map (wJ 0 G) :: .dead::LC G :: .row (194+65536*G.length) (((sN jO X).map lN).map xx) 2::Fx G) rfl) ?_)
    | refine aM rfl rfl rfl rfl ph_ ?_
    | refine aN rfl rfl rfl rfl ph_ ?_
    | refine sS_ rfl rfl rfl ph_ ?_
    | refine aO rfl rfl rfl rfl ph_ ?_
    | refine aH rfl rfl rfl ?_
    | refine sk0_ rfl rfl ?_
    | (refine aV rfl (fun hb=>?_) (fun hb=>?_)<;>(first|exact (fx_ hb).elim|rw [hb]))
    | refine aw_seq ?_
    | (refine aG rfl (fun hb=>?_) (fun hb=>?_)<;>(try exact (fx_ hb).elim))
    | refine aw_block ?_
    | refine aw_exit ?_
    | refine aw_ret ?_
    | refine aw_skip ?_)
   refine yL 3 (L := .map (wJ 0 G) :: .dead::LC G :: .row (194+65536*G.length) (((sN jO X).map lN).map xx) 2::Fx G) rfl (ado _) ?_
   simp only [ap',aqd,thA,thS,and_self,if_true,List.drop_zero]
   have e3:(((sN jO X).map lN).map fun x=>[x.1,x.2]).take G.length=(sN jO X).map ah:=by
    rw [aqE (by simp [(zH jO X).length_eq,hXl]),List.map_map];rfl
   rw [e3]
   repeat' (first
    | refine st_nil ?_
    | refine aM rfl rfl rfl rfl ph_ ?_
    | refine aN rfl rfl rfl rfl ph_ ?_
    | refine sS_ rfl rfl rfl ph_ ?_
    | refine aO rfl rfl rfl rfl ph_ ?_
    | refine aH rfl rfl rfl ?_
    | refine sk0_ rfl rfl ?_
    | (refine aV rfl (fun hb=>?_) (fun hb=>?_)<;>(first|exact (fx_ hb).elim|rw [hb]))
    | refine aw_seq ?_
    | refine aw_region dR _ rfl ?_
    | refine aw_drawn2 bG _ rfl mixed (by decide +kernel) ?_
    | (refine aG rfl (fun hb=>?_) (fun hb=>?_)<;>(try exact (fx_ hb).elim))
    | refine aw_block ?_
    | refine aw_exit ?_
    | refine aw_ret ?_
    | refine aw_skip ?_)
   exact bL (bR rfl (by trivial) rfl)
set_option maxHeartbeats 8000000
def afQ (l:List J3):Option (List Stp):=bif decide (l.length<=100000) then some (DL l) else none
theorem ai7 {l:List J3} {r:List Stp} (H:afQ l=some r):Pure Tryz.prog 207 [.one (.lst (l.map QB))] (.val (.one (.lst (r.map Bq)))):=by
 unfold afQ at H
 obtain ⟨g,H⟩:=lJ H
 obtain rfl:=aqw H
 exact akc l (aqs g)
def ahr (l:List J3):Option (List Stp):=bif decide (l.length<=100000) then some (DL l) else none
theorem ajU {l:List J3} {r:List Stp} (H:ahr l=some r):Pure Tryz.prog 210 [.one (.lst (l.map QB))] (.val (.one (.lst (r.map Bq)))):=by
 unfold ahr at H
 obtain ⟨g,H⟩:=lJ H
 obtain rfl:=aqw H
 exact aiM l (aqs g)
open Classical in
noncomputable def ab2 (l:List Stp):Option (List aP):=if Sq l then some (Jr l) else none
theorem agf {l:List Stp} {r:List aP} (H:ab2 l=some r):Pure Tryz.prog 147 [.one (.lst (l.map Bq))] (.val (.one (.lst (r.map bv)))):=by
 unfold ab2 at H
 split at H
 ·rename_i h;obtain rfl:=aqw H;exact X4 l h
 ·cases H
open Classical in
noncomputable def WC (l:List Stp):Option (List aP):=if Sq l then some (Jr l) else none
theorem ahA {l:List Stp} {r:List aP} (H:WC l=some r):Pure Tryz.prog 94 [.one (.lst (l.map Bq))] (.val (.one (.lst (r.map bv)))):=by
 unfold WC at H
 split at H
 ·rename_i h;obtain rfl:=aqw H;exact adP l h
 ·cases H
def bU (l:List aC):Prop:=l.length<=300 /\ ∀ f∈l,f.row.length<=1000 /\ ∀ v∈f.row,VOK v
open Classical in
noncomputable def HV (l:List aC):Option (List aa):=if bU l then some (tK l) else none
theorem Ph {l:List aC} {r:List aa} (H:HV l=some r):Pure Tryz.prog 202 [.one (.lst (l.map aU))] (.val (.one (.lst (r.map ah)))):=by
 unfold HV at H
 split at H
 ·rename_i h;obtain rfl:=aqw H;exact adl l h.1 h.2
 ·cases H
noncomputable section
def uK (a_l:(List aP)):((List J3) × Int)->Option (Step ((List J3) × Int) ((List Stp))):=fun s=>match s with
 | (c_1,v_2)=>bif (decide (v_2<((a_l.length:Nat):Int))) then
  (aT a_l v_2).bind fun x_4=>bif (decide (c_1.length+1<=5864062014805)) then (some (.next ((c_1++[(⟨x_4,(1:Int)⟩:J3)]),(IntKind.i64.wrap (v_2+(1:Int)))))) else none
 else
  some (.exit (c_1,v_2))
def AB:Sum ((List J3) × Int) ((List Stp))->Option (((List Stp)))
 | .inl (c_1,v_2)=>(afQ c_1).bind fun r_5=>some r_5
 | .inr q=>some q
def Bv (a_l:(List aP)):Option ((List Stp)):=(az (uK a_l) fuel ([],(0:Int))).bind (AB)
theorem Y2 {a_l:(List aP)} {r:(List Stp)} (H:Bv a_l=some r):Pure Tryz.prog 148 [.one (.lst (a_l.map bv))] (.val (.one (.lst (r.map Bq)))):=by
 unfold Bv at H
 refine po_ Tryz.func148 Tryz.ntmps148 ?_
 repeat' (first|refine gs_ ?_|fail)
 refine dC 3 3 rfl ?_
 refine alM_ (fun s:(List J3) × Int=>match s with|(c_1,v_2)=>[(3, .one (.own (c_1.map QB) 0)),(6, .one (.c (.lst (a_l.map bv)))),(7, .one (.c (.int .i64 ((a_l.length:Nat):Int)))),(8, .one (.c (.int .i64 v_2)))]) (fun s=>match s with|(c_1,v_2)=>[.spare c_1.length 3]) H (fun _=>aqj _)
  (fm_ ⟨rfl,rfl,rfl,rfl,trivial⟩ [] rfl ⟨by show 0<1;omega,trivial,trivial,trivial,trivial⟩ ⟨trivial,trivial⟩) ?_
 rintro ⟨c_1,v_2⟩ st1 hb1 hk1
 unfold uK at hb1
 dsimp only at hb1 ⊢
 rcases Bool.eq_false_or_eq_true (decide (v_2<((a_l.length:Nat):Int))) with q_3|q_3
 ·rw [q_3,ap2] at hb1
  obtain ⟨x_4,i1,hb1⟩:=bd_ hb1
  obtain ⟨i1z,i1⟩:=nW i1
  have i1x:=ak1 (f:=bv) i1
  obtain ⟨g2,hb1⟩:=lJ hb1
  replace g2:=aqs g2
  obtain rfl:=aqw hb1
  repeat' (first|refine gs_ ?_|fail)
  exact ⟨_,rfl,fm_ ⟨(by simp only [aqb,ap',aqd,ap5]<;>rfl),rfl,rfl,rfl,trivial⟩ [_] (by simp only [ap8,aqk,aqu,aqH,aqb,ap',aqd]<;>rfl) ⟨by show 0<1;omega,trivial,trivial,trivial,trivial⟩ ⟨trivial,trivial⟩⟩
 ·rw [q_3,ap1] at hb1
  obtain rfl:=aqw hb1
  have hx1:AB (.inl (c_1,v_2))=some _:=hk1
  unfold AB at hx1
  dsimp only at hx1
  obtain ⟨r_5,c3,hx1⟩:=bd_ hx1
  replace c3:=ai7 c3
  try simp only [aqb,ap',aqd,ap5,aL] at c3
  obtain rfl:=aqw hx1
  exact aK
def YY (a_p:(List aP)):Option ((List aP)):=bif (decide (((a_p.length:Nat):Int)=(1:Int))) then
 some a_p
 else
 (Bv a_p).bind fun r_2=>(ab2 r_2).bind fun r_3=>some r_3
theorem Wd {a_p:(List aP)} {r:(List aP)} (H:YY a_p=some r):Pure Tryz.prog 146 [.one (.lst (a_p.map bv))] (.val (.one (.lst (r.map bv)))):=by
 unfold YY at H
 refine po_ Tryz.func146 Tryz.ntmps146 ?_
 rcases Bool.eq_false_or_eq_true (decide (((a_p.length:Nat):Int)=(1:Int))) with q_1|q_1
 ·rw [q_1,ap2] at H
  obtain rfl:=aqw H
  exact aK
 ·rw [q_1,ap1] at H
  obtain ⟨r_2,c1,H⟩:=bd_ H
  replace c1:=Y2 c1
  try simp only [aqb,ap',aqd,ap5,aL] at c1
  obtain ⟨r_3,c2,H⟩:=bd_ H
  replace c2:=agf c2
  try simp only [aqb,ap',aqd,ap5,aL] at c2
  obtain rfl:=aqw H
  exact aK
def xq (x_5:aa) (r_6:(List aP)):((List aC) × Int)->Option (Step ((List aC) × Int) ((List aC))):=fun s=>match s with
 | (out_7,v_8)=>bif (decide (v_8<((r_6.length:Nat):Int))) then
  (aT r_6 v_8).bind fun x_10=>bif (decide (x_5.row.length<=4398046511104)) then (bif (decide (out_7.length+1<=3518437208883)) then (some (.next ((out_7++[(⟨x_5.row,x_10⟩:aC)]),(IntKind.i64.wrap (v_8+(1:Int)))))) else none) else none
 else
  some (.exit (out_7,v_8))
def xe (v_3:Int):Sum ((List aC) × Int) ((List aC))->Option (Step ((List aC) × Int) ((List aC)))
 | .inl (out_7,v_8)=>some (.next (out_7,(IntKind.i64.wrap (v_3+(1:Int)))))
 | .inr q=>some (.ret q)
def vX (a_f:(List aP)->Option ((List aP))) (r_1:(List aa)):((List aC) × Int)->Option (Step ((List aC) × Int) ((List aC))):=fun s=>match s with
 | (out_2,v_3)=>bif (decide (v_3<((r_1.length:Nat):Int))) then
  (aT r_1 v_3).bind fun x_5=>(a_f x_5.periods).bind fun r_6=>(az (xq x_5 r_6) fuel (out_2,(0:Int))).bind (xe v_3)
 else
  some (.exit (out_2,v_3))
def qZ:Sum ((List aC) × Int) ((List aC))->Option (((List aC)))
 | .inl (out_2,v_3)=>some out_2
 | .inr q=>some q
def Iz (a_l:(List aC)) (a_f:(List aP)->Option ((List aP))):Option ((List aC)):=(HV a_l).bind fun r_1=>(az (vX a_f r_1) fuel ([],(0:Int))).bind (qZ)
theorem adx {a_l:(List aC)} {a_f:(List aP)->Option ((List aP))} {r:(List aC)} {F_a_f:FuncId} {caps_a_f:List AC} (hf_a_f : ∀ (y0:(List aP)) (r:(List aP)),a_f y0=some r->Pure Tryz.prog F_a_f ([.one (.lst (y0.map bv))]++caps_a_f.map .one) (.val (.one (.lst (r.map bv))))) (H:Iz a_l a_f=some r):Pure Tryz.prog 145 [.one (.lst (a_l.map aU)), .one (.fn F_a_f caps_a_f)] (.val (.one (.lst (r.map aU)))):=by
 unfold Iz at H
 refine po_ Tryz.func145 Tryz.ntmps145 ?_
 obtain ⟨r_1,c1,H⟩:=bd_ H
 replace c1:=Ph c1
 try simp only [aqb,ap',aqd,ap5,aL] at c1
 repeat' (first|refine gs_ ?_|fail)
 refine dC 5 3 rfl ?_
 refine alM_ (fun s:(List aC) × Int=>match s with|(out_2,v_3)=>[(1, .one (.c (.fn F_a_f caps_a_f))),(5, .one (.own (out_2.map aU) 0)),(11, .one (.c (.lst (r_1.map ah)))),(12, .one (.c (.int .i64 ((r_1.length:Nat):Int)))),(13, .one (.c (.int .i64 v_3)))]) (fun s=>match s with|(out_2,v_3)=>[.spare out_2.length 3]) H (fun _=>aqj _)
  (fm_ ⟨rfl,rfl,rfl,rfl,rfl,trivial⟩ [] rfl ⟨trivial,by show 0<1;omega,trivial,trivial,trivial,trivial⟩ ⟨trivial,trivial⟩) ?_
 rintro ⟨out_2,v_3⟩ st3 hb3 hk3
 unfold vX at hb3
 dsimp only at hb3 ⊢
 rcases Bool.eq_false_or_eq_true (decide (v_3<((r_1.length:Nat):Int))) with q_4|q_4
 ·rw [q_4,ap2] at hb3
  obtain ⟨x_5,i2,hb3⟩:=bd_ hb3
  obtain ⟨i2z,i2⟩:=nW i2
  have i2x:=ak1 (f:=ah) i2
  obtain ⟨r_6,c3,hb3⟩:=bd_ hb3
  replace c3:=hf_a_f _ _ c3
  try simp only [aqb,ap',aqd,ap5,aL] at c3
  repeat' (first|refine gs_ ?_|fail)
  refine alM_ (fun s:(List aC) × Int=>match s with|(out_7,v_8)=>[(1, .one (.c (.fn F_a_f caps_a_f))),(5, .one (.own (out_7.map aU) 0)),(7, .one (.ptr 1 0)),(11, .one (.c (.lst (r_1.map ah)))),(12, .one (.c (.int .i64 ((r_1.length:Nat):Int)))),(13, .one (.c (.int .i64 v_3))),(20, .one (.c (.lst (r_6.map bv)))),(21, .one (.c (.int .i64 ((r_6.length:Nat):Int)))),(22, .one (.c (.int .i64 v_8)))]) (fun s=>match s with|(out_7,v_8)=>[.spare out_7.length 3, .box [.c (.lst (x_5.row.map cV)), .c (.lst (x_5.periods.map bv))]]) hb3 (fun _=>aqj _)
   (fm_ ⟨rfl,rfl,rfl,rfl,rfl,rfl,rfl,rfl,rfl,trivial⟩ [] rfl ⟨trivial,by show 0<2;omega,by show 1<2;omega,trivial,trivial,trivial,trivial,trivial,trivial,trivial⟩ ⟨trivial,lL (by rfl),trivial⟩) ?_
  rintro ⟨out_7,v_8⟩ st4 hb4 hk4
  unfold xq at hb4
  dsimp only at hb4 ⊢
  rcases Bool.eq_false_or_eq_true (decide (v_8<((r_6.length:Nat):Int))) with q_9|q_9
  ·rw [q_9,ap2] at hb4
   obtain ⟨x_10,i4,hb4⟩:=bd_ hb4
   obtain ⟨i4z,i4⟩:=nW i4
   have i4x:=ak1 (f:=bv) i4
   obtain ⟨g5,hb4⟩:=lJ hb4
   replace g5:=aqs g5
   obtain ⟨g6,hb4⟩:=lJ hb4
   replace g6:=aqs g6
   obtain rfl:=aqw hb4
   repeat' (first|refine gs_ ?_|fail)
   exact ⟨_,rfl,fm_ ⟨rfl,(by simp only [aqb,ap',aqd,ap5]<;>rfl),rfl,rfl,rfl,rfl,rfl,rfl,rfl,trivial⟩ [_,_] (by simp only [ap8,aqk,aqu,aqH,aqb,ap',aqd]<;>rfl) ⟨trivial,by show 0<2;omega,by show 1<2;omega,trivial,trivial,trivial,trivial,trivial,trivial,trivial⟩ ⟨trivial,lL (by rfl),trivial⟩⟩
  ·rw [q_9,ap1] at hb4
   obtain rfl:=aqw hb4
   have hx4:xe v_3 (.inl (out_7,v_8))=some _:=hk4
   unfold xe at hx4
   dsimp only at hx4
   obtain rfl:=aqw hx4
   repeat' (first|refine gs_ ?_|fail)
   exact ⟨_,rfl,fm_ ⟨rfl,(by simp only [aqb,ap',aqd,ap5]<;>rfl),rfl,rfl,rfl,trivial⟩ [_] (by simp only [ap8,aqk,aqu,aqH,aqb,ap',aqd]<;>rfl) ⟨trivial,by show 0<1;omega,trivial,trivial,trivial,trivial⟩ ⟨trivial,trivial⟩⟩
 ·rw [q_4,ap1] at hb3
  obtain rfl:=aqw hb3
  have hx3:qZ (.inl (out_2,v_3))=some _:=hk3
  unfold qZ at hx3
  dsimp only at hx3
  obtain rfl:=aqw hx3
  exact aK
def ya (a_l:(List aC)):Option ((List aC)):=(Iz a_l (fun x0=>YY x0)).bind fun r_1=>some r_1
theorem acV {a_l:(List aC)} {r:(List aC)} (H:ya a_l=some r):Pure Tryz.prog 92 [.one (.lst (a_l.map aU))] (.val (.one (.lst (r.map aU)))):=by
 unfold ya at H
 refine po_ Tryz.func92 Tryz.ntmps92 ?_
 obtain ⟨r_1,c1,H⟩:=bd_ H
 replace c1:=adx (F_a_f:=146) (caps_a_f:=[]) (fun x0 r h=>Wd h) c1
 try simp only [aqb,ap',aqd,ap5,aL] at c1
 obtain rfl:=aqw H
 exact aK
end
set_option maxHeartbeats 8000000
def yY (rec:List (List Val)->List QP->Option (List (List Val))) (a_l:(List (List Val))) (a_o:(List QP)):Option ((List (List Val))):=bif (decide (((a_l.length:Nat):Int)=(0:Int))) then some [] else
 bif (decide (((a_l.length:Nat):Int)=(1:Int))) then (aT a_l (0:Int)).bind fun x_3=>bif (decide (x_3.length<=4398046511104)) then (some [x_3]) else none else
 bif (decide ((2:Int)≠0)) then ((l6 a_l (0:Int) (IntKind.i64.wrap (((a_l.length:Nat):Int).tdiv (2:Int)))).bind fun s_4=>(rec s_4 a_o).bind fun r_5=>(l6 a_l (IntKind.i64.wrap (((a_l.length:Nat):Int).tdiv (2:Int))) ((a_l.length:Nat):Int)).bind fun s_6=>(rec s_6 a_o).bind fun r_7=>(FD r_5 r_7 a_o).bind fun r_8=>some r_8) else none
theorem abq {rec:List (List Val)->List QP->Option (List (List Val))}  (hrec : ∀ {x:List (List Val)} {y:List QP} {r:List (List Val)}, rec x y=some r->Pure Tryz.prog 107 [.one (.lst (x.map (fun x=>[AC.lst (x.map cV)]))), .one (.lst (y.map PX))] (.val (.one (.lst (r.map (fun x=>[AC.lst (x.map cV)])))))) {a_l:(List (List Val))} {a_o:(List QP)} {r:(List (List Val))} (H:yY rec a_l a_o=some r):Pure Tryz.prog 107 [.one (.lst (a_l.map (fun x=>[AC.lst (x.map cV)]))), .one (.lst (a_o.map PX))] (.val (.one (.lst (r.map (fun x=>[AC.lst (x.map cV)]))))):=by
 unfold yY at H
 refine po_ Tryz.func107 Tryz.ntmps107 ?_
 rcases af H with ⟨q_1,H⟩|⟨q_1,H⟩
 ·cases H
  exact aK
 rcases af H with ⟨q_2,H⟩|⟨q_2,H⟩
 ·obtain ⟨x_3,i1z,i1,i1x,H⟩:=bn (f:=(fun x=>[AC.lst (x.map cV)])) H
  obtain ⟨g2,H⟩:=aS H
  cases H
  exact aK
 obtain ⟨g3,H⟩:=aS H
 obtain ⟨s_4,u4,H⟩:=bd_ H
 obtain ⟨⟨u4a,u4b,u4c⟩,u4⟩:=gT u4
 have u4x:=K4 (f:=(fun x=>[AC.lst (x.map cV)])) u4
 obtain ⟨r_5,c5,H⟩:=bd_ H
 replace c5:=hrec c5
 obtain ⟨s_6,u6,H⟩:=bd_ H
 obtain ⟨⟨u6a,u6b,u6c⟩,u6⟩:=gT u6
 have u6x:=K4 (f:=(fun x=>[AC.lst (x.map cV)])) u6
 obtain ⟨r_7,c7,H⟩:=bd_ H
 replace c7:=hrec c7
 obtain ⟨r_8,c8,H⟩:=bd_ H
 replace c8:=abo c8
 cases H
 repeat' (first|refine gs_ ?_|rw [u4x]|rw [u6x]|rw [show ((0:Nat):Int)=0 from rfl])
 refine bL (bR rfl ?_ ?_)
 ·repeat' (first|exact trivial|rfl|exact ap_ rfl|omega|apply And.intro)
 ·first|rfl|(simp only [aqb,ap',aqd,ap5]<;>rfl)
def IJ:Nat->List (List Val)->List QP->Option (List (List Val))
 | 0,_,_=>none
 | n+1,a,b=>yY (IJ n) a b
theorem TP : ∀ (n:Nat) {x:List (List Val)} {y:List QP} {r:List (List Val)}, IJ n x y=some r->Pure Tryz.prog 107 [.one (.lst (x.map (fun x=>[AC.lst (x.map cV)]))), .one (.lst (y.map PX))] (.val (.one (.lst (r.map (fun x=>[AC.lst (x.map cV)])))))
 | 0,_,_,_,h=>nomatch h
 | n+1,_,_,_,h=>abq (TP n) h
def Fa (a_l:(List (List Val))):Option ((List (List Val))):=(IJ 301 a_l ([]:(List QP))).bind fun r_1=>some r_1
theorem IG {a_l:(List (List Val))} {r:(List (List Val))} (H:Fa a_l=some r):Pure Tryz.prog 71 [.one (.lst (a_l.map (fun x=>[AC.lst (x.map cV)])))] (.val (.one (.lst (r.map (fun x=>[AC.lst (x.map cV)]))))):=by
 unfold Fa at H
 refine po_ Tryz.func71 Tryz.ntmps71 ?_
 obtain ⟨r_1,c1,H⟩:=bd_ H
 replace c1:=TP 301 c1
 try simp only [aqb,ap',aqd,ap5,aL] at c1
 cases H
 exact aK
end Go.Proofs.YtlcceppoloaecaaGreatDoor
