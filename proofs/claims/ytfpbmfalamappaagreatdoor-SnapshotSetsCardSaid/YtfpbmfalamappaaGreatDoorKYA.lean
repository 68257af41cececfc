/- Parts of the proof, joined. No condition. -/
import Derived.Test.YtfpbmfalamappaaGreatDoorKAA
import Derived.Test.YtfpbmfalamappaaGreatDoorKBC
import Derived.Test.YtfpbmfalamappaaGreatDoorKAS
import Derived.Test.YtfpbmfalamappaaGreatDoorKAW
import Derived.Test.YtfpbmfalamappaaGreatDoorKAT
import Derived.Test.YtfpbmfalamappaaGreatDoorKAU
import Derived.Test.YtfpbmfalamappaaGreatDoorKAR
import Derived.Test.YtfpbmfalamappaaGreatDoorKBD
import Derived.Test.YtfpbmfalamappaaGreatDoorKAJ
import Derived.Test.YtfpbmfalamappaaGreatDoorKAI
set_option linter.unusedSimpArgs false
set_option linter.unusedVariables false
namespace Go.Proofs.YtfpbmfalamappaaGreatDoor
open Go.RowKit Go.MapKept
set_option maxRecDepth 100000
set_option maxHeartbeats 8000000
noncomputable section
def mV (a_a:Bag) (a_b:Bag):Option (Bag):=bif (decide (a_a.rows.length<=5864062014805)) then (bif (decide (a_a.rows.length+a_b.rows.length<=5864062014805)) then ((mI a_a.kinds (a_a.rows++a_b.rows)).bind fun r_1=>some r_1) else none) else none
theorem nU {a_a:Bag} {a_b:Bag} {r:Bag} (H:mV a_a a_b=some r):Pure Tryz.prog 23 [.agg (cBag a_a), .agg (cBag a_b)] (.val (.agg (cBag r))):=by
 unfold mV at H
 refine po_ Tryz.func23 Tryz.ntmps23 ?_
 obtain ⟨g1,H⟩:=aK H
 obtain ⟨g2,H⟩:=aK H
 obtain ⟨r_1,c3,H⟩:=bd_ H
 replace c3:=mq c3
 try simp only [abm,abk,abo,abd,tE_eq,tP_eq] at c3
 cases H
 exact go_
end
set_option maxHeartbeats 8000000
noncomputable section
def wC (a_a:Bag) (a_b:Bag):Option (Bag):=bif (decide (a_a.rows.length<=5864062014805)) then (bif (decide (a_a.rows.length+a_b.rows.length<=5864062014805)) then ((ku (a_a.rows++a_b.rows)).bind fun r_1=>some (⟨a_a.kinds,r_1⟩:Bag)) else none) else none
theorem Mk {a_a:Bag} {a_b:Bag} {r:Bag} (H:wC a_a a_b=some r):Pure Tryz.prog 24 [.agg (cBag a_a), .agg (cBag a_b)] (.val (.agg (cBag r))):=by
 unfold wC at H
 refine po_ Tryz.func24 Tryz.ntmps24 ?_
 obtain ⟨g1,H⟩:=aK H
 obtain ⟨g2,H⟩:=aK H
 obtain ⟨r_1,c3,H⟩:=bd_ H
 replace c3:=fH c3
 try simp only [abm,abk,abo,abd,tE_eq,tP_eq] at c3
 cases H
 exact go_
def Ar (a_a:Bag) (a_b:Bag):Option (Bool):=(ku a_a.rows).bind fun r_1=>(ku a_b.rows).bind fun r_2=>(jS r_1 r_2).bind fun r_3=>some r_3
theorem Om {a_a:Bag} {a_b:Bag} {r:Bool} (H:Ar a_a a_b=some r):Pure Tryz.prog 30 [.agg (cBag a_a), .agg (cBag a_b)] (.val (.one (.bool r))):=by
 unfold Ar at H
 refine po_ Tryz.func30 Tryz.ntmps30 ?_
 obtain ⟨r_1,c1,H⟩:=bd_ H
 replace c1:=fH c1
 obtain ⟨r_2,c2,H⟩:=bd_ H
 replace c2:=fH c2
 obtain ⟨r_3,c3,H⟩:=bd_ H
 replace c3:=Bb c3
 cases H
 exact go_
end
def tY (n:List Val->Nat) (l:List (List Val)):List (List Val):=l.flatMap fun r=>List.replicate (n r) r
theorem Em (n:List Val->Nat) (r:List Val) : ∀ {l:List (List Val)}, l.Nodup->(tY n l).count r=if r∈l then n r else 0
 | [],_=>by simp [tY]
 | x::l,h=>by
  have hd:=List.nodup_cons.1 h
  unfold tY
  rw [abN,List.count_append]
  have ih:=Em n r hd.2
  unfold tY at ih
  rw [ih,List.count_replicate]
  by_cases e:r=x
  ·subst e;simp [hd.1]
  ·have e2 : ¬ x=r:=fun h=>e h.symm
   simp [e,e2]
theorem TQ (n:List Val->Nat) {l:List (List Val)} (h:yc l):Asc bD (tY n l):=by
 induction l with
 | nil=>exact List.Pairwise.nil
 | cons x l ih =>
  have hc:=ab2.1 h
  unfold tY
  rw [abN]
  refine List.pairwise_append.2 ⟨?_,ih hc.2,?_⟩
  ·refine List.pairwise_replicate.2 (.inr ?_)
   rw [tCr_.refl];omega
  ·intro a ha b hb
   rw [List.eq_of_mem_replicate ha]
   obtain ⟨y,hy,hb⟩:=List.mem_flatMap.1 hb
   rw [List.eq_of_mem_replicate hb]
   exact Int.le_of_lt (hc.1 y hy)
def dQ (M:List (ByteArray × Int)):List (AC × AV):=M.map fun p=>(.str p.1, .one (.c (.int .i64 p.2)))
def dm:List (ByteArray × Int)->ByteArray->Int
 | [],_=>0
 | p::r,s=>if s=p.1 then p.2 else dm r s
def d9:List (ByteArray × Int)->ByteArray->Int->List (ByteArray × Int)
 | [],s,n=>[(s,n)]
 | p::r,s,n=>if s=p.1 then (s,n)::r else p::d9 r s n
theorem Bi (M:List (ByteArray × Int)):strKeys (dQ M):=by intro p hp;obtain ⟨q,_,rfl⟩:=abK.1 hp;exact ⟨q.1,rfl⟩
theorem OY (s:ByteArray) : ∀ (M:List (ByteArray × Int)),(iR s (dQ M)=none/\dm M s=0 /\ ∀ n,d9 M s n=M++[(s,n)])\/(∃ i p,iR s (dQ M)=some i/\M[i]?=some p/\dm M s=p.2 /\ ∀ n,d9 M s n=M.set i (s,n))
 | [] => .inl ⟨rfl,rfl,fun _=>rfl⟩
 | p::r=>by
  have hk:iR s (dQ (p::r))=if s=p.1 then some 0 else (iR s (dQ r)).map (· + 1):=rfl
  by_cases h:s=p.1
  ·exact .inr ⟨0,p,by rw [hk,if_pos h],rfl,by simp [dm,h],fun n=>by simp [d9,h]⟩
  ·rcases OY s r with ⟨h1,h2,h3⟩|⟨i,q,h1,h2,h3,h4⟩
   ·exact .inl ⟨by rw [hk,if_neg h,h1];rfl,by simp [dm,h,h2],fun n=>by simp [d9,h,h3]⟩
   ·exact .inr ⟨i+1,q,by rw [hk,if_neg h,h1];rfl,by simpa using h2,by simp [dm,h,h3],fun n=>by simp [d9,h,h4]⟩
theorem UM (M:List (ByteArray × Int)) (s:ByteArray):qB (dQ M) s (.one (.c (.int .i64 0))) = .one (.c (.int .i64 (dm M s))):=by
 unfold qB
 rcases OY s M with ⟨h1,h2,_⟩|⟨i,p,h1,h2,h3,_⟩
 ·rw [h1,h2]
 ·have:(dQ M)[i]?=some (.str p.1, .one (.c (.int .i64 p.2))):=by unfold dQ;rw [abx,h2];rfl
  rw [h1];simp only [this];rw [h3]
theorem Xe (M:List (ByteArray × Int)) (s:ByteArray) (n:Int):DI (dQ M) s (.one (.c (.int .i64 n)))=dQ (d9 M s n):=by
 unfold DI
 rcases OY s M with ⟨h1,_,h3⟩|⟨i,p,h1,h2,_,h4⟩
 ·rw [h1,h3];simp [dQ]
 ·rw [h1,h4];unfold dQ;rw [List.map_set]
theorem SG (σ:List Nat) (M:List (ByteArray × Int)):(Ob.map (dQ M)).ren σ=Ob.map (dQ M):=by
 simp only [Ob.ren,dQ,List.map_map];rfl
theorem bN (n:Nat) (M:List (ByteArray × Int)):(Ob.map (dQ M)).below n:=by
 intro p hp;obtain ⟨q,_,rfl⟩:=abK.1 hp;trivial
theorem QF {P:Program} {ti:TI} {ρ:Operand->Option AV} {L:List Ob} {t:TypeId} {kt et:TypeId} {x k:Operand} {s:ByteArray} {id:Nat} {M:List (ByteArray × Int)} (hti:TIok P ti) (hx:ρ x=some (.one (.mp id))) (hk:ρ k=some (.one (.c (.str s)))) (hL:L[id]?=some (.map (dQ M)))
  (ht:ti.kind t=some (.map kt et)) (hkt:ti.kind kt=some .string) (hz:ti.zero et=some (.one (.c (.int .i64 0)))):rX P ρ L (.lookup t x k false) (.one (.c (.int .i64 (dm M s)))) L:=by
 have:=yE (P:=P) hx hk hL (Bi M) (hti.kind _ _ ht) (hti.kind _ _ hkt) (hti.zero _ _ hz)
 rw [UM] at this
 exact this
theorem wJ {P:Program} {ti:TI} {ρ:Operand->Option AV} {L:List Ob} {t:TypeId} {kt et:TypeId} {x k y:Operand} {s:ByteArray} {id:Nat} {n:Int} {M:List (ByteArray × Int)} (hti:TIok P ti) (hx:ρ x=some (.one (.mp id))) (hk:ρ k=some (.one (.c (.str s)))) (hy:ρ y=some (.one (.c (.int .i64 n)))) (hL:L[id]?=some (.map (dQ M)))
  (ht:ti.kind t=some (.map kt et)) (hkt:ti.kind kt=some .string):rX P ρ L (.mapUpdate t x k y) .undef (L.set id (.map (dQ (d9 M s n)))):=by
 have:=qp (P:=P) hx hk hy hL (Bi M) (hti.kind _ _ ht) (hti.kind _ _ hkt)
 rw [Xe] at this
 exact this
def LV (M:List (ByteArray × Int)) (k:ByteArray):List (ByteArray × Int):=d9 M k (dm M k+1)
def qo (ks:List ByteArray):List (ByteArray × Int):=ks.foldl LV []
theorem nX (s t:ByteArray) (n:Int) : ∀ (M:List (ByteArray × Int)),dm (d9 M s n) t=if t=s then n else dm M t
 | []=>by by_cases h:t=s<;>simp [d9,dm,h]
 | p::r=>by
  unfold d9
  by_cases h:s=p.1
  ·rw [if_pos h]
   by_cases h2:t=s
   ·simp [dm,h2]
   ·have : ¬ t=p.1:=fun e=>h2 (e.trans h.symm)
    simp [dm,h2,this]
  ·rw [if_neg h]
   have ih:=nX s t n r
   by_cases h2:t=p.1
   ·have : ¬ t=s:=fun e=>h (e.symm.trans h2)
    simp [dm,h2,this]
    intro e;exact absurd e.symm h
   ·simp only [dm,h2,if_false,ih]
theorem Uw (ks:List ByteArray) (k:ByteArray):qo (ks++[k])=d9 (qo ks) k (dm (qo ks) k+1):=by unfold qo;rw [List.foldl_append];rfl
theorem Iz (ks:List ByteArray) (s:ByteArray):0<=dm (qo ks) s/\dm (qo ks) s<=ks.length:=by
 have : ∀ (ks:List ByteArray) (M:List (ByteArray × Int)) (b:Int),(∀ s,0<=dm M s/\dm M s<=b) -> ∀ s,0<=dm (ks.foldl LV M) s/\dm (ks.foldl LV M) s<=b+ks.length:=by
  intro ks
  induction ks with
  | nil=>intro M b h s;simpa using h s
  | cons k ks ih =>
   intro M b h s
   rw [abX]
   have:=ih (LV M k) (b+1) (fun t=>by
    unfold LV
    rw [nX]
    have h1:=h k;have h2:=h t
    split<;>omega) s
   simp only [abw];omega
 have:=this ks [] 0 (fun s=>by simp [dm]) s
 simpa [qo] using this
theorem Pe (it:Int->ByteArray) (l:List (List Val)) (hl:l.length<=1000000) (hk : ∀ r∈l,Pure Tryz.prog 54 [.one (bO r)] (.val (.one (.str (dD it r))))):Run Tryz.prog 102 [] [.one (.c (bM l))] [.map (dQ (qo (l.map (dD it))))] (.one (.mp 0)):=by
 refine bQ dP Tryz.func102 rfl rfl Tryz.ntmps102 (by simp) ?_
 simp only [j4]
 obtain ⟨n,hn⟩ : ∃ n,l.length=n:=⟨_,rfl⟩
 repeat' (first
  | refine st_nil ?_
  | refine ay rfl rfl rfl rfl ph_ ?_
  | refine az rfl rfl rfl rfl ph_ ?_
  | refine sS_ rfl rfl rfl ph_ ?_
  | refine aC rfl rfl rfl rfl ph_ ?_
  | refine aj rfl rfl rfl ?_
  | refine sk0_ rfl rfl ?_
  | (refine aM rfl (fun hb=>?_) (fun hb=>?_)<;>(first|exact (fx_ hb).elim|rw [hb]))
  | refine aw_seq ?_
  | refine aw_region dP _ rfl ?_
  | refine aw_drawn2 jh _ rfl mixed (by decide +kernel) ?_
  | (refine ah rfl (fun hb=>?_) (fun hb=>?_)<;>(try exact (fx_ hb).elim))
  | refine aw_block ?_
  | refine aw_exit ?_
  | refine aw_ret ?_
  | refine aw_skip ?_
  | (refine cZ rfl rfl rfl rfl rfl jZ ?_))
 refine df (fun i:Nat=>[(3, .one (.mp 0)),(7, .one (.c (bM l))),(8, .one (.c (.int .i64 n))),(9, .one (.c (.int .i64 i)))]) (fun i=>[.map (dQ (qo ((l.take i).map (dD it))))]) (fun i=>i<=n) (fun i=>n-i) 0 (by omega) (fun _ _=>abv _)
  (fm_ ⟨rfl,rfl,aT (by simp [hn]),rfl,trivial⟩ [] rfl ⟨by show 0<1;omega,trivial,trivial,trivial,trivial⟩ ⟨bN _ _,trivial⟩) ?_
 intro i hi
 by_cases hlt:i<n
 ·obtain ⟨r,hx⟩:=gol_ (show i<l.length by omega)
  have hb2:=Iz ((l.take i).map (dD it)) (dD it r)
  have hcl:((l.take i).map (dD it)).length=i:=by simp;omega
  have hnx:qo ((l.take (i+1)).map (dD it))=d9 (qo ((l.take i).map (dD it))) (dD it r) (dm (qo ((l.take i).map (dD it))) (dD it r)+1):=by rw [bS hx,abm];exact Uw _ _
  have hw:IntKind.i64.wrap (dm (qo ((l.take i).map (dD it))) (dD it r)+1)=dm (qo ((l.take i).map (dD it))) (dD it r)+1:=bJ (by omega)
  repeat' (first
   | refine st_nil ?_
   | refine ay rfl rfl rfl rfl ph_ ?_
   | (refine aW rfl rfl rfl rfl rfl rfl rfl rfl (bg hx) ?_ ?_; · exact ⟨by omega,rfl⟩)
   | refine az rfl rfl rfl rfl ph_ ?_
   | refine sS_ rfl rfl rfl ph_ ?_
   | refine aC rfl rfl rfl rfl ph_ ?_
   | refine aj rfl rfl rfl ?_
   | refine sk0_ rfl rfl ?_
   | refine aG rfl rfl rfl rfl (hk r (abe hx)) rfl ?_
   | (refine aM rfl (fun hb=>?_) (fun hb=>?_)<;>(first|exact (fx_ hb).elim|rw [hb]))
   | refine aw_seq ?_
   | refine aw_region dP _ rfl ?_
   | refine aw_drawn2 jh _ rfl mixed (by decide +kernel) ?_
   | (refine ah rfl (fun hb=>?_) (fun hb=>?_)<;>(try exact (fx_ hb).elim))
   | refine aw_block ?_
   | refine aw_exit ?_
   | refine aw_ret ?_
   | refine aw_skip ?_
   | (refine dB rfl rfl rfl rfl rfl (QF (M:=qo ((l.take i).map (dD it))) dP rfl rfl rfl rfl rfl rfl) ?_)
   | (refine uo rfl rfl rfl rfl (wJ (M:=qo ((l.take i).map (dD it))) dP rfl rfl rfl rfl rfl rfl) ?_))
  exact ⟨i+1,by omega,by omega,fm_ ⟨rfl,rfl,rfl,aT (bu (by omega) (by omega)),trivial⟩ [] (by rw [hnx,hw];rfl) ⟨by show 0<1;omega,trivial,trivial,trivial,trivial⟩ ⟨bN _ _,trivial⟩⟩
 ·have htk:l.take i=l:=abP (by omega)
  rw [htk]
  repeat' (first
   | refine st_nil ?_
   | refine ay rfl rfl rfl rfl ph_ ?_
   | refine az rfl rfl rfl rfl ph_ ?_
   | refine sS_ rfl rfl rfl ph_ ?_
   | refine aC rfl rfl rfl rfl ph_ ?_
   | refine aj rfl rfl rfl ?_
   | refine sk0_ rfl rfl ?_
   | (refine aM rfl (fun hb=>?_) (fun hb=>?_)<;>(first|exact (fx_ hb).elim|rw [hb]))
   | refine aw_seq ?_
   | refine aw_region dP _ rfl ?_
   | refine aw_drawn2 jh _ rfl mixed (by decide +kernel) ?_
   | (refine ah rfl (fun hb=>?_) (fun hb=>?_)<;>(try exact (fx_ hb).elim))
   | refine aw_block ?_
   | refine aw_exit ?_
   | refine aw_ret ?_
   | refine aw_skip ?_)
  exact ⟨.inr rfl,⟨.inl ⟨2,rfl,rfl⟩,⟨[],rfl⟩,abv _,cz ⟨bN _ _,trivial⟩,by show 0<1;omega⟩⟩
structure Xl where
 M:List (ByteArray × Int)
 W:List (List Val)
 O:List (List Val)
def yU (it:Int->ByteArray) (s:Xl) (r:List Val):Xl:=if 0<dm s.M (dD it r) then ⟨d9 s.M (dD it r) (dm s.M (dD it r)-1),s.W++[r],s.O⟩ else ⟨s.M,s.W,s.O++[r]⟩
def Hz (it:Int->ByteArray) (a b:List (List Val)):Xl:=a.foldl (yU it) ⟨qo (b.map (dD it)),[],[]⟩
theorem UB (it:Int->ByteArray) (a b:List (List Val)) (r:List Val):Hz it (a++[r]) b=yU it (Hz it a b) r:=by unfold Hz;rw [List.foldl_append];rfl
theorem Sn (it:Int->ByteArray) (a b:List (List Val)) (s:ByteArray):0<=dm (Hz it a b).M s/\dm (Hz it a b).M s<=b.length:=by
 have : ∀ (a:List (List Val)) (S:Xl) (n:Int),(∀ s,0<=dm S.M s/\dm S.M s<=n) -> ∀ s,0<=dm (a.foldl (yU it) S).M s/\dm (a.foldl (yU it) S).M s<=n:=by
  intro a
  induction a with
  | nil=>intro S n h;exact h
  | cons r a ih =>
   intro S n h
   rw [abX]
   refine ih _ n fun t=>?_
   unfold yU
   split
   ·simp only;rw [nX];have:=h (dD it r);have:=h t;split<;>omega
   ·exact h t
 have h:=this a ⟨qo (b.map (dD it)),[],[]⟩ b.length (fun s=>by have:=Iz (b.map (dD it)) s;simpa using this) s
 exact h
theorem Wd (it:Int->ByteArray) (a b:List (List Val)):(Hz it a b).W.length+(Hz it a b).O.length=a.length:=by
 have : ∀ (a:List (List Val)) (S:Xl),(a.foldl (yU it) S).W.length+(a.foldl (yU it) S).O.length=S.W.length+S.O.length+a.length:=by
  intro a
  induction a with
  | nil=>intro S;simp
  | cons r a ih=>intro S;rw [abX,ih];unfold yU;split<;>simp<;>omega
 have:=this a ⟨qo (b.map (dD it)),[],[]⟩
 simpa [Hz] using this
theorem a_ {n:Nat} {x y:AC} : (Ob.box [.c x, .c y]).below n:=by
 intro z hz
 rcases abq.1 hz with rfl|hz
 ·trivial
 rcases abq.1 hz with rfl|hz
 ·trivial
 cases hz
set_option maxHeartbeats 2000000 in
theorem Oh (it:Int->ByteArray) (ka kb:List Int) (a b:List (List Val)) (ha:a.length<=1000000) (hb0:b.length<=1000000) (hka : ∀ r∈a,Pure Tryz.prog 54 [.one (bO r)] (.val (.one (.str (dD it r))))) (hkb : ∀ r∈b,Pure Tryz.prog 54 [.one (bO r)] (.val (.one (.str (dD it r))))):Pure Tryz.prog 64 [.agg [bB ka,bM a], .agg [bB kb,bM b]] (.tup [.one (bM (Hz it a b).W), .one (bM (Hz it a b).O)]):=by
 refine pa_ dP Tryz.func64 rfl rfl Tryz.ntmps64 (by simp) ?_
 simp only [argT,PV.av,abk,abo]
 obtain ⟨n,hn⟩ : ∃ n,a.length=n:=⟨_,rfl⟩
 have hml:(((a.map fun r=>[bO r]).length:Nat):Int)=n:=by simp [hn]
 repeat' (first
  | refine st_nil ?_
  | refine ay rfl rfl rfl rfl ph_ ?_
  | refine az rfl rfl rfl rfl ph_ ?_
  | refine sS_ rfl rfl rfl ph_ ?_
  | refine aC rfl rfl rfl rfl ph_ ?_
  | refine aj rfl rfl rfl ?_
  | refine sk0_ rfl rfl ?_
  | (refine dF [] rfl rfl rfl rfl (Pe it b hb0 hkb) rfl ⟨rfl,by simp,fun i x hx=>by simp at hx,fun x hx=>by simp at hx,kU ⟨trivial,trivial⟩⟩ rfl (show joinL [] _ [_]=[.box [.c (bB ka), .c (bM a)], .box [.c (bB kb), .c (bM b)], .map (dQ (qo (b.map (dD it))))] by simp only [joinL,abk,SG];rfl) ?_)
  | (refine aM rfl (fun hb=>?_) (fun hb=>?_)<;>(first|exact (fx_ hb).elim|rw [hb]))
  | refine aw_seq ?_
  | refine aw_region dP _ rfl ?_
  | refine aw_drawn2 jh _ rfl mixed (by decide +kernel) ?_
  | (refine ah rfl (fun hb=>?_) (fun hb=>?_)<;>(try exact (fx_ hb).elim))
  | refine aw_block ?_
  | refine aw_exit ?_
  | refine aw_ret ?_
  | refine aw_skip ?_)
 refine dh 7 1 rfl ?_
 refine dh 8 1 rfl ?_
 refine df (fun i:Nat=>[(6, .one (.mp 2)),(7, .one (.own ((Hz it (a.take i) b).W.map fun r=>[bO r]) 3)),(8, .one (.own ((Hz it (a.take i) b).O.map fun r=>[bO r]) 4)),(16, .one (.c (bM a))),(17, .one (.c (.int .i64 n))),(18, .one (.c (.int .i64 i)))]) (fun i=>[.box [.c (bB ka), .c (bM a)], .box [.c (bB kb), .c (bM b)], .map (dQ (Hz it (a.take i) b).M), .spare (Hz it (a.take i) b).W.length 1, .spare (Hz it (a.take i) b).O.length 1]) (fun i=>i<=n) (fun i=>n-i) 0 (by omega) (fun _ _=>abv _)
  (fm_ ⟨rfl,rfl,rfl,rfl,aT hml,rfl,trivial⟩ [] rfl ⟨by show 2<5;omega,by show 3<5;omega,by show 4<5;omega,trivial,trivial,trivial,trivial⟩ ⟨a_,a_,bN _ _,trivial,trivial,trivial⟩) ?_
 intro i hi
 by_cases hlt:i<n
 ·obtain ⟨r,hx⟩:=gol_ (show i<a.length by omega)
  have hb2:=Sn it (a.take i) b (dD it r)
  have hsl:=Wd it (a.take i) b
  rw [abY] at hsl
  have hnx:Hz it (a.take (i+1)) b=yU it (Hz it (a.take i) b) r:=by rw [bS hx];exact UB _ _ _ _
  unfold yU at hnx
  generalize Hz it (a.take i) b=S at hb2 hsl hnx
  obtain ⟨M,W,O⟩:=S
  dsimp only at hb2 hsl hnx ⊢
  have hw:IntKind.i64.wrap (dm M (dD it r)-1)=dm M (dD it r)-1:=bJ (by omega)
  have hWl:(W.map fun r=>[bO r]).length=W.length:=by simp
  have hOl:(O.map fun r=>[bO r]).length=O.length:=by simp
  repeat' (first
   | refine st_nil ?_
   | (refine ay rfl rfl rfl rfl ?_ ?_; · (repeat' (first|exact trivial|rfl|exact abj rfl|omega|(intro e he;simp at he;subst he;rfl)|exact hWl|exact hOl|(show (_+1)*24<=_;omega)|(show _+1<=_;omega)|apply And.intro)))
   | (refine aW rfl rfl rfl rfl rfl rfl rfl rfl (bg hx) ?_ ?_; · exact ⟨by omega,rfl⟩)
   | (refine az rfl rfl rfl rfl ?_ ?_; · (repeat' (first|exact trivial|rfl|exact abj rfl|omega|(intro e he;simp at he;subst he;rfl)|exact hWl|exact hOl|(show (_+1)*24<=_;omega)|(show _+1<=_;omega)|apply And.intro)))
   | (refine sS_ rfl rfl rfl ?_ ?_; · (repeat' (first|exact trivial|rfl|exact abj rfl|omega|(intro e he;simp at he;subst he;rfl)|exact hWl|exact hOl|(show (_+1)*24<=_;omega)|(show _+1<=_;omega)|apply And.intro)))
   | (refine aC rfl rfl rfl rfl ?_ ?_; · (repeat' (first|exact trivial|rfl|exact abj rfl|omega|(intro e he;simp at he;subst he;rfl)|exact hWl|exact hOl|(show (_+1)*24<=_;omega)|(show _+1<=_;omega)|apply And.intro)))
   | refine aj rfl rfl rfl ?_
   | refine sk0_ rfl rfl ?_
   | refine aG rfl rfl rfl rfl (hka r (abe hx)) rfl ?_
   | (refine aM rfl (fun hb=>?_) (fun hb=>?_)<;>(first|exact (fx_ hb).elim|rw [hb]))
   | refine aw_seq ?_
   | refine aw_region dP _ rfl ?_
   | refine aw_drawn2 jh _ rfl mixed (by decide +kernel) ?_
   | (refine ah rfl (fun hb=>?_) (fun hb=>?_)<;>(try exact (fx_ hb).elim))
   | refine aw_block ?_
   | refine aw_exit ?_
   | refine aw_ret ?_
   | refine aw_skip ?_
   | (refine dB rfl rfl rfl rfl rfl (QF (M:=M) dP rfl rfl rfl rfl rfl rfl) ?_)
   | (refine uo rfl rfl rfl rfl (wJ (M:=M) dP rfl rfl rfl rfl rfl rfl) ?_))
  ·have hp:0<dm M (dD it r):=abD hb
   rw [if_pos hp] at hnx
   exact ⟨i+1,by omega,by omega,by rw [hnx];exact fm_ ⟨rfl,cB (by rw [abm];rfl),rfl,rfl,rfl,aT (bu (by omega) (by omega)),trivial⟩ [] (by rw [hw];simp) ⟨by show 2<5;omega,by show 3<5;omega,by show 4<5;omega,trivial,trivial,trivial,trivial⟩ ⟨a_,a_,bN _ _,trivial,trivial,trivial⟩⟩
  ·have hp : ¬ 0<dm M (dD it r):=of_decide_eq_false hb
   rw [if_neg hp] at hnx
   exact ⟨i+1,by omega,by omega,by rw [hnx];exact fm_ ⟨rfl,rfl,cB (by rw [abm];rfl),rfl,rfl,aT (bu (by omega) (by omega)),trivial⟩ [] (by simp) ⟨by show 2<5;omega,by show 3<5;omega,by show 4<5;omega,trivial,trivial,trivial,trivial⟩ ⟨a_,a_,bN _ _,trivial,trivial,trivial⟩⟩
 ·have htk:a.take i=a:=abP (by omega)
  rw [htk]
  repeat' (first
   | refine st_nil ?_
   | refine ay rfl rfl rfl rfl ph_ ?_
   | refine az rfl rfl rfl rfl ph_ ?_
   | refine sS_ rfl rfl rfl ph_ ?_
   | refine aC rfl rfl rfl rfl ph_ ?_
   | refine aj rfl rfl rfl ?_
   | refine sk0_ rfl rfl ?_
   | (refine aM rfl (fun hb=>?_) (fun hb=>?_)<;>(first|exact (fx_ hb).elim|rw [hb]))
   | refine aw_seq ?_
   | refine aw_region dP _ rfl ?_
   | refine aw_drawn2 jh _ rfl mixed (by decide +kernel) ?_
   | (refine ah rfl (fun hb=>?_) (fun hb=>?_)<;>(try exact (fx_ hb).elim))
   | refine aw_block ?_
   | refine aw_exit ?_
   | refine aw_ret ?_
   | refine aw_skip ?_)
  exact aO (aR rfl (by trivial) rfl)
theorem ND (r:List Val) : ∀ (b:List (List Val)) (M:List (ByteArray × Int)),dm ((b.map eX).foldl LV M) (eX r)=dm M (eX r)+(b.count r:Int)
 | [],M=>by simp
 | x::b,M=>by
  rw [abk,abX,ND r b]
  unfold LV
  rw [nX]
  by_cases e:r=x
  ·subst e
   rw [if_pos rfl,List.count_cons_self]
   omega
  ·have e2 : ¬ x=r:=fun h=>e h.symm
   rw [if_neg (fun h=>e (vO h)),List.count_cons_of_ne e2]
theorem FK : ∀ (a:List (List Val)) (n:List Val->Nat) (S:Xl),(∀ r,dm S.M (eX r)=(n r:Int))->(a.foldl (yU dG) S).W=S.W++(iy n a).1/\(a.foldl (yU dG) S).O=S.O++(iy n a).2
 | [],n,S,h=>by simp [iy]
 | x::a,n,S,h=>by
  have hx:dm S.M (dD dG x)=(n x:Int):=h x
  have e0:yU dG S x=if 0<dm S.M (dD dG x) then ⟨d9 S.M (dD dG x) (dm S.M (dD dG x)-1),S.W++[x],S.O⟩ else ⟨S.M,S.W,S.O++[x]⟩:=rfl
  rw [abX,e0]
  unfold iy
  by_cases hp:0<n x
  ·rw [if_pos hp,if_pos (by rw [hx];omega)]
   have ih:=FK a (fun y=>if y=x then n x-1 else n y) ⟨d9 S.M (dD dG x) (dm S.M (dD dG x)-1),S.W++[x],S.O⟩ (fun r=>by
    show dm (d9 S.M (eX x) _) (eX r)=_
    rw [nX,hx]
    by_cases e:r=x
    ·subst e
     rw [if_pos rfl,if_pos rfl]
     omega
    ·rw [if_neg (fun h=>e (vO h)),if_neg e]
     exact h r)
   rw [ih.1,ih.2]
   simp
  ·rw [if_neg hp,if_neg (by rw [hx];omega)]
   have ih:=FK a n ⟨S.M,S.W,S.O++[x]⟩ h
   rw [ih.1,ih.2]
   simp
theorem Tc (a b:List (List Val)):(Hz dG a b).W=(iy (fun r=>b.count r) a).1/\(Hz dG a b).O=(iy (fun r=>b.count r) a).2:=by
 have:=FK a (fun r=>b.count r) ⟨qo (b.map eX),[],[]⟩ (fun r=>by
  show dm ((b.map eX).foldl LV []) (eX r)=_
  rw [ND]
  show (0:Int)+_=_
  omega)
 rw [abd,abd] at this
 exact this
set_option maxHeartbeats 8000000
def xI (a b:Bag):Option (List (List Val) × List (List Val)):=bif C_ a.rows&&C_ b.rows then some (iy (fun r=>b.rows.count r) a.rows) else none
theorem G8 {a b:Bag} {r:List (List Val) × List (List Val)} (H:xI a b=some r):Pure Tryz.prog 64 [.agg (cBag a), .agg (cBag b)] (.tup [.one (.lst (r.1.map (fun x=>[AC.lst (x.map cV)]))), .one (.lst (r.2.map (fun x=>[AC.lst (x.map cV)])))]):=by
 unfold xI at H
 obtain ⟨g,H⟩:=nP H
 obtain rfl:=abH H
 rw [abr] at g
 obtain ⟨ha,hka⟩:=GI g.1
 obtain ⟨hb,hkb⟩:=GI g.2
 have:=Oh dG a.kinds b.kinds a.rows b.rows ha hb (fun r hr=>xE r (hka r hr).1 (hka r hr).2) (fun r hr=>xE r (hkb r hr).1 (hkb r hr).2)
 rw [(Tc a.rows b.rows).1,(Tc a.rows b.rows).2] at this
 exact this
set_option maxHeartbeats 8000000
noncomputable section
def qX (a_a:Bag) (a_b:Bag):Option (Bag):=(xI a_a a_b).bind fun r_1=>(mI a_a.kinds r_1.2).bind fun r_2=>some r_2
theorem Di {a_a:Bag} {a_b:Bag} {r:Bag} (H:qX a_a a_b=some r):Pure Tryz.prog 25 [.agg (cBag a_a), .agg (cBag a_b)] (.val (.agg (cBag r))):=by
 unfold qX at H
 refine po_ Tryz.func25 Tryz.ntmps25 ?_
 obtain ⟨r_1,c1,H⟩:=bd_ H
 replace c1:=G8 c1
 obtain ⟨r_2,c2,H⟩:=bd_ H
 replace c2:=mq c2
 cases H
 exact go_
def wU (a_a:Bag) (a_b:Bag):Option (Bag):=(xI a_a a_b).bind fun r_1=>(mI a_a.kinds r_1.1).bind fun r_2=>some r_2
theorem F9 {a_a:Bag} {a_b:Bag} {r:Bag} (H:wU a_a a_b=some r):Pure Tryz.prog 27 [.agg (cBag a_a), .agg (cBag a_b)] (.val (.agg (cBag r))):=by
 unfold wU at H
 refine po_ Tryz.func27 Tryz.ntmps27 ?_
 obtain ⟨r_1,c1,H⟩:=bd_ H
 replace c1:=G8 c1
 obtain ⟨r_2,c2,H⟩:=bd_ H
 replace c2:=mq c2
 cases H
 exact go_
def xO (a_a:(List Val)) (a_b:(List Val)):Option (Bool):=(CK a_a a_b).bind fun r_1=>some (decide (r_1=(0:Int)))
theorem Pj {a_a:(List Val)} {a_b:(List Val)} {r:Bool} (H:xO a_a a_b=some r):Pure Tryz.prog 105 [.one (.lst (a_a.map cV)), .one (.lst (a_b.map cV))] (.val (.one (.bool r))):=by
 unfold xO at H
 refine po_ Tryz.func105 Tryz.ntmps105 ?_
 obtain ⟨r_1,c1,H⟩:=bd_ H
 replace c1:=M8 c1
 cases H
 exact go_
def zz (a_s1:(List (List Val))) (a_s2:(List (List Val))) (a_eq:(List Val)->(List Val)->Option (Bool)):(Int)->Option (Step (Int) (Bool)):=fun s=>match s with
 | v_2=>bif (decide (v_2<((a_s1.length:Nat):Int))) then (aL a_s1 v_2).bind fun x_4=>(aL a_s2 v_2).bind fun x_5=>(a_eq x_4 x_5).bind fun r_6=>bif (!r_6) then some (.ret false) else
 some (.next (IntKind.i64.wrap (v_2+(1:Int)))) else
 some (.exit v_2)
def uT:Sum (Int) (Bool)->Option ((Bool))
 | .inl v_2=>some true
 | .inr q=>some q
def MR (a_s1:(List (List Val))) (a_s2:(List (List Val))) (a_eq:(List Val)->(List Val)->Option (Bool)):Option (Bool):=bif (decide (((a_s1.length:Nat):Int)≠((a_s2.length:Nat):Int))) then some false else
 (ax (zz a_s1 a_s2 a_eq) fuel (0:Int)).bind (uT)
theorem UU {a_s1:(List (List Val))} {a_s2:(List (List Val))} {a_eq:(List Val)->(List Val)->Option (Bool)} {r:Bool} {F_a_eq:FuncId} {caps_a_eq:List AC} (hf_a_eq : ∀ (y0:(List Val)) (y1:(List Val)) (r:Bool),a_eq y0 y1=some r->Pure Tryz.prog F_a_eq ([.one (.lst (y0.map cV)), .one (.lst (y1.map cV))]++caps_a_eq.map .one) (.val (.one (.bool r)))) (H:MR a_s1 a_s2 a_eq=some r):Pure Tryz.prog 104 [.one (.lst (a_s1.map (fun x=>[AC.lst (x.map cV)]))), .one (.lst (a_s2.map (fun x=>[AC.lst (x.map cV)]))), .one (.fn F_a_eq caps_a_eq)] (.val (.one (.bool r))):=by
 unfold MR at H
 refine po_ Tryz.func104 Tryz.ntmps104 ?_
 rcases cnd_ H with ⟨q_1,H⟩|⟨q_1,H⟩
 ·cases H
  exact go_
 refine bC ?_
 refine alM_ (fun s:Int=>match s with|v_2=>[(1, .one (.c (.lst (a_s2.map (fun x=>[AC.lst (x.map cV)]))))),(2, .one (.c (.fn F_a_eq caps_a_eq))),(15, .one (.c (.lst (a_s1.map (fun x=>[AC.lst (x.map cV)]))))),(16, .one (.c (.int .i64 ((a_s1.length:Nat):Int)))),(17, .one (.c (.int .i64 v_2)))]) (fun s=>match s with|v_2=>[]) H (fun _=>abv _)
  (fm_ bV [] rfl bE trivial) ?_
 rintro v_2 st1 hb1 hk1
 unfold zz at hb1
 dsimp only at hb1 ⊢
 rcases cnd_ hb1 with ⟨q_3,hb1⟩|⟨q_3,hb1⟩
 ·obtain ⟨x_4,i1z,i1,i1x,hb1⟩:=aX (f:=(fun x=>[AC.lst (x.map cV)])) hb1
  obtain ⟨x_5,i2z,i2,i2x,hb1⟩:=aX (f:=(fun x=>[AC.lst (x.map cV)])) hb1
  obtain ⟨r_6,c3,hb1⟩:=bd_ hb1
  replace c3:=hf_a_eq _ _ _ c3
  try simp only [abm,abk,abo,abd,tE_eq,tP_eq] at c3
  rcases cnd_ hb1 with ⟨q_7,hb1⟩|⟨q_7,hb1⟩
  ·cases hb1
   have hx1:uT (.inr false)=some _:=hk1
   unfold uT at hx1
   dsimp only at hx1
   cases hx1
   exact go_
  cases hb1
  refine bC ?_
  exact ⟨_,rfl,fm_ bV [] rfl bE trivial⟩
 cases hb1
 have hx1:uT (.inl v_2)=some _:=hk1
 unfold uT at hx1
 dsimp only at hx1
 cases hx1
 exact go_
def KZ (a_a:(List (List Val))) (a_b:(List (List Val))):Option (Bool):=(tq a_a).bind fun r_1=>(tq a_b).bind fun r_2=>(MR r_1 r_2 (fun x0 x1=>xO x0 x1)).bind fun r_3=>some r_3
theorem Su {a_a:(List (List Val))} {a_b:(List (List Val))} {r:Bool} (H:KZ a_a a_b=some r):Pure Tryz.prog 67 [.one (.lst (a_a.map (fun x=>[AC.lst (x.map cV)]))), .one (.lst (a_b.map (fun x=>[AC.lst (x.map cV)])))] (.val (.one (.bool r))):=by
 unfold KZ at H
 refine po_ Tryz.func67 Tryz.ntmps67 ?_
 obtain ⟨r_1,c1,H⟩:=bd_ H
 replace c1:=Cr c1
 obtain ⟨r_2,c2,H⟩:=bd_ H
 replace c2:=Cr c2
 obtain ⟨r_3,c3,H⟩:=bd_ H
 replace c3:=UU (F_a_eq:=105) (caps_a_eq:=[]) (fun x0 x1 r h=>Pj h) c3
 try simp only [abm,abk,abo,abd,tE_eq,tP_eq] at c3
 cases H
 exact go_
def uj (a_a:Bag) (a_b:Bag):Option (Bool):=(KZ a_a.rows a_b.rows).bind fun r_1=>some r_1
theorem qE {a_a:Bag} {a_b:Bag} {r:Bool} (H:uj a_a a_b=some r):Pure Tryz.prog 29 [.agg (cBag a_a), .agg (cBag a_b)] (.val (.one (.bool r))):=by
 unfold uj at H
 refine po_ Tryz.func29 Tryz.ntmps29 ?_
 obtain ⟨r_1,c1,H⟩:=bd_ H
 replace c1:=Su c1
 cases H
 exact go_
end
theorem rJ {a b:List (List Val)} (h:a.Perm b):aI a=aI b:=ol tCr_ (eH a) (eH b) ((bn a).trans (h.trans (bn b).symm))
theorem P7 (f:Nat->Nat->Nat) (a b:List (List Val)) (hf : ∀ m,f 0 m=0) {l:List (List Val)} (hl : ∀ r,l.count r=f (a.count r) (b.count r)):aI l=tY (fun r=>f (a.count r) (b.count r)) (cK none (aI a)):=by
 refine D8 (eH _) (TQ _ (oI a)) fun r=>?_
 rw [fw,hl,Em _ _ (pU (oI a))]
 by_cases h:r∈a
 ·rw [if_pos ((FW a r).2 h)]
 ·rw [if_neg (fun q=>h ((FW a r).1 q)),List.count_eq_zero.2 h,hf]
theorem F8 (a b:List (List Val)):aI (iy (fun r=>b.count r) a).2=tY (fun r=>a.count r-b.count r) (cK none (aI a)):=P7 (fun m n=>m-n) a b (fun m=>by simp) fun r=>(lC r a _).2
theorem Jh (a b:List (List Val)):aI (iy (fun r=>b.count r) a).1=tY (fun r=>min (a.count r) (b.count r)) (cK none (aI a)):=P7 (fun m n=>min m n) a b (fun m=>by simp) fun r=>(lC r a _).1
theorem Qb {l m:List (List Val)} {body:Int->Option (Step Int Bool)} {K:Sum Int Bool->Option Bool} (h1 : ∀ (i:Nat) x y,l[i]?=some x->m[i]?=some y->body (i:Int)=bif !(decide (x=y)) then some (.ret false) else some (.next ((i+1:Nat):Int))) (h2:body ((l.length:Nat):Int)=some (.exit ((l.length:Nat):Int))) (k1 : ∀ j,K (.inl j)=some true) (k2 : ∀ q,K (.inr q)=some q) (hl:l.length=m.length) (hf:l.length<fuel):(ax body fuel (0:Int)).bind K=some (decide (l=m)):=by
 have key : ∀ (n i:Nat),i<=l.length->l.length-i<n->(ax body n (i:Int)).bind K=some (decide (l.drop i=m.drop i)):=by
  intro n
  induction n with
  | zero=>intro i _ h;omega
  | succ n ih =>
   intro i hi hn
   rw [ax]
   by_cases hlt:i<l.length
   ·obtain ⟨x,hx⟩:=gol_ hlt
    obtain ⟨y,hy⟩:=gol_ (l:=m) (i:=i) (by omega)
    have ex:=(aa9.1 hx).2
    have ey:=(aa9.1 hy).2
    rw [h1 i x y hx hy,abG hlt,ex,abG (show i<m.length by omega),ey]
    by_cases h:x=y
    ·subst h
     rw [abb rfl]
     show (ax body n _).bind K=_
     rw [ih (i+1) (by omega) (by omega)]
     simp
    ·rw [aba h]
     show K (.inr false)=_
     rw [k2]
     simp [h]
   ·have:i=l.length:=by omega
    subst this
    rw [h2]
    show K (.inl _)=_
    rw [k1,ab1,hl,ab1]
    rfl
 have:=key fuel 0 (abv _) (by omega)
 rw [List.drop_zero,List.drop_zero] at this
 exact this
theorem MZ (a b:List Val) (ha:a.length<=1000000) (hb:b.length<=1000000):xO a b=some (decide (a=b)):=by
 unfold xO
 rw [MC a b (by omega) (by omega),aa8]
 congr 1
 by_cases h:a=b
 ·subst h
  rw [abb rfl,tCr_.refl];rfl
 ·rw [aba h,aba]
  intro h2;exact h (tCr_.zero _ _ h2)
theorem HZ {l m:List (List Val)} (hl:l.length<=1000000) (hm:m.length<=1000000) (hr : ∀ r∈l,r.length<=1000000) (hs : ∀ r∈m,r.length<=1000000):jS l m=some (decide (l=m)):=by
 unfold jS
 by_cases h:l.length=m.length
 ·rw [aba (show ¬ ((l.length:Nat):Int)≠((m.length:Nat):Int) by omega),aa_]
  refine Qb (l:=l) (m:=m) (fun i x y hx hy=>?_) ?_ (fun _=>rfl) (fun _=>rfl) h (by unfold fuel;omega)
  ·have hi:=(aa9.1 hx).1
   unfold iX
   dsimp only
   rw [aY hx,aa',gn_ hx,aa8,gn_ hy,aa8,pI x y (hr x (abe hx)) (hs y (abe hy)),aa8,wrapN (by omega)]
  ·unfold iX
   dsimp only
   rw [lF_,aa_]
 ·rw [abb (show ((l.length:Nat):Int)≠((m.length:Nat):Int) by omega),aa',aba]
  intro e;exact h (by rw [e])
theorem Q5 {l m:List (List Val)} (hl:l.length<=1000000) (hm:m.length<=1000000) (hr : ∀ r∈l,r.length<=1000000) (hs : ∀ r∈m,r.length<=1000000):MR l m (fun x0 x1=>xO x0 x1)=some (decide (l=m)):=by
 unfold MR
 by_cases h:l.length=m.length
 ·rw [aba (show ¬ ((l.length:Nat):Int)≠((m.length:Nat):Int) by omega),aa_]
  refine Qb (l:=l) (m:=m) (fun i x y hx hy=>?_) ?_ (fun _=>rfl) (fun _=>rfl) h (by unfold fuel;omega)
  ·have hi:=(aa9.1 hx).1
   unfold zz
   dsimp only
   rw [aY hx,aa',gn_ hx,aa8,gn_ hy,aa8,MZ x y (hr x (abe hx)) (hs y (abe hy)),aa8,wrapN (by omega)]
  ·unfold zz
   dsimp only
   rw [lF_,aa_]
 ·rw [abb (show ((l.length:Nat):Int)≠((m.length:Nat):Int) by omega),aa',aba]
  intro e;exact h (by rw [e])
theorem I9 {l:List (List Val)} (h:RK l):tq l=some (aI l):=by
 unfold tq
 rw [Bp h.len fun r hr=>⟨(h.row r hr).1,by have:=(h.row r hr).2.1;omega⟩];rfl
theorem rT {a b:Bag} (ha:RK a.rows) (hb:RK b.rows):uj a b=some (decide (aI a.rows=aI b.rows)):=by
 unfold uj KZ
 have h1:=ha.sort.len;have h2:=hb.sort.len
 rw [I9 ha,aa8,I9 hb,aa8,Q5 (by omega) (by omega) ha.sort.big hb.sort.big];rfl
theorem Pd {a b:Bag} (ha:RK a.rows) (hb:RK b.rows):Ar a b=some (decide (aI a.rows=aI b.rows)):=by
 unfold Ar
 have h1:=ha.sort.len;have h2:=hb.sort.len
 rw [fO _ ha.len ha.big,aa8,fO _ hb.len hb.big,aa8,HZ (by omega) (by omega) ha.sort.big hb.sort.big];rfl
theorem oz {a b:Bag} (hk:a.kinds.length<=1000000) (h:RK (a.rows++b.rows)):mV a b=some ⟨a.kinds,aI (a.rows++b.rows)⟩:=by
 have hl:=h.len
 rw [abg] at hl
 unfold mV
 rw [abb (show a.rows.length<=5864062014805 by omega),aa',abb (show a.rows.length+b.rows.length<=5864062014805 by omega),aa',BO hk h];rfl
theorem M6 {a b:Bag} (h:RK (a.rows++b.rows)):wC a b=some ⟨a.kinds,aI (a.rows++b.rows)⟩:=by
 have hl:=h.len
 rw [abg] at hl
 unfold wC
 rw [abb (show a.rows.length<=5864062014805 by omega),aa',abb (show a.rows.length+b.rows.length<=5864062014805 by omega),aa',fO _ h.len h.big];rfl
theorem C9 {a b:Bag} (hk:a.kinds.length<=1000000) (ha:RK a.rows) (hb:RK b.rows):qX a b=some ⟨a.kinds,aI (iy (fun r=>b.rows.count r) a.rows).2⟩:=by
 unfold qX xI
 rw [ha.keys,hb.keys]
 show (mI a.kinds _).bind _=_
 rw [BO hk (ha.split _).2];rfl
theorem Fz {a b:Bag} (hk:a.kinds.length<=1000000) (ha:RK a.rows) (hb:RK b.rows):wU a b=some ⟨a.kinds,aI (iy (fun r=>b.rows.count r) a.rows).1⟩:=by
 unfold wU xI
 rw [ha.keys,hb.keys]
 show (mI a.kinds _).bind _=_
 rw [BO hk (ha.split _).1];rfl
theorem xX (a b:List Int) (ha:a.length<=1000000) : ∃ c,gN a b=some c:=by
 unfold gN
 by_cases h:a.length=b.length
 ·rw [aba (show ¬ ((a.length:Nat):Int)≠((b.length:Nat):Int) by omega),aa_]
  have key : ∀ (n i:Nat),i<=a.length->a.length-i<n -> ∃ c,(ax (dH a b) n (i:Int)).bind ig=some c:=by
   intro n
   induction n with
   | zero=>intro i _ h;omega
   | succ n ih =>
    intro i hi hn
    rw [ax]
    by_cases hlt:i<a.length
    ·obtain ⟨x,hx⟩:=gol_ hlt
     obtain ⟨y,hy⟩:=gol_ (l:=b) (i:=i) (by omega)
     have hb:dH a b (i:Int)=bif decide (x≠y) then some (.ret false) else some (.next ((i+1:Nat):Int)):=by
      unfold dH
      dsimp only
      rw [aY hx,aa',gn_ hx,aa8,gn_ hy,aa8,wrapN (by omega)]
     rw [hb]
     cases decide (x≠y) with
     | true=>exact ⟨false,rfl⟩
     | false=>exact ih (i+1) (by omega) (by omega)
    ·have:i=a.length:=by omega
     subst this
     have hb:dH a b ((a.length:Nat):Int)=some (.exit ((a.length:Nat):Int)):=by
      unfold dH
      dsimp only
      rw [lF_,aa_]
     rw [hb]
     exact ⟨true,rfl⟩
  exact key fuel 0 (abv _) (by unfold fuel;omega)
 ·rw [abb (show ((a.length:Nat):Int)≠((b.length:Nat):Int) by omega),aa']
  exact ⟨false,rfl⟩
theorem Fp (r x:List Val) (h : ¬ bD x r<0) : ∀ o:List (List Val × Nat),x∈o.map (·.1)↔x∈(o.dropWhile fun p=>decide (bD p.1 r<0)).map (·.1)
 | []=>Iff.rfl
 | p::o=>by
  by_cases e:bD p.1 r<0
  ·rw [List.dropWhile_cons_of_pos (by simpa using e), <- Fp r x h o,abk,abq]
   constructor
   ·rintro (q|q)
    ·exact absurd (by rw [q];exact e) h
    ·exact q
   ·exact .inr
  ·rw [List.dropWhile_cons_of_neg (by simpa using e)]
theorem Lh (r:List Val) : ∀ o:List (List Val × Nat),(o.dropWhile fun p=>decide (bD p.1 r<0)).Sublist o
 | []=>List.Sublist.refl _
 | p::o=>by
  by_cases e:bD p.1 r<0
  ·rw [List.dropWhile_cons_of_pos (by simpa using e)]
   exact (Lh r o).cons p
  ·rw [List.dropWhile_cons_of_neg (by simpa using e)]
   exact List.Sublist.refl _
theorem Ju (r:List Val) {p:List Val × Nat} {t:List (List Val × Nat)} : ∀ {o:List (List Val × Nat)}, (o.dropWhile fun p=>decide (bD p.1 r<0))=p::t -> ¬ bD p.1 r<0
 | [],h=>by cases h
 | q::o,h=>by
  by_cases e:bD q.1 r<0
  ·rw [List.dropWhile_cons_of_pos (by simpa using e)] at h
   exact Ju r h
  ·rw [List.dropWhile_cons_of_neg (by simpa using e)] at h
   injection h with h1 h2
   rw [<- h1];exact e
def Jj:List (List Val)->List (List Val × Nat)->List Nat
 | [],_=>[]
 | r::rs,o=>(match (o.dropWhile fun p=>decide (bD p.1 r<0)) with|p::_=>if p.1=r then p.2 else 0|[]=>0)::Jj rs (o.dropWhile fun p=>decide (bD p.1 r<0))
theorem NI (f:List Val->Nat) : ∀ (rows:List (List Val)) (o:List (List Val × Nat)),yc rows->yc (o.map (·.1))->(∀ p∈o,p.2=f p.1)->Jj rows o=rows.map fun r=>if r∈o.map (·.1) then f r else 0
 | [],_,_,_,_=>rfl
 | r::rs,o,h1,h2,h3=>by
  have hc:=ab2.1 h1
  have hs:=Lh r o
  have h2':yc ((o.dropWhile fun p=>decide (bD p.1 r<0)).map (·.1)):=h2.sublist (hs.map _)
  have ih:=NI f rs (o.dropWhile fun p=>decide (bD p.1 r<0)) hc.2 h2' (fun p hp=>h3 p (hs.subset hp))
  unfold Jj
  rw [ih,abk]
  congr 1
  ·have hm:=Fp r r (by rw [tCr_.refl];omega) o
   cases hd:(o.dropWhile fun p=>decide (bD p.1 r<0)) with
   | nil =>
    rw [hd] at hm
    rw [if_neg (fun q=>by have:=hm.1 q;cases this)]
   | cons p t =>
    have hh:=Ju r hd
    rw [hd] at hm h2'
    have hp:p∈o:=hs.subset (by rw [hd];simp)
    by_cases e:p.1=r
    ·rw [if_pos (hm.2 (by rw [abk,e];simp))]
     show (if p.1=r then p.2 else 0)=_
     rw [if_pos e,h3 p hp,e]
    ·rw [if_neg (fun q=>?_)]
     ·show (if p.1=r then p.2 else 0)=_
      rw [if_neg e]
     ·have hq:=hm.1 q
      rw [abk] at hq h2'
      have hpc:=ab2.1 h2'
      rcases abq.1 hq with q|q
      ·exact e q.symm
      ·exact hh (hpc.1 r q)
  ·refine List.map_congr_left fun x hx=>?_
   have hlt:=hc.1 x hx
   have hnl : ¬ bD x r<0:=by have:=tCr_.anti r x;omega
   have:=Fp r x hnl o
   by_cases q:x∈o.map (·.1)
   ·rw [if_pos q,if_pos (this.1 q)]
   ·rw [if_neg q,if_neg (fun h=>q (this.2 h))]
theorem Nj : ∀ (l:List (List Val)) (p:Option (List Val)),((cK p l).getLast?.or p)=(l.getLast?.or p)
 | [],_=>rfl
 | y::l,p=>by
  rw [J9, <- Nj l (some y),qM]
  by_cases e:p=some y
  ·rw [if_pos e,e]
  ·rw [if_neg e,J9]
def kK (l:List (List Val)):List Nat:=(cK none l).map fun r=>l.count r
theorem Vh {a b:List (List Val)} (h:Asc bD (a++b)):Asc bD a:=h.sublist (List.sublist_append_left a b)
theorem WB {l:List (List Val)} (h:Asc bD l):yc (cK none l):=(BJ _ _ h (fun q e=>by cases e)).1
theorem Ug {l:List (List Val)} {x:List Val} (h:Asc bD (l++[x])) (hne:l.getLast?≠some x):x∉l:=by
 intro hx
 rcases List.eq_nil_or_concat l with rfl|⟨m,y,rfl⟩
 ·cases hx
 ·rw [List.concat_eq_append] at h hne hx
  have hy:y≠x:=fun e=>hne (by rw [List.getLast?_append,e];rfl)
  rcases abC.1 hx with hm|hm
  ·rw [abB] at h
   have hp:=List.pairwise_append.1 h
   have h1:=hp.2.2 x hm y (by simp)
   have h2:bD y x<=0:=by
    have:=hp.2.1
    exact (ab2.1 this).1 x (by simp)
   have h3:=tCr_.anti x y
   have h4:=tCr_.anti y x
   exact hy (tCr_.zero y x (by omega))
  ·simp at hm
   exact hy hm.symm
theorem Qk {l:List (List Val)} {x:List Val} (h:Asc bD (l++[x])) (hne:l.getLast?≠some x):cK none (l++[x])=cK none l++[x]/\kK (l++[x])=kK l++[1]:=by
 have e:cK none (l++[x])=cK none l++[x]:=by
  rw [uO,zy,if_neg hne]
 refine ⟨e,?_⟩
 unfold kK
 rw [e,abm]
 have hx:=Ug h hne
 congr 1
 ·refine List.map_congr_left fun r hr=>?_
  have : ¬ x=r:=fun q=>hx (by rw [q];exact Aq r _ _ hr)
  rw [List.count_append,List.count_cons_of_ne this]
  rfl
 ·simp [List.count_append,List.count_eq_zero.2 hx]
theorem UV {l:List (List Val)} {x:List Val} (h:Asc bD (l++[x])) (he:l.getLast?=some x):cK none (l++[x])=cK none l/\(cK none l)[(cK none l).length-1]?=some x/\0<(cK none l).length/\kK (l++[x])=(kK l).set ((cK none l).length-1) (l.count x+1):=by
 have e:cK none (l++[x])=cK none l:=by
  rw [uO,zy,if_pos he,abJ]
 have hl:(cK none l).getLast?=some x:=by
  have:=Nj l none
  rw [zy,zy] at this
  rw [this,he]
 have h0:0<(cK none l).length:=by
  cases hn:cK none l with
  | nil=>rw [hn] at hl;cases hl
  | cons a b=>simp
 have hg:(cK none l)[(cK none l).length-1]?=some x:=by rw [<- List.getLast?_eq_getElem?];exact hl
 refine ⟨e,hg,h0,?_⟩
 unfold kK
 rw [e]
 apply List.ext_getElem?
 intro j
 rw [abx]
 by_cases hj:j=(cK none l).length-1
 ·subst hj
  rw [abt (by rw [abl];omega),hg]
  simp [List.count_append]
 ·rw [abu (Ne.symm hj),abx]
  cases hr:(cK none l)[j]? with
  | none=>rfl
  | some r =>
   have hne : ¬ x=r:=by
    intro q
    have hn:=pU (WB (Vh h))
    have hjl:=(aa9.1 hr).1
    have hgl:=(aa9.1 hg).1
    exact hj ((List.getElem_inj (h₀:=hjl) (h₁:=hgl) hn).1 (by rw [(aa9.1 hr).2,(aa9.1 hg).2,q]))
   show some ((l++[x]).count r)=some (l.count r)
   rw [List.count_append,List.count_cons_of_ne hne]
   rfl
set_option maxHeartbeats 8000000
section
variable {P:Program} {ti:TI} {N:Nat} {ds:List (Option Tmp)} {K:Tm->List Ob->Prop} {rest:List Oper} {o:Oper} {T:Tm} {L:List Ob}
theorem Z9 (i:Nat) {g:FuncId} {asx:List AV} {es fs:List (List AC)} {n m k d:Nat} (hd:o.dst=some d) (hN:Nat.blt d N=true) (hg:jk ds T o.guard=some true) (hp:fG ti (look T) o.op=some (g, .one (.own es i)::asx)) (hL:L[i]?=some (.spare n k)) (h:aU P ti N ds K rest ((d, .one (.own fs i))::T) (L.set i (.spare m k)))
  (hc:Run P g [.spare n k] (.one (.own es 0)::asx) [.spare m k] (.one (.own fs 0)):=by assumption) (ha:asx=asx.map (AV.ren [i]):=by rfl) (hb:LZ 1 asx=true:=by rfl):aU P ti N ds K (o::rest) T L:=by
 refine dF [i] hd hN hg hp hc (by rw [abk, <- ha];rfl) ⟨rfl,by simp,fun j y hy=>?_,cz ⟨trivial,trivial⟩,fun x hx=>?_⟩ rfl ?_ h
 ·match j,hy with
  | 0,hy=>simp only [List.getElem?_cons_zero,Option.some.injEq] at hy;subst hy;exact hL
  | j+1,hy=>simp at hy
 ·rcases abq.1 hx with rfl|hx
  ·show 0<1;omega
  ·exact Fj hb x hx
 ·simp only [joinL,join,kX,fV,yH,abk,abo]
  simp [Ob.ren]
end
def WW:TI := { tab with owns:=fun f=>f==66||tab.owns f }
theorem rH:TIok Tryz.prog WW:=⟨tab_ok.size,tab_ok.agg,tab_ok.elem,tab_ok.field,tab_ok.zero,tab_ok.bytes,tab_ok.kind,tab_ok.struct,tab_ok.zok,tab_ok.eqs⟩
def XP:TI := { WW with soft:=true }
theorem xe:TIok Tryz.prog XP:=⟨tab_ok.size,tab_ok.agg,tab_ok.elem,tab_ok.field,tab_ok.zero,tab_ok.bytes,tab_ok.kind,tab_ok.struct,tab_ok.zok,tab_ok.eqs⟩
def nE (l:List (List Val)) (row:List Val) (n:Int):Option (List (List Val)):=bif decide (l.length+n.toNat<=1000000) then some (l++List.replicate n.toNat row) else none
theorem LP (l:List (List Val)) (row:List Val) (i:Nat):l++List.replicate (i+1) row=(l++List.replicate i row)++[row]:=by rw [List.replicate_succ',abB]
theorem zX {l:List (List Val)} {row:List Val} {n:Int} {r:List (List Val)} (H:nE l row n=some r):Run Tryz.prog 66 [.spare l.length 1] [.one (.own (l.map (fun x=>[AC.lst (x.map cV)])) 0), .one (.c (.lst (row.map cV))), .one (.c (.int .i64 n))] [.spare r.length 1] (.one (.own (r.map (fun x=>[AC.lst (x.map cV)])) 0)):=by
 unfold nE at H
 obtain ⟨g,H⟩:=nP H
 obtain rfl:=abH H
 have g:=abD g
 refine bQ tab_ok Tryz.func66 rfl rfl Tryz.ntmps66 (by simp) ?_
 simp only [j4]
 repeat' (first
  | refine st_nil ?_
  | refine ay rfl rfl rfl rfl ph_ ?_
  | refine az rfl rfl rfl rfl ph_ ?_
  | refine sS_ rfl rfl rfl ph_ ?_
  | refine aC rfl rfl rfl rfl ph_ ?_
  | refine aj rfl rfl rfl ?_
  | refine sk0_ rfl rfl ?_
  | (refine aM rfl (fun hb=>?_) (fun hb=>?_)<;>(first|exact (fx_ hb).elim|rw [hb]))
  | refine aw_seq ?_
  | refine aw_region tab_ok _ rfl ?_
  | refine aw_drawn2 tabS_ok _ rfl mixed (by decide +kernel) ?_
  | (refine ah rfl (fun hb=>?_) (fun hb=>?_)<;>(try exact (fx_ hb).elim))
  | refine aw_block ?_
  | refine aw_exit ?_
  | refine aw_ret ?_
  | refine aw_skip ?_)
 refine df (fun i:Nat=>[(0, .one (.own ((l++List.replicate i row).map (fun x=>[AC.lst (x.map cV)])) 0)),(1, .one (.c (.lst (row.map cV)))),(2, .one (.c (.int .i64 n))),(7, .one (.c (.int .i64 i)))]) (fun i=>[.spare (l++List.replicate i row).length 1]) (fun i=>i<=n.toNat) (fun i=>n.toNat-i) 0 (by omega) (fun _ _=>abp _)
  (fm_ ⟨cB (by simp),rfl,rfl,rfl,trivial⟩ [] (by simp) ⟨Nat.zero_lt_one,trivial,trivial,trivial,trivial⟩ ⟨trivial,trivial⟩) ?_
 intro i hi
 by_cases hlt:(i:Int)<n
 ·have hN:decide ((i:Int)<n)=true:=abb hlt
  repeat' (first
   | refine st_nil ?_
   | rw [hN]
   | (refine ay rfl rfl rfl rfl ?_ ?_; · (repeat' (first|exact trivial|rfl|exact abj rfl|omega|(intro e he;simp at he;subst he;rfl)|(simp only [abl];done)|(simp only [abl,abg,List.length_replicate];omega)|(show (_+1)*24<=_;simp only [abl,abg,List.length_replicate];omega)|(show _+1<=_;simp only [abl,abg,List.length_replicate];omega)|apply And.intro)))
   | (refine az rfl rfl rfl rfl ?_ ?_; · (repeat' (first|exact trivial|rfl|exact abj rfl|omega|(intro e he;simp at he;subst he;rfl)|(simp only [abl];done)|(simp only [abl,abg,List.length_replicate];omega)|(show (_+1)*24<=_;simp only [abl,abg,List.length_replicate];omega)|(show _+1<=_;simp only [abl,abg,List.length_replicate];omega)|apply And.intro)))
   | (refine sS_ rfl rfl rfl ?_ ?_; · (repeat' (first|exact trivial|rfl|exact abj rfl|omega|(intro e he;simp at he;subst he;rfl)|(simp only [abl];done)|(simp only [abl,abg,List.length_replicate];omega)|(show (_+1)*24<=_;simp only [abl,abg,List.length_replicate];omega)|(show _+1<=_;simp only [abl,abg,List.length_replicate];omega)|apply And.intro)))
   | (refine aC rfl rfl rfl rfl ?_ ?_; · (repeat' (first|exact trivial|rfl|exact abj rfl|omega|(intro e he;simp at he;subst he;rfl)|(simp only [abl];done)|(simp only [abl,abg,List.length_replicate];omega)|(show (_+1)*24<=_;simp only [abl,abg,List.length_replicate];omega)|(show _+1<=_;simp only [abl,abg,List.length_replicate];omega)|apply And.intro)))
   | refine aj rfl rfl rfl ?_
   | refine sk0_ rfl rfl ?_
   | (refine aM rfl (fun hb=>?_) (fun hb=>?_)<;>(first|exact (fx_ hb).elim|rw [hb]))
   | refine aw_seq ?_
   | refine aw_region tab_ok _ rfl ?_
   | refine aw_drawn2 tabS_ok _ rfl mixed (by decide +kernel) ?_
   | (refine ah rfl (fun hb=>?_) (fun hb=>?_)<;>(try exact (fx_ hb).elim))
   | refine aw_block ?_
   | refine aw_exit ?_
   | refine aw_ret ?_
   | refine aw_skip ?_)
  exact ⟨i+1,by omega,by omega,fm_ ⟨cB (by rw [LP,abm (l₁:=l++List.replicate i row)];rfl),rfl,rfl,aT (bu (by omega) (by omega)),trivial⟩ [] (by rw [LP];simp;omega) ⟨Nat.zero_lt_one,trivial,trivial,trivial,trivial⟩ ⟨trivial,trivial⟩⟩
 ·have hN:decide ((i:Int)<n)=false:=aba hlt
  have hin:i=n.toNat:=by omega
  subst hin
  repeat' (first
   | refine st_nil ?_
   | rw [hN]
   | refine ay rfl rfl rfl rfl ph_ ?_
   | refine az rfl rfl rfl rfl ph_ ?_
   | refine sS_ rfl rfl rfl ph_ ?_
   | refine aC rfl rfl rfl rfl ph_ ?_
   | refine aj rfl rfl rfl ?_
   | refine sk0_ rfl rfl ?_
   | (refine aM rfl (fun hb=>?_) (fun hb=>?_)<;>(first|exact (fx_ hb).elim|rw [hb]))
   | refine aw_seq ?_
   | refine aw_region tab_ok _ rfl ?_
   | refine aw_drawn2 tabS_ok _ rfl mixed (by decide +kernel) ?_
   | (refine ah rfl (fun hb=>?_) (fun hb=>?_)<;>(try exact (fx_ hb).elim))
   | refine aw_block ?_
   | refine aw_exit ?_
   | refine aw_ret ?_
   | refine aw_skip ?_)
  exact ⟨.inr rfl,⟨.inl ⟨6,rfl,rfl⟩,⟨[],rfl⟩,abp _,cz ⟨trivial,trivial⟩,by show 0<1;omega⟩⟩
def sF (n:Nat):List SV:=[SV.c (.int .i64 n)]
theorem QS (X:List Nat):lU (X.map sF)=some (X.map fun n:Nat=>[AC.int .i64 (n:Int)]):=by
 have:=w_ (X.map fun n:Nat=>[AC.int .i64 (n:Int)])
 rw [List.map_map] at this
 exact this
theorem Tq {X:List Nat} {k c:Nat} (h:X[k]?=some c):(X.map sF)[0+(((k:Nat):Int)).toNat]?=some [SV.c (.int .i64 c)]:=by
 rw [abR,Int.toNat_natCast,abx,h];rfl
theorem Ut (X:List Nat):(X.map sF++[[SV.c (.int .i64 0)]])[0+(((X.length:Nat):Int)).toNat]?=some [SV.c (.int .i64 0)]:=by
 rw [abR,Int.toNat_natCast,abf (by simp)];simp
theorem yP (n v k:Nat) (X:List Nat):(Ob.row v (X.map sF) k).below n:=by
 intro e he x hx
 obtain ⟨c,_,rfl⟩:=abK.1 he
 rcases abq.1 hx with rfl|hx
 ·trivial
 ·cases hx
theorem X_ {id v w n m:Nat} (h:n=m) (hv:v=w):some (AV.one (.sl id v 0 n))=some (AV.one (.sl id w 0 m)):=by subst h hv;rfl
def lu (l:List (List Val)):Option (List (List Val) × List Int):=bif decide (l.length<=300)&&l.all (fun r=>decide (r.length<=1000000)) then some (cK none (aI l),(kK (aI l)).map fun (n:Nat)=>(n:Int)) else none
theorem N9 (a b:List Val) (ha:a.length<=1000000) (hb:b.length<=1000000):gU a b=some (decide (a=b)):=by
 unfold gU
 rw [qI a b (by omega) (by omega),aa8]
 congr 1
 by_cases h:a=b
 ·subst h
  rw [abb rfl,tCr_.refl];rfl
 ·rw [aba h,aba]
  intro h2;exact h (tCr_.zero _ _ h2)
def Xv (A:List (List Val)):Nat->AV
 | 0 => .one .emp
 | i+1 => .one (.sl 1 (3+65536*(cK none (A.take (i+1))).length) 0 (cK none (A.take (i+1))).length)
def X4 (A:List (List Val)):Nat->List Ob
 | 0=>[.spare 0 1]
 | i+1=>[.spare (cK none (A.take (i+1))).length 1, .row (3+65536*(cK none (A.take (i+1))).length) ((kK (A.take (i+1))).map sF) 1]
theorem xV {l:List (List Val)} {r:List (List Val) × List Int} (H:lu l=some r):Pure Tryz.prog 103 [.one (.lst (l.map (fun x=>[AC.lst (x.map cV)])))] (.tup [.one (.lst (r.1.map (fun x=>[AC.lst (x.map cV)]))), .one (.lst (r.2.map (fun x=>[AC.int .i64 x])))]):=by
 unfold lu at H
 obtain ⟨g,H⟩:=nP H
 obtain rfl:=abH H
 rw [abr] at g
 have hl:=abD g.1
 have hr : ∀ r∈l,r.length<=1000000:=fun r h=>abD (abW.1 g.2 r h)
 have hsort:=fH (fO l hl hr)
 have hasc:=eH l
 have hal:(aI l).length<=300:=by rw [(bn l).length_eq];exact hl
 have har : ∀ r∈aI l,r.length<=1000000:=fun r h=>hr r ((bn l).mem_iff.1 h)
 refine po_ Tryz.func103 Tryz.ntmps103 ?_
 repeat' (first
  | refine st_nil ?_
  | refine ay rfl rfl rfl rfl ph_ ?_
  | refine az rfl rfl rfl rfl ph_ ?_
  | refine sS_ rfl rfl rfl ph_ ?_
  | refine aC rfl rfl rfl rfl ph_ ?_
  | refine aj rfl rfl rfl ?_
  | refine sk0_ rfl rfl ?_
  | refine aG rfl rfl rfl rfl hsort rfl ?_
  | (refine aM rfl (fun hb=>?_) (fun hb=>?_)<;>(first|exact (fx_ hb).elim|rw [hb]))
  | refine aw_seq ?_
  | refine aw_region tab_ok _ rfl ?_
  | refine aw_drawn2 tabS_ok _ rfl mixed (by decide +kernel) ?_
  | (refine ah rfl (fun hb=>?_) (fun hb=>?_)<;>(try exact (fx_ hb).elim))
  | refine aw_block ?_
  | refine aw_exit ?_
  | refine aw_ret ?_
  | refine aw_skip ?_)
 generalize aI l=A at hsort hasc hal har
 refine dh 5 1 rfl ?_
 refine df (fun i:Nat=>[(4, .one (.c (bM A))),(5, .one (.own ((cK none (A.take i)).map fun r=>[bO r]) 0)),(6,Xv A i),(7, .one (.c (.int .i64 i)))]) (fun i=>X4 A i) (fun i=>i<=A.length) (fun i=>A.length-i) 0 (abv _) (fun _ _=>abv _)
  (fm_ ⟨rfl,rfl,rfl,rfl,trivial⟩ [] rfl ⟨trivial,by show 0<1;omega,trivial,trivial,trivial⟩ ⟨trivial,trivial⟩) ?_
 intro i hi
 by_cases hlt:i<A.length
 ·obtain ⟨x,hx⟩:=gol_ hlt
  have hN:decide ((i:Int)<(((A.map fun r=>[bO r]).length:Nat):Int))=true:=by rw [abl];simp;exact hlt
  have hxl:=har x (abe hx)
  have htk:=bS hx
  have hasc2:Asc bD (A.take i++[x]):=by rw [<- htk];exact hasc.sublist (List.take_sublist _ _)
  match i,hi,hlt,hx,hN,htk,hasc2 with
  | 0,hi,hlt,hx,hN,htk,hasc2 =>
   have hI0:decide (((0:Nat):Int)=0)=true:=rfl
   have hne:([]:List (List Val)).getLast?≠some x:=by simp
   have hcn:=Qk (l:=[]) (by simpa using hasc2) hne
   have ha1:cK none (A.take (0+1))=[x]:=by rw [htk];exact hcn.1
   have hc1:kK (A.take (0+1))=[1]:=by rw [htk];exact hcn.2
   have hS1:Xv A 1 = .one (.sl 1 (3+65536*1) 0 1):=by
    show AV.one (.sl 1 (3+65536*(cK none (A.take (0+1))).length) 0 (cK none (A.take (0+1))).length)=_
    rw [ha1];rfl
   have hO1:X4 A 1=[.spare 1 1, .row (3+65536*1) (([1]:List Nat).map sF) 1]:=by
    show [Ob.spare (cK none (A.take (0+1))).length 1, .row (3+65536*(cK none (A.take (0+1))).length) ((kK (A.take (0+1))).map sF) 1]=_
    rw [ha1,hc1];rfl
   have hw1:IntKind.i64.wrap (((([[SV.c (AC.int .i64 0)]]:List (List SV)).length:Nat):Int)-1)=((0:Nat):Int):=rfl
   have hw2:IntKind.i64.wrap ((0:Int)+1)=1:=by decide
   repeat' (first
    | refine st_nil ?_
    | rw [hN]
    | rw [hI0]
    | rw [hw1]
    | rw [hw2]
    | (refine cZ rfl rfl rfl rfl rfl (uQ au (k:=1) (by_:=8) (xs:=[[SV.c (.int .i64 0)]]) rfl rfl rfl ⟨rfl,_,rfl,by intro e he;simp at he;subst he;rfl⟩ rfl (by decide) rfl rfl rfl (by decide) (by decide) (by decide) (by decide)) ?_)
    | (refine vD rfl rfl rfl rfl rfl rfl rfl ((show ([[SV.c (.int .i64 0)]]:List (List SV))[0+(((0:Nat):Int)).toNat]?=some [SV.c (.int .i64 0)] from rfl)) rfl ?_)
    | (refine vV rfl rfl rfl rfl rfl rfl ((show ([[SV.c (.int .i64 0)]]:List (List SV))[0+(((0:Nat):Int)).toNat]?=some [SV.c (.int .i64 0)] from rfl)) ⟨abj rfl,rfl⟩ rfl ?_)
    | (refine ay rfl rfl rfl rfl ?_ ?_; · (repeat' (first|exact trivial|rfl|exact abj rfl|omega|(show ((0:Nat):Int)<((1:Nat):Int);omega)|(show (_:Int)<((_+1:Nat):Int);omega)|(intro e he;simp at he;subst he;rfl)|(simp only [abl];done)|(simp only [abl];omega)|(show (_+1)*24<=_;omega)|(show _+1<=_;omega)|apply And.intro)))
    | (refine aW rfl rfl rfl rfl rfl rfl rfl rfl (bg hx) ?_ ?_; · exact ⟨by omega,rfl⟩)
    | (refine az rfl rfl rfl rfl ?_ ?_; · (repeat' (first|exact trivial|rfl|exact abj rfl|omega|(show ((0:Nat):Int)<((1:Nat):Int);omega)|(show (_:Int)<((_+1:Nat):Int);omega)|(intro e he;simp at he;subst he;rfl)|(simp only [abl];done)|(simp only [abl];omega)|(show (_+1)*24<=_;omega)|(show _+1<=_;omega)|apply And.intro)))
    | (refine sS_ rfl rfl rfl ?_ ?_; · (repeat' (first|exact trivial|rfl|exact abj rfl|omega|(show ((0:Nat):Int)<((1:Nat):Int);omega)|(show (_:Int)<((_+1:Nat):Int);omega)|(intro e he;simp at he;subst he;rfl)|(simp only [abl];done)|(simp only [abl];omega)|(show (_+1)*24<=_;omega)|(show _+1<=_;omega)|apply And.intro)))
    | (refine aC rfl rfl rfl rfl ?_ ?_; · (repeat' (first|exact trivial|rfl|exact abj rfl|omega|(show ((0:Nat):Int)<((1:Nat):Int);omega)|(show (_:Int)<((_+1:Nat):Int);omega)|(intro e he;simp at he;subst he;rfl)|(simp only [abl];done)|(simp only [abl];omega)|(show (_+1)*24<=_;omega)|(show _+1<=_;omega)|apply And.intro)))
    | refine aj rfl rfl rfl ?_
    | refine sk0_ rfl rfl ?_
    | (refine aM rfl (fun hb=>?_) (fun hb=>?_)<;>(first|exact (fx_ hb).elim|rw [hb]))
    | refine aw_seq ?_
    | refine aw_region tab_ok _ rfl ?_
    | refine aw_drawn2 tabS_ok _ rfl mixed (by decide +kernel) ?_
    | (refine ah rfl (fun hb=>?_) (fun hb=>?_)<;>(try exact (fx_ hb).elim))
    | refine aw_block ?_
    | refine aw_exit ?_
    | refine aw_ret ?_
    | refine aw_skip ?_)
   exact ⟨1,hlt,by omega,fm_ ⟨rfl,cB (by rw [ha1];rfl),by rw [hS1];rfl,rfl,trivial⟩ [] (by rw [hO1];rfl) (by rw [hS1,hO1];repeat' (first|exact trivial|omega|apply And.intro|(show _<_;simp;done)|exact abj rfl)) (by rw [hO1];exact ⟨trivial,yP _ _ _ _,trivial⟩)⟩
  | j+1,hi,hlt,hx,hN,htk,hasc2 =>
   have hI0:decide (((j+1:Nat):Int)=0)=false:=by simp;omega
   obtain ⟨x0,hx0⟩:=gol_ (show j<A.length by omega)
   have hx0l:=har x0 (abe hx0)
   have hwi:IntKind.i64.wrap (((j+1:Nat):Int)-1)=((j:Nat):Int):=bu (by omega) (by omega)
   have hlast:(A.take (j+1)).getLast?=some x0:=by rw [bS hx0];simp
   have hml:(cK none (A.take (j+1))).length<=j+1:=by
    have:=(pR (A.take (j+1)) none);rw [abY] at this;omega
   have hcl:(kK (A.take (j+1))).length=(cK none (A.take (j+1))).length:=abl _
   have heq:=oN (N9 x0 x hx0l hxl)
   by_cases he:x0=x
   ·subst he
    rw [abb rfl] at heq
    obtain ⟨hadj,hget,hpos,hcnt⟩:=UV hasc2 hlast
    rw [<- htk] at hadj hcnt
    generalize hX:kK (A.take (j+1))=X at hcl hcnt
    generalize hM:(cK none (A.take (j+1))).length=m at hml hcl hpos hcnt
    have hck:X[m-1]?=some ((A.take (j+1)).count x0):=by
     rw [<- hX, <- hM];unfold kK;rw [abx,hget];rfl
    have hcb:(A.take (j+1)).count x0<=300:=by have:=List.count_le_length (a:=x0) (l:=A.take (j+1));rw [abY] at this;omega
    generalize (A.take (j+1)).count x0=c at hck hcb hcnt
    have hwm:IntKind.i64.wrap (((m:Nat):Int)-1)=((m-1:Nat):Int):=bu (by omega) (by omega)
    have hwc:IntKind.i64.wrap (((c:Nat):Int)+1)=((c+1:Nat):Int):=bu (by omega) (by omega)
    have hE:=Tq hck
    have hS6:Xv A (j+1) = .one (.sl 1 (3+65536*m) 0 m):=by show AV.one (.sl 1 (3+65536*(cK none (A.take (j+1))).length) 0 (cK none (A.take (j+1))).length)=_;rw [hM]
    have hO:X4 A (j+1)=[.spare m 1, .row (3+65536*m) (X.map sF) 1]:=by show [Ob.spare (cK none (A.take (j+1))).length 1, .row (3+65536*(cK none (A.take (j+1))).length) ((kK (A.take (j+1))).map sF) 1]=_;rw [hM,hX]
    have hS7:Xv A (j+1+1) = .one (.sl 1 (3+65536*m) 0 m):=by show AV.one (.sl 1 (3+65536*(cK none (A.take (j+1+1))).length) 0 (cK none (A.take (j+1+1))).length)=_;rw [hadj,hM]
    have hO7:X4 A (j+1+1)=[.spare m 1, .row (3+65536*m) ((X.set (m-1) (c+1)).map sF) 1]:=by show [Ob.spare (cK none (A.take (j+1+1))).length 1, .row (3+65536*(cK none (A.take (j+1+1))).length) ((kK (A.take (j+1+1))).map sF) 1]=_;rw [hadj,hM,hcnt]
    rw [hS6,hO]
    repeat' (first
     | refine st_nil ?_
     | rw [hN]
     | rw [hI0]
     | rw [hwi]
     | rw [hwm]
     | rw [hwc]
     | (refine vD rfl rfl rfl rfl rfl rfl rfl (hE) rfl ?_)
     | (refine vV rfl rfl rfl rfl rfl rfl (hE) ⟨abj rfl,rfl⟩ rfl ?_)
     | (refine ay rfl rfl rfl rfl ?_ ?_; · (repeat' (first|exact trivial|rfl|exact abj rfl|omega|(show ((0:Nat):Int)<((1:Nat):Int);omega)|(show (_:Int)<((_+1:Nat):Int);omega)|(intro e he;simp at he;subst he;rfl)|(simp only [abl];done)|(simp only [abl];omega)|(show (_+1)*24<=_;omega)|(show _+1<=_;omega)|apply And.intro)))
     | (refine aW rfl rfl rfl rfl rfl rfl rfl rfl (bg hx) ?_ ?_; · exact ⟨by omega,rfl⟩)
     | (refine aW rfl rfl rfl rfl rfl rfl rfl rfl (bg hx0) ?_ ?_; · exact ⟨by omega,rfl⟩)
     | (refine az rfl rfl rfl rfl ?_ ?_; · (repeat' (first|exact trivial|rfl|exact abj rfl|omega|(show ((0:Nat):Int)<((1:Nat):Int);omega)|(show (_:Int)<((_+1:Nat):Int);omega)|(intro e he;simp at he;subst he;rfl)|(simp only [abl];done)|(simp only [abl];omega)|(show (_+1)*24<=_;omega)|(show _+1<=_;omega)|apply And.intro)))
     | (refine sS_ rfl rfl rfl ?_ ?_; · (repeat' (first|exact trivial|rfl|exact abj rfl|omega|(show ((0:Nat):Int)<((1:Nat):Int);omega)|(show (_:Int)<((_+1:Nat):Int);omega)|(intro e he;simp at he;subst he;rfl)|(simp only [abl];done)|(simp only [abl];omega)|(show (_+1)*24<=_;omega)|(show _+1<=_;omega)|apply And.intro)))
     | (refine aC rfl rfl rfl rfl ?_ ?_; · (repeat' (first|exact trivial|rfl|exact abj rfl|omega|(show ((0:Nat):Int)<((1:Nat):Int);omega)|(show (_:Int)<((_+1:Nat):Int);omega)|(intro e he;simp at he;subst he;rfl)|(simp only [abl];done)|(simp only [abl];omega)|(show (_+1)*24<=_;omega)|(show _+1<=_;omega)|apply And.intro)))
     | refine aj rfl rfl rfl ?_
     | refine sk0_ rfl rfl ?_
     | refine aG rfl rfl rfl rfl heq rfl ?_
     | (refine aM rfl (fun hb=>?_) (fun hb=>?_)<;>(first|exact (fx_ hb).elim|rw [hb]))
     | refine aw_seq ?_
     | refine aw_region tab_ok _ rfl ?_
     | refine aw_drawn2 tabS_ok _ rfl mixed (by decide +kernel) ?_
     | (refine ah rfl (fun hb=>?_) (fun hb=>?_)<;>(try exact (fx_ hb).elim))
     | refine aw_block ?_
     | refine aw_exit ?_
     | refine aw_ret ?_
     | refine aw_skip ?_)
    exact ⟨j+1+1,hlt,by omega,fm_ ⟨rfl,cB (by rw [hadj]),by rw [hS7];rfl,aT (bu (by omega) (by omega)),trivial⟩ [] (by rw [hO7,List.map_set];simp [sF];rfl) (by rw [hS7,hO7];repeat' (first|exact trivial|omega|apply And.intro|(show _<_;simp;done)|exact abj rfl)) (by rw [hO7];exact ⟨trivial,yP _ _ _ _,trivial⟩)⟩
   ·rw [aba he] at heq
    have hne:(A.take (j+1)).getLast?≠some x:=by rw [hlast];simpa using he
    obtain ⟨hadj,hcnt⟩:=Qk hasc2 hne
    rw [<- htk] at hadj hcnt
    generalize hX:kK (A.take (j+1))=X at hcl hcnt
    have hS6:Xv A (j+1) = .one (.sl 1 (3+65536*(cK none (A.take (j+1))).length) 0 (cK none (A.take (j+1))).length):=rfl
    have hO:X4 A (j+1)=[.spare (cK none (A.take (j+1))).length 1, .row (3+65536*(cK none (A.take (j+1))).length) (X.map sF) 1]:=by show [Ob.spare (cK none (A.take (j+1))).length 1, .row (3+65536*(cK none (A.take (j+1))).length) ((kK (A.take (j+1))).map sF) 1]=_;rw [hX]
    have hml2:((cK none (A.take (j+1))).map fun r=>[bO r]).length=(cK none (A.take (j+1))).length:=abl _
    have hS7:Xv A (j+1+1) = .one (.sl 1 (3+65536*((cK none (A.take (j+1))).length+1)) 0 ((cK none (A.take (j+1))).length+1)):=by show AV.one (.sl 1 (3+65536*(cK none (A.take (j+1+1))).length) 0 (cK none (A.take (j+1+1))).length)=_;rw [hadj,abg];rfl
    have hO7:X4 A (j+1+1)=[.spare ((cK none (A.take (j+1))).length+1) 1, .row (3+65536*((cK none (A.take (j+1))).length+1)) ((X++[1]).map sF) 1]:=by show [Ob.spare (cK none (A.take (j+1+1))).length 1, .row (3+65536*(cK none (A.take (j+1+1))).length) ((kK (A.take (j+1+1))).map sF) 1]=_;rw [hadj,abg,hcnt];rfl
    have hA7:((cK none (A.take (j+1+1))).map fun r=>[bO r])=((cK none (A.take (j+1))).map fun r=>[bO r])++[[bO x]]:=by rw [hadj,abm];rfl
    rw [hS6,hO]
    generalize hAD:cK none (A.take (j+1))=D at *
    generalize hM:D.length=m at *
    have hwm:IntKind.i64.wrap (((m+([[SV.c (AC.int .i64 0)]]:List (List SV)).length:Nat):Int)-1)=((m:Nat):Int):=bu (by show ((m+1:Nat):Int)-1=_;omega) (by omega)
    have hwc:IntKind.i64.wrap ((0:Int)+1)=1:=by decide
    have hE:=Ut X
    rw [hcl] at hE
    repeat' (first
     | refine st_nil ?_
     | rw [hN]
     | rw [hI0]
     | rw [hwi]
     | rw [hwm]
     | rw [hwc]
     | (refine cZ rfl rfl rfl rfl rfl (lI au (k:=1) (by_:=8) (xs:=[[SV.c (.int .i64 0)]]) rfl rfl rfl rfl ⟨rfl,_,rfl,by intro e he;simp at he;subst he;rfl⟩ rfl (by omega) rfl rfl rfl (by decide) (by rw [abl];exact hcl) (by show (m+1)*8<=_;omega) (by show m+1<=_;omega)) ?_)
     | (refine vD rfl rfl rfl rfl rfl rfl rfl (hE) rfl ?_)
     | (refine vV rfl rfl rfl rfl rfl rfl (hE) ⟨abj rfl,rfl⟩ rfl ?_)
     | (refine ay rfl rfl rfl rfl ?_ ?_; · (repeat' (first|exact trivial|rfl|exact abj rfl|omega|(show ((0:Nat):Int)<((1:Nat):Int);omega)|(show (_:Int)<((_+1:Nat):Int);omega)|(intro e he;simp at he;subst he;rfl)|(simp only [abl];done)|(simp only [abl];omega)|(show (_+1)*24<=_;omega)|(show _+1<=_;omega)|apply And.intro)))
     | (refine aW rfl rfl rfl rfl rfl rfl rfl rfl (bg hx) ?_ ?_; · exact ⟨by omega,rfl⟩)
     | (refine aW rfl rfl rfl rfl rfl rfl rfl rfl (bg hx0) ?_ ?_; · exact ⟨by omega,rfl⟩)
     | (refine az rfl rfl rfl rfl ?_ ?_; · (repeat' (first|exact trivial|rfl|exact abj rfl|omega|(show ((0:Nat):Int)<((1:Nat):Int);omega)|(show (_:Int)<((_+1:Nat):Int);omega)|(intro e he;simp at he;subst he;rfl)|(simp only [abl];done)|(simp only [abl];omega)|(show (_+1)*24<=_;omega)|(show _+1<=_;omega)|apply And.intro)))
     | (refine sS_ rfl rfl rfl ?_ ?_; · (repeat' (first|exact trivial|rfl|exact abj rfl|omega|(show ((0:Nat):Int)<((1:Nat):Int);omega)|(show (_:Int)<((_+1:Nat):Int);omega)|(intro e he;simp at he;subst he;rfl)|(simp only [abl];done)|(simp only [abl];omega)|(show (_+1)*24<=_;omega)|(show _+1<=_;omega)|apply And.intro)))
     | (refine aC rfl rfl rfl rfl ?_ ?_; · (repeat' (first|exact trivial|rfl|exact abj rfl|omega|(show ((0:Nat):Int)<((1:Nat):Int);omega)|(show (_:Int)<((_+1:Nat):Int);omega)|(intro e he;simp at he;subst he;rfl)|(simp only [abl];done)|(simp only [abl];omega)|(show (_+1)*24<=_;omega)|(show _+1<=_;omega)|apply And.intro)))
     | refine aj rfl rfl rfl ?_
     | refine sk0_ rfl rfl ?_
     | refine aG rfl rfl rfl rfl heq rfl ?_
     | (refine aM rfl (fun hb=>?_) (fun hb=>?_)<;>(first|exact (fx_ hb).elim|rw [hb]))
     | refine aw_seq ?_
     | refine aw_region tab_ok _ rfl ?_
     | refine aw_drawn2 tabS_ok _ rfl mixed (by decide +kernel) ?_
     | (refine ah rfl (fun hb=>?_) (fun hb=>?_)<;>(try exact (fx_ hb).elim))
     | refine aw_block ?_
     | refine aw_exit ?_
     | refine aw_ret ?_
     | refine aw_skip ?_)
    exact ⟨j+1+1,hlt,by omega,fm_ ⟨rfl,cB (by rw [hA7];rfl),by rw [hS7];exact X_ rfl (by omega),aT (bu (by omega) (by omega)),trivial⟩ [] (by rw [hO7];simp [sF,hcl];exact ⟨by omega,rfl⟩) (by rw [hS7,hO7];repeat' (first|exact trivial|omega|apply And.intro|(show _<_;simp;done)|exact abj rfl)) (by rw [hO7];exact ⟨trivial,yP _ _ _ _,trivial⟩)⟩
 ·have hin:i=A.length:=by omega
  subst hin
  have hN:decide (((A.length:Nat):Int)<(((A.map fun r=>[bO r]).length:Nat):Int))=false:=by rw [abl];simp
  have htk:A.take A.length=A:=List.take_length
  rcases hA:A.length with _|j
  ·have:A=[]:=abA hA
   subst this
   repeat' (first
    | refine st_nil ?_
    | refine ay rfl rfl rfl rfl ph_ ?_
    | refine az rfl rfl rfl rfl ph_ ?_
    | refine sS_ rfl rfl rfl ph_ ?_
    | refine aC rfl rfl rfl rfl ph_ ?_
    | refine aj rfl rfl rfl ?_
    | refine sk0_ rfl rfl ?_
    | (refine aM rfl (fun hb=>?_) (fun hb=>?_)<;>(first|exact (fx_ hb).elim|rw [hb]))
    | refine aw_seq ?_
    | refine aw_region tab_ok _ rfl ?_
    | refine aw_drawn2 tabS_ok _ rfl mixed (by decide +kernel) ?_
    | (refine ah rfl (fun hb=>?_) (fun hb=>?_)<;>(try exact (fx_ hb).elim))
    | refine aw_block ?_
    | refine aw_exit ?_
    | refine aw_ret ?_
    | refine aw_skip ?_)
   exact aO (aR rfl (by trivial) rfl)
  ·rw [hA] at htk hN
   have hcl:(kK A).length=(cK none A).length:=abl _
   have hS6:Xv A (j+1) = .one (.sl 1 (3+65536*(cK none A).length) 0 (cK none A).length):=by show AV.one (.sl 1 (3+65536*(cK none (A.take (j+1))).length) 0 (cK none (A.take (j+1))).length)=_;rw [htk]
   have hO:X4 A (j+1)=[.spare (cK none A).length 1, .row (3+65536*(cK none A).length) ((kK A).map sF) 1]:=by show [Ob.spare (cK none (A.take (j+1))).length 1, .row (3+65536*(cK none (A.take (j+1))).length) ((kK (A.take (j+1))).map sF) 1]=_;rw [htk]
   rw [hS6,hO,htk]
   (refine jy 1 6 (cs:=(kK A).map fun n:Nat=>[AC.int .i64 (n:Int)]) rfl (QS _) rfl (by rw [abl];exact hcl) ?_)
   repeat' (first
    | refine st_nil ?_
    | rw [hN]
    | refine ay rfl rfl rfl rfl ph_ ?_
    | refine az rfl rfl rfl rfl ph_ ?_
    | refine sS_ rfl rfl rfl ph_ ?_
    | refine aC rfl rfl rfl rfl ph_ ?_
    | refine aj rfl rfl rfl ?_
    | refine sk0_ rfl rfl ?_
    | (refine aM rfl (fun hb=>?_) (fun hb=>?_)<;>(first|exact (fx_ hb).elim|rw [hb]))
    | refine aw_seq ?_
    | refine aw_region tab_ok _ rfl ?_
    | refine aw_drawn2 tabS_ok _ rfl mixed (by decide +kernel) ?_
    | (refine ah rfl (fun hb=>?_) (fun hb=>?_)<;>(try exact (fx_ hb).elim))
    | refine aw_block ?_
    | refine aw_exit ?_
    | refine aw_ret ?_
    | refine aw_skip ?_)
   exact aO (aR rfl (by trivial) (by rw [List.map_map];rfl))
end Go.Proofs.YtfpbmfalamappaaGreatDoor
