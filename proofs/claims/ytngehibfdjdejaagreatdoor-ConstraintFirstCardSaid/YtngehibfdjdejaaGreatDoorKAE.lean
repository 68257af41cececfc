/- Parts of the proof, joined. No condition. -/
import Derived.Test.YtngehibfdjdejaaGreatDoorKAD
import Derived.IntWalk
import Derived.MapFrom
set_option linter.unusedSimpArgs false
set_option linter.unusedVariables false
namespace Go.Proofs.YtngehibfdjdejaaGreatDoor
open Go.RowKit
section
variable {P:Program} {ti:TI} {B:Nat→Prop} {N n0:Nat}
theorem trace2 {ds:List (Option Tmp)} {K:Tm→List Ob→Prop} : ∀ (l:List Oper) (T:Tm) (L:List Ob),awOps P ti N ds K l T L →
  ∃ (vs:List AV) (Ls:Nat→List Ob),vs.length=l.length∧Ls 0=L∧(∀ (i:Nat) o,l[i]?=some o→dOK N o.dst ∧ ∃ v,vs[i]?=some v ∧
   ((gdv ds (tat l vs T i) o.guard=some true∧awOp P ti (look (tat l vs T i)) (Ls i) (fun v' L'=>v'=v∧L'=Ls (i+1)) o.op)∨(gdv ds (tat l vs T i) o.guard=some false∧v = .undef∧Ls (i+1)=Ls i))) ∧
   K (tat l vs T l.length) (Ls l.length)
 | [],T,L,h=>⟨[],fun _=>L,rfl,rfl,fun i o ho=>by simp at ho,by have h:K T L:=h;simpa [tat] using h⟩
 | o::l,T,L,h=>by
  obtain ⟨hd,hg⟩:=h
  have go : ∀ v L1,((gdv ds T o.guard=some true∧awOp P ti (look T) L (fun v' L'=>v'=v∧L'=L1) o.op)∨(gdv ds T o.guard=some false∧v = .undef∧L1=L))→awOps P ti N ds K l (putT T o.dst v) L1 → ∃ (vs:List AV) (Ls:Nat→List Ob),vs.length=(o::l).length∧Ls 0=L∧(∀ (i:Nat) o',(o::l)[i]?=some o'→dOK N o'.dst ∧ ∃ v,vs[i]?=some v ∧
   ((gdv ds (tat (o::l) vs T i) o'.guard=some true∧awOp P ti (look (tat (o::l) vs T i)) (Ls i) (fun v' L'=>v'=v∧L'=Ls (i+1)) o'.op)∨(gdv ds (tat (o::l) vs T i) o'.guard=some false∧v = .undef∧Ls (i+1)=Ls i))) ∧
   K (tat (o::l) vs T (o::l).length) (Ls (o::l).length):=by
   intro v L1 hv hr
   obtain ⟨vs,Ls,h1,h0,h2,h3⟩:=trace2 l (putT T o.dst v) L1 hr
   refine ⟨v::vs,fun i=>match i with|0=>L|i+1=>Ls i,by simp [h1],rfl,fun i o' ho=>?_,by simpa [tat] using h3⟩
   cases i with
   | zero =>
    simp at ho;subst ho
    exact ⟨hd,v,rfl,by simpa [tat,h0] using hv⟩
   | succ i =>
    obtain ⟨g1,v',g2,g3⟩:=h2 i o' (by simpa using ho)
    exact ⟨g1,v',by simpa using g2,by simpa [tat] using g3⟩
  rcases gd_gdv hg with ⟨h1,h2⟩|⟨h1,h2⟩
  ·obtain ⟨v,L1,g1,g2⟩:=awOp_pick h2
   exact go v L1 (.inl ⟨h1,g1⟩) g2
  ·exact go .undef L (.inr ⟨h1,rfl,rfl⟩) h2
theorem tat_succ : ∀ (l:List Oper) (vs:List AV) (T:Tm) (i:Nat) (o:Oper) (v:AV),l[i]?=some o→vs[i]?=some v→tat l vs T (i+1)=putT (tat l vs T i) o.dst v
 | [],_,_,_,_,_,h,_=>by simp at h
 | _::_,[],_,_,_,_,_,h=>by simp at h
 | o0::l,v0::vs,T,0,o,v,ho,hv=>by
  simp at ho hv;subst ho hv
  simp [tat]
 | o0::l,v0::vs,T,i+1,o,v,ho,hv=>by
  rw [tat,tat]
  exact tat_succ l vs _ i o v (by simpa using ho) (by simpa using hv)
theorem fieldAddr_tree {ρ:Operand→Option AV} {L L1:List Ob} {s:TypeId} {x:Operand} {i:Nat} {y:AC} {v:AV} (hx:ρ x=some (.one (.c y))) (h:awOp P ti ρ L (fun v' L'=>v'=v∧L'=L1) (.fieldAddr s x i)) : ∃ z,v = .one (.c z):=by
 rcases h with ⟨v',φ,hp,_,rfl,_⟩|⟨_,_,hp,_⟩|⟨_,_,_,hp,_⟩|⟨_,_,_,hp,_⟩|⟨_,_,_,_,_,_,hp,_⟩|⟨_,_,_,_,hp,_⟩|⟨_,_,_,_,_,_,hp,_⟩|⟨_,_,hp,_⟩
 ·simp only [pop,hx] at hp
  unfold popFieldAddr at hp
  split at hp
  ·split at hp
   ·split at hp
    ·cases hp;exact ⟨_,rfl⟩
    ·cases hp
   ·cases hp
  ·rename_i e;cases e
  ·cases hp
 ·cases hp
 ·cases hp
 ·cases hp
 ·cases hp
 ·cases hp
 ·cases hp
 ·cases hp.1
theorem indexAddr_tree {ρ:Operand→Option AV} {L L1:List Ob} {s:TypeId} {x ix:Operand} {y:AC} {v:AV} (hx:ρ x=some (.one (.c y))) (h:awOp P ti ρ L (fun v' L'=>v'=v∧L'=L1) (.indexAddr s x ix)) : ∃ z,v = .one (.c z):=by
 rcases h with ⟨v',φ,hp,_,rfl,_⟩|⟨_,_,hp,_⟩|⟨_,_,_,hp,_⟩|⟨_,_,_,hp,_⟩|⟨_,_,_,_,_,_,hp,_⟩|⟨_,_,_,_,hp,_⟩|⟨_,_,_,_,_,_,hp,_⟩|⟨_,_,hp,_⟩
 ·simp only [pop,hx] at hp
  split at hp
  ·rename_i e _;cases e
  ·unfold popIndexAddr at hp
   split at hp
   ·split at hp
    ·cases hp;exact ⟨_,rfl⟩
    ·cases hp
   ·cases hp
  ·cases hp
 ·cases hp
 ·cases hp
 ·cases hp
 ·cases hp
 ·cases hp
 ·cases hp
 ·cases hp.1
theorem load_tree {ρ:Operand→Option AV} {L L1:List Ob} {ty:TypeId} {x:Operand} {y:AC} {v:AV} (hag:ti.agg ty=some false) (hx:ρ x=some (.one (.c y))) (h:awOp P ti ρ L (fun v' L'=>v'=v∧L'=L1) (.load ty x)) : ∃ z,v = .one (.c z):=by
 rcases h with ⟨v',φ,hp,_,rfl,_⟩|⟨_,_,hp,_⟩|⟨_,_,_,hp,_⟩|⟨_,_,_,hp,_⟩|⟨_,_,_,_,_,_,hp,_⟩|⟨_,_,_,_,hp,_⟩|⟨_,_,_,_,_,_,hp,_⟩|⟨_,_,hp,_⟩
 ·simp only [pop,hx,Option.bind_some] at hp
  unfold popLoad at hp
  split at hp
  ·rename_i cs _
   rw [hag] at hp
   cases cs with
   | nil=>simp at hp
   | cons z cs =>
    simp only [Option.some.injEq,Prod.mk.injEq] at hp
    exact ⟨z,hp.1.symm⟩
  ·rename_i e;cases e
  ·rename_i e;cases e
  ·cases hp
 ·cases hp
 ·cases hp
 ·cases hp
 ·cases hp
 ·cases hp
 ·cases hp
 ·cases hp.1
structure Mid2 (ti:TI) (l:List Oper) (N:Nat) (B:Nat→Prop) (Ls:Nat→List Ob) (T:Tm) (vs:List AV) (R0:PH) (γ0:List Gh) (w0:World) (listed:Array Bool) (e:Nat) (R:PH) (γ:List Gh) (a:Act) (w:World):Prop where
 inv:Inv B R γ (Ls e) w
 size:a.tmps.size=N
 defers:a.defers=[]
 done:Done l listed
 le:e≤l.length
 lo : ∀ (c:Nat) o,c<e→l[c]?=some o→lKind ti o.op=true→listed[c]?=some true
 hi : ∀ (c:Nat) o,e≤c→l[c]?=some o→lKind ti o.op=true→listed[c]?=some false
 fresh : ∀ (i:Nat) o d v,listed[i]?=some true→l[i]?=some o→o.dst=some d→vs[i]?=some v → ∃ u,a.tmps[d]?=some u∧v.rep R γ (Ls e) u
 old : ∀ t x,T.lookup t=some x→(∀ (i:Nat) o,listed[i]?=some true→l[i]?=some o→o.dst≠some t) → ∃ u,a.tmps[t]?=some u∧x.rep R γ (Ls e) u
 ext:Ext B R0 R w0 w
 mv:Mv R0 R γ0 γ (Ls 0) (Ls e)
theorem ready_iff2 {l:List Oper} {listed:Array Bool} (hback : ∀ (i:Nat) o,l[i]?=some o → ∀ e∈o.after.toList,Region.binds .any e=true→e.on<i) (h:Done l listed) (i:Nat):i∈Region.ready .any l.toArray listed↔i<l.length∧listed[i]?=some false ∧ ∀ o,l[i]?=some o → ∀ e∈o.after.toList,Region.binds .any e=true→listed[e.on]?=some true:=by
 unfold Region.ready
 rw [List.mem_filter,List.mem_range]
 simp only [List.size_toArray,Bool.and_eq_true]
 constructor
 ·rintro ⟨hi,h1,h2⟩
  have hlt:i<listed.size:=by rw [h.size];exact hi
  have e1:listed[i]?=some listed[i]:=Array.getElem?_eq_getElem hlt
  refine ⟨hi,?_,fun o ho e he hb=>?_⟩
  ·rw [Array.getD_eq_getD_getElem?,e1] at h1
   simp at h1
   rw [e1,h1]
  ·simp only [List.getElem?_toArray,ho,Option.map_some,Option.getD_some] at h2
   have:=Array.all_eq_true'.1 h2 e (by simpa using he)
   rw [hb] at this
   have hlt2:e.on<listed.size:=by rw [h.size];have:=hback i o ho e he hb;omega
   have e2:listed[e.on]?=some listed[e.on]:=Array.getElem?_eq_getElem hlt2
   rw [Array.getD_eq_getD_getElem?,e2] at this
   simp at this
   rw [e2,this]
 ·rintro ⟨hi,h1,h2⟩
  refine ⟨hi,by simp [Array.getD_eq_getD_getElem?,h1],?_⟩
  have ho:l[i]?=some l[i]:=List.getElem?_eq_getElem hi
  simp only [List.getElem?_toArray,ho,Option.map_some,Option.getD_some]
  rw [Array.all_eq_true']
  intro e he
  by_cases hb:Region.binds .any e=true
  ·simp [hb,Array.getD_eq_getD_getElem?,h2 _ ho e (by simpa using he) hb]
  ·simp [hb]
open Classical in
theorem any2 (hti:TIok P ti) {l:List Oper} {ds:List (Option Tmp)} (hds:l.map (·.dst)=ds) {F:List Nat} (hD:Draw2 F ti l) {K:Tm→List Ob→Prop} {Q:Exit→Act→World→Prop} {T:Tm} {vs:List AV} {Ls:Nat→List Ob} {R0:PH} {γ0:List Gh} {w0:World} (hvl:vs.length=l.length) (hF : ∀ t∈F, ∃ x,T.lookup t=some (.one (.c x)))
  (htr : ∀ (i:Nat) o,l[i]?=some o→dOK N o.dst ∧ ∃ v,vs[i]?=some v ∧
   ((gdv ds (tat l vs T i) o.guard=some true∧awOp P ti (look (tat l vs T i)) (Ls i) (fun v' L'=>v'=v∧L'=Ls (i+1)) o.op)∨(gdv ds (tat l vs T i) o.guard=some false∧v = .undef∧Ls (i+1)=Ls i)))
  (hK:K (tat l vs T l.length) (Ls l.length))
  (hQ : ∀ T' L' R' γ' w' a',K T' L'→Inv B R' γ' L' w'→TRep N R' γ' L' T' a'→Ext B R0 R' w0 w'→Mv R0 R' γ0 γ' (Ls 0) L'→Q .normal a' w') :
  ∀ (fuel:Nat) (listed:Array Bool) (e:Nat) (R:PH) (γ:List Gh) (a:Act) (w:World),cntB l.length listed≤fuel→Mid2 ti l N B Ls T vs R0 γ0 w0 listed e R γ a w→wpAny P .any l.toArray Q fuel listed a w:=by
 have uniq : ∀ (i j:Nat) o o' d,l[i]?=some o→l[j]?=some o'→o.dst=some d→o'.dst=some d→i=j:=by
  intro i j o o' d ho ho' hd hd'
  by_cases hne:i=j
  ·exact hne
  ·exfalso
   exact (hD.apart i j o o' d hne ho ho' hd (by unfold namesOf;simp [hd'])).1 hd'

 have der : ∀ (m i:Nat) (G:List Nat),i+m≤l.length→(∀ t∈G,(∃ x,(tat l vs T i).lookup t=some (.one (.c x))) ∧ ∀ (k:Nat) o,i≤k→l[k]?=some o→o.dst≠some t) →
   ∀ t∈derF ti (l.drop i) m G, ∃ x,(tat l vs T (i+m)).lookup t=some (.one (.c x)):=by
  intro m
  induction m with
  | zero =>
   intro i G _ hG t ht
   have:t∈G:=by
    cases G with
    | nil=>cases hd:l.drop i<;>rw [hd] at ht<;>exact ht
    | cons g G=>cases hd:l.drop i<;>rw [hd] at ht<;>exact ht
   exact (hG t this).1
  | succ m ih =>
   intro i G hle hG t ht
   have hlt:i<l.length:=by omega
   have ho:l[i]?=some l[i]:=List.getElem?_eq_getElem hlt
   rw [List.drop_eq_getElem_cons hlt] at ht
   have hG' : ∀ t∈der1 ti l[i] G,(∃ x,(tat l vs T (i+1)).lookup t=some (.one (.c x))) ∧ ∀ (k:Nat) o,i+1≤k→l[k]?=some o→o.dst≠some t:=by
    obtain ⟨_,v,hv,hstep⟩:=htr i _ ho
    have hold : ∀ t∈G,(∃ x,(tat l vs T (i+1)).lookup t=some (.one (.c x))) ∧ ∀ (k:Nat) o,i+1≤k→l[k]?=some o→o.dst≠some t:=fun t ht=>by
     obtain ⟨⟨x,hx⟩,hk⟩:=hG t ht
     refine ⟨⟨x,?_⟩,fun k o h1 h2=>hk k o (by omega) h2⟩
     rw [tat_succ l vs T i _ v ho hv,putT_lookup_ne (hk i _ (Nat.le_refl _) ho)]
     exact hx
    have hnew : ∀ d x,l[i].dst=some d→v = .one (.c x)→(∃ x,(tat l vs T (i+1)).lookup d=some (.one (.c x))) ∧ ∀ (k:Nat) o,i+1≤k→l[k]?=some o→o.dst≠some d:=fun d x hd hvx=>by
     refine ⟨⟨x,?_⟩,fun k o h1 h2 h3=>?_⟩
     ·rw [tat_succ l vs T i _ v ho hv,hd,hvx]
      simp [putT,List.lookup_cons]
     ·have:=uniq i k _ o d ho h2 hd h3
      omega
    have look_of : ∀ t∈G, ∃ x,look (tat l vs T i) (.tmp t)=some (.one (.c x)):=fun t ht=>(hG t ht).1
    have hval:l[i].guard=none→awOp P ti (look (tat l vs T i)) (Ls i) (fun v' L'=>v'=v∧L'=Ls (i+1)) l[i].op:=fun hg=>by
     rcases hstep with ⟨_,h⟩|⟨h,_,_⟩
     ·exact h
     ·rw [hg] at h;cases h
    intro t ht
    unfold der1 at ht
    split at ht
    ·cases ht
    ·rename_i d s t0 ix _ hg hd hop _
     split at ht
     ·rename_i hc
      rcases List.mem_cons.1 ht with rfl|ht
      ·obtain ⟨x,hx⟩:=look_of t0 (by simpa using hc)
       have h:=hval hg
       rw [hop] at h
       obtain ⟨y,hy⟩:=fieldAddr_tree hx h
       exact hnew _ y hd hy
      ·exact hold t ht
     ·exact hold t ht
    ·rename_i d s t0 ix _ hg hd hop _
     split at ht
     ·rename_i hc
      rcases List.mem_cons.1 ht with rfl|ht
      ·obtain ⟨x,hx⟩:=look_of t0 (by simpa using hc)
       have h:=hval hg
       rw [hop] at h
       obtain ⟨y,hy⟩:=indexAddr_tree hx h
       exact hnew _ y hd hy
      ·exact hold t ht
     ·exact hold t ht
    ·rename_i d ty t0 _ hg hd hop _
     split at ht
     ·rename_i hc
      rcases List.mem_cons.1 ht with rfl|ht
      ·obtain ⟨x,hx⟩:=look_of t0 (by simpa using hc.1)
       have h:=hval hg
       rw [hop] at h
       obtain ⟨y,hy⟩:=load_tree hc.2 hx h
       exact hnew _ y hd hy
      ·exact hold t ht
     ·exact hold t ht
    ·exact hold t ht
   have e1:i+1+m=i+(m+1):=by omega
   have key:=ih (i+1) (der1 ti l[i] G) (by omega) hG' t
   rw [e1] at key
   refine key ?_
   cases hG0:G with
   | nil=>rw [hG0] at ht;cases ht
   | cons g G0=>rw [hG0] at ht;exact ht
 have derI : ∀ i,i≤l.length → ∀ t∈derF ti l i F, ∃ x,(tat l vs T i).lookup t=some (.one (.c x)):=by
  intro i hi t ht
  have:=der i 0 F (by omega) (fun t ht=>⟨by
   obtain ⟨x,hx⟩:=hF t ht
   exact ⟨x,(tat_old l vs T 0 fun j o' h=>by omega).trans hx⟩,fun k o _ hk=>hD.fz t ht o (List.mem_of_getElem? hk)⟩) t (by rw [List.drop_zero];exact ht)
  rw [Nat.zero_add] at this
  exact this

 have flat : ∀ n e,(∀ (c:Nat) o,e≤c→c<e+n→l[c]?=some o→lKind ti o.op=false)→e+n≤l.length→Ls (e+n)=Ls e:=by
  intro n
  induction n with
  | zero=>intro e _ _;rfl
  | succ n ih =>
   intro e h hle
   have h1:=ih e (fun c o h1 h2=>h c o h1 (by omega)) (by omega)
   have hlt:e+n<l.length:=by omega
   have ho:l[e+n]?=some l[e+n]:=List.getElem?_eq_getElem hlt
   obtain ⟨_,v,_,hs⟩:=htr _ _ ho
   rw [← h1]
   show Ls (e+n+1)=Ls (e+n)
   rcases hs with ⟨_,hop⟩|⟨_,_,hop⟩
   ·exact quiet_same (h _ _ (by omega) (by omega) ho) hop
   ·exact hop

 have pass : ∀ (i:Nat) o v,l[i]?=some o→lKind ti o.op=false→awOp P ti (look (tat l vs T i)) (Ls i) (fun v' L'=>v'=v∧L'=Ls (i+1)) o.op → ∀ e,e≤l.length →
   (∀ (c:Nat) oc,l[c]?=some oc→lKind ti oc.op=true→(i<c∧c<e)∨(e≤c∧c<i)→okX (derF ti l i F) ti i c o.op oc.op=true)→awOp P ti (look (tat l vs T i)) (Ls e) (fun v' L'=>v'=v∧L'=Ls e) o.op:=by
  intro i o v ho hk hop e hel hx
  have hil:=(List.getElem?_eq_some_iff.1 ho).1
  refine quiet_move hk hop ?_
  by_cases hins:insens o.op=true
  ·intro r hr;rw [← pop_ins hins (L:=Ls i)];exact hr
  have hins':insens o.op=false:=by simpa using hins
  by_cases hfz:loadF (derF ti l i F) o.op=true
  ·intro r hr
   rw [← pop_fz (L:=Ls i) hfz (fun t ht=>derI i (by omega) t ht)]
   exact hr
  have hfz':loadF (derF ti l i F) o.op=false:=by simpa using hfz
  have step : ∀ c,c<l.length→(∀ oc,l[c]?=some oc→lKind ti oc.op=true→okX (derF ti l i F) ti i c o.op oc.op=true)→(i<c → ∀ r,pop ti (look (tat l vs T i)) (Ls c) o.op=some r→pop ti (look (tat l vs T i)) (Ls (c+1)) o.op=some r)∧(c<i → ∀ r,pop ti (look (tat l vs T i)) (Ls (c+1)) o.op=some r→pop ti (look (tat l vs T i)) (Ls c) o.op=some r):=by
   intro c hc hok
   have hoc:l[c]?=some l[c]:=List.getElem?_eq_getElem hc
   obtain ⟨_,vc,_,hs⟩:=htr c _ hoc
   rcases hs with ⟨_,hopc⟩|⟨_,_,hopc⟩
   ·cases hkc:lKind ti l[c].op with
    | false=>rw [quiet_same hkc hopc];exact ⟨fun _ r h=>h,fun _ r h=>h⟩
    | true =>
     have h1:=hok _ hoc hkc
     unfold okX at h1
     rw [hins',hfz'] at h1
     simp only [Bool.false_or,Bool.and_eq_true] at h1
     obtain ⟨hsf,h1⟩:=h1
     have h0:sk l[c].op≠0:=by intro e0;rw [e0] at h1;cases h1
     obtain ⟨r1,r2,r3,r4⟩:=soft_rel hsf h0 hopc
     split at h1
     ·rename_i hsk
      have hlt:i<c:=of_decide_eq_true h1
      exact ⟨fun _ r h=>pop_A (r1 hsk) h,fun hci=>by omega⟩
     ·rename_i hsk
      exact ⟨fun _ r h=>pop_A (r2 hsk).1 h,fun _ r h=>pop_A (r2 hsk).2 h⟩
     ·rename_i hsk
      have hl:isLoad o.op=false:=by simpa using h1
      exact ⟨fun _ r h=>pop_B (r3 hsk).1 hl h,fun _ r h=>pop_B (r3 hsk).2 hl h⟩
     ·rename_i hsk
      exact ⟨fun _ r h=>pop_A (r4 hsk).1 h,fun _ r h=>pop_A (r4 hsk).2 h⟩
     ·cases h1
   ·rw [hopc];exact ⟨fun _ r h=>h,fun _ r h=>h⟩

  have hsame:Ls (i+1)=Ls i:=quiet_same hk hop
  by_cases hei:e≤i
  ·
   have : ∀ n,n≤i-e → ∀ r,pop ti (look (tat l vs T i)) (Ls i) o.op=some r→pop ti (look (tat l vs T i)) (Ls (i-n)) o.op=some r:=by
    intro n
    induction n with
    | zero=>intro _ r h;exact h
    | succ n ih =>
     intro hn r h
     have h2:=ih (by omega) r h
     have h3:=(step (i-(n+1)) (by omega) (fun oc hoc hkc=>hx _ oc hoc hkc (.inr ⟨by omega,by omega⟩))).2 (by omega) r
     have e1:i-(n+1)+1=i-n:=by omega
     rw [e1] at h3
     exact h3 h2
   intro r h
   have h2:=this (i-e) (Nat.le_refl _) r h
   have e1:i-(i-e)=e:=by omega
   rw [e1] at h2;exact h2
  ·have : ∀ n,i+1+n≤e → ∀ r,pop ti (look (tat l vs T i)) (Ls i) o.op=some r→pop ti (look (tat l vs T i)) (Ls (i+1+n)) o.op=some r:=by
    intro n
    induction n with
    | zero=>intro _ r h;show pop ti (look (tat l vs T i)) (Ls (i+1)) o.op=some r;rw [hsame];exact h
    | succ n ih =>
     intro hn r h
     have h2:=ih (by omega) r h
     exact (step (i+1+n) (by omega) (fun oc hoc hkc=>hx _ oc hoc hkc (.inl ⟨by omega,by omega⟩))).1 (by omega) r h2
   intro r h
   have h2:=this (e-(i+1)) (by omega) r h
   have e1:i+1+(e-(i+1))=e:=by omega
   rw [e1] at h2;exact h2

 have slots : ∀ (listed:Array Bool) (e:Nat) (R:PH) (γ:List Gh) (a:Act) (w:World),Mid2 ti l N B Ls T vs R0 γ0 w0 listed e R γ a w → ∀ (i:Nat) o,l[i]?=some o→listed[i]?=some false →
   (∀ o',l[i]?=some o' → ∀ e∈o'.after.toList,Region.binds .any e=true→listed[e.on]?=some true) → ∀ t x,t∈namesOf l.toArray o→(tat l vs T i).lookup t=some x → ∃ u,a.tmps[t]?=some u∧x.rep R γ (Ls e) u:=by
  intro listed e R γ a w M i o ho hli hed t x hmem hx
  have hil:=(List.getElem?_eq_some_iff.1 ho).1
  by_cases hex : ∃ (j:Nat) (o':Oper),j<i∧l[j]?=some o'∧o'.dst=some t
  ·obtain ⟨j,o',hj,ho',hd'⟩:=hex
   have hanc:=(hD.apart j i o' o t (by omega) ho' ho hd' hmem).2
   rw [if_pos hj] at hanc
   have hlj:=M.done.anc hanc hed
   have hjv:vs[j]?=some vs[j]:=List.getElem?_eq_getElem (by omega)
   have:=tat_new l vs T i j o' vs[j] hj ho' hd' hjv (fun k o2 h1 h2 h3 hd2=>by
    have:=uniq j k o' o2 t ho' h3 hd' hd2
    omega) (fun k _ _=>by omega)
   rw [hx] at this
   injection this with this
   subst this
   exact M.fresh j o' t _ hlj ho' hd' hjv
  ·have hno : ∀ j o',j<i→l[j]?=some o'→o'.dst≠some t:=fun j o' h1 h2 h3=>hex ⟨j,o',h1,h2,h3⟩
   rw [tat_old l vs T i hno] at hx
   refine M.old t x hx fun k o' hlk hok hdk=>?_
   by_cases hki:k<i
   ·exact hno k o' hki hok hdk
   ·by_cases hke:k=i
    ·subst hke;rw [hli] at hlk;cases hlk
    ·have hanc:=(hD.apart k i o' o t hke hok ho hdk hmem).2
     rw [if_neg hki] at hanc
     have:=M.done.anc hanc (fun o2 h2=>M.done.down k o2 h2 hlk)
     rw [hli] at this;cases this
 have hbool : ∀ (listed:Array Bool),Done l listed → ∀ i,i<l.length→listed[i]?=some true∨listed[i]?=some false:=by
  intro listed hd i hi
  have hlt:i<listed.size:=by rw [hd.size];exact hi
  rw [Array.getElem?_eq_getElem hlt]
  cases listed[i]<;>simp

 have fin : ∀ (listed:Array Bool) (e:Nat) (R:PH) (γ:List Gh) (a:Act) (w:World),Mid2 ti l N B Ls T vs R0 γ0 w0 listed e R γ a w→(∀ i,i<l.length→listed[i]?=some true)→Q .normal a w:=by
  intro listed e R γ a w M hall
  have hle:Ls l.length=Ls e:=by
   have:=flat (l.length-e) e (fun c o h1 h2 ho=>by
    cases hk:lKind ti o.op with
    | false=>rfl
    | true=>have:=M.hi c o h1 ho hk;rw [hall c (List.getElem?_eq_some_iff.1 ho).1] at this;cases this) (by have:=M.le;omega)
   have e1:e+(l.length-e)=l.length:=by have:=M.le;omega
   rw [e1] at this;exact this
  rw [hle] at hK
  refine hQ _ _ R γ w a hK M.inv ⟨M.size,M.defers,fun t x hx=>?_⟩ M.ext M.mv
  by_cases hex : ∃ (j:Nat) (o':Oper),j<l.length∧l[j]?=some o'∧o'.dst=some t
  ·obtain ⟨j,o',hj,ho',hd'⟩:=hex
   have hjv:vs[j]?=some vs[j]:=List.getElem?_eq_getElem (by omega)
   have:=tat_new l vs T l.length j o' vs[j] hj ho' hd' hjv (fun k o2 h1 h2 h3 hd2=>by
    have:=uniq j k o' o2 t ho' h3 hd' hd2
    omega) (fun k _ _=>by omega)
   rw [hx] at this
   injection this with this
   subst this
   exact M.fresh j o' t _ (hall j hj) ho' hd' hjv
  ·have hno : ∀ j o',j<l.length→l[j]?=some o'→o'.dst≠some t:=fun j o' h1 h2 h3=>hex ⟨j,o',h1,h2,h3⟩
   rw [tat_old l vs T l.length hno] at hx
   exact M.old t x hx fun k o' _ hok hdk=>hno k o' (List.getElem?_eq_some_iff.1 hok).1 hok hdk
 have allDone : ∀ (listed:Array Bool),Done l listed→Region.ready .any l.toArray listed=[] → ∀ i,i<l.length→listed[i]?=some true:=by
  intro listed hd hnil i
  induction i using Nat.strongRecOn with
  | ind i ihi =>
   intro hi
   rcases hbool listed hd i hi with h|h
   ·exact h
   ·exfalso
    have:i∈Region.ready .any l.toArray listed:=(ready_iff2 hD.back hd i).2 ⟨hi,h,fun o ho e he hb=>ihi e.on (hD.back i o ho e he hb) (by have:=hD.back i o ho e he hb;omega)⟩
    rw [hnil] at this;cases this
 intro fuel
 induction fuel with
 | zero =>
  intro listed e R γ a w hc M
  have hall : ∀ i,i<l.length→listed[i]?=some true:=by
   intro i hi
   rcases hbool listed M.done i hi with h|h
   ·exact h
   ·exfalso
    have:0<cntB l.length listed:=List.countP_pos_iff.2 ⟨i,by simpa using hi,by rw [h];rfl⟩
    omega
  refine ⟨?_,fin listed e R γ a w M hall⟩
  apply List.eq_nil_iff_forall_not_mem.2
  intro i hmem
  obtain ⟨h1,h2,_⟩:=(ready_iff2 hD.back M.done i).1 hmem
  rw [hall i h1] at h2;cases h2
 | succ fuel ih =>
  intro listed e R γ a w hc M
  refine ⟨fun hnil=>fin listed e R γ a w M (allDone listed M.done hnil),fun i hmem=>?_⟩
  obtain ⟨h1,h2,h3⟩:=(ready_iff2 hD.back M.done i).1 hmem
  have ho:l[i]?=some l[i]:=List.getElem?_eq_getElem h1
  obtain ⟨hd,v,hv,hstep⟩:=htr i _ ho
  have hsl:=slots listed e R γ a w M i _ ho h2 h3
  have hcnt:cntB l.length (listed.setIfInBounds i true)≤fuel:=by
   have:cntB l.length (listed.setIfInBounds i true)<cntB l.length listed:=by
    unfold cntB
    refine countP_lt _ (fun x hx hq=>?_) ⟨i,by simpa using h1,by rw [h2];rfl,by rw [Array.getElem?_setIfInBounds_self_of_lt (by rw [M.done.size];exact h1)];rfl⟩
    by_cases hxi:x=i
    ·subst hxi;rw [h2];rfl
    ·rw [Array.getElem?_setIfInBounds_ne (Ne.symm hxi)] at hq;exact hq
   omega
  have hput : ∀ (e':Nat) (R':PH) (γ':List Gh) (w':World) (u:Value),e'≤l.length→(∀ (c:Nat) o,c<e'→l[c]?=some o→lKind ti o.op=true→(listed.setIfInBounds i true)[c]?=some true)→(∀ (c:Nat) o,e'≤c→l[c]?=some o→lKind ti o.op=true→(listed.setIfInBounds i true)[c]?=some false) →
    Inv B R' γ' (Ls e') w'→Ext B R R' w w'→Mv R R' γ γ' (Ls e) (Ls e')→v.rep R' γ' (Ls e') u→Mid2 ti l N B Ls T vs R0 γ0 w0 (listed.setIfInBounds i true) e' R' γ' (a.put l[i].dst u) w':=by
   intro e' R' γ' w' u hle' hlo hhi hi' he' hmv hu
   have hsz:(a.put l[i].dst u).tmps.size=N:=by cases hdd:l[i].dst<;>simp [Act.put,M.size]
   have keep : ∀ t,l[i].dst≠some t→(a.put l[i].dst u).tmps[t]?=a.tmps[t]?:=by
    intro t ht
    cases hdd:l[i].dst with
    | none=>rfl
    | some d=>simp only [Act.put];rw [Array.getElem?_setIfInBounds_ne (by intro e;exact ht (by rw [hdd,e]))]
   refine ⟨hi',hsz,by cases hdd:l[i].dst<;>exact M.defers,M.done.put h3,hle',hlo,hhi,fun j o d v' hlj hoj hdj hvj=>?_,fun t x hx hno=>?_,M.ext.trans he',M.mv.trans hmv⟩
   ·by_cases hji:j=i
    ·subst hji
     rw [ho] at hoj;injection hoj with hoj;subst hoj
     rw [hv] at hvj;injection hvj with hvj;subst hvj
     have hdN:d<N:=by have:=hd;rw [hdj] at this;exact this
     refine ⟨u,?_,hu⟩
     rw [hdj]
     simp only [Act.put]
     exact Array.getElem?_setIfInBounds_self_of_lt (by rw [M.size];exact hdN)
    ·rw [Array.getElem?_setIfInBounds_ne (Ne.symm hji)] at hlj
     obtain ⟨u',g1,g2⟩:=M.fresh j o d v' hlj hoj hdj hvj
     refine ⟨u',?_,AV.mv hmv g2⟩
     rw [keep d (fun e=>hji (uniq j i o _ d hoj ho hdj e))]
     exact g1
   ·have hni:l[i].dst≠some t:=hno i _ (Array.getElem?_setIfInBounds_self_of_lt (by rw [M.done.size];exact h1)) ho
    obtain ⟨u',g1,g2⟩:=M.old t x hx fun k o hlk hok=>hno k o (by
     by_cases hki:k=i
     ·subst hki;rw [h2] at hlk;cases hlk
     ·rw [Array.getElem?_setIfInBounds_ne (Ne.symm hki)];exact hlk) hok
    exact ⟨u',by rw [keep t hni];exact g1,AV.mv hmv g2⟩
  have hlook : ∀ d x,d∈l[i].looksAt l.toArray→(tat l vs T i).lookup d=some x → ∃ u,a.tmps[d]?=some u∧x.rep R γ (Ls e) u:=fun d x hd hx=>hsl d x (by unfold namesOf;exact List.mem_append_left _ hd) hx

  have quietLo:lKind ti l[i].op=false→(∀ (c:Nat) o,c<e→l[c]?=some o→lKind ti o.op=true→(listed.setIfInBounds i true)[c]?=some true)∧(∀ (c:Nat) o,e≤c→l[c]?=some o→lKind ti o.op=true→(listed.setIfInBounds i true)[c]?=some false):=by
   intro hk
   have hne : ∀ (c:Nat) o,l[c]?=some o→lKind ti o.op=true→c≠i:=by
    rintro c o hoc hkc rfl
    rw [ho] at hoc;injection hoc with hoc;subst hoc;rw [hk] at hkc;cases hkc
   exact ⟨fun c o hc hoc hkc=>by rw [Array.getElem?_setIfInBounds_ne (Ne.symm (hne c o hoc hkc))];exact M.lo c o hc hoc hkc,fun c o hc hoc hkc=>by rw [Array.getElem?_setIfInBounds_ne (Ne.symm (hne c o hoc hkc))];exact M.hi c o hc hoc hkc⟩
  have chainAt:lKind ti l[i].op=true→e≤i∧Ls i=Ls e∧(∀ (c:Nat) o,c<i+1→l[c]?=some o→lKind ti o.op=true→(listed.setIfInBounds i true)[c]?=some true)∧(∀ (c:Nat) o,i+1≤c→l[c]?=some o→lKind ti o.op=true→(listed.setIfInBounds i true)[c]?=some false):=by
   intro hk
   have hei:e≤i:=by
    rcases Nat.lt_or_ge i e with h|h
    ·have:=M.lo i _ h ho hk;rw [h2] at this;cases this
    ·exact h
   have hbelow : ∀ (c:Nat) o,c<i→l[c]?=some o→lKind ti o.op=true→listed[c]?=some true:=fun c o hc hoc hkc=>M.done.anc (hD.chain i c _ o ho hoc hk hkc hc) h3
   refine ⟨hei,?_,fun c o hc hoc hkc=>?_,fun c o hc hoc hkc=>?_⟩
   ·have:=flat (i-e) e (fun c o c1 c2 hoc=>by
     cases hkc:lKind ti o.op with
     | false=>rfl
     | true=>have q:=M.hi c o c1 hoc hkc;rw [hbelow c o (by omega) hoc hkc] at q;cases q) (by omega)
    have e1:e+(i-e)=i:=by omega
    rw [e1] at this;exact this
   ·by_cases hci:c=i
    ·subst hci;exact Array.getElem?_setIfInBounds_self_of_lt (by rw [M.done.size];exact h1)
    ·rw [Array.getElem?_setIfInBounds_ne (Ne.symm hci)];exact hbelow c o (by omega) hoc hkc
   ·rw [Array.getElem?_setIfInBounds_ne (by omega)];exact M.hi c o (by omega) hoc hkc
  unfold wpOp
  simp only [List.getElem?_toArray,ho]
  rcases hstep with ⟨hw,hop⟩|⟨hw,rfl,hLs⟩
  ·rw [if_pos (gdv_sound (dsts hds) hlook hw)]
   refine .inl ?_
   have operand : ∀ x v',(fun x=>if x∈l[i].op.operands then look (tat l vs T i) x else none) x=some v'→v'.rep R γ (Ls e) (a.eval x):=by
    intro x v' hx
    by_cases hxo:x∈l[i].op.operands
    ·simp only [hxo,if_true] at hx
     cases x with
     | tmp t =>
      obtain ⟨u,g1,g2⟩:=hlook t v' (by unfold Oper.looksAt;exact List.mem_append_left _ (List.mem_filterMap.2 ⟨.tmp t,by simpa using hxo,rfl⟩)) hx
      have:a.eval (.tmp t)=u:=by simp [Act.eval,Array.getD_eq_getD_getElem?,g1]
      rw [this];exact g2
     | const c=>exact AV.ofVal_rep hx
     | global g=>cases hx
     | func f =>
      injection hx with hx;subst hx
      exact .fn f #[] [] rfl (fun j v x hv=>by simp at hv)
    ·simp only [hxo,if_false] at hx;cases hx
   cases hk:lKind ti l[i].op with
   | false =>
    have hop2:=pass i _ v ho hk hop e M.le (fun c oc hoc hkc hcc=>by
     refine hD.cross i c _ oc ho hoc hk hkc (fun ha=>?_) (fun ha=>?_)
     ·have q:=M.done.anc ha h3
      rcases hcc with ⟨c1,c2⟩|⟨c1,c2⟩
      ·
       have back : ∀ i j,Anc l i j→j<i:=by
        intro i j h
        induction h with
        | edge ho he hb=>exact hD.back _ _ ho _ he hb
        | step ho he hb _ ih=>have:=hD.back _ _ ho _ he hb;omega
       have:=back i c ha;omega
      ·rw [M.hi c oc c1 hoc hkc] at q;cases q
     ·rcases hcc with ⟨c1,c2⟩|⟨c1,c2⟩
      ·have q:=M.done.anc ha (fun o2 h2'=>M.done.down c o2 h2' (M.lo c oc c2 hoc hkc))
       rw [h2] at q;cases q
      ·have back : ∀ i j,Anc l i j→j<i:=by
        intro i j h
        induction h with
        | edge ho he hb=>exact hD.back _ _ ho _ he hb
        | step ho he hb _ ih=>have:=hD.back _ _ ho _ he hb;omega
       have:=back c i ha;omega)
    have hop':=awOp_congr2 (ρ':=fun x=>if x∈l[i].op.operands then look (tat l vs T i) x else none) (fun x hx=>by simp only [hx,if_true]) hop2
    refine awOp_sound hti M.inv operand hop' ?_
    rintro v' L' R' γ' w' u ⟨rfl,rfl⟩ k1 k2 k3 k4
    obtain ⟨q1,q2⟩:=quietLo hk
    exact ih _ e R' γ' _ w' hcnt (hput e R' γ' w' u M.le q1 q2 k1 k2 k3 k4)
   | true =>
    obtain ⟨hei,hLe,q1,q2⟩:=chainAt hk
    rw [hLe] at hop
    have hop':=awOp_congr2 (ρ':=fun x=>if x∈l[i].op.operands then look (tat l vs T i) x else none) (fun x hx=>by simp only [hx,if_true]) hop
    refine awOp_sound hti M.inv operand hop' ?_
    rintro v' L' R' γ' w' u ⟨rfl,rfl⟩ k1 k2 k3 k4
    exact ih _ (i+1) R' γ' _ w' hcnt (hput (i+1) R' γ' w' u (by omega) q1 q2 k1 k2 k3 k4)
  ·rw [if_neg (by rw [gdv_sound (dsts hds) hlook hw];decide)]
   cases hk:lKind ti l[i].op with
   | false =>
    obtain ⟨q1,q2⟩:=quietLo hk
    exact ih _ e R γ _ w hcnt (hput e R γ w Go.undef M.le q1 q2 M.inv (Ext.refl _ _ _) Mv.refl rfl)
   | true =>
    obtain ⟨hei,hLe,q1,q2⟩:=chainAt hk
    have hLi:Ls (i+1)=Ls e:=hLs.trans hLe
    refine ih _ (i+1) R γ _ w hcnt (hput (i+1) R γ w Go.undef (by omega) q1 q2 ?_ (Ext.refl _ _ _) ?_ rfl)
    ·rw [hLi];exact M.inv
    ·rw [hLi];exact Mv.refl
def fzB (F:List Nat) (T:Tm):Bool:=F.all fun t=>match T.lookup t with
 | some (.one (.c _))=>true
 | _=>false
theorem fzB_of {F:List Nat} {T:Tm} (h:fzB F T=true) : ∀ t∈F, ∃ x,T.lookup t=some (.one (.c x)):=by
 intro t ht
 have:=List.all_eq_true.1 h t ht
 split at this
 ·rename_i x hx;exact ⟨x,hx⟩
 ·cases this
theorem aw_drawn3 (F:List Nat) (hti:TIok P ti) {Q:AX→Tm→List Ob→Prop} {T:Tm} {L:List Ob} {id:Nat} {l:List Oper} (ds:List (Option Tmp)) (hds:l.map (·.dst)=ds) (hmix:P.follows .mixedOrders=true) (hc:drawOK3 F ti l=true) (hF:fzB F T=true) (h:awOps P ti N ds (Q .normal) l T L):Aw P N n0 (.region id l.toArray true) Q T L:=by
 intro hn B R γ w a hi hT
 have hD:=draw2_of hc
 obtain ⟨vs,Ls,h1,h0,h2,h3⟩:=trace2 l T L h
 subst h0
 have hiD:Inv B R γ (Ls 0) { w with drawn:=w.drawn+1 } := ⟨hi.len,hi.val,fun id x g hx hg=>(hi.obj id x g hx hg).mv Mv.refl (fun _ _=>rfl) (fun _ _ _ h=>h),hi.inj,hi.new,hi.bsz⟩
 have heD:Ext B R R w { w with drawn:=w.drawn+1 } := ⟨⟨rfl,rfl,rfl,Nat.le_refl _,fun _ _=>rfl⟩,PH.sub_refl _,fun _ _ _=>rfl⟩
 refine wp_region_any hmix ?_
 have hsz:l.toArray.size=l.length:=by simp
 rw [hsz]
 refine any2 hti hds (B:=B) hD h1 (fzB_of hF) h2 h3 (R0:=R) (γ0:=γ) (w0:=w) ?_ l.length (Array.replicate l.length false) 0 R γ a { w with drawn:=w.drawn+1 } ?_ ?_
 ·intro T' L' R' γ' w' a' q1 q2 q3 q4 q5
  exact ⟨.normal,T',L',R',γ',rfl,q1,q2,q3,q4,MvN.of hn q5⟩
 ·unfold cntB
  exact Nat.le_trans List.countP_le_length (by simp)
 ·have hf : ∀ i:Nat,i<l.length→(Array.replicate l.length false)[i]?=some false:=fun i hi=>by simp [hi]
  have ht : ∀ i:Nat,(Array.replicate l.length false)[i]?≠some true:=by
   intro i e
   by_cases hi:i<l.length
   ·rw [hf i hi] at e;cases e
   ·rw [Array.getElem?_eq_none (by simp;omega)] at e;cases e
  exact ⟨hiD,hT.size,hT.defers,⟨by simp,fun i o _ e=>absurd e (ht i)⟩,by omega,fun c _ hc=>by omega,fun c o _ hoc _=>hf c (List.getElem?_eq_some_iff.1 hoc).1,fun i o d v e=>absurd e (ht i),fun t x hx _=>hT.slot t x hx,heD,Mv.refl⟩
theorem aw_drawn2 (hti:TIok P ti) {Q:AX→Tm→List Ob→Prop} {T:Tm} {L:List Ob} {id:Nat} {l:List Oper} (ds:List (Option Tmp)) (hds:l.map (·.dst)=ds) (hmix:P.follows .mixedOrders=true) (hc:drawOK2 ti l=true) (h:awOps P ti N ds (Q .normal) l T L):Aw P N n0 (.region id l.toArray true) Q T L :=
 aw_drawn3 [] hti ds hds hmix hc rfl h
end
section
variable {P:Program} {ti:TI} {N:Nat} {ds:List (Option Tmp)} {K:Tm→List Ob→Prop} {o:Oper} {rest:List Oper} {T:Tm} {L:List Ob}
theorem gd_true {A B:Prop} {g:Option (Nat × Bool)} (h:gdv ds T g=some true) (ha:A):gd ds T A B g:=by
 cases g with
 | none=>exact ha
 | some p =>
  obtain ⟨j,want⟩:=p
  simp only [gdv] at h
  simp only [gd]
  split at h
  ·rename_i d hd
   try simp only [hd]
   split at h
   ·rename_i b hb
    try simp only [hb]
    refine ⟨fun _=>ha,fun e=>?_⟩
    subst e
    cases want<;>simp at h
   ·cases h
   ·cases h
  ·cases h
theorem gd_false {A B:Prop} {g:Option (Nat × Bool)} (h:gdv ds T g=some false) (hb:B):gd ds T A B g:=by
 cases g with
 | none=>cases h
 | some p =>
  obtain ⟨j,want⟩:=p
  simp only [gdv] at h
  simp only [gd]
  split at h
  ·rename_i d hd
   try simp only [hd]
   split at h
   ·rename_i b hbb
    try simp only [hbb]
    refine ⟨fun e=>?_,fun _=>hb⟩
    subst e
    cases b<;>simp at h
   ·rename_i hbb
    try simp only [hbb]
    exact hb
   ·cases h
  ·cases h
theorem dOK_some {d:Nat} (hd:o.dst=some d) (hN:Nat.blt d N=true):dOK N o.dst:=by
 rw [hd];show d<N;exact Nat.blt_eq▸hN
theorem st_nil (h:K T L):awOps P ti N ds K [] T L:=h
theorem st_pop {v:AV} {φ:Prop} {d:Nat} (hd:o.dst=some d) (hN:Nat.blt d N=true) (hg:gdv ds T o.guard=some true) (hp:pop ti (look T) L o.op=some (v,φ)) (hφ:φ) (h:awOps P ti N ds K rest ((d,v)::T) L):awOps P ti N ds K (o::rest) T L :=
 ⟨dOK_some hd hN,gd_true hg (.inl ⟨v,φ,hp,hφ,by rw [hd];exact h⟩)⟩
theorem st_lit {v:AV} {φ:Prop} {d:Nat} (hd:o.dst=some d) (hN:Nat.blt d N=true) (hg:gdv ds T o.guard=some true) (hp:litOp ti (look T) o.op=some (v,φ)) (hφ:φ) (h:awOps P ti N ds K rest ((d,v)::T) L):awOps P ti N ds K (o::rest) T L :=
 ⟨dOK_some hd hN,gd_true hg (.inr (.inl ⟨v,φ,hp,hφ,by rw [hd];exact h⟩))⟩
theorem st_lop {v:AV} {L':List Ob} {φ:Prop} {d:Nat} (hd:o.dst=some d) (hN:Nat.blt d N=true) (hg:gdv ds T o.guard=some true) (hp:lop ti (look T) L o.op=some (v,L',φ)) (hφ:φ) (h:awOps P ti N ds K rest ((d,v)::T) L'):awOps P ti N ds K (o::rest) T L :=
 ⟨dOK_some hd hN,gd_true hg (.inr (.inr (.inl ⟨v,L',φ,hp,hφ,by rw [hd];exact h⟩)))⟩
theorem sS_ {v:AV} {L':List Ob} {φ:Prop} (hd:o.dst=none) (hg:gdv ds T o.guard=some true) (hp:lop ti (look T) L o.op=some (v,L',φ)) (hφ:φ) (h:awOps P ti N ds K rest T L'):awOps P ti N ds K (o::rest) T L :=
 ⟨by rw [hd];trivial,gd_true hg (.inr (.inr (.inl ⟨v,L',φ,hp,hφ,by rw [hd];exact h⟩)))⟩
theorem st_call {g:FuncId} {ps:List PV} {r:CV} {d:Nat} {v:AV} (hd:o.dst=some d) (hN:Nat.blt d N=true) (hg:gdv ds T o.guard=some true) (hp:callOp (look T) o.op=some (g,ps)) (hc:Pure P g ps r) (hv:r.av=v) (h:awOps P ti N ds K rest ((d,v)::T) L):awOps P ti N ds K (o::rest) T L :=
 ⟨dOK_some hd hN,gd_true hg (.inr (.inr (.inr (.inl ⟨g,ps,r,hp,hc,by rw [hd,hv];exact h⟩))))⟩
theorem st_skip {d:Nat} (hd:o.dst=some d) (hN:Nat.blt d N=true) (hg:gdv ds T o.guard=some false) (h:awOps P ti N ds K rest ((d, .undef)::T) L):awOps P ti N ds K (o::rest) T L :=
 ⟨dOK_some hd hN,gd_false hg (by rw [hd];exact h)⟩
theorem sk0_ (hd:o.dst=none) (hg:gdv ds T o.guard=some false) (h:awOps P ti N ds K rest T L):awOps P ti N ds K (o::rest) T L :=
 ⟨by rw [hd];trivial,gd_false hg (by rw [hd];exact h)⟩
end
theorem lookup_all {β:Type} {l:List (Nat × β)} {Pr:Nat→β→Prop} (h : ∀ p∈l,Pr p.1 p.2) : ∀ t v,l.lookup t=some v→Pr t v:=by
 intro t v hv
 induction l with
 | nil=>cases hv
 | cons p l ih =>
  obtain ⟨k,x⟩:=p
  rw [List.lookup_cons] at hv
  by_cases e:t=k
  ·subst e;simp at hv;subst hv;exact h (t,x) (by simp)
  ·have:(t==k)=false:=by simpa using e
   rw [this] at hv
   exact ih (fun p hp=>h p (List.mem_cons_of_mem _ hp)) hv
theorem all_of {α:Type} {l:List α} {f:α→Bool} {Pr:α→Prop} (h:l.all f=true) (hf : ∀ x,f x=true→Pr x) : ∀ x∈l,Pr x:=fun x hx=>hf x (List.all_eq_true.1 h x hx)
def TI.of (sz:List (Nat × Nat)) (ag:List (Nat × Bool)) (el:List (Nat × Nat)) (fl:List (Nat × List (Nat × Nat))) (ze:List (Nat × AV)) (bt:List (Nat × Nat)) (ki:List (Nat × TypeDesc)) (st zo:List Nat) (eq:List (Nat × List Sc)) (ow:List Nat):TI where
 size:=fun t=>sz.lookup t
 agg:=fun t=>ag.lookup t
 elem:=fun t=>el.lookup t
 field:=fun s i=>match fl.lookup s with
  | some fs=>fs[i]?
  | none=>none
 zero:=fun t=>ze.lookup t
 bytes:=fun t=>bt.lookup t
 kind:=fun t=>ki.lookup t
 struct:=fun t=>st.contains t
 zok:=fun t=>zo.contains t
 eqs:=fun t=>eq.lookup t
 owns:=fun f=>ow.contains f
def zokB (P:Program) (t:TypeId):Bool :=
 match P.info? t with
 | some i=>match i.zero with
  | some z=>z.cells.size==i.size
  | none=>false
 | none=>false
theorem zok_of {P:Program} {t:TypeId} (h:zokB P t=true) : ∀ k,tsize P t=some k→tzero P t k:=by
 intro k hk
 unfold zokB at h
 unfold tsize at hk
 split at h
 ·rename_i i hi
  split at h
  ·rename_i z hz
   rw [hi] at hk
   simp at hk
   simp at h
   exact ⟨i,z,hi,hz,hk,by rw [h,hk]⟩
  ·cases h
 ·cases h
theorem TI.of_ok {P:Program} {sz:List (Nat × Nat)} {ag:List (Nat × Bool)} {el:List (Nat × Nat)} {fl:List (Nat × List (Nat × Nat))} {ze:List (Nat × AV)} {bt:List (Nat × Nat)} {ki:List (Nat × TypeDesc)} {st zo:List Nat} {eq:List (Nat × List Sc)} {ow:List Nat}
  (h1:(sz.all fun p=>tsize P p.1==some p.2)=true) (h2:(ag.all fun p=>tagg P p.1==some p.2)=true) (h3:(el.all fun p=>telem P p.1==some p.2)=true)
  (h4:(fl.all fun p=>(List.range p.2.length).all fun i=>tfield P p.1 i==p.2[i]?)=true) (h5 : ∀ p∈ze,zeroOf P p.1=some p.2) (h6:(bt.all fun p=>tbytes P p.1==some p.2)=true) (h7 : ∀ p∈ki,P.underlying p.1=some p.2)
  (h8:(st.all fun t=>tstruct P t)=true) (h9:(zo.all fun t=>zokB P t)=true)
  (h10 : ∀ p∈eq,P.eqGuardType P.depth p.1=false ∧ ∀ xs ys,fitsS p.2 xs=true→fitsS p.2 ys=true→EqRuns P p.1 xs ys):TIok P (TI.of sz ag el fl ze bt ki st zo eq ow):=by
 refine ⟨lookup_all (all_of h1 fun p hp=>by simpa using hp),lookup_all (all_of h2 fun p hp=>by simpa using hp),lookup_all (all_of h3 fun p hp=>by simpa using hp),fun s i r h=>?_,lookup_all h5,lookup_all (all_of h6 fun p hp=>by simpa using hp),lookup_all h7,fun t h=>?_,fun t h=>?_,lookup_all h10⟩
 ·simp only [TI.of] at h
  split at h
  ·rename_i fs hf
   have:=lookup_all (Pr:=fun s fs=>((List.range fs.length).all fun i=>tfield P s i==fs[i]?)=true) (all_of h4 fun p hp=>hp) s fs hf
   have hi:i<fs.length:=(List.getElem?_eq_some_iff.1 h).1
   have h2:=List.all_eq_true.1 this i (by simpa using hi)
   rw [← h];simpa using h2
  ·cases h
 ·exact List.all_eq_true.1 h8 t (by simpa [TI.of] using h)
 ·exact zok_of (List.all_eq_true.1 h9 t (by simpa [TI.of] using h))
section
variable {P:Program} {ti:TI} {N n0:Nat} {Q:AX→Tm→List Ob→Prop} {T:Tm} {L:List Ob}
theorem res_of {rs:List ResultVar} {ps:List PV} {φ:Prop} {r:CV} (h:resAll ti T L rs=some (ps,φ)) (hφ:φ) (e:cvOf ps=r):Res ti rs T L r:=by
 unfold Res
 rw [h]
 exact ⟨hφ,e⟩
theorem end_ret {rs:List ResultVar} {r:CV} (h:Res ti rs T L r):(AX.ret=AX.normal∨AX.ret=AX.ret)∧Res ti rs T L r:=⟨.inr rfl,h⟩
end
section
variable {P:Program} {ti:TI} {N n0:Nat} {ds:List (Option Tmp)} {K:Tm→List Ob→Prop} {o:Oper} {rest:List Oper} {T:Tm} {L:List Ob}
theorem pop_idx {ρ:Operand→Option AV} {t:TypeId} {x ix:Operand} {vx:AV} {es:List (List AC)} {k0:IntKind} {i:Int} {k:Nat} {e:List AC} (hx:ρ x=some vx) (hl:listOf vx=some es) (hi:ρ ix=some (.one (.c (.int k0 i)))) (hk:(ti.elem t).bind ti.size=some k) (he:es[i.toNat]?=some e) :
  pop ti ρ L (.indexAddr t x ix)=some (.one (.c (.ref e)),0≤i∧e.length=k):=by
 simp only [pop,hx,hi]
 split
 ·rename_i h1 h2
  injection h1 with h1;subst h1;simp [listOf] at hl
 ·rename_i h1 h2
  injection h1 with h1;injection h2 with h2;subst h1 h2
  simp only [popIndexAddr,hl,hk,he]
 ·rename_i h;exact (h _ _ rfl rfl).elim
theorem st_idx {t:TypeId} {x ix:Operand} {vx:AV} {es:List (List AC)} {k0:IntKind} {i:Int} {k d:Nat} {e:List AC} (hd:o.dst=some d) (hN:Nat.blt d N=true) (hg:gdv ds T o.guard=some true) (ho:o.op = .indexAddr t x ix) (hx:look T x=some vx) (hl:listOf vx=some es) (hi:look T ix=some (.one (.c (.int k0 i))))
  (hk:(ti.elem t).bind ti.size=some k) (he:es[i.toNat]?=some e) (hφ:0≤i∧e.length=k) (h:awOps P ti N ds K rest ((d, .one (.c (.ref e)))::T) L):awOps P ti N ds K (o::rest) T L :=
 st_pop hd hN hg (by rw [ho];exact pop_idx hx hl hi hk he) hφ h
end
open Go.RowKit Go.MapKept
def kidx (s:ByteArray):List (AC × AV)→Option Nat
 | []=>none
 | p::r=>match p.1 with
  | .str t=>if s=t then some 0 else (kidx s r).map (· + 1)
  | _=>(kidx s r).map (· + 1)
def strKeys (kvs:List (AC × AV)):Prop := ∀ p∈kvs, ∃ t,p.1 = .str t
def mval (kvs:List (AC × AV)) (s:ByteArray) (z:AV):AV :=
 match kidx s kvs with
 | some i=>match kvs[i]? with
  | some p=>p.2
  | none=>z
 | none=>z
def mput (kvs:List (AC × AV)) (s:ByteArray) (v:AV):List (AC × AV) :=
 match kidx s kvs with
 | some i=>kvs.set i (.str s,v)
 | none=>kvs++[(.str s,v)]
def mplace (kvs:List (AC × AV)) (s:ByteArray):Nat :=
 match kidx s kvs with
 | some i=>i
 | none=>kvs.length
section
variable {P:Program} {ti:TI} {B:Nat→Prop} {N:Nat} {R:PH} {γ:List Gh} {L:List Ob} {w:World} {ρ:Operand→Option AV}
theorem kidx_lt {s:ByteArray} : ∀ {kvs:List (AC × AV)} {i:Nat}, kidx s kvs=some i → ∃ p,kvs[i]?=some p∧p.1 = .str s
 | p::r,i,h=>by
  unfold kidx at h
  split at h
  ·rename_i t ht
   split at h
   ·rename_i e;injection h with h;subst h e;exact ⟨p,rfl,ht⟩
   ·cases hr:kidx s r with
    | none=>simp [hr] at h
    | some j=>simp [hr] at h;subst h;obtain ⟨q,h1,h2⟩:=kidx_lt hr;exact ⟨q,by simpa using h1,h2⟩
  ·cases hr:kidx s r with
   | none=>simp [hr] at h
   | some j=>simp [hr] at h;subst h;obtain ⟨q,h1,h2⟩:=kidx_lt hr;exact ⟨q,by simpa using h1,h2⟩
theorem find_kidx {s:ByteArray} : ∀ (l:List MapEntry) (kvs:List (AC × AV)) (i0:Nat),l.length=kvs.length→strKeys kvs→(∀ (j:Nat) e p,l[j]?=some e→kvs[j]?=some p→PRep R e.key p.1) →
  (kidx s kvs=none∧Instr.findNow .string (.string s) l i0=some none)∨(∃ i e,kidx s kvs=some i∧l[i]?=some e∧e.key = .string s∧Instr.findNow .string (.string s) l i0=some (some (i0+i,e.val)))
 | [],[],i0,_,_,_ => .inl ⟨rfl,rfl⟩
 | e::l,p::kvs,i0,hl,hs,hr=>by
  obtain ⟨t,ht⟩:=hs p (by simp)
  have hk:=hr 0 e p rfl rfl
  rw [ht] at hk
  generalize hek:e.key=ek at hk
  cases hk
  unfold kidx Instr.findNow
  simp only [ht,hek,Instr.sameNow]
  by_cases e1:s=t
  ·subst e1
   refine .inr ⟨0,e,by simp,rfl,hek,?_⟩
   have:(s==s)=true:=(bytes_beq s s).2 rfl
   simp [this]
  ·have:(s==t)=false:=by
    cases hb:(s==t) with
    | false=>rfl
    | true=>exact absurd ((bytes_beq s t).1 hb) e1
   simp only [this,e1,if_false]
   rcases find_kidx l kvs (i0+1) (by simpa using hl) (fun q hq=>hs q (List.mem_cons_of_mem _ hq)) (fun j e' q h1 h2=>hr (j+1) e' q (by simpa using h1) (by simpa using h2)) with ⟨h1,h2⟩|⟨i,e',h1,h2,h3,h4⟩
   ·exact .inl ⟨by simp [h1],h2⟩
   ·exact .inr ⟨i+1,e',by simp [h1],by simpa using h2,h3,by rw [h4];simp;omega⟩
theorem sop_makeMap {t:TypeId} : Sop P ρ L (.makeMap t none) (.one (.mp L.length)) (L++[.map []]):=by
 intro B R γ w ev o ho hi hρ hfv
 obtain ⟨dst,op,type,pos,after,guard⟩:=o
 simp only at ho;subst ho
 refine ⟨w.alloc (.map #[] 0),R,γ++[.box w.heap.size], .inl ⟨.map (some w.heap.size),?_,w.heap.size,rfl,?_⟩,?_,⟨Kept.alloc hi.bsz _,PH.sub_refl _,fun _ _ _=>rfl⟩,Mv.push _ _ hi.len⟩
 ·simp [execOp,Instr.makeMap]
 ·rw [List.getElem?_append_right (by rw [hi.len];omega),hi.len];simp
 ·exact hi.push _ _ _ rfl ⟨⟨#[],heap_new w _,rfl,fun j e p he _=>by simp at he⟩,fun o=>hi.none_at o⟩
theorem Mv.turnMap {id:Nat} {kvs kvs':List (AC × AV)} (hL:L[id]?=some (.map kvs)):Mv R R γ γ L (L.set id (.map kvs')):=by
 have hlt:id<L.length:=(List.getElem?_eq_some_iff.1 hL).1
 refine ⟨PH.sub_refl _,by simp,fun t n k _ h=>⟨n,?_,Nat.le_refl _,fun _=>rfl⟩,fun t ver es k _ h=>⟨ver,es,?_,Nat.le_refl _,fun _=>⟨rfl,rfl⟩⟩,fun _ _ h=>h⟩
 ·by_cases e:t=id
  ·subst e;rw [List.getElem?_set_self hlt] at h;cases h
  ·rw [List.getElem?_set_ne (Ne.symm e)] at h;exact h
 ·by_cases e:t=id
  ·subst e;rw [List.getElem?_set_self hlt] at h;cases h
  ·rw [List.getElem?_set_ne (Ne.symm e)] at h;exact h
theorem map_at (hi:Inv B R γ L w) {id b:Nat} {kvs:List (AC × AV)} (hL:L[id]?=some (.map kvs)) (hg:γ[id]?=some (.box b)) :
  (∃ es,w.heap[b]?=some (.map es es.size)∧es.size=kvs.length ∧ ∀ (j:Nat) e p,es[j]?=some e→kvs[j]?=some p→e.born=j∧PRep R e.key p.1∧p.2.rep R γ L e.val):=(hi.obj id _ _ hL hg).1
theorem map_turn (hi:Inv B R γ L w) {id b:Nat} {kvs kvs':List (AC × AV)} {es:Array MapEntry} (hL:L[id]?=some (.map kvs)) (hg:γ[id]?=some (.box b)) (hb:w.heap[b]?=some (.map es es.size)) (es':Array MapEntry) (hs:es'.size=kvs'.length)
  (h : ∀ (j:Nat) e p,es'[j]?=some e→kvs'[j]?=some p→e.born=j∧PRep R e.key p.1∧p.2.rep R γ L e.val) :
  Inv B R γ (L.set id (.map kvs')) { w with heap:=w.heap.setIfInBounds b (.map es' es'.size) } ∧ Ext B R R w { w with heap:=w.heap.setIfInBounds b (.map es' es'.size) } := by
 have hh:=Go.MapKept.heap_set (o' := .map es' es'.size) hb
 have hm:=Mv.turnMap (R:=R) (γ:=γ) (kvs':=kvs') hL
 have hnb:=(hi.new id _ b hg rfl).1
 have hR : ∀ o,R b o=none:=(hi.obj id _ _ hL hg).2
 refine ⟨hi.turn hL hg rfl hm (fun b' hne=>hh.2 b' hne) (by simp) (fun _ _ _=>rfl) (fun o u e=>by rw [hR o] at e;cases e) ⟨⟨es',hh.1,hs,fun j e p he hp=>?_⟩,hR⟩,⟨⟨rfl,rfl,rfl,by simp,fun b' hb'=>hh.2 b' (fun e=>hnb (by rw [← e];exact hb'))⟩,PH.sub_refl _,fun _ _ _=>rfl⟩⟩
 obtain ⟨a1,a2,a3⟩:=h j e p he hp
 exact ⟨a1,a2,AV.mv hm a3⟩
theorem run_zero_of {et:TypeId} {z:AV} (hz:zeroOf P et=some z) : ∃ u,(zeroValue et).run P w = .ok u w∧z.rep R γ L u:=by
 unfold zeroOf at hz
 cases hinf:P.info? et with
 | none=>simp [hinf] at hz
 | some inf =>
  simp only [hinf,Option.bind_some] at hz
  cases hzz:inf.zero with
  | none=>simp [hzz] at hz
  | some u =>
   simp only [hzz,Option.bind_some] at hz
   exact ⟨u,by simp [zeroValue,typeInfo,program,Sem.run,hinf,hzz],AV.ofVal_rep hz⟩
theorem sop_lookup {t kt et:TypeId} {x k:Operand} {s:ByteArray} {id:Nat} {kvs:List (AC × AV)} {z:AV} (hx:ρ x=some (.one (.mp id))) (hk:ρ k=some (.one (.c (.str s)))) (hL:L[id]?=some (.map kvs)) (hkeys:strKeys kvs)
  (ht:P.underlying t=some (.map kt et)) (hkt:P.underlying kt=some .string) (hz:zeroOf P et=some z):Sop P ρ L (.lookup t x k false) (mval kvs s z) L:=by
 intro B R γ w ev o ho hi hρ hfv
 obtain ⟨dst,op,type,pos,after,guard⟩:=o
 simp only at ho;subst ho
 obtain ⟨b,hxv,hg⟩:=(hρ _ (by simp [Op.operands,Call.operands]) _ hx)
 have hkv:=(hρ _ (by simp [Op.operands,Call.operands]) _ hk)
 generalize hke:ev k=kv at hkv
 cases hkv
 obtain ⟨es,hb,hsz,hent⟩:=map_at hi hL hg
 have hchk:=fun e=>Go.MapKept.run_checkKey (P:=P) (w:=w) (k := .string s) hkt trivial e 9999
 obtain ⟨zu,hzr,hzrep⟩:=run_zero_of (P:=P) (w:=w) (R:=R) (γ:=γ) (L:=L) hz
 rcases find_kidx (R:=R) (s:=s) es.toList kvs 0 (by simpa using hsz) hkeys (fun j e p he hp=>(hent j e p (by simpa using he) hp).2.1) with ⟨h1,h2⟩|⟨i,e,h1,h2,h3,h4⟩
 ·refine ⟨w,R,γ, .inl ⟨zu,?_,?_⟩,hi,Ext.refl _ _ _,Mv.refl⟩
  ·simp [execOp,Instr.lookup,hxv,hke,run_underlying ht,Go.MapKept.run_getObj_map hb,hchk,Go.MapKept.run_findKey hkt h2,hzr,Result.andThen]
  ·unfold mval;rw [h1];exact hzrep
 ·obtain ⟨p,hp,hp1⟩:=kidx_lt h1
  refine ⟨w,R,γ, .inl ⟨e.val,?_,?_⟩,hi,Ext.refl _ _ _,Mv.refl⟩
  ·simp [execOp,Instr.lookup,hxv,hke,run_underlying ht,Go.MapKept.run_getObj_map hb,hchk,Go.MapKept.run_findKey hkt h4,Result.andThen]
  ·unfold mval;rw [h1];simp only [hp];exact (hent i e p (by simpa using h2) hp).2.2
theorem norm_rep' {v:AV} {p:PV} {u:Value} (h:v.norm=some p) (hu:v.rep R γ L u):p.rep R u:=AV.norm_rep hu h
theorem tup2 {p q:PV} {u v:Value} (hp:p.rep R u) (hq:q.rep R v):(AV.tup [p,q]).rep R γ L (.tuple #[u,v]):=by
 refine ⟨#[u,v],rfl,rfl,fun j x y hx hy=>?_⟩
 match j,hx,hy with
 | 0,hx,hy=>simp at hx hy;subst hx hy;exact hp
 | 1,hx,hy=>simp at hx hy;subst hx hy;exact hq
 | j+2,hx,hy=>simp at hx
theorem sop_lookup_ok {t kt et:TypeId} {x k:Operand} {s:ByteArray} {id:Nat} {kvs:List (AC × AV)} {z:AV} {p:PV} (hx:ρ x=some (.one (.mp id))) (hk:ρ k=some (.one (.c (.str s)))) (hL:L[id]?=some (.map kvs)) (hkeys:strKeys kvs)
  (ht:P.underlying t=some (.map kt et)) (hkt:P.underlying kt=some .string) (hz:zeroOf P et=some z) (hp:(mval kvs s z).norm=some p):Sop P ρ L (.lookup t x k true) (.tup [p, .one (.bool (kidx s kvs).isSome)]) L:=by
 intro B R γ w ev o ho hi hρ hfv
 obtain ⟨dst,op,type,pos,after,guard⟩:=o
 simp only at ho;subst ho
 obtain ⟨b,hxv,hg⟩:=(hρ _ (by simp [Op.operands,Call.operands]) _ hx)
 have hkv:=(hρ _ (by simp [Op.operands,Call.operands]) _ hk)
 generalize hke:ev k=kv at hkv
 cases hkv
 obtain ⟨es,hb,hsz,hent⟩:=map_at hi hL hg
 have hchk:=fun e=>Go.MapKept.run_checkKey (P:=P) (w:=w) (k := .string s) hkt trivial e 9999
 obtain ⟨zu,hzr,hzrep⟩:=run_zero_of (P:=P) (w:=w) (R:=R) (γ:=γ) (L:=L) hz
 rcases find_kidx (R:=R) (s:=s) es.toList kvs 0 (by simpa using hsz) hkeys (fun j e p he hp=>(hent j e p (by simpa using he) hp).2.1) with ⟨h1,h2⟩|⟨i,e,h1,h2,h3,h4⟩
 ·refine ⟨w,R,γ, .inl ⟨.tuple #[zu, .bool false],?_,?_⟩,hi,Ext.refl _ _ _,Mv.refl⟩
  ·simp [execOp,Instr.lookup,hxv,hke,run_underlying ht,Go.MapKept.run_getObj_map hb,hchk,Go.MapKept.run_findKey hkt h2,hzr,Result.andThen]
  ·unfold mval at hp;rw [h1] at hp ⊢;exact tup2 (norm_rep' hp hzrep) (.bool false)
 ·obtain ⟨q,hq,hq1⟩:=kidx_lt h1
  refine ⟨w,R,γ, .inl ⟨.tuple #[e.val, .bool true],?_,?_⟩,hi,Ext.refl _ _ _,Mv.refl⟩
  ·simp [execOp,Instr.lookup,hxv,hke,run_underlying ht,Go.MapKept.run_getObj_map hb,hchk,Go.MapKept.run_findKey hkt h4,Result.andThen]
  ·unfold mval at hp;rw [h1] at hp ⊢;simp only [hq] at hp;exact tup2 (norm_rep' hp (hent i e q (by simpa using h2) hq).2.2) (.bool true)
theorem get_modify {es:Array MapEntry} {i j:Nat} {f:MapEntry→MapEntry} {e:MapEntry} (h:(es.modify i f)[j]?=some e) : ∃ e0,es[j]?=some e0∧e=if j=i then f e0 else e0:=by
 rw [Array.getElem?_modify] at h
 split at h
 ·rename_i e1;subst e1
  cases h0:es[i]? with
  | none=>simp [h0] at h
  | some e0=>simp [h0] at h;exact ⟨e0,rfl,by simp [h]⟩
 ·rename_i hne;exact ⟨e,h,by rw [if_neg (Ne.symm hne)]⟩
theorem push_map {es:Array MapEntry} {kvs:List (AC × AV)} (hsz:es.size=kvs.length) (hent : ∀ (j:Nat) e p,es[j]?=some e→kvs[j]?=some p→e.born=j∧PRep R e.key p.1∧p.2.rep R γ L e.val) {key val:Value} {kx:AC} {v:AV} (hk:PRep R key kx) (hv:v.rep R γ L val) :
  ∀ (j:Nat) e p,(es.push { key,val,born:=es.size })[j]?=some e→(kvs++[(kx,v)])[j]?=some p→e.born=j∧PRep R e.key p.1∧p.2.rep R γ L e.val:=by
 intro j e p he hp
 by_cases hj:j<es.size
 ·rw [Array.getElem?_push_lt hj] at he
  rw [List.getElem?_append_left (by omega)] at hp
  exact hent j e p (by rw [Array.getElem?_eq_getElem hj];exact he) hp
 ·have hj2:j=es.size:=by
   have:=(Array.getElem?_eq_some_iff.1 he).1
   simp at this;omega
  subst hj2
  rw [Array.getElem?_push_size] at he
  rw [List.getElem?_append_right (by omega),hsz] at hp
  simp at he hp;subst he hp
  exact ⟨rfl,hk,hv⟩
theorem sop_mapUpdate {t kt et:TypeId} {x k y:Operand} {s:ByteArray} {id:Nat} {kvs:List (AC × AV)} {v:AV} (hx:ρ x=some (.one (.mp id))) (hk:ρ k=some (.one (.c (.str s)))) (hy:ρ y=some v) (hL:L[id]?=some (.map kvs)) (hkeys:strKeys kvs)
  (ht:P.underlying t=some (.map kt et)) (hkt:P.underlying kt=some .string):Sop P ρ L (.mapUpdate t x k y) .undef (L.set id (.map (mput kvs s v))):=by
 intro B R γ w ev o ho hi hρ hfv
 obtain ⟨dst,op,type,pos,after,guard⟩:=o
 simp only at ho;subst ho
 obtain ⟨b,hxv,hg⟩:=(hρ _ (by simp [Op.operands,Call.operands]) _ hx)
 have hkv:=(hρ _ (by simp [Op.operands,Call.operands]) _ hk)
 have hyv:=(hρ _ (by simp [Op.operands,Call.operands]) _ hy)
 generalize hke:ev k=kv at hkv
 generalize hye:ev y=yv at hyv
 cases hkv
 obtain ⟨es,hb,hsz,hent⟩:=map_at hi hL hg
 have hchk:=fun e=>Go.MapKept.run_checkKey (P:=P) (w:=w) (k := .string s) hkt trivial e 9999
 rcases find_kidx (R:=R) (s:=s) es.toList kvs 0 (by simpa using hsz) hkeys (fun j e p he hp=>(hent j e p (by simpa using he) hp).2.1) with ⟨h1,h2⟩|⟨i,e,h1,h2,h3,h4⟩
 ·obtain ⟨i1,i2⟩:=map_turn hi (kvs':=kvs++[(.str s,v)]) hL hg hb (es.push { key := .string s,val:=yv,born:=es.size }) (by simp [hsz]) (push_map hsz hent (.str s) hyv)
  refine ⟨_,R,γ, .inr ⟨?_,rfl⟩,?_,i2,Mv.turnMap hL⟩
  ·simp [execOp,Instr.mapUpdate,hxv,hke,hye,run_underlying ht,Go.MapKept.run_getObj_map hb,hchk,Go.MapKept.run_findKey hkt h2,Go.MapKept.run_setObj_map _ hb,Result.andThen]
  ·unfold mput;rw [h1];exact i1
 ·have hj:es[i]?=some e:=by simpa using h2
  obtain ⟨p,hp,hp1⟩:=kidx_lt h1
  obtain ⟨i1,i2⟩:=map_turn hi (kvs':=kvs.set i (.str s,v)) hL hg hb (es.modify i fun e => { e with key := .string s,val:=yv }) (by simp [hsz]) (fun j e' p' he' hp'=>by
   obtain ⟨e0,h5,h6⟩:=get_modify he'
   by_cases hji:j=i
   ·subst hji
    rw [List.getElem?_set_self (List.getElem?_eq_some_iff.1 hp).1] at hp';injection hp' with hp';subst hp'
    rw [if_pos rfl] at h6;subst h6
    exact ⟨(hent j e0 p h5 hp).1, .str s,hyv⟩
   ·rw [List.getElem?_set_ne (Ne.symm hji)] at hp'
    rw [if_neg hji] at h6;subst h6
    exact hent j _ p' h5 hp')
  rw [Array.size_modify] at i1 i2
  refine ⟨_,R,γ, .inr ⟨?_,rfl⟩,?_,i2,Mv.turnMap hL⟩
  ·simp [execOp,Instr.mapUpdate,hxv,hke,hye,run_underlying ht,Go.MapKept.run_getObj_map hb,hchk,Go.MapKept.run_findKey hkt h4,hj,h3,run_keyThatStays (d := .string) (k := .string s) trivial,Go.MapKept.run_setObj_map _ hb,Result.andThen]
  ·unfold mput;rw [h1];exact i1
theorem sop_mapEntry {t kt et:TypeId} {x k:Operand} {s:ByteArray} {id:Nat} {kvs:List (AC × AV)} {z:AV} {p:PV} (hx:ρ x=some (.one (.mp id))) (hk:ρ k=some (.one (.c (.str s)))) (hL:L[id]?=some (.map kvs)) (hkeys:strKeys kvs)
  (ht:P.underlying t=some (.map kt et)) (hkt:P.underlying kt=some .string) (hz:zeroOf P et=some z) (hp:(mval kvs s z).norm=some p):Sop P ρ L (.mapEntry t x k) (.tup [p, .one (.int .i64 (mplace kvs s))]) (L.set id (.map (mput kvs s (mval kvs s z)))):=by
 intro B R γ w ev o ho hi hρ hfv
 obtain ⟨dst,op,type,pos,after,guard⟩:=o
 simp only at ho;subst ho
 obtain ⟨b,hxv,hg⟩:=(hρ _ (by simp [Op.operands,Call.operands]) _ hx)
 have hkv:=(hρ _ (by simp [Op.operands,Call.operands]) _ hk)
 generalize hke:ev k=kv at hkv
 cases hkv
 obtain ⟨es,hb,hsz,hent⟩:=map_at hi hL hg
 have hchk:=fun e=>Go.MapKept.run_checkKey (P:=P) (w:=w) (k := .string s) hkt trivial e 9999
 obtain ⟨zu,hzr,hzrep⟩:=run_zero_of (P:=P) (w:=w) (R:=R) (γ:=γ) (L:=L) hz
 rcases find_kidx (R:=R) (s:=s) es.toList kvs 0 (by simpa using hsz) hkeys (fun j e p he hp=>(hent j e p (by simpa using he) hp).2.1) with ⟨h1,h2⟩|⟨i,e,h1,h2,h3,h4⟩
 ·obtain ⟨i1,i2⟩:=map_turn hi (kvs':=kvs++[(.str s,z)]) hL hg hb (es.push { key := .string s,val:=zu,born:=es.size }) (by simp [hsz]) (push_map hsz hent (.str s) hzrep)
  have hmv:mval kvs s z=z:=by unfold mval;rw [h1]
  rw [hmv] at hp ⊢
  refine ⟨_,R,γ, .inl ⟨.tuple #[zu, .int .i64 es.size],?_,?_⟩,?_,i2,Mv.turnMap hL⟩
  ·simp [execOp,Instr.mapEntry,hxv,hke,run_underlying ht,Go.MapKept.run_getObj_map hb,hchk,Go.MapKept.run_findKey hkt h2,hzr,Go.MapKept.run_setObj_map _ hb,Result.andThen,goInt]
  ·refine tup2 (norm_rep' hp hzrep) ?_
   unfold mplace;rw [h1, ← hsz];exact .int _ _
  ·unfold mput;rw [h1];exact i1
 ·have hj:es[i]?=some e:=by simpa using h2
  obtain ⟨q,hq,hq1⟩:=kidx_lt h1
  have hmv:mval kvs s z=q.2:=by unfold mval;rw [h1];simp only [hq]
  have hent':=hent i e q hj hq
  rw [hmv] at hp ⊢
  obtain ⟨i1,i2⟩:=map_turn hi (kvs':=kvs.set i (.str s,q.2)) hL hg hb (es.modify i fun e => { e with key := .string s }) (by simp [hsz]) (fun j e' p' he' hp'=>by
   obtain ⟨e0,h5,h6⟩:=get_modify he'
   by_cases hji:j=i
   ·subst hji
    rw [List.getElem?_set_self (List.getElem?_eq_some_iff.1 hq).1] at hp';injection hp' with hp';subst hp'
    rw [if_pos rfl] at h6;subst h6
    exact ⟨(hent j e0 q h5 hq).1, .str s,(hent j e0 q h5 hq).2.2⟩
   ·rw [List.getElem?_set_ne (Ne.symm hji)] at hp'
    rw [if_neg hji] at h6;subst h6
    exact hent j _ p' h5 hp')
  rw [Array.size_modify] at i1 i2
  refine ⟨_,R,γ, .inl ⟨.tuple #[e.val, .int .i64 i],?_,?_⟩,?_,i2,Mv.turnMap hL⟩
  ·simp [execOp,Instr.mapEntry,hxv,hke,run_underlying ht,Go.MapKept.run_getObj_map hb,hchk,Go.MapKept.run_findKey hkt h4,hj,h3,run_keyThatStays (d := .string) (k := .string s) trivial,Go.MapKept.run_setObj_map _ hb,Result.andThen,goInt,hent'.1]
  ·refine tup2 (norm_rep' hp hent'.2.2) ?_
   unfold mplace;rw [h1];exact .int _ _
  ·unfold mput;rw [h1];exact i1
theorem find_born {es:Array MapEntry} (h : ∀ (j:Nat) e,es[j]?=some e→e.born=j) {i:Nat} (hi:i<es.size):es.findIdx? (fun e=>(e.born:Int)==(i:Int))=some i:=by
 rw [Array.findIdx?_eq_some_iff_getElem]
 refine ⟨hi,?_,fun j hj=>?_⟩
 ·have:=h i es[i] (Array.getElem?_eq_getElem hi)
  simp [this]
 ·have:=h j es[j] (Array.getElem?_eq_getElem (by omega))
  simp [this];omega
theorem sop_entryStore {t:TypeId} {x k y:Operand} {id i:Nat} {kvs:List (AC × AV)} {q:AC × AV} {v:AV} (hx:ρ x=some (.one (.mp id))) (hk:ρ k=some (.one (.c (.int .i64 i)))) (hy:ρ y=some v) (hL:L[id]?=some (.map kvs)) (hq:kvs[i]?=some q) :
  Sop P ρ L (.entryStore t x k y) .undef (L.set id (.map (kvs.set i (q.1,v)))):=by
 intro B R γ w ev o ho hi hρ hfv
 obtain ⟨dst,op,type,pos,after,guard⟩:=o
 simp only at ho;subst ho
 obtain ⟨b,hxv,hg⟩:=(hρ _ (by simp [Op.operands,Call.operands]) _ hx)
 have hkv:=(hρ _ (by simp [Op.operands,Call.operands]) _ hk)
 have hyv:=(hρ _ (by simp [Op.operands,Call.operands]) _ hy)
 generalize hke:ev k=kv at hkv
 generalize hye:ev y=yv at hyv
 cases hkv
 obtain ⟨es,hb,hsz,hent⟩:=map_at hi hL hg
 have hlt:=(List.getElem?_eq_some_iff.1 hq).1
 have hfi:=find_born (es:=es) (fun j e he=>by
  have:j<kvs.length:=by rw [← hsz];exact (Array.getElem?_eq_some_iff.1 he).1
  exact (hent j e _ he (List.getElem?_eq_getElem this)).1) (i:=i) (by omega)
 obtain ⟨i1,i2⟩:=map_turn hi (kvs':=kvs.set i (q.1,v)) hL hg hb (es.modify i fun e => { e with val:=yv }) (by simp [hsz]) (fun j e' p' he' hp'=>by
   obtain ⟨e0,h5,h6⟩:=get_modify he'
   by_cases hji:j=i
   ·subst hji
    rw [List.getElem?_set_self hlt] at hp';injection hp' with hp';subst hp'
    rw [if_pos rfl] at h6;subst h6
    exact ⟨(hent j e0 q h5 hq).1,(hent j e0 q h5 hq).2.1,hyv⟩
   ·rw [List.getElem?_set_ne (Ne.symm hji)] at hp'
    rw [if_neg hji] at h6;subst h6
    exact hent j _ p' h5 hp')
 rw [Array.size_modify] at i1 i2
 refine ⟨_,R,γ, .inr ⟨?_,rfl⟩,i1,i2,Mv.turnMap hL⟩
 simp [execOp,Instr.entryStore,hxv,hke,hye,Go.MapKept.run_getObj_map hb,asInt,asIntOf,hfi,Go.MapKept.run_setObj_map _ hb,Result.andThen]
def capOf:AV→Option Cap
 | .one (.c x)=>some (.c x)
 | .one (.ptr id off)=>some (.ptr id off)
 | v=>match v.norm with
  | some (.one x)=>some (.c x)
  | _=>none
def capsOfR (ρ:Operand→Option AV):List Operand→Option (List Cap)
 | []=>some []
 | x::xs=>match (ρ x).bind capOf,capsOfR ρ xs with
  | some c,some cs=>some (c::cs)
  | _,_=>none
theorem capOf_rep {v:AV} {c:Cap} {u:Value} (h:capOf v=some c) (hu:v.rep R γ L u):c.rep R γ u:=by
 unfold capOf at h
 split at h
 ·injection h with h;subst h;exact hu
 ·injection h with h;subst h;exact hu
 ·split at h
  ·rename_i x hx;injection h with h;subst h;exact norm_rep' hx hu
  ·cases h
theorem capsOfR_rep {ev:Operand→Value} : ∀ {xs:List Operand} {cs:List Cap}, (∀ x,x∈xs → ∀ v,ρ x=some v→v.rep R γ L (ev x))→capsOfR ρ xs=some cs→xs.length=cs.length ∧ ∀ (j:Nat) x c,xs[j]?=some x→cs[j]?=some c→c.rep R γ (ev x)
 | [],cs,_,h=>by injection h with h;subst h;exact ⟨rfl,fun j x c h=>by simp at h⟩
 | x::xs,cs,hρ,h=>by
  unfold capsOfR at h
  split at h
  ·rename_i c cs' hc hcs
   injection h with h;subst h
   obtain ⟨h1,h2⟩:=capsOfR_rep (fun y hy=>hρ y (List.mem_cons_of_mem _ hy)) hcs
   refine ⟨by simp [h1],fun j y d hy hd=>?_⟩
   cases j with
   | zero =>
    simp at hy hd;subst hy hd
    cases hx:ρ x with
    | none=>simp [hx] at hc
    | some v=>simp [hx] at hc;exact capOf_rep hc (hρ x (by simp) _ hx)
   | succ j=>exact h2 j y d (by simpa using hy) (by simpa using hd)
  ·cases h
theorem sop_makeFunc {f:FuncId} {captured:Array Operand} {caps:List Cap} (hc:capsOfR ρ captured.toList=some caps):Sop P ρ L (.makeFunc (.func f) #[] captured) (.one (.clo f caps)) L:=by
 intro B R γ w ev o ho hi hρ hfv
 obtain ⟨dst,op,type,pos,after,guard⟩:=o
 simp only at ho;subst ho
 obtain ⟨h1,h2⟩:=capsOfR_rep (fun y hy=>hρ y (by simp [Op.operands];simpa using hy)) hc
 refine ⟨w,R,γ, .inl ⟨.func (.func f) #[] (captured.map ev),by simp [execOp,Instr.makeFunc],captured.map ev,rfl,by simpa using h1,fun j u x hu hx=>?_⟩,hi,Ext.refl _ _ _,Mv.refl⟩
 rw [Array.getElem?_map] at hu
 cases hq:captured[j]? with
 | none=>simp [hq] at hu
 | some y=>simp [hq] at hu;subst hu;exact h2 j y x (by simpa using hq) hx
end
end Go.Proofs.YtngehibfdjdejaaGreatDoor
