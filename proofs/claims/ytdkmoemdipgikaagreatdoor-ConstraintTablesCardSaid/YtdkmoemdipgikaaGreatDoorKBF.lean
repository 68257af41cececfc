/- Parts. No condition. -/
import Derived.RangeFuncRecord
import Derived.LoopNIn
import Derived.Maps.RangeRun
import Derived.Test.YtdkmoemdipgikaaGreatDoorKAG
set_option linter.unusedSimpArgs false
set_option linter.unusedVariables false
namespace Go.Proofs.YtdkmoemdipgikaaGreatDoor
open Go.RowKit
def FW (F:Fence):Prop:=F=Fence.wide \/ ∃ l,F=Fence.wide.inRound l
theorem FW.fn {F:Fence}(h:FW F)(f:FuncId):F.fn f:=by rcases h with rfl|⟨l,rfl⟩<;>trivial
theorem FW.depth {F:Fence}(h:FW F):F.depth=none:=by rcases h with rfl|⟨l,rfl⟩<;>rfl
theorem FW.calls {F:Fence}(h:FW F){n:Nat}{P:Program}{f:FuncId}{args:Array Value}{w:World}{R:Ending->World->Prop}(k:Calls P f args w R):CallsIn F n P f args w R:=by
 rcases h with rfl|⟨l,rfl⟩
 ·exact callsIn_wide.2 k
 ·exact(callsIn_wide (n:=n)).2 k
theorem FW.rows {F:Fence}(h:FW F){n:Nat}{P:Program}{row:String}{args:Array Value}{w:World}{R:Value->World->Prop}(k:Rows P row args w R):RowsIn F n P row args w R:=by
 intro c cs _;obtain⟨v,w',h1,h2⟩:=k c cs;refine⟨v,w',h1,?_⟩;rcases h with rfl|⟨l,rfl⟩
 ·exact stepsIn_wide.2 h2
 ·exact stepsIn_wide.2 h2
def ndB:Op->Bool
 |.defer _=>false
 |_=>true
def ndL:List Oper->Bool
 |[]=>true
 |o::l=>ndB o.op&&ndL l
theorem put_defers (a:Act)(ds:List Deferred)(d:Option Tmp)(u:Value):({ a with defers:=ds }:Act).put d u={ a.put d u with defers:=ds } :=by cases d<;>rfl
theorem xc (a:Act)(d:Option Tmp)(u:Value):(a.put d u).defers=a.defers:=by cases d<;>rfl
section
variable {P:Program} {ti:TI} {F:Fence} {n N:Nat}
theorem akA (hF:FW F){o:Oper}{a:Act}{w:World}{ds:List Deferred}{next:Act->World->Prop}{Q:Exit->Act->World->Prop}(hnd:ndB o.op=true)
  (h:o.wp P a w (fun a' w'=>(∃ u,a'=a.put o.dst u)/\next { a' with defers:=ds } w') (fun _ _ _=>False)):o.wpIn F n P { a with defers:=ds } w next Q:=by
 have hs:o.semAt F.round ({ a with defers:=ds }:Act).eval=execOp a.eval o:=Oper.semAt_eq _ _ _ (fun c e=>by rw[e]at hnd;cases hnd);refine⟨fun f _=>hF.fn f,?_⟩;rw[hs];unfold Oper.wp at h;have hdep:F.depth.isSome=true->1<=n:=by rw[hF.depth];intro e;cases e
 generalize (execOp a.eval o).run P w=r at h;have hv:∀ u w',((∃ u',a.put o.dst u=a.put o.dst u')/\next { a.put o.dst u with defers:=ds } w')->next (({ a with defers:=ds }:Act).put o.dst u) w':=by
  intro u w' hh;rw[put_defers];exact hh.2
 match r,h with
 |.ok (.value v) w',h=>exact hv _ _ h
 |.ok .skip w',h=>exact hv _ _ h
 |.ok (.defer d) w',h =>
  obtain⟨⟨u,hu⟩,_⟩:=h;have:=congrArg Act.defers hu;rw[xc,xc]at this;simp at this
 |.ok (.enter f args) w',h =>
  refine⟨hdep,(hF.calls h).mono ?_⟩;intro e w'' hh
  match e,hh with
  |.returned v,hh=>exact hv _ _ hh
  |.panicked c,hh=>exact hh.elim
  |.outgrown,⟨_,_,hh⟩=>exact hh.elim
 |.ok (.row row args) w',h=>exact⟨hdep,(hF.rows h).mono fun v w'' hh=>hv _ _ hh⟩
 |.halt (.panic v) w',h=>exact h.elim
theorem zy (hF:FW F)(hti:TIok P ti){B:Nat->Prop}{ops:Array Oper}{ds:List (Option Tmp)}(hds:∀ j:Nat,(ops[j]?).map (·.dst)=ds[j]?){K:Tm->List Ob->Prop}{Q:Exit->Act->World->Prop}(dd:List Deferred)(tl:List Oper):∀ (l:List Oper) (R:PH) (γ:List Gh) (L:List Ob) (T:Tm) (a:Act) (w:World),ndL l=true->aB P ti N ds K l T L->Inv B R γ L w->cg N R γ L T a ->
  (∀ T' L' R' γ' w' a',K T' L'->Inv B R' γ' L' w'->cg N R' γ' L' T' a'->Ext B R R' w w'->Mv R R' γ γ' L L'->(∀ t,(∀ o∈l,o.dst≠some t)->a'.tmps[t]?=a.tmps[t]?)->wpListIn F n P ops Q tl { a' with defers:=dd } w')->wpListIn F n P ops Q (l++tl) { a with defers:=dd } w
 |[],R,γ,L,T,a,w,_,h,hi,hT,hQ=>hQ T L R γ w a h hi hT (Ext.refl _ _ _) Mv.refl (fun _ _=>rfl)
 |o::rest,R,γ,L,T,a,w,hn,h,hi,hT,hQ=>by
  obtain⟨hd,hg⟩:=h;rw[ndL,amO]at hn;have hput:∀ u t,(∀ o'∈o::rest,o'.dst≠some t)->(a.put o.dst u).tmps[t]?=a.tmps[t]?:=by
   intro u t ht;have:=ht o (ani ..)
   cases hdd:o.dst with
   |none=>rfl
   |some d=>rw[hdd]at this;simp only[Act.put];exact ane (fun e=>this (by rw[e]))
  rw[List.cons_append];unfold wpListIn;rcases Aj hds hT hg with⟨hw,hA⟩|⟨hw,hB⟩
  ·rw[if_pos (show Region.wanted o (yielded ops ({ a with defers:=dd }:Act).tmps)=true from hw)]
   refine akA hF hn.1 (gZ hti hi (fun x v hx=>fK hT hx) hA fun v L' R' γ' w' u hk h1 h2 h3 h4=>⟨⟨u,rfl⟩,?_⟩);exact zy hF hti hds dd tl rest R' γ' L' _ _ w' hn.2 hk h1 (de (hT.mv h3) hd h4) fun T2 L2 R2 γ2 w2 a2 k1 k2 k3 k4 k5 k6=>hQ T2 L2 R2 γ2 w2 a2 k1 k2 k3 (h2.trans k4) (h3.trans k5) fun t ht=>(k6 t fun o' ho'=>ht o' (amU _ ho')).trans (hput u t ht)
  ·rw[if_neg (by show ¬ Region.wanted o (yielded ops a.tmps)=true;rw[hw];decide)]
   refine⟨fun f _=>hF.fn f,?_⟩;rw[put_defers];exact zy hF hti hds dd tl rest R γ L _ _ w hn.2 hB hi (de hT hd rfl) fun T2 L2 R2 γ2 w2 a2 k1 k2 k3 k4 k5 k6=>hQ T2 L2 R2 γ2 w2 a2 k1 k2 k3 k4 k5 fun t ht=>(k6 t fun o' ho'=>ht o' (amU _ ho')).trans (hput _ t ht)
theorem FC (hF:FW F)(hti:TIok P ti){B:Nat->Prop}{ops:Array Oper}{ds:List (Option Tmp)}(hds:∀ j:Nat,(ops[j]?).map (·.dst)=ds[j]?){K:Tm->List Ob->Prop}{Q:Exit->Act->World->Prop}(dd:List Deferred)(l:List Oper)(R:PH)(γ:List Gh)(L:List Ob)(T:Tm)(a:Act)(w:World)(hn:ndL l=true)(h:aB P ti N ds K l T L)(hi:Inv B R γ L w)(hT:cg N R γ L T a)
  (hQ:∀ T' L' R' γ' w' a',K T' L'->Inv B R' γ' L' w'->cg N R' γ' L' T' a'->Ext B R R' w w'->Mv R R' γ γ' L L'->(∀ t,(∀ o∈l,o.dst≠some t)->a'.tmps[t]?=a.tmps[t]?)->Q .normal { a' with defers:=dd } w'):wpListIn F n P ops Q l { a with defers:=dd } w:=by
 have:=zy (n:=n) (Q:=Q) hF hti hds dd [] l R γ L T a w hn h hi hT hQ;rwa[am5]at this
end
structure DOK (D:Bool)(s:Nat)(B:Nat->Prop)(w:World)(ds:List Deferred):Prop where
 no:D=false->ds=[]
 le:s<=w.heap.size
 nd:ds.Nodup
 at_:∀ d∈ds,∃ b,d={ target := .collected b,args :=#[] } /\ s<=b/\B b/\w.heap[b]?=some (.deferred (some []))
theorem DOK.mono {D:Bool}{s:Nat}{B B':Nat->Prop}{w w':World}{ds:List Deferred}(h:DOK D s B w ds)(hk:Kept B w w')(hB:∀ b,B b->B' b):DOK D s B' w' ds :=
 ⟨h.no,Nat.le_trans h.le hk.size,h.nd,fun d hd=>let ⟨b,h1,h2,h3,h4⟩:=h.at_ d hd;⟨b,h1,h2,hB b h3,(hk.block b h3).trans h4⟩⟩
theorem Ext.mono {B B':Nat->Prop}{R R':PH}{w w':World}(h:Ext B R R' w w')(hB:∀ b,B' b->B b):Ext B' R R' w w':=⟨h.below.mono hB,h.sub,fun b o hb=>h.old b o (hB b hb)⟩
theorem Inv.anti {B B':Nat->Prop}{R:PH}{γ:List Gh}{L:List Ob}{w:World}(h:Inv B R γ L w)(hB:∀ b,B' b->B b):Inv B' R γ L w :=
 ⟨h.len,h.val,h.obj,h.inj,fun i g b hg hb=>⟨fun e=>(h.new i g b hg hb).1 (hB b e),(h.new i g b hg hb).2⟩,fun b hb=>h.bsz b (hB b hb)⟩
theorem H9 {w:World}{l b o:Nat}{x:Obj}(h:b≠l):(w.putObj l x).cell? ⟨b,o,none⟩=w.cell? ⟨b,o,none⟩:=World.cell?_of_block (World.putObj_heap_other h)
theorem Inv.putObj {B:Nat->Prop}{R:PH}{γ:List Gh}{L:List Ob}{w:World}(hi:Inv B R γ L w){l:Nat}{x:Obj}(hc:∀ o,w.cell? ⟨l,o,none⟩=none)(hB:B l):Inv B R γ L (w.putObj l x):=by
 refine⟨hi.len,fun b o u hu=>?_,fun id y g hy hg=>?_,hi.inj,fun i g b hg hb=>?_,fun b hb=>?_⟩
 ·have:=hi.val b o u hu
  by_cases e:b=l
  ·subst e;rw[hc]at this;cases this
  ·rw[H9 e];exact this
 ·exact(hi.obj id y g hy hg).mv Mv.refl (fun b hb=>World.putObj_heap_other (fun e=>(hi.new id g b hg hb).1 (e▸hB))) (fun _ _ _ h=>h)
 ·rw[World.putObj_size];exact hi.new i g b hg hb
 ·rw[World.putObj_size];exact hi.bsz b hb
theorem Ext.putObj {B:Nat->Prop}{R:PH}{w:World}{l:Nat}{x:Obj}(h:¬ B l):Ext B R R w (w.putObj l x) :=
 ⟨⟨rfl,rfl,rfl,by rw[World.putObj_size];exact amM _,fun b hb=>World.putObj_heap_other (fun e=>h (e▸hb))⟩,PH.sub_refl _,fun _ _ _=>rfl⟩
theorem pW {w:World}{l:Nat}{r:Loop}(h:w.heap[l]?=some (.loop r))(o:Nat):w.cell? ⟨l,o,none⟩=none:=by simp[World.cell?,h]
theorem M9 {w:World}{l:Nat}{r:Option (List Deferred)}(h:w.heap[l]?=some (.deferred r))(o:Nat):w.cell? ⟨l,o,none⟩=none:=by simp[World.cell?,h]
def nc (D:Bool)(s N n0:Nat)(B:Nat->Prop)(Q:AX->Tm->List Ob->Prop)(R:PH)(w:World)(γ:List Gh)(L:List Ob)(e:Exit)(a':Act)(w':World):Prop :=
 ∃ x T' L' R' γ' B',e=x.ex/\Q x T' L'/\(∀ b,B b->B' b)/\Inv B' R' γ' L' w'/\cg N R' γ' L' T' { a' with defers:=[] } /\ DOK D s B' w' a'.defers/\Ext B R R' w w'/\fP n0 R R' γ γ' L L'
def r9 (F:Fence)(P:Program)(D:Bool)(N n0:Nat)(Φ:(Nat->Prop)->List Gh->World->Prop)(c:Code)(Q:AX->Tm->List Ob->Prop)(T:Tm)(L:List Ob):Prop :=
 n0<=L.length ->∀ s B R γ w a,Φ B γ w->Inv B R γ L w->cg N R γ L T { a with defers:=[] } ->DOK D s B w a.defers->c.wpIn F 0 P (nc D s N n0 B Q R w γ L) a w
def yT (n0:Nat)(Φ:(Nat->Prop)->List Gh->World->Prop):Prop :=
 ∀ B B' R R' γ γ' L L' w w',Φ B γ w->(∀ b,B b->B' b)->Ext B R R' w w'->fP n0 R R' γ γ' L L'->Φ B' γ' w'
section
variable {F:Fence} {P:Program} {ti:TI} {D:Bool} {N n0:Nat} {Φ:(Nat->Prop)->List Gh->World->Prop} {Q:AX->Tm->List Ob->Prop} {T:Tm} {L:List Ob}
theorem r9.mono {c:Code}{Q':AX->Tm->List Ob->Prop}(h:r9 F P D N n0 Φ c Q T L)(hq:∀ x T L,Q x T L->Q' x T L):r9 F P D N n0 Φ c Q' T L :=
 fun hn s B R γ w a hΦ hi hT hd=>wpIn_mono (h hn s B R γ w a hΦ hi hT hd) fun _ _ _ ⟨x,T',L',R',γ',B',e,q,r⟩=>⟨x,T',L',R',γ',B',e,hq _ _ _ q,r⟩
theorem nc.ext {s:Nat}{B B1:Nat->Prop}{R R1:PH}{w w1:World}{γ γ1:List Gh}{L1:List Ob}{e:Exit}{a':Act}{w':World}(h:nc D s N n0 B1 Q R1 w1 γ1 L1 e a' w')(hB:∀ b,B b->B1 b)(he:Ext B R R1 w w1)(hg:γ.length=L.length)(hm:fP n0 R R1 γ γ1 L L1):nc D s N n0 B Q R w γ L e a' w' :=
 let ⟨x,T',L',R',γ',B',h1,h2,h3,h4,h5,h6,h7,h8⟩:=h;⟨x,T',L',R',γ',B',h1,h2,fun b hb=>h3 b (hB b hb),h4,h5,h6,he.trans (h7.mono hB),hm.trans hg h8⟩
theorem nc.now {s:Nat}{B:Nat->Prop}{R:PH}{w:World}{γ:List Gh}{a:Act}(x:AX)(hn:n0<=L.length)(h:Q x T L)(hi:Inv B R γ L w)(hT:cg N R γ L T { a with defers:=[] })(hd:DOK D s B w a.defers):nc D s N n0 B Q R w γ L x.ex a w :=
 ⟨x,T,L,R,γ,B,rfl,h,fun _ h=>h,hi,hT,hd,Ext.refl _ _ _,fP.of hn Mv.refl⟩
theorem b8 (h:Q .normal T L):r9 F P D N n0 Φ .skip Q T L:=fun hn _ _ _ _ _ _ _ hi hT hd=>wpIn_skip (nc.now .normal hn h hi hT hd)
theorem cG (h:Q .ret T L):r9 F P D N n0 Φ .ret Q T L:=fun hn _ _ _ _ _ _ _ hi hT hd=>wpIn_ret (nc.now .ret hn h hi hT hd)
theorem b6 {id:Nat}(h:Q (.exit id) T L):r9 F P D N n0 Φ (.exit id) Q T L:=fun hn _ _ _ _ _ _ _ hi hT hd=>wpIn_exit (nc.now (.exit id) hn h hi hT hd)
theorem cJ (hΦ:yT n0 Φ){x y:Code}(h:r9 F P D N n0 Φ x (AX.then (r9 F P D N n0 Φ y Q) Q) T L):r9 F P D N n0 Φ (.seq x y) Q T L:=by
 intro hn s B R γ w a h0 hi hT hd;refine wpIn_seq (wpIn_mono (h hn s B R γ w a h0 hi hT hd) ?_);rintro e a1 w1 ⟨x,T1,L1,R1,γ1,B1,rfl,q,b1,i1,t1,d1,e1,m1⟩
 cases x with
 |normal=>exact wpIn_mono (q m1.lo' s B1 R1 γ1 w1 a1 (hΦ _ _ _ _ _ _ _ _ _ _ h0 b1 e1 m1) i1 t1 d1) fun _ _ _ hh=>hh.ext b1 e1 hi.len m1
 |exit id=>exact⟨.exit id,T1,L1,R1,γ1,B1,rfl,q,b1,i1,t1,d1,e1,m1⟩
 |ret=>exact⟨.ret,T1,L1,R1,γ1,B1,rfl,q,b1,i1,t1,d1,e1,m1⟩
theorem b7 {c:Operand}{x y:Code}{b:Bool}(hc:look T c=some (.one (.c (.bool b))))(h1:b=true->r9 F P D N n0 Φ x Q T L)(h2:b=false->r9 F P D N n0 Φ y Q T L):r9 F P D N n0 Φ (.cond c x y) Q T L:=by
 intro hn s B R γ w a h0 hi hT hd;have hv:=fK hT hc;have he:a.eval c = .bool b:=by
  have e:({ a with defers:=[] }:Act).eval c=a.eval c:=by cases c<;>rfl
  rw[e]at hv;generalize a.eval c=v at hv
  cases hv;rfl
 exact wpIn_cond_split he (fun e=>h1 e hn s B R γ w a h0 hi hT hd) (fun e=>h2 e hn s B R γ w a h0 hi hT hd)
theorem bM {id:Nat}{c:Code}(h:r9 F P D N n0 Φ c (AX.inBlock id Q) T L):r9 F P D N n0 Φ (.block id c) Q T L:=by
 intro hn s B R γ w a h0 hi hT hd;refine wpIn_block (wpIn_mono (h hn s B R γ w a h0 hi hT hd) ?_);rintro e a1 w1 ⟨x,T1,L1,R1,γ1,B1,rfl,q,r⟩
 cases x with
 |normal=>exact⟨.normal,T1,L1,R1,γ1,B1,rfl,q,r⟩
 |ret=>exact⟨.ret,T1,L1,R1,γ1,B1,rfl,q,r⟩
 |exit j =>
  simp only[AX.inBlock]at q;by_cases hj:j=id
  ·subst hj
   rw[if_pos rfl]at q;show Exit.inBlock j _ (.exit j) a1 w1;simp only[Exit.inBlock,if_true];exact⟨.normal,T1,L1,R1,γ1,B1,rfl,q,r⟩
  ·rw[if_neg hj]at q
   show Exit.inBlock id _ (.exit j) a1 w1;simp only[Exit.inBlock,if_neg hj];exact⟨.exit j,T1,L1,R1,γ1,B1,rfl,q,r⟩
theorem aD (hF:FW F)(hti:TIok P ti){id:Nat}{l:List Oper}(ds:List (Option Tmp))(hds:l.map (·.dst)=ds)(hnd:ndL l=true)(h:aB P ti N ds (Q .normal) l T L):r9 F P D N n0 Φ (.region id l.toArray false) Q T L:=by
 intro hn s B R γ w a _ hi hT hd;refine wpIn_region_lit (FC hF hti (B4 hds) a.defers l R γ L T { a with defers:=[] } w hnd h hi hT ?_);intro T' L' R' γ' w' a' hk h1 h2 h3 h4 _;exact⟨.normal,T',L',R',γ',B,rfl,hk,fun _ h=>h,h1,⟨h2.size,rfl,h2.slot⟩,hd.mono h3.below fun _ h=>h,h3,fP.of hn h4⟩
theorem abp {c:Code}(h:Aw P N n0 c Q T L):r9 Fence.wide P false N n0 Φ c Q T L:=by
 intro hn s B R γ w a _ hi hT hd;have ha:({ a with defers:=[] }:Act)=a:=by have:=hd.no rfl;cases a;simp_all
 rw[ha]at hT;refine wpIn_wide.2 (wp_mono (h hn B R γ w a hi hT) ?_);rintro e a1 w1 ⟨x,T1,L1,R1,γ1,rfl,q,i1,t1,e1,m1⟩;exact⟨x,T1,L1,R1,γ1,B,rfl,q,fun _ h=>h,i1,⟨t1.size,rfl,t1.slot⟩,by rw[t1.defers];exact⟨fun _=>rfl,Nat.le_trans hd.le e1.below.size,List.nodup_nil,fun d h=>by cases h⟩,e1,m1⟩
end
def ajf (N n0:Nat)(T:Tm)(L:List Ob)(T':Tm)(L':List Ob):Prop :=
 n0<=L.length ->∀ B R γ w a,Inv B R γ L w->cg N R γ L T a ->∃ R' γ',Inv B R' γ' L' w/\cg N R' γ' L' T' a/\Ext B R R' w w/\fP n0 R R' γ γ' L L'
theorem Jj {N n0:Nat}{T T1:Tm}{L L1:List Ob}(hn1:n0<=L1.length)(hf:Fits T L T1 L1):ajf N n0 T L T1 L1:=fun _ _ R γ _ _ hi hT =>
 let ⟨i1,t1⟩:=hf.sound hi hT;⟨R,γ.take L1.length,i1,t1,Ext.refl _ _ _,hf.mvn hi hn1⟩
theorem I5 {N n0:Nat}{T:Tm}{L:List Ob}(id j k:Nat){cs:List SV}(hid:L[id]?=some (.box cs))(hj:cs[j]?=some .emp):ajf N n0 T L T (L.set id (.box (cs.set j (.own [] L.length)))++[.spare 0 k]):=by
 intro hn B R γ w a hi hT;have hlt:=(amw.1 hid).1;have hm:Mv R R γ (γ++[.none]) L (L.set id (.box (cs.set j (.own [] L.length)))++[.spare 0 k]):=by
  refine⟨PH.sub_refl _,m5,fun t n k' hlt' e=>⟨n,?_,amM _,fun _=>?_⟩,fun t ver es0 k' hlt' e=>⟨ver,es0,?_,amM _,fun _=>⟨rfl,?_⟩⟩,fun i b e=>?_⟩
  ·rw[amK (by simpa using hlt')]at e
   have hne:t≠id:=by rintro rfl;rw[amP hlt']at e;cases e
   rw[amQ (Ne.symm hne)]at e;exact e
  ·rw[amK (by rw[hi.len];exact hlt')]
  ·rw[amK (by simpa using hlt')]at e
   have hne:t≠id:=by rintro rfl;rw[amP hlt']at e;cases e
   rw[amQ (Ne.symm hne)]at e;exact e
  ·rw[amK (by rw[hi.len];exact hlt')]
  ·rw[amK (amw.1 e).1];exact e
 refine⟨R,γ++[.none],?_,hT.mv hm,Ext.refl _ _ _,fP.of hn hm⟩;have gcase:∀ j h,(γ++[Gh.none])[j]?=some h->(j=γ.length/\h = .none)\/(j<γ.length/\γ[j]?=some h):=by
  intro j h hh;by_cases hid:j<γ.length
  ·rw[amK hid]at hh;exact .inr ⟨hid,hh⟩
  ·have:j=γ.length:=by have:=(amw.1 hh).1;simp at this;omega
   subst this;rw[amD m0]at hh;simp at hh;exact .inl ⟨rfl,hh.symm⟩
 have it:=hi.tok k;refine⟨by simp[hi.len],hi.val,fun i y g hy hg=>?_,it.inj,it.new,hi.bsz⟩;rcases gcase i g hg with⟨rfl,rfl⟩|⟨hl2,hg'⟩
 ·rw[amD (by simp[hi.len])]at hy
  simp[hi.len]at hy;subst hy;rfl
 ·rw[amK (by simp;rw[<- hi.len];exact hl2)]at hy
  by_cases hii:i=id
  ·subst hii
   rw[amP hlt]at hy;injection hy with hy;subst hy
   have hob:=hi.obj i _ _ hid hg'
   match g,hob with
   |.box b,⟨⟨vs,E,h1,h2,h3⟩,h4⟩ =>
    refine⟨⟨vs,E,h1,by simp[h2],fun q u x hu hx=>?_⟩,h4⟩;by_cases hq:q=j
    ·subst hq
     rw[amP (amw.1 hj).1]at hx;injection hx with hx;subst hx
     obtain⟨ad,rfl⟩:=h3 q u _ hu hj;exact⟨cO _ _ _,m5,fun n2 k2 _=>⟨m5,m5,fun _=>⟨.none,by rw[<- hi.len];simp,ad,m5⟩⟩⟩
    ·rw[amQ (Ne.symm hq)]at hx
     exact SV.mv hm (h3 q u x hu hx)
  ·rw[amQ (Ne.symm hii)]at hy
   exact(hi.obj i y g hy hg').mv hm (fun _ _=>rfl) (fun _ _ _ h=>h)
section
variable {F:Fence} {P:Program} {ti:TI} {D:Bool} {N n0:Nat} {Φ:(Nat->Prop)->List Gh->World->Prop} {Q:AX->Tm->List Ob->Prop} {T:Tm} {L:List Ob}
theorem JU (hΦ:yT n0 Φ){c:Code}{T':Tm}{L':List Ob}(ht:ajf N n0 T L T' L')(h:r9 F P D N n0 Φ c Q T' L'):r9 F P D N n0 Φ c Q T L:=by
 intro hn s B R γ w a h0 hi hT hd;obtain⟨R',γ',i1,t1,e1,m1⟩:=ht hn B R γ w _ hi hT;exact wpIn_mono (h m1.lo' s B R' γ' w a (hΦ _ _ _ _ _ _ _ _ _ _ h0 (fun _ h=>h) e1 m1) i1 t1 (hd.mono e1.below fun _ h=>h)) fun _ _ _ hh=>hh.ext (fun _ h=>h) e1 hi.len m1
theorem yy (hΦ:yT n0 Φ){σ:Type}{c:Code}(TT:σ->Tm)(LL:σ->List Ob)(ok:σ->Prop)(μ:σ->Nat)(s0:σ)(h0:ok s0)(hn1:∀ s,ok s->n0<=(LL s).length)(hf:Fits T L (TT s0) (LL s0))
  (round:∀ s,ok s->r9 F P D N n0 Φ c (AX.then (fun T' L' =>∃ s',ok s'/\μ s'<μ s/\Fits T' L' (TT s') (LL s')) Q) (TT s) (LL s)):r9 F P D N n0 Φ (.loop c) Q T L:=by
 refine JU hΦ (Jj (hn1 s0 h0) hf) ?_;intro hn s B0 R0 γ0 w0 a0 hφ hi hT hd;have key:∀ n st B R γ a w,μ st<n->ok st->(∀ b,B0 b->B b)->Inv B R γ (LL st) w->cg N R γ (LL st) (TT st) { a with defers:=[] } ->DOK D s B w a.defers->Ext B0 R0 R w0 w->fP n0 R0 R γ0 γ (LL s0) (LL st)->Code.roundsIn F 0 P c (nc D s N n0 B0 Q R0 w0 γ0 (LL s0)) n a w:=by
  intro n
  induction n with
  |zero=>intro st B R γ a w h;omega
  |succ n ih =>
   intro st B R γ a w hlt hok hB hI ht hd he hmv;rw[roundsIn_succ];refine wpIn_mono (round st hok (hn1 st hok) s B R γ w a (hΦ _ _ _ _ _ _ _ _ _ _ hφ hB he hmv) hI ht hd) ?_;rintro e a1 w1 ⟨y,T2,L2,R1,γ2,B2,rfl,q,b1,j1,k1,d1,e1,m1⟩
   cases y with
   |normal =>
    obtain⟨s',ok',hlt',hfit⟩:=q;obtain⟨j2,k2⟩:=hfit.sound j1 k1;exact ih s' B2 R1 _ a1 w1 m0 ok' (fun b hb=>b1 b (hB b hb)) j2 k2 d1 (he.trans (e1.mono hB)) ((hmv.trans hi.len m1).trans hi.len (hfit.mvn j1 (hn1 s' ok')))
   |exit id=>exact⟨.exit id,T2,L2,R1,γ2,B2,rfl,q,fun b hb=>b1 b (hB b hb),j1,k1,d1,he.trans (e1.mono hB),hmv.trans hi.len m1⟩
   |ret=>exact⟨.ret,T2,L2,R1,γ2,B2,rfl,q,fun b hb=>b1 b (hB b hb),j1,k1,d1,he.trans (e1.mono hB),hmv.trans hi.len m1⟩
 exact wpIn_loop_rounds (μ s0+1) (key _ s0 B0 R0 γ0 a0 w0 m0 h0 (fun _ h=>h) hi hT hd (Ext.refl _ _ _) (fP.of hn Mv.refl))
def XOp (P:Program)(N n0:Nat)(Φ:(Nat->Prop)->List Gh->World->Prop)(y:Oper)(K:Tm->List Ob->Prop)(T:Tm)(L:List Ob):Prop :=
 ∀ B R γ w a,Φ B γ w->Inv B R γ L w->cg N R γ L T a ->∀ next:Act->World->Prop,∀ Qx:Exit->Act->World->Prop,
  (∀ T' L' R' γ' w' a',K T' L'->Inv B R' γ' L' w'->cg N R' γ' L' T' a'->Ext B R R' w w'->Mv R R' γ γ' L L'->next a' w')->y.wpIn Fence.wide 0 P a w next Qx
theorem Hr (hti:TIok P ti)(hΦ:yT n0 Φ){id:Nat}{ops:List Oper}(pre:List Oper)(y:Oper)(post:List Oper)(ds:List (Option Tmp))(he:ops=pre++y::post)(hds:ops.map (·.dst)=ds)(hg:y.guard=none)(hnd:(ndL pre&&ndL post)=true)
  (h:aB P ti N ds (fun T1 L1=>XOp P N n0 Φ y (fun T2 L2=>aB P ti N ds (Q .normal) post T2 L2) T1 L1) pre T L):r9 Fence.wide P false N n0 Φ (.region id ops.toArray false) Q T L:=by
 intro hn s B R γ w a h0 hi hT hd;rw[amO]at hnd;have ha:({ a with defers:=[] }:Act)=a:=by have:=hd.no rfl;cases a;simp_all
 have hax:∀ {x:Act},x.defers=[]->({ x with defers:=[] }:Act)=x:=fun {x} hx=>by cases x;simp_all
 refine wpIn_region_lit ?_;rw[ha]at hT;rw[<- ha];conv=>arg 6;rw[he]
 refine zy (.inl rfl) hti (B4 hds) [] (y::post) pre R γ L T a w hnd.1 h hi hT ?_;intro T1 L1 R1 γ1 w1 a1 hk i1 t1 e1 m1 _;rw[hax t1.defers];unfold wpListIn;rw[if_pos (show Region.wanted y (yielded ops.toArray a1.tmps)=true by simp[Region.wanted,hg])];refine hk B R1 γ1 w1 a1 (hΦ _ _ _ _ _ _ _ _ _ _ h0 (fun _ h=>h) e1 (fP.of hn m1)) i1 t1 _ _ ?_;intro T2 L2 R2 γ2 w2 a2 hk2 i2 t2 e2 m2;rw[<- hax t2.defers];refine FC (.inl rfl) hti (B4 hds) [] post R2 γ2 L2 T2 a2 w2 hnd.2 hk2 i2 t2 ?_;intro T3 L3 R3 γ3 w3 a3 hk3 i3 t3 e3 m3 _;rw[hax t3.defers];exact⟨.normal,T3,L3,R3,γ3,B,rfl,hk3,fun _ h=>h,i3,by rw[hax t3.defers];exact t3,by rw[t3.defers];exact⟨fun _=>rfl,Nat.le_trans hd.le ((e1.trans e2).trans e3).below.size,List.nodup_nil,fun d h=>by cases h⟩,(e1.trans e2).trans e3,fP.of hn ((m1.trans m2).trans m3)⟩
theorem aa' {c:Code}(h:r9 Fence.wide P false N n0 (fun _ _ _=>True) c Q T L):Aw P N n0 c Q T L:=by
 intro hn B R γ w a hi hT;have ha:({ a with defers:=[] }:Act)=a:=by have:=hT.defers;cases a;simp_all
 refine(wpIn_wide (n:=0)).1 (wpIn_mono (h hn w.heap.size B R γ w a trivial hi (by rw[ha];exact hT) ⟨fun _=>hT.defers,amM _,by rw[hT.defers];exact List.nodup_nil,fun d h=>by rw[hT.defers]at h;cases h⟩) ?_);rintro e a1 w1 ⟨x,T1,L1,R1,γ1,B1,rfl,q,b1,i1,t1,d1,e1,m1⟩;have ha1:({ a1 with defers:=[] }:Act)=a1:=by have:=d1.no rfl;cases a1;simp_all
 exact⟨x,T1,L1,R1,γ1,rfl,q,i1.anti b1,by rw[<- ha1];exact t1,e1,m1⟩
end
def RdS (P:Program)(l:Nat)(Φ:(Nat->Prop)->List Gh->World->Prop)(rel:AV->List Ob->List Ob->Prop):Prop :=
 ∀ v L L',rel v L L' ->∀ B R γ w u,Φ B γ w->Inv B R γ L w->v.rep R γ L u ->
  ∃ fn tmps assign body,(Instr.yield l #[u]).run P w = .ok (.round l fn tmps assign body) w /\
   RoundIn Fence.wide 0 P l fn tmps assign body w (fun e w'=>e = .returned (.bool true) /\ ∃ R' γ',Inv B R' γ' L' w'/\Ext B R R' w w'/\Mv R R' γ γ' L L')
theorem acM {P:Program}{N n0 l:Nat}{Φ:(Nat->Prop)->List Gh->World->Prop}{rel:AV->List Ob->List Ob->Prop}(hrd:RdS P l Φ rel){y:Oper}{fv x:Operand}{at_:Array TypeId}{d:Tmp}{v:AV}{K:Tm->List Ob->Prop}{T:Tm}{L L':List Ob}(hy:y.op = .call { callee := .value fv,args :=#[x],argTypes:=at_ })(hd:y.dst=some d)(hN:Nat.blt d N=true)
  (hf:look T fv=some (.one (.c (.nul (.yld l))))) (hx:look T x=some v) (hr:rel v L L') (h:K ((d,.one (.c (.bool true)))::T) L'):XOp P N n0 Φ y K T L:=by
 intro B R γ w a h0 hi hT next Qx hk
 have hfv:=fK hT hf;have hxv:=fK hT hx;obtain⟨fn,tmps,assign,body,hyr,hR⟩:=hrd _ _ _ hr B R γ w (a.eval x) h0 hi hxv;have hev:a.eval fv = .func (.yield l) #[] #[]:=by
  generalize a.eval fv=z at hfv
  cases hfv with
  |nul _ _ e=>exact e
 refine⟨fun _ _=>trivial,?_⟩;have hrun:(execOp a.eval y).run P w = .ok (.round l fn tmps assign body) w:=by
  simp only[execOp,hy,resolve,hev,Deferred.ofValue,Sem.run_bind,Sem.run_pure,Result.andThen_ok,invoke,callFunc,program,Sem.run];simpa using hyr
 rw[show Fence.wide.round=none from rfl,Oper.semAt_none,hrun];refine⟨fun e=>(by cases e),hR.mono ?_⟩;rintro e w' ⟨rfl,R',γ',i',x',m'⟩;refine hk _ _ R' γ' w' _ h i' ?_ x' m';rw[hd];exact de (d:=some d) (hT.mv m') (show d<N from Nat.blt_eq▸hN) (bg.bool true)
def ai6 (n0 l:Nat)(r:Loop)(T0:Tm):(Nat->Prop)->List Gh->World->Prop:=fun B γ w =>
 B l/\w.heap[l]?=some (.loop r) /\ ∀ t id off,T0.lookup t=some (.one (.ptr id off))->id<n0 /\ ∃ b,r.tmps[t]?=some (.pointer (some ⟨b,off,none⟩))/\γ[id]?=some (.box b)
theorem abO {n0 l:Nat}{r:Loop}{T0:Tm}:yT n0 (ai6 n0 l r T0):=by
 rintro B B' R R' γ γ' L L' w w' ⟨h1,h2,h3⟩ hB he hm;refine⟨hB _ h1,(he.below.block l h1).trans h2,fun t id off ht=>?_⟩;obtain⟨h4,b,h5,h6⟩:=h3 t id off ht;exact⟨h4,b,h5,hm.mv.ptr id b (by rw[am0,if_pos h4];exact h6)⟩
theorem ik {n0:Nat}:yT n0 (fun _ _ _=>True):=fun _ _ _ _ _ _ _ _ _ _ _ _ _ _=>trivial
def afd (P:Program)(N:Nat)(p:Tmp)(assign body:Code)(T0:Tm)(rel:AV->List Ob->List Ob->Prop):Prop :=
 ∀ l v L L',rel v L L'->L.length<=L'.length/\r9 (Fence.wide.inRound l) P false N L.length (fun _ _ _=>True) assign (fun x T1 L1=>x = .normal/\r9 (Fence.wide.inRound l) P false N L.length (fun _ _ _=>True) body (fun x T2 L2=>x = .normal/\Fits T2 L2 [] L') T1 L1) ((p,v)::T0) L
theorem ai9 {P:Program}{fn:FuncId}{N n0 l D:Nat}{p:Tmp}{assign body:Code}{T0:Tm}{tmps:Array Value}{rel:AV->List Ob->List Ob->Prop}(hsz:tmps.size=N)(hp:p<N)(hT0:∀ t x,T0.lookup t=some x ->∃ id off,x = .one (.ptr id off))(hw:afd P N p assign body T0 rel) :
  RdS P l (ai6 n0 l { state := .ready,pending:=none,fn,tmps,params :=#[p],assign,body,defers:=D } T0) rel:=by
 intro v L L' h B R γ w u hΦ hi hu;obtain⟨hlen,hA⟩:=hw l v L L' h;obtain⟨hB,hl,hptr⟩:=hΦ;refine⟨_,_,_,_,run_yield hl rfl,roundIn_of_wpIn trivial ?_⟩;have hTr:cg N R γ L ((p,v)::T0) { tmps:=((#[p]:Array Tmp).zip #[u]).foldl (fun tmps (t,a)=>tmps.setIfInBounds t a) tmps,defers:=[] } :=by
  have h0:cg N R γ L T0 { tmps:=tmps,defers:=[] } :=by
   refine⟨hsz,rfl,fun t x ht=>?_⟩;obtain⟨id,off,rfl⟩:=hT0 t x ht;obtain⟨_,b,h5,h6⟩:=hptr t id off ht;exact⟨_,h5,b,rfl,h6⟩
  have hz:((#[p]:Array Tmp).zip #[u]).foldl (fun tmps (t,a)=>tmps.setIfInBounds t a) tmps=tmps.setIfInBounds p u:=by first|rfl|simp
  rw[hz];exact de (d:=some p) h0 hp hu
 refine wpIn_mono (hA (amM _) w.heap.size B R γ w _ trivial hi hTr ⟨fun _=>rfl,amM _,List.nodup_nil,fun d h=>by cases h⟩) ?_;rintro e a1 w1 ⟨x,T1',L1',R1,γ1,B1,rfl,⟨rfl,hC⟩,b1,i1,t1,d1,e1,m1⟩;have hl1:=(e1.below.block l hB).trans hl;refine⟨_,run_beginRound hl1 rfl,?_⟩;refine wpIn_mono (hC m1.lo' w.heap.size B1 R1 γ1 _ a1 trivial (i1.putObj (pW hl1) (b1 l hB)) t1 ⟨d1.no,by rw[World.putObj_size];exact d1.le,d1.nd,fun d hd=>by rw[d1.no rfl]at hd;cases hd⟩) ?_;rintro e a2 w3 ⟨x,T2',L2',R2,γ2,B2,rfl,⟨rfl,hfit⟩,b2,i3,t3,d3,e3,m3⟩;have hl3:=(e3.below.block l (b1 l hB)).trans (World.putObj_heap_same (anf.1 hl1).1);obtain⟨i4,_⟩:=hfit.sound i3 t3;have m4:=hfit.mvn i3 hlen;refine⟨_,_,run_endRound none hl3,rfl,R2,_,(i4.putObj (pW hl3) (b2 l (b1 l hB))).anti (fun b hb=>b2 b (b1 b hb)),⟨⟨?_,?_,?_,?_,?_⟩,PH.sub_trans e1.sub e3.sub,fun b o hb=>(e3.old b o (b1 b hb)).trans (e1.old b o hb)⟩,?_⟩
 ·exact e3.below.os.trans e1.below.os
 ·exact e3.below.tape.trans e1.below.tape
 ·exact e3.below.output.trans e1.below.output
 ·have h1:=e1.below.size;have h2:=e3.below.size;rw[World.putObj_size]at h2 ⊢;omega
 ·intro b hb
  by_cases e:b=l
  ·subst e
   exact(World.putObj_heap_same (anf.1 hl3).1).trans hl.symm
  ·exact(World.putObj_heap_other e).trans ((e3.below.block b (b1 b hb)).trans ((World.putObj_heap_other e).trans (e1.below.block b hb)))
 ·have:=((m1.trans hi.len m3).trans hi.len m4).mv
  rw[am_ (amM _),am_ (by rw[hi.len];exact amM _)]at this;exact this
theorem Cap.av_rep {R:PH}{γ:List Gh}{L:List Ob}{x:Cap}{v:Value}(h:x.rep R γ v):x.av.rep R γ L v:=by
 cases x with
 |c x=>exact h
 |ptr id off=>exact h
theorem BC {P:Program}{N n0:Nat}{Φ:(Nat->Prop)->List Gh->World->Prop}{Q:AX->Tm->List Ob->Prop}{T:Tm}{α:Type}{L:List Ob}{A':α->List Ob}{g:Operand}{p:Tmp}{assign body:Code}{gf:FuncId}{caps:List Cap}{fn:Func}{c:Code}{rel:AV->List Ob->List Ob->Prop}(T0:Tm)
  (hlook : look T g = some (.one (.clo gf caps))) (hf : P.funcs[gf]? = some fn) (hb : fn.body = some c) (hres : fn.results = #[]) (hname : (fn.name == "runtime.NumGoroutine") = false) (hle : Nat.ble (caps.length + 1) fn.ntmps = true) (hp : Nat.blt p N = true)
  (hT0:∀ q∈T0,T.lookup q.1=some q.2 /\ ∃ id off,q.2 = .one (.ptr id off)) (hw:afd P N p assign body T0 rel) (hlen:∀ x,L.length<=(A' x).length)
  (hit:∀ l Φ,yT L.length Φ->RdS P l Φ rel->r9 Fence.wide P false fn.ntmps L.length Φ c (fun x T1 L1=>(x = .normal\/x = .ret) /\ ∃ z,Fits T1 L1 [] (A' z)) (dN 0 (.one (.c (.nul (.yld l)))::caps.map Cap.av)) L)
  (h:∀ z,Q .normal T (A' z)):r9 Fence.wide P true N n0 Φ (.rangeFunc g #[p] assign body) Q T L:=by
 intro hn s B R γ w a _ hi hT hd;have hv:=fK hT hlook;obtain⟨vs,hvv,hsz,hcap⟩:=hv;have hev':a.eval g = .func (.func gf) #[] vs:=by
  rw[<- hvv];cases g<;>rfl
 refine wpIn_rangeFunc ?_;intro fnid _;obtain⟨r,hr⟩:∃ r:Loop,r={ state := .ready,pending:=none,fn:=fnid,tmps:=a.tmps,params :=#[p],assign:=assign,body:=body,defers:=w.heap.size } :=⟨_,rfl⟩;obtain⟨W1,hW1⟩:∃ W1,(w.alloc (.deferred (some []))).alloc (.loop r)=W1:=⟨_,rfl⟩;have hS1:W1.heap.size=w.heap.size+2:=by rw[<- hW1];simp
 have hL1:W1.heap[w.heap.size+1]?=some (.loop r):=by
  rw[<- hW1];have:=World.alloc_heap_new (w.alloc (.deferred (some []))) (.loop r);rwa[World.size_alloc]at this
 have hK1:W1.heap[w.heap.size]?=some (.deferred (some [])):=by
  rw[<- hW1];exact(eh _ _ m5).trans (World.alloc_heap_new w _)
 have hE1:Ext (· <w.heap.size) R R w W1:=by
  rw[<- hW1];exact⟨(Kept.alloc (fun _ h=>h) _).trans (Kept.alloc (fun b h=>by simp at h ⊢;omega) _),PH.sub_refl _,fun _ _ _=>rfl⟩
 obtain⟨i1,x1⟩:=hi.later hE1 (fun b o u hu=>(World.cell?_of_block (hE1.below.block b (lt_of_cell (hi.val b o u hu)))).trans (hi.val b o u hu));have i2:Inv (fun b=>B b\/b=w.heap.size\/b=w.heap.size+1) R γ L W1 :=
  ⟨i1.len,i1.val,i1.obj,i1.inj,fun i g b hg hb=>⟨fun h=>by have h1:=hi.new i g b hg hb;rcases h with h|h|h<;>first|exact h1.1 h|omega,(i1.new i g b hg hb).2⟩,
   fun b h=>by rcases h with h|h|h<;>first|(have:=i1.bsz b h;omega)|omega⟩
 refine⟨w.heap.size+1,[{ target := .collected w.heap.size,args :=#[] }],W1,{ target := .fn (.func gf) vs,args :=#[.func (.yield (w.heap.size+1)) #[] #[]] },W1,gf,
  #[.func (.yield (w.heap.size+1)) #[] #[]]++vs,W1,?_,?_,fun _ _=>trivial,?_,fun e=>(by cases e),?_⟩
 ·rw[<- hW1,hr];exact run_enterLoop_outer _ _ _ _ _
 ·simp only[resolve,hev']
  simp[go_sem,Act.eval]
 ·have hname : fn.name ≠ "runtime.NumGoroutine" := by simpa using hname
  simp[invoke,callFunc,hf,hname,hb,mark,go_sem]
 ·refine callsIn_of_wp hf hb trivial ?_
  have hpl:p<N:=Nat.blt_eq▸hp;have hq0:∀ t x,T0.lookup t=some x->T.lookup t=some x /\ ∃ id off,x = .one (.ptr id off):=fun t x h=>hT0 (t,x) (ig h)
  have hrd:=ai9 (l:=w.heap.size+1) (n0:=L.length) (D:=w.heap.size) (fn:=fnid) (tmps:=a.tmps) hT.size hpl (fun t x h=>(hq0 t x h).2) hw;rw[<- hr]at hrd;have hA:=hit (w.heap.size+1) _ abO hrd;have hT1:cg fn.ntmps R γ L (dN 0 (.one (.c (.nul (.yld (w.heap.size+1))))::caps.map Cap.av)) { tmps:=(#[.func (.yield (w.heap.size+1)) #[] #[]]++vs)++Array.replicate (fn.ntmps-(#[Value.func (.yield (w.heap.size+1)) #[] #[]]++vs).size) Go.undef,defers:=[] } :=by
   have hle:=amG hle;refine⟨by simp;omega,rfl,fun t x ht=>?_⟩;obtain⟨h1,_⟩:=dO _ 0 t x ht;rw[Nat.sub_zero]at h1;have hlt:t<(#[Value.func (.yield (w.heap.size+1)) #[] #[]]++vs).size:=by
    have:=(amw.1 h1).1;simp at this ⊢;omega
   rw[Array.getElem?_append_left hlt]
   cases t with
   |zero =>
    simp at h1;subst h1;exact⟨.func (.yield (w.heap.size+1)) #[] #[],by rw[Array.getElem?_append_left m5];rfl,bg.nul _ _ rfl⟩
   |succ t =>
    rw[List.getElem?_cons_succ,amT]at h1
    cases hc:caps[t]? with
    |none=>rw[hc]at h1;cases h1
    |some y =>
     rw[hc]at h1;injection h1 with h1;subst h1
     have hlt2:t<vs.size:=by rw[hsz];exact(amw.1 hc).1
     refine⟨vs[t],?_,Cap.av_rep (hcap t _ _ (amV hlt2) hc)⟩;rw[Array.getElem?_append_right m5];simp[hlt2]
  have hΦ:ai6 L.length (w.heap.size+1) r T0 (fun b=>B b\/b=w.heap.size\/b=w.heap.size+1) γ W1:=by
   refine⟨.inr (.inr rfl),hL1,fun t id off ht=>?_⟩;obtain⟨u,h1,b,h2,h3⟩:=hT.slot t _ (hq0 _ _ ht).1;exact⟨by rw[<- hi.len];exact(amw.1 h3).1,b,by rw[hr];rw[h2]at h1;exact h1,h3⟩
  refine wpIn_mono (hA (amM _) W1.heap.size _ R γ W1 _ hΦ i2 hT1 ⟨fun _=>rfl,amM _,List.nodup_nil,fun d h=>by cases h⟩) ?_;rintro e1 a1 w1 ⟨y,T2,L2,R2,γ2,B2,rfl,⟨hend,z,hfit⟩,b2,j2,t2,d2,x2,m2⟩;have hl1:=(x2.below.block _ (.inr (.inr rfl))).trans hL1;have hk1:=(x2.below.block _ (.inr (.inl rfl))).trans hK1;obtain⟨j3,_⟩:=hfit.sound j2 t2;have hmv:Mv R R2 γ (γ2.take (A' z).length) L (A' z):=by
   have:=(m2.trans i2.len (hfit.mvn j2 (hlen z))).mv;rw[am_ (amM _),am_ (by rw[hi.len];exact amM _)]at this;exact this
  have hpost:nc true s N n0 B Q R w γ L .normal { a with defers:=[{ target := .collected w.heap.size,args :=#[] }]++a.defers } (w1.putObj (w.heap.size+1) (.loop { r with state := .exhausted })):=by
   have hnB:¬ B (w.heap.size+1):=fun h=>by have:=hi.bsz _ h;omega
   have xB:Ext B R R2 w (w1.putObj (w.heap.size+1) (.loop { r with state := .exhausted })):=(x1.trans (x2.mono fun b hb => .inl hb)).trans (Ext.putObj hnB);refine⟨.normal,T,A' z,R2,_,fun b=>B b\/b=w.heap.size,rfl,h z,fun b h => .inl h,(j3.putObj (pW hl1) (b2 _ (.inr (.inr rfl)))).anti (fun b h=>b2 b (by rcases h with h|h<;>simp[h])),hT.mv hmv,⟨fun e=>(by cases e),?_,?_,?_⟩,xB,fP.of hn hmv⟩
   ·exact Nat.le_trans hd.le xB.below.size
   ·refine List.nodup_cons.2 ⟨fun hm=>?_,hd.nd⟩
    obtain⟨b,h1,_,h3,_⟩:=hd.at_ _ hm;have:=hi.bsz b h3;injection h1 with h1 _
    injection h1 with h1
    omega
   ·intro d hdm
    rcases amN.1 hdm with rfl|hdm
    ·exact⟨w.heap.size,rfl,hd.le,.inr rfl,(World.putObj_heap_other m0).trans hk1⟩
    ·obtain⟨b,h1,h2,h3,h4⟩:=hd.at_ d hdm
     exact⟨b,h1,h2,.inl h3,(xB.below.block b h3).trans h4⟩
  have hfin:∃ v,(results fn a1.tmps).run P w1 = .ok v w1/\rangePost Fence.wide 0 P (w.heap.size+1) (nc true s N n0 B Q R w γ L) { a with defers:=[{ target := .collected w.heap.size,args :=#[] }]++a.defers } (.returned v) w1:=by
   refine⟨_,results_none hres _ _ _,?_⟩;have hre:=run_endLoop (P:=P) hl1 (by rw[hr];simp);have hpe:r.pending=none:=by rw[hr]
   have hre':(Instr.endLoop (w.heap.size+1)).run P w1 = .ok none (w1.putObj (w.heap.size+1) (.loop { r with state := .exhausted })):=by rw[hre];rw[hpe]
   exact⟨none,_,hre',hpost⟩
  obtain⟨v,hv1,hv2⟩:=hfin;rcases hend with rfl|rfl
  ·exact⟨d2.no rfl,v,hv1,hv2⟩
  ·exact⟨d2.no rfl,v,hv1,hv2⟩
theorem qn {P:Program}{fn:Func}{tmps:Array Value}{Rr:Ending->World->Prop}{s:Nat}{L:List Ob}{R0 R:PH}{γ:List Gh}{B B0:Nat->Prop}{w0:World}(hB0:∀ b,B0 b->b<s) :
  ∀ (ds:List Deferred) (w:World),Inv B R γ L w->DOK true s B w ds->Ext B0 R0 R w0 w ->
   (∀ w',Inv B R γ L w'->Ext B0 R0 R w0 w' ->∃ v,(results fn tmps).run P w' = .ok v w'/\Rr (.returned v) w')->LeavesInM Fence.wide 0 P fn tmps Rr ds .returning w
 |[],w,hi,_,he,hR=>hR w hi he
 |d::ds,w,hi,hd,he,hR=>by
  obtain⟨b,rfl,hs,hb,hw⟩:=hd.at_ d (ani ..);refine⟨m5,.inl ⟨b,_,rfl,run_takeDeferred hw,?_⟩⟩;have hnd:=List.nodup_cons.1 hd.nd;refine qn hB0 ds _ (hi.putObj (M9 hw) hb) ⟨fun e=>(by cases e),by rw[World.putObj_size];exact hd.le,hnd.2,fun d' hd'=>?_⟩ (he.trans (Ext.putObj (fun h=>by have:=hB0 b h;omega))) hR;obtain⟨b',rfl,h2,h3,h4⟩:=hd.at_ d' (amU _ hd');exact⟨b',rfl,h2,h3,(World.putObj_heap_other (fun e=>hnd.1 (by rw[<- e];exact hd'))).trans h4⟩
theorem qS {P:Program}{o:Oper}{a:Act}{w w':World}{v:Value}{next:Act->World->Prop}{Q:Exit->Act->World->Prop}(h:(execOp a.eval o).run P w = .ok (.value v) w')(hk:next (a.put o.dst v) w'):o.wpIn Fence.wide 0 P a w next Q :=
 ⟨fun _ _=>trivial,by rw[show Fence.wide.round=none from rfl,Oper.semAt_none,h];exact hk⟩
theorem jI {P:Program}{ops:Array Oper}{o:Oper}{rest:List Oper}{a:Act}{w:World}{Q:Exit->Act->World->Prop}(hg:o.guard=none)(h:o.wpIn Fence.wide 0 P a w (wpListIn Fence.wide 0 P ops Q rest) Q):wpListIn Fence.wide 0 P ops Q (o::rest) a w:=by
 unfold wpListIn;rw[if_pos (show Region.wanted o (yielded ops a.tmps)=true by simp[Region.wanted,hg])];exact h
theorem Iz {w:World}{l:Nat}{m:Option Nat}{s c:Nat}{se:Array Nat}(h:w.heap[l]?=some (.mapIter m s se c))(o:Nat):w.cell? ⟨l,o,none⟩=none:=by simp[World.cell?,h]
theorem mZ {a:Act}{t:Tmp}{v:Value}(h:a.tmps[t]?=some v):a.eval (.tmp t)=v:=by simp[Act.eval,Array.getD_eq_getD_getElem?,h]
theorem AE {R:PH}{γ:List Gh}{L:List Ob}:∀ (xs:List SV) (vs:List Value),vs.length=xs.length->(∀ (j:Nat) u x,vs[j]?=some u->xs[j]?=some x->x.rep R γ L u)->(AV.tupS xs).rep R γ L (.tuple vs.toArray) :=
 fun xs vs h1 h2=>⟨vs.toArray,rfl,by simpa using h1,fun j u x hu hx=>h2 j u x (by simpa using hu) hx⟩
theorem eqD {a:Act}(h:a.defers=[]):({ a with defers:=[] }:Act)=a:=by cases a;simp_all
theorem tG {a:Act}{d:Tmp}{u:Value}{N:Nat}(hs:a.tmps.size=N)(hd:d<N):(a.put (some d) u).tmps[d]?=some u:=by
 simp only[Act.put];exact ano (by rw[hs];exact hd)
theorem C_:∀ (n:Nat) (s:List Nat),s.Nodup->(∀ j∈s,j<n)->s.length<=n
 |0,[],_,_=>amM _
 |0,j::s,_,h=>absurd (h j (ani ..)) (Nat.not_lt_zero _)
 |n+1,s,h1,h2=>by
  have:=C_ n (s.erase n) (h1.erase n) (fun j hj=>by
   have h3:=(h1.mem_erase_iff).1 hj;have:=h2 j h3.2;omega)
  by_cases hm:n∈s
  ·rw[List.length_erase_of_mem hm]at this;omega
  ·rw[List.erase_of_not_mem hm]at this;omega
theorem fP.less {n0 n1:Nat}{R R':PH}{γ γ':List Gh}{L L':List Ob}(h:fP n1 R R' γ γ' L L')(hn:n0<=n1):fP n0 R R' γ γ' L L':=by
 refine⟨Nat.le_trans hn h.lo,Nat.le_trans hn h.lo',?_⟩;have:=h.mv.cutL (n0:=n0);rwa[List.take_take,List.take_take,Nat.min_eq_left hn]at this
section
variable {P:Program} {ti:TI} {N n0 n1:Nat} {nx more pr it:Tmp} {out nb i10 i11:Nat} {y2 y3 y4:TypeId} {s2 s3 s4:String} {a2 a3 a4:Array Edge} {rest:List Oper} {cd:Code}
@[reducible] def afg (i10 i11 out nb:Nat)(nx more pr it:Tmp)(y2 y3 y4:TypeId)(s2 s3 s4:String)(a2 a3 a4:Array Edge)(rest:List Oper)(cd:Code):Code :=
 .seq (.region i10 [(⟨some nx,.next (.tmp it) false,y2,s2,a2,none⟩:Oper),⟨some more,.extract (.tmp nx) 0,y3,s3,a3,none⟩].toArray false)
  (.seq (.cond (.tmp more) .skip (.exit out)) (.block nb (.seq (.region i11 ((⟨some pr,.entry (.tmp it),y4,s4,a4,none⟩:Oper)::rest).toArray false) cd)))
@[reducible] def itS (r:Nat):AV := .one (.c (.nul (.itr r)))
@[reducible] def mrT (nx more it:Tmp)(r:Nat)(k:AC)(sv:SV)(T:Tm):Tm:=(more,.one (.c (.bool true)))::(nx,.tupS [.c (.bool true),.c k,sv])::(it,itS r)::T
def ae' (P:Program)(ti:TI)(N n1:Nat)(ds:List (Option Tmp))(nx more pr it:Tmp)(rest:List Oper)(cd:Code)(kvs:List (AC×AV))(TS:List Nat->Tm)(LS:List Nat->List Ob)(ok:List Nat->Prop):Prop :=
 ∀ r s j k sv,ok s->j∉s->kvs[j]?=some (k,.one sv)->aB P ti N ds (fun T1 L1=>Aw P N n1 cd (fun x T2 L2=>x = .normal/\ok (s++[j])/\Fits T2 L2 ((it,itS r)::TS (s++[j])) (LS (s++[j]))) T1 L1) rest ((pr,.tupS [.c k,sv])::mrT nx more it r k sv (TS s)) (LS s)
theorem C5 (hti:TIok P ti){ds:List (Option Tmp)}(hds:some pr::rest.map (·.dst)=ds)(hnd:ndL rest=true)(hlt:nx<N/\more<N/\pr<N)(hne:nx≠it/\more≠it)
  {kvs:List (AC×AV)} {id:Nat} (TS:List Nat->Tm) (LS:List Nat->List Ob) (ok:List Nat->Prop) (hok:∀ s,ok s->s.Nodup /\ ∀ j∈s,j<kvs.length) (hn1:∀ s,ok s->n1<=(LS s).length) (hL:∀ s,ok s->(LS s)[id]?=some (.map kvs)) (hkv:∀ q∈kvs,∃ sv,q.2 = .one sv)
  (hstep:ae' P ti N n1 ds nx more pr it rest cd kvs TS LS ok) (hid:id<n1) (hn01:n0<=n1)
  {r bm:Nat} {B0:Nat->Prop} {R0:PH} {γ0:List Gh} {L0:List Ob} {w0:World} (hg0:γ0.length=L0.length) {Q:Exit->Act->World->Prop}
  (hQ:∀ s,ok s->(∀ j,j<kvs.length->j∈s) ->∀ R' γ' a' w',Inv B0 R' γ' (LS s) w'->cg N R' γ' (LS s) ((more,.one (.c (.bool false)))::(nx,.tupS [.c (.bool false)])::(it,itS r)::TS s) a'->Ext B0 R0 R' w0 w'->fP n0 R0 R' γ0 γ' L0 (LS s)->Q (.exit out) a' w') :
  ∀ (m:Nat) (s:List Nat),ok s->kvs.length<s.length+m ->∀ (R:PH) (γ:List Gh) (w:World) (a:Act) (c0:Nat),w.heap[r]?=some (.mapIter (some bm) kvs.length s.toArray c0)->kvs.length<=c0->γ[id]?=some (.box bm) ->¬ B0 r->Inv (fun b=>B0 b\/b=r) R γ (LS s) w->cg N R γ (LS s) ((it,itS r)::TS s) a ->
    Ext B0 R0 R w0 w->fP n0 R0 R γ0 γ L0 (LS s)->Code.roundsIn Fence.wide 0 P (afg i10 i11 out nb nx more pr it y2 y3 y4 s2 s3 s4 a2 a3 a4 rest cd) Q m a w
 |0,s,hs,hm,_,_,_,_,_,_,_,_,_,_,_,_,_=>by
  exfalso;obtain⟨h1,h2⟩:=hok s hs;have:=C_ _ s h1 h2;omega
 |m+1,s,hs,hm,R,γ,w,a,c0,hr,hc0,hg,hrB,hi,hT,hE,hM=>by
  rw[roundsIn_succ];obtain⟨⟨es,hb,hsz,hes⟩,_⟩:=hi.obj id _ _ (hL s hs) hg;have hborn:∀ x∈es.toList,∃ j,es[j]?=some x/\x.born=j/\j<kvs.length:=by
   intro x hx;obtain⟨j,hj⟩:=List.getElem?_of_mem hx;have hj':es[j]?=some x:=by rw[<- Array.getElem?_toList];exact hj
   have hlt:j<es.size:=(anf.1 hj').1;have hlt2:j<kvs.length:=m0
   exact⟨j,hj',(hes j x _ hj' (amF hlt2)).1,m0⟩
  have hold:∀ x∈es.toList,x.born<kvs.length:=fun x hx=>let ⟨j,_,h1,h2⟩:=hborn x hx;by omega
  have hnodup:(es.toList.map (·.born)).Nodup:=by
   have:es.toList.map (·.born)=List.range es.size:=by
    apply List.ext_getElem?;intro j;rw[amT];by_cases hj:j<es.size
    ·rw[List.getElem?_range hj,Array.getElem?_toList,amV hj]
     have hlt2:j<kvs.length:=m0
     simp[(hes j _ _ (amV hj) (amF hlt2)).1]
    ·rw[anj m8,anj m8];rfl
   rw[this];exact List.nodup_range
  have hitv:a.tmps[it]?=some (.pointer (some ⟨r,0,none⟩)):=by
   obtain⟨u,h1,h2⟩:=hT.slot it (itS r) m5
   cases h2 with
   |nul _ _ e=>rw[h1,e];rfl
  have hev:a.eval (.tmp it) = .pointer (some ⟨r,0,none⟩):=mZ hitv;have hbr:bm≠r:=fun e=>by rw[e,hr]at hb;cases hb
  refine wpIn_seq (wpIn_region_lit (jI rfl ?_));rcases run_next_at (P:=P) w y2 r bm kvs.length c0 s.toArray es es.size hr hb hold hc0 with⟨h0,hrun⟩|⟨e,he,w1,hw1,hrun⟩
  ·refine qS (v := .tuple #[.bool false]) (w':=w) (by simp[execOp,hev,hrun,Result.andThen]) ?_
   have hT1:=de (d:=some nx) (v := .tupS [.c (.bool false)]) hT hlt.1 (AE [.c (.bool false)] [.bool false] rfl (fun j u x hu hx=>by cases j with|zero=>simp at hu hx;subst hu hx;exact bg.bool _|succ j=>simp at hu));refine jI rfl (qS (v := .bool false) (w':=w) ?_ ?_)
   ·have:(a.put (some nx) (.tuple #[.bool false])).eval (.tmp nx) = .tuple #[.bool false]:=mZ (tG hT.size hlt.1)
    simp[execOp,this,Instr.extract]
   have hT2:=de (d:=some more) (v := .one (.c (.bool false))) (u := .bool false) hT1 hlt.2.1 (bg.bool _);refine wpIn_seq (wpIn_cond_false (mZ (v := .bool false) (tG hT1.size hlt.2.1)) (wpIn_exit ?_));refine hQ s hs (fun j hj=>?_) R γ _ w (hi.anti fun b h => .inl h) hT2 hE hM;refine Classical.byContradiction fun hjs=>?_
   have hlt2:j<es.size:=m0
   have hm:es[j]∈(leftOf es s.toArray):=by
    unfold leftOf;rw[Array.mem_filter];refine⟨Array.getElem_mem hlt2,?_⟩;rw[(hes j _ _ (amV hlt2) (amF hj)).1];simpa using hjs
   rw[Array.eq_empty_of_size_eq_zero h0]at hm;simp at hm
  ·have hmem:e∈es.toList/\s.contains e.born=false:=by
    unfold leftOf at he;simp at he;exact⟨by simpa using he.1,by simpa using he.2⟩
   obtain⟨j,hj,hbj,hjn⟩:=hborn e hmem.1;obtain⟨_,hkey,hval⟩:=hes j e _ hj (amF hjn);have hi1:Inv (fun b=>B0 b\/b=r) R γ (LS s) w1/\Ext B0 R R w w1/\w1.heap=w.heap:=by
    rcases hw1 with rfl|rfl
    ·exact⟨hi,Ext.refl _ _ _,rfl⟩
    ·exact⟨⟨hi.len,hi.val,hi.obj,hi.inj,hi.new,hi.bsz⟩,⟨⟨rfl,rfl,rfl,amM _,fun _ _=>rfl⟩,PH.sub_refl _,fun _ _ _=>rfl⟩,rfl⟩
   obtain⟨hi1,hE1,hh1⟩:=hi1;have hr1:w1.heap[r]?=some (.mapIter (some bm) kvs.length s.toArray c0):=by rw[hh1];exact hr
   obtain⟨w2,hw2⟩:∃ w2,w2=w1.putObj r (.mapIter (some bm) kvs.length (s.toArray.push e.born) es.size):=⟨_,rfl⟩;have hi2:Inv (fun b=>B0 b\/b=r) R γ (LS s) w2:=by rw[hw2];exact hi1.putObj (Iz hr1) (.inr rfl)
   have hE2:Ext B0 R R w w2:=by rw[hw2];exact hE1.trans (Ext.putObj hrB)
   have hr2:w2.heap[r]?=some (.mapIter (some bm) kvs.length (s.toArray.push e.born) es.size):=by rw[hw2];exact World.putObj_heap_same (anf.1 hr1).1
   have hb2:w2.heap[bm]?=some (.map es es.size):=by rw[hw2];exact(World.putObj_heap_other hbr).trans (by rw[hh1];exact hb)
   have hrun':(Instr.next (.pointer (some ⟨r,0,none⟩)) false y2).run P w = .ok (.tuple #[.bool true,e.key,e.val]) w2:=by rw[hrun,hw2];rfl
   obtain⟨k,hk⟩:∃ k,kvs[j]=k:=⟨_,rfl⟩;obtain⟨sv,hsv⟩:=hkv _ (List.getElem_mem hjn);rw[hk]at hkey hval hsv;rw[hsv]at hval;have hkj:kvs[j]?=some (k.1,.one sv):=by rw[amF hjn,hk,<- hsv]
   have hjs:j∉s:=by have:=hmem.2;rw[hbj]at this;simpa using this
   have hst:=hstep r s j k.1 sv hs hjs hkj;refine qS (v := .tuple #[.bool true,e.key,e.val]) (w':=w2) (by simp[execOp,hev,hrun',Result.andThen]) ?_;have hT1:=de (d:=some nx) (v := .tupS [.c (.bool true),.c k.1,sv]) (u := .tuple #[.bool true,e.key,e.val]) hT hlt.1 (AE [.c (.bool true),.c k.1,sv] [.bool true,e.key,e.val] rfl (fun j u x hu hx=>by
    match j,hu,hx with
    |0,hu,hx=>simp at hu hx;subst hu hx;exact bg.bool _
    |1,hu,hx=>simp at hu hx;subst hu hx;exact hkey
    |2,hu,hx=>simp at hu hx;subst hu hx;exact hval
    |j+3,hu,hx=>simp at hu))
   refine jI rfl (qS (v := .bool true) (w':=w2) ?_ ?_)
   ·have:(a.put (some nx) (.tuple #[.bool true,e.key,e.val])).eval (.tmp nx) = .tuple #[.bool true,e.key,e.val]:=mZ (tG hT.size hlt.1)
    simp[execOp,this,Instr.extract]
   have hT2:=de (d:=some more) (v := .one (.c (.bool true))) (u := .bool true) hT1 hlt.2.1 (bg.bool _);refine wpIn_seq (wpIn_cond_true (mZ (v := .bool true) (tG hT1.size hlt.2.1)) (wpIn_skip ?_));refine wpIn_block (wpIn_seq (wpIn_region_lit (jI rfl ?_)));have hit2:((a.put (some nx) (.tuple #[.bool true,e.key,e.val])).put (some more) (.bool true)).tmps[it]?=some (.pointer (some ⟨r,0,none⟩)):=by
    simp only[Act.put];rw[ane hne.2,ane hne.1];exact hitv
   refine qS (v := .tuple #[e.key,e.val]) (w':=w2) (by simp[execOp,mZ hit2,run_entry_at w2 r bm kvs.length s.toArray es es.size e hr2 hb2 hmem.1 hnodup,Result.andThen]) ?_;have hT3:=de (d:=some pr) (v := .tupS [.c k.1,sv]) (u := .tuple #[e.key,e.val]) hT2 hlt.2.2 (AE [.c k.1,sv] [e.key,e.val] rfl (fun j u x hu hx=>by
    match j,hu,hx with
    |0,hu,hx=>simp at hu hx;subst hu hx;exact hkey
    |1,hu,hx=>simp at hu hx;subst hu hx;exact hval
    |j+2,hu,hx=>simp at hu))
   generalize ((a.put (some nx) (.tuple #[.bool true,e.key,e.val])).put (some more) (.bool true)).put (some pr) (.tuple #[e.key,e.val])=a3 at hT3;rw[<- eqD hT3.defers];refine FC (.inl rfl) hti (ds:=ds) (fun i=>by rw[<- hds];cases i<;>simp) [] rest R γ (LS s) _ a3 w2 hnd hst hi2 hT3 ?_;intro T1 L1 R4 γ4 w4 a4 hcd i4 t4 x4 m4 _;rw[eqD t4.defers];have m4':fP n1 R R4 γ γ4 (LS s) L1:=fP.of (hn1 s hs) m4;refine(wpIn_wide (n:=0)).2 (wp_mono (hcd m4'.lo' (fun b=>B0 b\/b=r) R4 γ4 w4 a4 i4 t4) ?_);rintro e2 a5 w5 ⟨x,T2,L2,R5,γ5,rfl,⟨rfl,hok2,hfit⟩,i5,t5,x5,m5⟩;obtain⟨i6,t6⟩:=hfit.sound i5 t5;have m6:=(m4'.trans hi.len m5).trans hi.len (hfit.mvn i5 (hn1 _ hok2));have hg6:(γ5.take (LS (s++[j])).length)[id]?=some (.box bm):=m6.mv.ptr id bm (by rw[am0,if_pos hid];exact hg);have hr5:w5.heap[r]?=some (.mapIter (some bm) kvs.length (s++[j]).toArray es.size):=by
    rw[(x5.below.block r (.inr rfl)),(x4.below.block r (.inr rfl)),hr2,hbj];simp
   have x45:Ext B0 R R5 w w5:=hE2.trans ((x4.trans x5).mono fun b h => .inl h);exact C5 hti hds hnd hlt hne TS LS ok hok hn1 hL hkv hstep hid hn01 hg0 hQ m (s++[j]) hok2 (by rw[amE];simp;omega) R5 _ w5 a5 es.size hr5 m0 hg6 hrB i6 t6 (hE.trans x45) (hM.trans hg0 (m6.less hn01))
theorem Js {ti9:TI}(hti9:TIok P ti9)(hti:TIok P ti){Q:AX->Tm->List Ob->Prop}{T:Tm}{L:List Ob}{i9:Nat}{ops:List Oper}{ds9 ds:List (Option Tmp)}{t k e:TypeId}{m:Tmp}{y1:TypeId}{s1:String}{a1:Array Edge}(pre:List Oper){kvs:List (AC×AV)}{id:Nat}(TS:List Nat->Tm)(LS:List Nat->List Ob)(ok:List Nat->Prop)
  (hops:ops=pre++[(⟨some it,.range t (.tmp m),y1,s1,a1,none⟩:Oper)]) (hds9:ops.map (·.dst)=ds9) (hnd9:ndL pre=true) (hkind:ti9.kind t=some (.map k e))
  (hds:some pr::rest.map (·.dst)=ds) (hnd:ndL rest=true) (hlt:(Nat.blt nx N&&(Nat.blt more N&&(Nat.blt pr N&&Nat.blt it N)))=true) (hne:nx≠it/\more≠it)
  (h:aB P ti9 N ds9 (fun T1 L1=>look T1 (.tmp m)=some (.one (.mp id))/\Fits T1 L1 (TS []) (LS [])/\ok []) pre T L) (hit:∀ t x,(TS []).lookup t=some x->t≠it)
  (hok:∀ s,ok s->s.Nodup /\ ∀ j∈s,j<kvs.length) (hn1:∀ s,ok s->n1<=(LS s).length) (hL:∀ s,ok s->(LS s)[id]?=some (.map kvs)) (hkv:∀ q∈kvs,∃ sv,q.2 = .one sv) (hid:id<n1) (hn01:n0<=n1)
  (hstep:ae' P ti N n1 ds nx more pr it rest cd kvs TS LS ok)
  (hexit:∀ r s,ok s->(∀ j,j<kvs.length->j∈s)->Q .normal ((more,.one (.c (.bool false)))::(nx,.tupS [.c (.bool false)])::(it,itS r)::TS s) (LS s)) :
  Aw P N n0 (.seq (.region i9 ops.toArray false) (.block out (.loop (afg i10 i11 out nb nx more pr it y2 y3 y4 s2 s3 s4 a2 a3 a4 rest cd)))) Q T L:=by
 intro hn B R γ w a hi hT;simp only[amO,Nat.blt_eq]at hlt;refine(wpIn_wide (n:=0)).1 ?_;refine wpIn_seq (wpIn_region_lit ?_);rw[<- eqD hT.defers];conv=>arg 6;rw[hops]
 refine zy (.inl rfl) hti9 (B4 hds9) [] [_] pre R γ L T a w hnd9 h hi hT ?_;rintro T1 L1 R1 γ1 w1 a1 ⟨hm,hfit,hok0⟩ i1 t1 x1 m1 _;rw[eqD t1.defers];obtain⟨bm,hbm,hg1⟩:=fK t1 hm;obtain⟨i1',t1'⟩:=hfit.sound i1 t1;have hn0:=hn1 [] hok0;have hidl:id<(LS []).length:=m0
 have m1':fP n0 R R1 γ (γ1.take (LS []).length) L (LS []):=(fP.of hn m1).trans hi.len (hfit.mvn i1 m0);have hg:(γ1.take (LS []).length)[id]?=some (.box bm):=by rw[am0,if_pos hidl];exact hg1
 generalize γ1.take (LS []).length=γ2 at i1' t1' m1' hg;obtain⟨⟨es,hb,hsz,hes⟩,_⟩:=i1'.obj id _ _ (hL [] hok0) hg;have hrun:=run_range_map (P:=P) w1 t k e bm es es.size (hti9.kind _ _ hkind) hb;refine jI rfl (qS (v := .pointer (some ⟨w1.heap.size,0,none⟩)) (w':=w1.alloc (.mapIter (some bm) es.size #[] es.size)) (by simp[execOp,hbm,hrun,Result.andThen]) ?_);obtain⟨w2,hw2⟩:∃ w2,w2=w1.alloc (.mapIter (some bm) es.size #[] es.size):=⟨_,rfl⟩;rw[<- hw2];have hE1:Ext (· <w1.heap.size) R1 R1 w1 w2:=by rw[hw2];exact⟨Kept.alloc (fun _ h=>h) _,PH.sub_refl _,fun _ _ _=>rfl⟩
 obtain⟨i2,x2⟩:=i1'.later hE1 (fun b o u hu=>(World.cell?_of_block (hE1.below.block b (lt_of_cell (i1'.val b o u hu)))).trans (i1'.val b o u hu));have hS2:w2.heap.size=w1.heap.size+1:=by rw[hw2];simp
 have hr2:w2.heap[w1.heap.size]?=some (.mapIter (some bm) kvs.length ([]:List Nat).toArray es.size):=by rw[hw2,<- hsz];exact World.alloc_heap_new w1 _
 have i3:Inv (fun b=>B b\/b=w1.heap.size) R1 γ2 (LS []) w2 :=
  ⟨i2.len,i2.val,i2.obj,i2.inj,fun i g b hg hb=>⟨fun h=>by have h1:=i1'.new i g b hg hb;rcases h with h|h<;>first|exact h1.1 h|omega,(i2.new i g b hg hb).2⟩,
   fun b h=>by rcases h with h|h<;>first|(have:=i2.bsz b h;omega)|omega⟩
 have hnB:¬ B w1.heap.size:=fun h=>by have:=i1'.bsz _ h;omega
 have hT2:cg N R1 γ2 (LS []) ((it,itS w1.heap.size)::TS []) (a1.put (some it) (.pointer (some ⟨w1.heap.size,0,none⟩))) :=
  de (d:=some it) (v:=itS w1.heap.size) t1' hlt.2.2.2 (bg.nul _ _ rfl)
 refine wpIn_block (wpIn_loop_rounds (kvs.length+1) (C5 (r:=w1.heap.size) (bm:=bm) (B0:=B) (R0:=R) (γ0:=γ) (L0:=L) (w0:=w) hti hds hnd ⟨hlt.1,hlt.2.1,hlt.2.2.1⟩ hne TS LS ok hok hn1 hL hkv hstep hid hn01 hi.len ?_ (kvs.length+1) [] hok0 m5 R1 γ2 w2 _ es.size hr2 m0 hg hnB i3 hT2 (x1.trans x2) m1'));intro s hs hall R' γ' a' w' j1 j2 j3 j4;show Exit.inBlock out _ (.exit out) a' w';simp only[Exit.inBlock,if_true];exact⟨.normal,_,_,R',γ',rfl,hexit _ s hs hall,j1,j2,j3,j4⟩
end
def abh (P:Program)(f:FuncId)(L0:List Ob)(args:List AV)(Post:List Ob->AV->Prop):Prop :=
 (∃ fn, P.funcs[f]? = some fn /\ fn.body.isSome = true /\ (fn.name == "runtime.NumGoroutine") = false) /\
 ∀ (B:Nat->Prop) (R:PH) (γ:List Gh) (w:World) (vs:Array Value),Inv B R γ L0 w->vs.size=args.length->(∀ (j:Nat) v p,vs[j]?=some v->args[j]?=some p->p.rep R γ L0 v) ->
  Calls P f vs w fun e w' =>∃ L1 r v R' γ',Post L1 r/\e = .returned v/\Inv B R' γ' L1 w'/\Ext B R R' w w'/\Mv R R' γ γ' L0 L1/\r.rep R' γ' L1 v
theorem agk {P:Program}{N n0:Nat}{Φ:(Nat->Prop)->List Gh->World->Prop}(ti:TI)(σ:List Nat){y:Oper}{g:FuncId}{L0:List Ob}{args asx:List AV}{Post:List Ob->AV->Prop}{d:Tmp}{K:Tm->List Ob->Prop}{T:Tm}{L:List Ob}(hd:y.dst=some d)(hN:Nat.blt d N=true)
  (hp:dj ti (look T) y.op=some (g,asx)) (hc:abh P g L0 args Post) (ha:asx=args.map (AV.ren σ)) (hF:eQ σ L0 args L) (h:∀ L1 r,Post L1 r->K ((d,r.ren (ct σ L.length L1.length))::T) (joinL σ L L1)):XOp P N n0 Φ y K T L:=by
 intro B R γ w a h0 hi hT next Qx hk
 obtain⟨dst,op,type,pos,after,guard⟩:=y;simp only at hp hd;subst hd;rw[ha]at hp;have hρ:∀ x v,look T x=some v->v.rep R γ L (a.eval x):=fun x v hx=>fK hT hx
 obtain⟨f,args',ts,caps,rfl,hev,hsz,hrep⟩:=rW hρ hp;obtain⟨⟨fn,hfn,hbody,hname⟩,hcall⟩:=hc;have hr:(execOp a.eval { dst:=some d,op := .call { callee := .value f,args:=args',argTypes:=ts },type,pos,after,guard }).run P w = .ok (.enter g (args'.map a.eval++caps)) w:=by
  have hb:fn.body.isNone=false:=by cases hbb:fn.body<;>simp_all
  simp only[execOp,resolve,hev,Deferred.ofValue,Sem.run_bind,Sem.run_pure,Result.andThen_ok,invoke,callFunc,program,Sem.run];simp[hfn,hname,hb]
 refine⟨fun _ _=>trivial,?_⟩;rw[show Fence.wide.round=none from rfl,Oper.semAt_none,hr];have hemb:=Gf hi hF.len hF.ob;have hinj:∀ i j,i<L0.length->j<L0.length->gX σ i=gX σ j->i=j:=by
  intro i j hi1 hj1 e;have h1:=fC (σ:=σ) (i:=i) (by rw[hF.len];exact hi1);have h2:=fC (σ:=σ) (i:=j) (by rw[hF.len];exact hj1);rw[<- e]at h2;exact mT hF.nd h1 h2
 refine⟨fun e=>(by cases e),FW.calls (F:=Fence.wide) (.inl rfl) ((hcall _ R (CN σ γ) w (args'.map a.eval++caps) (yX hi hemb hinj hF.obb) (by simpa using hsz) (fun j v p hv hp=>?_)).mono (fun e w' hh=>?_))⟩
 ·exact AV.down hemb (hrep j v _ hv (by rw[amT,hp];rfl)) (hF.argb p (amC hp))
 ·obtain⟨L1,r,v,R',γ1,hpost,rfl,h1,h2,h3,h4⟩:=hh
  obtain⟨i1,i2,i3,i4⟩:=yl hi hF.len hF.nd hF.ob h1 h2 h3;exact hk _ _ R' _ w' _ (h L1 r hpost) i1 (de (d:=some d) (hT.mv i3) (show d<N from Nat.blt_eq▸hN) (AV.up i4 h4)) i2 i3
def alE:TI :={ xm with dyn:=true }
theorem bw:TIok Tryz.prog alE:=⟨tab_ok.size,tab_ok.agg,tab_ok.elem,tab_ok.field,tab_ok.zero,tab_ok.bytes,tab_ok.kind,tab_ok.struct,tab_ok.zok,tab_ok.eqs⟩
def akP:TI :={ xm with soft:=true }
theorem fc:TIok Tryz.prog akP:=⟨tab_ok.size,tab_ok.agg,tab_ok.elem,tab_ok.field,tab_ok.zero,tab_ok.bytes,tab_ok.kind,tab_ok.struct,tab_ok.zok,tab_ok.eqs⟩
theorem aaz {B:Nat->Prop}{R:PH}{γ:List Gh}{L L1:List Ob}{w:World}{σ:List Nat}{r:AV}{v:Value}(hi:Inv B R γ L w)(hF:eQ σ L1 [r] L)(hv:(r.ren σ).rep R γ L v):Inv B R (CN σ γ) L1 w/\r.rep R (CN σ γ) L1 v:=by
 have hemb:=Gf hi hF.len hF.ob;have hinj:∀ i j,i<L1.length->j<L1.length->gX σ i=gX σ j->i=j:=by
  intro i j hi1 hj1 e;have h1:=fC (σ:=σ) (i:=i) (by rw[hF.len];exact hi1);have h2:=fC (σ:=σ) (i:=j) (by rw[hF.len];exact hj1);rw[<- e]at h2;exact mT hF.nd h1 h2
 exact⟨(yX hi hemb hinj hF.obb).anti fun b hb=>⟨hi.bsz b hb,fun i g hg e=>(hi.new _ g b (hemb.gbox hg) e).1 hb⟩,AV.down hemb hv (hF.argb r (ani ..))⟩
def ajV (ti:TI)(rs:List ResultVar)(L1:List Ob)(r:AV)(T:Tm)(L:List Ob):Prop :=∃ σ,lL ti rs T L (r.ren σ)/\eQ σ L1 [r] L
theorem mv_nil {R R':PH}{γ:List Gh}{L:List Ob}(h:PH.sub R R'):Mv R R' [] γ [] L :=
 ⟨h,amR _,fun t n k hlt _=>by simp at hlt,fun t v es k hlt _=>by simp at hlt,fun i b e=>by simp at e⟩
theorem wA {P : Program} {ti : TI} {N : Nat} (hti : TIok P ti) {f : FuncId} {fn : Func} {c : Code} {args : List AV} {L1 : List Ob} {r : AV} (hf : P.funcs[f]? = some fn) (hb : fn.body = some c) (hname : (fn.name == "runtime.NumGoroutine") = false) (hN : fn.ntmps = N) (hlen : args.length <= N)
  (h:r9 Fence.wide P true N 0 (fun _ _ _=>True) c (fun x T L=>(x = .normal\/x = .ret)/\ajV ti fn.results.toList L1 r T L) (dN 0 args) []):Run P f [] args L1 r:=by
 refine⟨⟨fn,hf,by rw[hb];rfl,hname⟩,fun B R γ w vs hi hs hv=>?_⟩;refine(callsIn_wide (n:=0)).1 (callsIn_of_wp_marks hf hb trivial ?_);have hT:cg N R γ [] (dN 0 args) { tmps:=vs++Array.replicate (fn.ntmps-vs.size) Go.undef,defers:=[] } :=by
  refine⟨by simp;omega,rfl,fun t x ht=>?_⟩;obtain⟨h1,_⟩:=dO args 0 t x ht;rw[Nat.sub_zero]at h1;have hlt:t<vs.size:=by rw[hs];exact(amw.1 h1).1
  have hu:vs[t]?=some vs[t]:=amV hlt;exact⟨vs[t],by rw[Array.getElem?_append_left hlt];exact hu,hv t _ x hu h1⟩
 refine wpIn_mono (h (amR _) w.heap.size B R γ w _ trivial hi hT ⟨fun _=>rfl,amM _,List.nodup_nil,fun d h=>by cases h⟩) ?_;rintro e a' w' ⟨x,T',L',R',γ',B',rfl,⟨hx,σ,hres,hF⟩,hB,i1,t1,d1,e1,m1⟩;have hg0:γ=[]:=amW hi.len;have key:=qn (Rr:=fun e w' =>∃ v R' γ',e = .returned v/\Inv B R' γ' L1 w'/\Ext B R R' w w'/\Mv R R' γ γ' [] L1/\r.rep R' γ' L1 v) (fn:=fn) (tmps:=a'.tmps) (P:=P) hi.bsz a'.defers w' i1 d1 e1 (fun w'' i2 e2=>by
  obtain⟨v,h1,h2⟩:=lL.sound (fn:=fn) hti i2 t1 hres;obtain⟨j1,j2⟩:=aaz i2 hF h2;exact⟨v,h1,v,R',_,rfl,j1.anti hB,e2,by rw[hg0];exact mv_nil e2.sub,j2⟩)
 rcases hx with rfl|rfl
 ·exact key
 ·exact key
theorem yx {P : Program} {ti : TI} {N : Nat} (hti : TIok P ti) {f : FuncId} {fn : Func} {c : Code} {args : List AV} {Post : List Ob -> AV -> Prop} (hf : P.funcs[f]? = some fn) (hb : fn.body = some c) (hname : (fn.name == "runtime.NumGoroutine") = false) (hN : fn.ntmps = N) (hlen : args.length <= N)
  (h:Aw P N 0 c (fun x T L=>(x = .normal\/x = .ret) /\ ∃ L1 r,Post L1 r/\ajV ti fn.results.toList L1 r T L) (dN 0 args) []):abh P f [] args Post:=by
 refine⟨⟨fn,hf,by rw[hb];rfl,hname⟩,fun B R γ w vs hi hs hv=>?_⟩;refine calls_of_wp hf hb ?_;have hT:cg N R γ [] (dN 0 args) { tmps:=vs++Array.replicate (fn.ntmps-vs.size) Go.undef,defers:=[] } :=by
  refine⟨by simp;omega,rfl,fun t x ht=>?_⟩;obtain⟨h1,_⟩:=dO args 0 t x ht;rw[Nat.sub_zero]at h1;have hlt:t<vs.size:=by rw[hs];exact(amw.1 h1).1
  have hu:vs[t]?=some vs[t]:=amV hlt;exact⟨vs[t],by rw[Array.getElem?_append_left hlt];exact hu,hv t _ x hu h1⟩
 refine wp_mono (h (amR _) B R γ w _ hi hT) ?_;rintro e a' w' ⟨x,T',L',R',γ',rfl,⟨hx,L1,r,hpost,σ,hres,hF⟩,i1,t1,e1,m1⟩;have hg0:γ=[]:=amW hi.len;obtain⟨v,h1,h2⟩:=lL.sound hti i1 t1 hres;obtain⟨j1,j2⟩:=aaz i1 hF h2;rcases hx with rfl|rfl
 ·exact⟨t1.defers,v,h1,L1,r,v,R',_,hpost,rfl,j1,e1,by rw[hg0];exact mv_nil e1.sub,j2⟩
 ·exact⟨t1.defers,v,h1,L1,r,v,R',_,hpost,rfl,j1,e1,by rw[hg0];exact mv_nil e1.sub,j2⟩
theorem afl {P:Program}{f:FuncId}{L0 L1:List Ob}{args:List AV}{r:AV}(h:abh P f L0 args (fun L r'=>L=L1/\r'=r)):Run P f L0 args L1 r:=by
 refine⟨h.1,fun B R γ w vs hi hs hv=>(h.2 B R γ w vs hi hs hv).mono ?_⟩;rintro e w' ⟨L,r',v,R',γ',⟨rfl,rfl⟩,h1⟩;exact⟨v,R',γ',h1⟩
theorem abT {R:PH}{γ:List Gh}{L:List Ob}{id:Nat}{cs cs':List SV}(hid:L[id]?=some (.box cs)):Mv R R γ γ L (L.set id (.box cs')):=by
 have hlt:=(amw.1 hid).1;refine⟨PH.sub_refl _,m5,fun t n k' hlt' e=>⟨n,?_,amM _,fun _=>rfl⟩,fun t ver es0 k' hlt' e=>⟨ver,es0,?_,amM _,fun _=>⟨rfl,rfl⟩⟩,fun i b e=>e⟩
 ·have hne:t≠id:=by rintro rfl;rw[amP hlt']at e;cases e
  rw[amQ (Ne.symm hne)]at e;exact e
 ·have hne:t≠id:=by rintro rfl;rw[amP hlt']at e;cases e
  rw[amQ (Ne.symm hne)]at e;exact e
section
variable {F:Fence} {P:Program} {D:Bool} {N n0:Nat} {Φ:(Nat->Prop)->List Gh->World->Prop} {Q:AX->Tm->List Ob->Prop} {T T':Tm} {L L':List Ob} {c:Code}
theorem gO.normBox (id:Nat){cs:List SV}{ts:List AC}(hid:L[id]?=some (.box cs))(hn:fE cs=some ts):gO N n0 T L T (L.set id (.box (ts.map SV.c))):=fun hn0 =>
 ⟨by simpa using hn0,fun B R γ w a hi hT=>by
  have hlt:=(amw.1 hid).1;have hm:Mv R R γ γ L (L.set id (.box (ts.map SV.c))):=abT hid;refine⟨R,γ,⟨by simp[hi.len],hi.val,fun i y g hy hg=>?_,hi.inj,hi.new,hi.bsz⟩,hT.mv hm,Ext.refl _ _ _,fP.of hn0 hm⟩;by_cases hii:i=id
  ·subst hii
   rw[amP hlt]at hy;injection hy with hy;subst hy
   have hob:=hi.obj i _ _ hid hg
   match g,hob with
   |.box b,⟨⟨vs,E,h1,h2,h3⟩,h4⟩ =>
    refine⟨⟨vs,E,h1,by rw[h2,amI,dF hn],fun q u x hu hx=>?_⟩,h4⟩;rw[amT]at hx
    cases hq:ts[q]? with
    |none=>rw[hq]at hx;cases hx
    |some y =>
     rw[hq]at hx;cases hx;have hql:q<cs.length:=by rw[<- dF hn];exact(amw.1 hq).1
     exact SV.norm_rep (h3 q u _ hu (amF hql)) (hY hn q _ y (amF hql) hq)
  ·rw[amQ (Ne.symm hii)]at hy
   exact(hi.obj i y g hy hg).mv hm (fun _ _=>rfl) (fun _ _ _ h=>h)⟩
theorem gO.tokBox (id j k:Nat){cs:List SV}(hid:L[id]?=some (.box cs))(hj:cs[j]?=some .emp):gO N n0 T L T (L.set id (.box (cs.set j (.own [] L.length)))++[.spare 0 k]):=fun hn0 =>
 ⟨by simp;omega,I5 id j k hid hj hn0⟩
theorem gO.fit (hn1:n0<=L'.length)(hf:Fits T L T' L'):gO N n0 T L T' L':=fun hn0=>⟨hn1,Jj hn1 hf hn0⟩
theorem gg (hΦ:yT n0 Φ)(g:gO N n0 T L T' L')(h:r9 F P D N n0 Φ c Q T' L'):r9 F P D N n0 Φ c Q T L:=JU hΦ (fun hn=>(g hn).2) h
theorem aen (g:gO N n0 T L T' L')(h:Aw P N n0 c Q T' L'):Aw P N n0 c Q T L:=by
 intro hn B R γ w a hi hT;obtain⟨R1,γ1,i1,t1,e1,m1⟩:=(g hn).2 B R γ w a hi hT;exact wp_mono (h m1.lo' B R1 γ1 w a i1 t1) fun _ _ _ hh=>hh.ext e1 hi.len m1
end
