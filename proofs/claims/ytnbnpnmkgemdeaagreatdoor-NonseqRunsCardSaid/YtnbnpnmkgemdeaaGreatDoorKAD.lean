/- Parts. No condition. -/
import Derived.Test.YtnbnpnmkgemdeaaGreatDoorKAC
import Derived.MapFrom
import Derived.Laws.MakeOwn
import Derived.Lib.UnsafeStr
import Derived.Lib.Builder
set_option linter.unusedSimpArgs false
set_option linter.unusedVariables false
namespace Go.Proofs.YtnbnpnmkgemdeaaGreatDoor
open Go.RowKit Go.MapKept
def fF (s:ByteArray):List (AC×AV)->Option Nat
 |[]=>none
 |p::r=>match p.1 with
  |.str t=>if s=t then some 0 else(fF s r).map (· +1)
  |_=>(fF s r).map (· +1)
def strKeys (PQ:List (AC×AV)):Prop :=∀ p∈PQ,∃ t,p.1 = .str t
def mO (PQ:List (AC×AV))(s:ByteArray)(z:AV):AV :=
 match fF s PQ with
 |some i=>match PQ[i]? with
  |some p=>p.2
  |none=>z
 |none=>z
def xL (PQ:List (AC×AV))(s:ByteArray)(v:AV):List (AC×AV) :=
 match fF s PQ with
 |some i=>PQ.set i (.str s,v)
 |none=>PQ++[(.str s,v)]
def FM (PQ:List (AC×AV))(s:ByteArray):Nat :=
 match fF s PQ with
 |some i=>i
 |none=>PQ.length
section
variable {P:Program} {ti:TI} {B:Nat->Prop} {N:Nat} {R:PH} {γ:List Gh} {L:List Ob} {w:World} {ρ:Operand->Option AV}
theorem rq {s:ByteArray}:∀ {PQ:List (AC×AV)} {i:Nat},fF s PQ=some i ->∃ p,PQ[i]?=some p/\p.1 = .str s
 |p::r,i,h=>by
  unfold fF at h;split at h
  .rename_i t ht
   split at h
   .rename_i e;injection h with h;subst h e;exact⟨p,rfl,ht⟩
   .cases hr:fF s r with
    |none=>simp[hr]at h
    |some j=>simp[hr]at h;subst h;obtain⟨q,h1,h2⟩:=rq hr;exact⟨q,by simpa using h1,h2⟩
  .cases hr:fF s r with
   |none=>simp[hr]at h
   |some j=>simp[hr]at h;subst h;obtain⟨q,h1,h2⟩:=rq hr;exact⟨q,by simpa using h1,h2⟩
theorem mQ {s:ByteArray}:∀ (l:List MapEntry) (PQ:List (AC×AV)) (i0:Nat),l.length=PQ.length->strKeys PQ->(∀ (j:Nat) e p,l[j]?=some e->PQ[j]?=some p->bK R e.key p.1) ->
  (fF s PQ=none/\Instr.findNow .string (.string s) l i0=some none)\/(∃ i e,fF s PQ=some i/\l[i]?=some e/\e.key = .string s/\Instr.findNow .string (.string s) l i0=some (some (i0+i,e.val)))
 |[],[],i0,_,_,_ => .inl ⟨rfl,rfl⟩
 |e::l,p::PQ,i0,hl,hs,hr=>by
  obtain⟨t,ht⟩:=hs p m5;have hk:=hr 0 e p rfl rfl;rw[ht]at hk;generalize US:e.key=ek at hk
  cases hk;unfold fF Instr.findNow;simp only[ht,US,Instr.sameNow];by_cases e1:s=t
  .subst e1
   refine .inr ⟨0,e,m5,rfl,US,?_⟩;have:(s==s)=true:=(bytes_beq s s).2 rfl;simp[this]
  .have:(s==t)=false:=by
    cases hb:(s==t)with
    |false=>rfl
    |true=>exact absurd ((bytes_beq s t).1 hb) e1
   simp only[this,e1,if_false];rcases mQ l PQ (i0+1) (by simpa using hl) (λq hq=>hs q (aid _ hq)) (λj e' q h1 h2=>hr (j+1) e' q (by simpa using h1) (by simpa using h2))with⟨h1,h2⟩|⟨i,e',h1,h2,h3,h4⟩
   .exact .inl ⟨by simp[h1],h2⟩
   .exact .inr ⟨i+1,e',by simp[h1],by simpa using h2,h3,by rw[h4];simp;omega⟩
theorem gR {t:TypeId}:nA P ρ L (.makeMap t none) (.one (.mp L.length)) (L++[.map []]):=by
 intro B R γ w ev o ho hi hρ RN;obtain⟨dst,op,type,pos,after,guard⟩:=o;simp only at ho;subst ho;refine⟨w.alloc (.map #[] 0),R,γ++[.box w.heap.size],.inl ⟨.map (some w.heap.size),?_,w.heap.size,rfl,?_⟩,?_,⟨Kept.alloc hi.bsz _,PH.sub_refl _,λ_ _ _=>rfl⟩,Mv.push _ _ hi.len⟩
 .simp[execOp,Instr.makeMap]
 .rw[ahY (by rw[hi.len];omega),hi.len];simp
 .exact hi.push _ _ _ rfl ⟨⟨#[],di w _,rfl,λj e p he _=>by simp at he⟩,λo=>hi.none_at o⟩
theorem Mv.turnMap {id:Nat}{PQ kvs':List (AC×AV)}(hL:L[id]?=some (.map PQ)):Mv R R γ γ L (L.set id (.map kvs')):=by
 have O8:id<L.length:=(ahR.1 hL).1;refine⟨PH.sub_refl _,m5,λt n k _ h=>⟨n,?_,ah7 _,λ_=>rfl⟩,λt O9 es k _ h=>⟨O9,es,?_,ah7 _,λ_=>⟨rfl,rfl⟩⟩,λ_ _ h=>h⟩
 .by_cases e:t=id
  .subst e;rw[ah_ O8]at h;cases h
  .rw[ah' (Ne.symm e)]at h;exact h
 .by_cases e:t=id
  .subst e;rw[ah_ O8]at h;cases h
  .rw[ah' (Ne.symm e)]at h;exact h
theorem Aq (hi:Inv B R γ L w){id b:Nat}{PQ:List (AC×AV)}(hL:L[id]?=some (.map PQ))(hg:γ[id]?=some (.box b)) :
  (∃ es,w.heap[b]?=some (.map es es.size)/\es.size=PQ.length /\ ∀ (j:Nat) e p,es[j]?=some e->PQ[j]?=some p->e.born=j/\bK R e.key p.1/\p.2.rep R γ L e.val):=(hi.obj id _ _ hL hg).1
theorem pW (hi:Inv B R γ L w){id b:Nat}{PQ kvs':List (AC×AV)}{es:Array MapEntry}(hL:L[id]?=some (.map PQ))(hg:γ[id]?=some (.box b))(hb:w.heap[b]?=some (.map es es.size))(Ql:Array MapEntry)(hs:Ql.size=kvs'.length)
  (h:∀ (j:Nat) e p,Ql[j]?=some e->kvs'[j]?=some p->e.born=j/\bK R e.key p.1/\p.2.rep R γ L e.val) :
  Inv B R γ (L.set id (.map kvs')) { w with heap:=w.heap.setIfInBounds b (.map Ql Ql.size) } /\ Ext B R R w { w with heap:=w.heap.setIfInBounds b (.map Ql Ql.size) } :=by
 have hh:=Go.MapKept.heap_set (o' := .map Ql Ql.size) hb;have hm:=Mv.turnMap (R:=R) (γ:=γ) (kvs':=kvs') hL;have VB:=(hi.new id _ b hg rfl).1;have hR:∀ o,R b o=none:=(hi.obj id _ _ hL hg).2;refine⟨hi.turn hL hg rfl hm (λb' PE=>hh.2 b' PE) m5 (λ_ _ _=>rfl) (λo u e=>by rw[hR o]at e;cases e) ⟨⟨Ql,hh.1,hs,λj e p he hp=>?_⟩,hR⟩,⟨⟨rfl,rfl,rfl,m5,λb' Ry=>hh.2 b' (λe=>VB (by rw[<- e];exact Ry))⟩,PH.sub_refl _,λ_ _ _=>rfl⟩⟩;obtain⟨a1,a2,a3⟩:=h j e p he hp;exact⟨a1,a2,AV.mv hm a3⟩
theorem qx {et:TypeId}{z:AV}(hz:zeroOf P et=some z):∃ u,(zeroValue et).run P w = .ok u w/\z.rep R γ L u:=by
 unfold zeroOf at hz
 cases Qa:P.info? et with
 |none=>simp[Qa]at hz
 |some inf =>
  simp only[Qa,ahQ]at hz
  cases Tc:inf.zero with
  |none=>simp[Tc]at hz
  |some u =>
   simp only[Tc,ahQ]at hz;exact⟨u,by simp[zeroValue,typeInfo,program,Sem.run,Qa,Tc],AV.ofVal_rep hz⟩
theorem tM {t kt et:TypeId}{x k:Operand}{s:ByteArray}{id:Nat}{PQ:List (AC×AV)}{z:AV}(hx:ρ x=some (.one (.mp id)))(hk:ρ k=some (.one (.c (.str s))))(hL:L[id]?=some (.map PQ))(TO:strKeys PQ)
  (ht:P.underlying t=some (.map kt et)) (Tt:P.underlying kt=some .string) (hz:zeroOf P et=some z):nA P ρ L (.lookup t x k false) (mO PQ s z) L:=by
 intro B R γ w ev o ho hi hρ RN;obtain⟨dst,op,type,pos,after,guard⟩:=o;simp only at ho;subst ho;obtain⟨b,UV,hg⟩:=(hρ _ (by simp[Op.operands,Call.operands]) _ hx);have UY:=(hρ _ (by simp[Op.operands,Call.operands]) _ hk);generalize Vp:ev k=kv at UY
 cases UY;obtain⟨es,hb,Qf,Q0⟩:=Aq hi hL hg;have TP:=λe=>Go.MapKept.run_checkKey (P:=P) (w:=w) (k := .string s) Tt trivial e 9999
 obtain⟨zu,ZO,Ur⟩:=qx (P:=P) (w:=w) (R:=R) (γ:=γ) (L:=L) hz;rcases mQ (R:=R) (s:=s) es.toList PQ 0 (by simpa using Qf) TO (λj e p he hp=>(Q0 j e p (by simpa using he) hp).2.1)with⟨h1,h2⟩|⟨i,e,h1,h2,h3,h4⟩
 .refine⟨w,R,γ,.inl ⟨zu,?_,?_⟩,hi,Ext.refl _ _ _,Mv.refl⟩
  .simp[execOp,Instr.lookup,UV,Vp,run_underlying ht,Go.MapKept.run_getObj_map hb,TP,Go.MapKept.run_findKey Tt h2,ZO,Result.andThen]
  .unfold mO;rw[h1];exact Ur
 .obtain⟨p,hp,hp1⟩:=rq h1
  refine⟨w,R,γ,.inl ⟨e.val,?_,?_⟩,hi,Ext.refl _ _ _,Mv.refl⟩
  .simp[execOp,Instr.lookup,UV,Vp,run_underlying ht,Go.MapKept.run_getObj_map hb,TP,Go.MapKept.run_findKey Tt h4,Result.andThen]
  .unfold mO;rw[h1];simp only[hp];exact(Q0 i e p (by simpa using h2) hp).2.2
theorem m7 {v:AV}{p:PV}{u:Value}(h:v.norm=some p)(hu:v.rep R γ L u):p.rep R u:=AV.norm_rep hu h
theorem acu {p q:PV}{u v:Value}(hp:p.rep R u)(hq:q.rep R v):(AV.tup [p,q]).rep R γ L (.tuple #[u,v]):=by
 refine⟨#[u,v],rfl,rfl,λj x y hx hy=>?_⟩
 match j,hx,hy with
 |0,hx,hy=>simp at hx hy;subst hx hy;exact hp
 |1,hx,hy=>simp at hx hy;subst hx hy;exact hq
 |j+2,hx,hy=>simp at hx
theorem sn {t kt et:TypeId}{x k:Operand}{s:ByteArray}{id:Nat}{PQ:List (AC×AV)}{z:AV}{p:PV}(hx:ρ x=some (.one (.mp id)))(hk:ρ k=some (.one (.c (.str s))))(hL:L[id]?=some (.map PQ))(TO:strKeys PQ)
  (ht:P.underlying t=some (.map kt et)) (Tt:P.underlying kt=some .string) (hz:zeroOf P et=some z) (hp:(mO PQ s z).norm=some p):nA P ρ L (.lookup t x k true) (.tup [p,.one (.bool (fF s PQ).isSome)]) L:=by
 intro B R γ w ev o ho hi hρ RN;obtain⟨dst,op,type,pos,after,guard⟩:=o;simp only at ho;subst ho;obtain⟨b,UV,hg⟩:=(hρ _ (by simp[Op.operands,Call.operands]) _ hx);have UY:=(hρ _ (by simp[Op.operands,Call.operands]) _ hk);generalize Vp:ev k=kv at UY
 cases UY;obtain⟨es,hb,Qf,Q0⟩:=Aq hi hL hg;have TP:=λe=>Go.MapKept.run_checkKey (P:=P) (w:=w) (k := .string s) Tt trivial e 9999
 obtain⟨zu,ZO,Ur⟩:=qx (P:=P) (w:=w) (R:=R) (γ:=γ) (L:=L) hz;rcases mQ (R:=R) (s:=s) es.toList PQ 0 (by simpa using Qf) TO (λj e p he hp=>(Q0 j e p (by simpa using he) hp).2.1)with⟨h1,h2⟩|⟨i,e,h1,h2,h3,h4⟩
 .refine⟨w,R,γ,.inl ⟨.tuple #[zu,.bool false],?_,?_⟩,hi,Ext.refl _ _ _,Mv.refl⟩
  .simp[execOp,Instr.lookup,UV,Vp,run_underlying ht,Go.MapKept.run_getObj_map hb,TP,Go.MapKept.run_findKey Tt h2,ZO,Result.andThen]
  .unfold mO at hp;rw[h1]at hp ⊢;exact acu (m7 hp Ur) (.bool false)
 .obtain⟨q,hq,VN⟩:=rq h1
  refine⟨w,R,γ,.inl ⟨.tuple #[e.val,.bool true],?_,?_⟩,hi,Ext.refl _ _ _,Mv.refl⟩
  .simp[execOp,Instr.lookup,UV,Vp,run_underlying ht,Go.MapKept.run_getObj_map hb,TP,Go.MapKept.run_findKey Tt h4,Result.andThen]
  .unfold mO at hp;rw[h1]at hp ⊢;simp only[hq]at hp;exact acu (m7 hp (Q0 i e q (by simpa using h2) hq).2.2) (.bool true)
theorem tg {es:Array MapEntry}{i j:Nat}{f:MapEntry->MapEntry}{e:MapEntry}(h:(es.modify i f)[j]?=some e):∃ e0,es[j]?=some e0/\e=if j=i then f e0 else e0:=by
 rw[Array.getElem?_modify]at h;split at h
 .rename_i e1;subst e1
  cases h0:es[i]? with
  |none=>simp[h0]at h
  |some e0=>simp[h0]at h;exact⟨e0,rfl,by simp[h]⟩
 .rename_i PE;exact⟨e,h,by rw[if_neg (Ne.symm PE)]⟩
theorem IJ {es:Array MapEntry}{PQ:List (AC×AV)}(Qf:es.size=PQ.length)(Q0:∀ (j:Nat) e p,es[j]?=some e->PQ[j]?=some p->e.born=j/\bK R e.key p.1/\p.2.rep R γ L e.val){key val:Value}{kx:AC}{v:AV}(hk:bK R key kx)(hv:v.rep R γ L val) :
  ∀ (j:Nat) e p,(es.push { key,val,born:=es.size })[j]?=some e->(PQ++[(kx,v)])[j]?=some p->e.born=j/\bK R e.key p.1/\p.2.rep R γ L e.val:=by
 intro j e p he hp;by_cases hj:j<es.size
 .rw[Array.getElem?_push_lt hj]at he
  rw[ah5 m0]at hp;exact Q0 j e p (by rw[aie hj];exact he) hp
 .have Xq:j=es.size:=by
   have:=(aiy.1 he).1;simp at this;omega
  subst Xq;rw[Array.getElem?_push_size]at he;rw[ahY m0,Qf]at hp;simp at he hp;subst he hp;exact⟨rfl,hk,hv⟩
theorem mf {t kt et:TypeId}{x k y:Operand}{s:ByteArray}{id:Nat}{PQ:List (AC×AV)}{v:AV}(hx:ρ x=some (.one (.mp id)))(hk:ρ k=some (.one (.c (.str s))))(hy:ρ y=some v)(hL:L[id]?=some (.map PQ))(TO:strKeys PQ)
  (ht:P.underlying t=some (.map kt et)) (Tt:P.underlying kt=some .string):nA P ρ L (.mapUpdate t x k y) .undef (L.set id (.map (xL PQ s v))):=by
 intro B R γ w ev o ho hi hρ RN;obtain⟨dst,op,type,pos,after,guard⟩:=o;simp only at ho;subst ho;obtain⟨b,UV,hg⟩:=(hρ _ (by simp[Op.operands,Call.operands]) _ hx);have UY:=(hρ _ (by simp[Op.operands,Call.operands]) _ hk);have Zh:=(hρ _ (by simp[Op.operands,Call.operands]) _ hy);generalize Vp:ev k=kv at UY;generalize hye:ev y=yv at Zh
 cases UY;obtain⟨es,hb,Qf,Q0⟩:=Aq hi hL hg;have TP:=λe=>Go.MapKept.run_checkKey (P:=P) (w:=w) (k := .string s) Tt trivial e 9999
 rcases mQ (R:=R) (s:=s) es.toList PQ 0 (by simpa using Qf) TO (λj e p he hp=>(Q0 j e p (by simpa using he) hp).2.1)with⟨h1,h2⟩|⟨i,e,h1,h2,h3,h4⟩
 .obtain⟨i1,i2⟩:=pW hi (kvs':=PQ++[(.str s,v)]) hL hg hb (es.push { key := .string s,val:=yv,born:=es.size }) (by simp[Qf]) (IJ Qf Q0 (.str s) Zh)
  refine⟨_,R,γ,.inr ⟨?_,rfl⟩,?_,i2,Mv.turnMap hL⟩
  .simp[execOp,Instr.mapUpdate,UV,Vp,hye,run_underlying ht,Go.MapKept.run_getObj_map hb,TP,Go.MapKept.run_findKey Tt h2,Go.MapKept.run_setObj_map _ hb,Result.andThen]
  .unfold xL;rw[h1];exact i1
 .have hj:es[i]?=some e:=by simpa using h2
  obtain⟨p,hp,hp1⟩:=rq h1;obtain⟨i1,i2⟩:=pW hi (kvs':=PQ.set i (.str s,v)) hL hg hb (es.modify i λe =>{ e with key := .string s,val:=yv }) (by simp[Qf]) (λj e' p' S3 Us=>by
   obtain⟨e0,h5,h6⟩:=tg S3;by_cases VA:j=i
   .subst VA
    rw[ah_ (ahR.1 hp).1]at Us;injection Us with Us;subst Us
    rw[if_pos rfl]at h6;subst h6;exact⟨(Q0 j e0 p h5 hp).1,.str s,Zh⟩
   .rw[ah' (Ne.symm VA)]at Us
    rw[if_neg VA]at h6;subst h6;exact Q0 j _ p' h5 Us)
  rw[Array.size_modify]at i1 i2;refine⟨_,R,γ,.inr ⟨?_,rfl⟩,?_,i2,Mv.turnMap hL⟩
  .simp[execOp,Instr.mapUpdate,UV,Vp,hye,run_underlying ht,Go.MapKept.run_getObj_map hb,TP,Go.MapKept.run_findKey Tt h4,hj,h3,run_keyThatStays (d := .string) (k := .string s) trivial,Go.MapKept.run_setObj_map _ hb,Result.andThen]
  .unfold xL;rw[h1];exact i1
theorem Fg {t kt et:TypeId}{x k:Operand}{s:ByteArray}{id:Nat}{PQ:List (AC×AV)}{z:AV}{p:PV}(hx:ρ x=some (.one (.mp id)))(hk:ρ k=some (.one (.c (.str s))))(hL:L[id]?=some (.map PQ))(TO:strKeys PQ)
  (ht:P.underlying t=some (.map kt et)) (Tt:P.underlying kt=some .string) (hz:zeroOf P et=some z) (hp:(mO PQ s z).norm=some p):nA P ρ L (.mapEntry t x k) (.tup [p,.one (.int .i64 (FM PQ s))]) (L.set id (.map (xL PQ s (mO PQ s z)))):=by
 intro B R γ w ev o ho hi hρ RN;obtain⟨dst,op,type,pos,after,guard⟩:=o;simp only at ho;subst ho;obtain⟨b,UV,hg⟩:=(hρ _ (by simp[Op.operands,Call.operands]) _ hx);have UY:=(hρ _ (by simp[Op.operands,Call.operands]) _ hk);generalize Vp:ev k=kv at UY
 cases UY;obtain⟨es,hb,Qf,Q0⟩:=Aq hi hL hg;have TP:=λe=>Go.MapKept.run_checkKey (P:=P) (w:=w) (k := .string s) Tt trivial e 9999
 obtain⟨zu,ZO,Ur⟩:=qx (P:=P) (w:=w) (R:=R) (γ:=γ) (L:=L) hz;rcases mQ (R:=R) (s:=s) es.toList PQ 0 (by simpa using Qf) TO (λj e p he hp=>(Q0 j e p (by simpa using he) hp).2.1)with⟨h1,h2⟩|⟨i,e,h1,h2,h3,h4⟩
 .obtain⟨i1,i2⟩:=pW hi (kvs':=PQ++[(.str s,z)]) hL hg hb (es.push { key := .string s,val:=zu,born:=es.size }) (by simp[Qf]) (IJ Qf Q0 (.str s) Ur)
  have Tf:mO PQ s z=z:=by unfold mO;rw[h1]
  rw[Tf]at hp ⊢;refine⟨_,R,γ,.inl ⟨.tuple #[zu,.int .i64 es.size],?_,?_⟩,?_,i2,Mv.turnMap hL⟩
  .simp[execOp,Instr.mapEntry,UV,Vp,run_underlying ht,Go.MapKept.run_getObj_map hb,TP,Go.MapKept.run_findKey Tt h2,ZO,Go.MapKept.run_setObj_map _ hb,Result.andThen,goInt]
  .refine acu (m7 hp Ur) ?_
   unfold FM;rw[h1,<- Qf];exact .int _ _
  .unfold xL;rw[h1];exact i1
 .have hj:es[i]?=some e:=by simpa using h2
  obtain⟨q,hq,VN⟩:=rq h1;have Tf:mO PQ s z=q.2:=by unfold mO;rw[h1];simp only[hq]
  have X_:=Q0 i e q hj hq;rw[Tf]at hp ⊢;obtain⟨i1,i2⟩:=pW hi (kvs':=PQ.set i (.str s,q.2)) hL hg hb (es.modify i λe =>{ e with key := .string s }) (by simp[Qf]) (λj e' p' S3 Us=>by
   obtain⟨e0,h5,h6⟩:=tg S3;by_cases VA:j=i
   .subst VA
    rw[ah_ (ahR.1 hq).1]at Us;injection Us with Us;subst Us
    rw[if_pos rfl]at h6;subst h6;exact⟨(Q0 j e0 q h5 hq).1,.str s,(Q0 j e0 q h5 hq).2.2⟩
   .rw[ah' (Ne.symm VA)]at Us
    rw[if_neg VA]at h6;subst h6;exact Q0 j _ p' h5 Us)
  rw[Array.size_modify]at i1 i2;refine⟨_,R,γ,.inl ⟨.tuple #[e.val,.int .i64 i],?_,?_⟩,?_,i2,Mv.turnMap hL⟩
  .simp[execOp,Instr.mapEntry,UV,Vp,run_underlying ht,Go.MapKept.run_getObj_map hb,TP,Go.MapKept.run_findKey Tt h4,hj,h3,run_keyThatStays (d := .string) (k := .string s) trivial,Go.MapKept.run_setObj_map _ hb,Result.andThen,goInt,X_.1]
  .refine acu (m7 hp X_.2.2) ?_
   unfold FM;rw[h1];exact .int _ _
  .unfold xL;rw[h1];exact i1
theorem find_born {es:Array MapEntry}(h:∀ (j:Nat) e,es[j]?=some e->e.born=j){i:Nat}(hi:i<es.size):es.findIdx? (λe=>(e.born:Int)==(i:Int))=some i:=by
 rw[Array.findIdx?_eq_some_iff_getElem];refine⟨hi,?_,λj hj=>?_⟩
 .have:=h i es[i] (aie hi)
  simp[this]
 .have:=h j es[j] (aie m0)
  simp[this];omega
theorem zL {t:TypeId}{x k y:Operand}{id i:Nat}{PQ:List (AC×AV)}{q:AC×AV}{v:AV}(hx:ρ x=some (.one (.mp id)))(hk:ρ k=some (.one (.c (.int .i64 i))))(hy:ρ y=some v)(hL:L[id]?=some (.map PQ))(hq:PQ[i]?=some q) :
  nA P ρ L (.entryStore t x k y) .undef (L.set id (.map (PQ.set i (q.1,v)))):=by
 intro B R γ w ev o ho hi hρ RN;obtain⟨dst,op,type,pos,after,guard⟩:=o;simp only at ho;subst ho;obtain⟨b,UV,hg⟩:=(hρ _ (by simp[Op.operands,Call.operands]) _ hx);have UY:=(hρ _ (by simp[Op.operands,Call.operands]) _ hk);have Zh:=(hρ _ (by simp[Op.operands,Call.operands]) _ hy);generalize Vp:ev k=kv at UY;generalize hye:ev y=yv at Zh
 cases UY;obtain⟨es,hb,Qf,Q0⟩:=Aq hi hL hg;have O8:=(ahR.1 hq).1;have hfi:=find_born (es:=es) (λj e he=>by
  have:j<PQ.length:=by rw[<- Qf];exact(aiy.1 he).1
  exact(Q0 j e _ he (ah0 this)).1) (i:=i) m0
 obtain⟨i1,i2⟩:=pW hi (kvs':=PQ.set i (q.1,v)) hL hg hb (es.modify i λe =>{ e with val:=yv }) (by simp[Qf]) (λj e' p' S3 Us=>by
   obtain⟨e0,h5,h6⟩:=tg S3;by_cases VA:j=i
   .subst VA
    rw[ah_ O8]at Us;injection Us with Us;subst Us
    rw[if_pos rfl]at h6;subst h6;exact⟨(Q0 j e0 q h5 hq).1,(Q0 j e0 q h5 hq).2.1,Zh⟩
   .rw[ah' (Ne.symm VA)]at Us
    rw[if_neg VA]at h6;subst h6;exact Q0 j _ p' h5 Us)
 rw[Array.size_modify]at i1 i2;refine⟨_,R,γ,.inr ⟨?_,rfl⟩,i1,i2,Mv.turnMap hL⟩;simp[execOp,Instr.entryStore,UV,Vp,hye,Go.MapKept.run_getObj_map hb,asInt,asIntOf,hfi,Go.MapKept.run_setObj_map _ hb,Result.andThen]
def capOf:AV->Option Cap
 |.one (.c x)=>some (.c x)
 |.one (.ptr id off)=>some (.ptr id off)
 |v=>match v.norm with
  |some (.one x)=>some (.c x)
  |_=>none
def uU (ρ:Operand->Option AV):List Operand->Option (List Cap)
 |[]=>some []
 |x::xs=>match (ρ x).bind capOf,uU ρ xs with
  |some c,some cs=>some (c::cs)
  |_,_=>none
theorem Nu {v:AV}{c:Cap}{u:Value}(h:capOf v=some c)(hu:v.rep R γ L u):c.rep R γ u:=by
 unfold capOf at h;split at h
 .injection h with h;subst h;exact hu
 .injection h with h;subst h;exact hu
 .split at h
  .rename_i x hx;injection h with h;subst h;exact m7 hx hu
  .cases h
theorem xw {ev:Operand->Value}:∀ {xs:List Operand} {cs:List Cap},(∀ x,x∈xs ->∀ v,ρ x=some v->v.rep R γ L (ev x))->uU ρ xs=some cs->xs.length=cs.length /\ ∀ (j:Nat) x c,xs[j]?=some x->cs[j]?=some c->c.rep R γ (ev x)
 |[],cs,_,h=>by injection h with h;subst h;exact⟨rfl,λj x c h=>by simp at h⟩
 |x::xs,cs,hρ,h=>by
  unfold uU at h;split at h
  .rename_i c S4 hc Vl
   injection h with h;subst h
   obtain⟨h1,h2⟩:=xw (λy hy=>hρ y (aid _ hy)) Vl;refine⟨by simp[h1],λj y d hy hd=>?_⟩
   cases j with
   |zero =>
    simp at hy hd;subst hy hd
    cases hx:ρ x with
    |none=>simp[hx]at hc
    |some v=>simp[hx]at hc;exact Nu hc (hρ x m5 _ hx)
   |succ j=>exact h2 j y d (by simpa using hy) (by simpa using hd)
  .cases h
theorem oz {f:FuncId}{captured:Array Operand}{Pz:List Cap}(hc:uU ρ captured.toList=some Pz):nA P ρ L (.makeFunc (.func f) #[] captured) (.one (.clo f Pz)) L:=by
 intro B R γ w ev o ho hi hρ RN;obtain⟨dst,op,type,pos,after,guard⟩:=o;simp only at ho;subst ho;obtain⟨h1,h2⟩:=xw (λy hy=>hρ y (by simp[Op.operands];simpa using hy)) hc;refine⟨w,R,γ,.inl ⟨.func (.func f) #[] (captured.map ev),by simp[execOp,Instr.makeFunc],captured.map ev,rfl,by simpa using h1,λj u x hu hx=>?_⟩,hi,Ext.refl _ _ _,Mv.refl⟩;rw[Array.getElem?_map]at hu
 cases hq:captured[j]? with
 |none=>simp[hq]at hu
 |some y=>simp[hq]at hu;subst hu;exact h2 j y x (by simpa using hq) hx
end
structure eT (R:PH)(γ:List Gh)(L:List Ob)(k:Nat)(xs:List (List SV))(news:List Value):Prop where
 len:news.length=xs.length*k
 wide:∀ e∈xs,e.length=k
 rep:∀ (i:Nat) e (j:Nat) u x,xs[i]?=some e->news[i*k+j]?=some u->e[j]?=some x->x.rep R γ L u
 one:∀ u∈news,u.oneCell'=true
def bj (s:ByteArray):List (List SV):=s.data.toList.map λb=>[.c (.int .u8 b.toNat)]
section
variable {P:Program} {ti:TI} {B:Nat->Prop} {N:Nat} {R:PH} {γ:List Gh} {L:List Ob} {w:World} {ρ:Operand->Option AV}
theorem Mv.setOb {id:Nat}{x x':Ob}{g':Gh}{R':PH}(hs:PH.sub R R')(hl:γ.length=L.length)(hx:L[id]?=some x)(VB:∀ b,γ[id]?≠some (.box b))(htok:∀ n k,x' ≠ .spare n k)(SN:∀ Pn Ql k,x' = .row Pn Ql k ->∃ O9 es,x = .row O9 es k/\O9<Pn) :
  Mv R R' γ (γ.set id g') L (L.set id x'):=by
 have O8:id<L.length:=(ahR.1 hx).1;refine⟨hs,m5,λt n k _ h=>?_,λt O9 es k _ h=>?_,λj b h=>?_⟩
 .by_cases e:t=id
  .subst e;rw[ah_ O8]at h;injection h with h;exact absurd h (htok n k)
  .rw[ah' (Ne.symm e)]at h;exact⟨n,h,ah7 _,λ_=>by rw[ah' (Ne.symm e)]⟩
 .by_cases e:t=id
  .subst e;rw[ah_ O8]at h;injection h with h
   obtain⟨v0,e0,h1,h2⟩:=SN O9 es k h;exact⟨v0,e0,by rw[hx,h1],m0,λq=>by omega⟩
  .rw[ah' (Ne.symm e)]at h;exact⟨O9,es,h,ah7 _,λ_=>⟨rfl,by rw[ah' (Ne.symm e)]⟩⟩
 .have:j≠id:=by rintro rfl;exact VB b h
  rw[ah' (Ne.symm this)];exact h
theorem Inv.rehome (hi:Inv B R γ L w){id:Nat}{x x':Ob}{g':Gh}(hx:L[id]?=some x)(RO:g'.block=some w.heap.size)(o:Obj)(hm:Mv R R γ (γ.set id g') L (L.set id x'))
  (RG:lg R (γ.set id g') (L.set id x') (w.drew.alloc o) x' g'):Inv B R (γ.set id g') (L.set id x') (w.drew.alloc o):=by
 have O8:id<L.length:=(ahR.1 hx).1;have PS:∀ j h,(γ.set id g')[j]?=some h->(j=id/\h=g')\/(j≠id/\γ[j]?=some h):=by
  intro j h hh;by_cases hj:j=id
  .subst hj
   rw[ah_ (by rw[hi.len];exact O8)]at hh;injection hh with hh
   exact .inl ⟨rfl,hh.symm⟩
  .rw[ah' (Ne.symm hj)]at hh
   exact .inr ⟨hj,hh⟩
 have hold:∀ b,b<w.heap.size->(w.drew.alloc o).heap[b]?=w.heap[b]?:=λb hb=>eC w.drew _ hb
 have esz:(w.drew.alloc o).heap.size=w.heap.size+1:=by show(w.heap.push _).size=_;simp
 refine⟨by simp[hi.len],λb o' u h=>?_,λj y h hy hh=>?_,λj1 j2 g1 g2 h1 h2 PE b hb=>?_,λj h b hh hb=>?_,λb hb=>by have:=hi.bsz b hb;omega⟩
 .have:=hi.lt h
  rw[<- hi.val _ _ _ h];exact World.cell?_of_block (w:=w) (hold b this)
 .obtain⟨rfl,rfl⟩|⟨PE,Um⟩:=PS j h hh
  .rw[ah_ O8]at hy
   injection hy with hy;subst hy
   exact RG
  .rw[ah' (Ne.symm PE)]at hy
   exact(hi.obj j y h hy Um).mv hm (λb hb=>hold b (hi.new j h b Um hb).2) (λ_ _ _ e=>e)
 .rcases PS j1 g1 h1 with⟨a1,rfl⟩|⟨a1,a2⟩<;>rcases PS j2 g2 h2 with⟨b1,rfl⟩|⟨b1,b2⟩
  .omega
  .rw[RO]at hb;injection hb with hb;subst hb
   intro e;have:=(hi.new j2 g2 _ b2 e).2;omega
  .have:=(hi.new j1 g1 b a2 hb).2
   rw[RO];simp;omega
  .exact hi.inj j1 j2 g1 g2 a2 b2 PE b hb
 .obtain⟨_,rfl⟩|⟨_,b2⟩:=PS j h hh
  .rw[RO]at hb;injection hb with hb;subst hb
   exact⟨λhB=>by have:=hi.bsz _ hB;omega,m0⟩
  .have:=hi.new j h b b2 hb
   exact⟨this.1,m0⟩
theorem Inv.kill (hi:Inv B R γ L w){id:Nat}{x:Ob}{g:Gh}{b:Nat}(hx:L[id]?=some x)(hg:γ[id]?=some g)(hb:g.block=some b)(VB:∀ b,g ≠ .box b){R':PH}{w':World}(hs:PH.sub R R')
  (hw:∀ b',b'≠b->w'.heap[b']?=w.heap[b']?) (Qf:w'.heap.size=w.heap.size) (hR:∀ b' o,b'≠b->R' b' o=R b' o) (hv:∀ o u,R' b o=some u->w'.cell? ⟨b,o,none⟩=some u) :
  Inv B R' (γ.set id .none) (L.set id .dead) w'/\Mv R R' γ (γ.set id .none) L (L.set id .dead):=by
 have O8:id<L.length:=(ahR.1 hx).1;have hm:Mv R R' γ (γ.set id .none) L (L.set id .dead):=Mv.setOb hs hi.len hx (λb e=>by rw[hg]at e;injection e with e;exact VB b e) (λ_ _ e=>by cases e) (λ_ _ _ e=>by cases e);have PS:∀ j h,(γ.set id Gh.none)[j]?=some h->(j=id/\h = .none)\/(j≠id/\γ[j]?=some h):=by
  intro j h hh;by_cases hj:j=id
  .subst hj
   rw[ah_ (by rw[hi.len];exact O8)]at hh;injection hh with hh
   exact .inl ⟨rfl,hh.symm⟩
  .rw[ah' (Ne.symm hj)]at hh
   exact .inr ⟨hj,hh⟩
 refine⟨⟨by simp[hi.len],λb' o u h=>?_,λj y h hy hh=>?_,λj1 j2 g1 g2 h1 h2 PE b' Ry=>?_,λj h b' hh Ry=>?_,λb' Ry=>by rw[Qf];exact hi.bsz b' Ry⟩,hm⟩
 .by_cases VK:b'=b
  .subst VK;exact hv o u h
  .rw[hR b' o VK]at h
   rw[<- hi.val _ _ _ h];exact World.cell?_of_block (w:=w) (hw b' VK)
 .obtain⟨rfl,rfl⟩|⟨PE,Um⟩:=PS j h hh
  .rw[ah_ O8]at hy
   injection hy with hy;subst hy
   trivial
  .rw[ah' (Ne.symm PE)]at hy
   have ZP:∀ b',h.block=some b'->b'≠b:=λb' Ry e=>hi.inj j id h g Um hg PE b' Ry (by rw[hb,e])
   exact(hi.obj j y h hy Um).mv hm (λb' Ry=>hw b' (ZP b' Ry)) (λb' o Ry e=>by rw[hR b' o (ZP b' Ry)];exact e)
 .rcases PS j1 g1 h1 with⟨a1,rfl⟩|⟨a1,a2⟩<;>rcases PS j2 g2 h2 with⟨b1,rfl⟩|⟨b1,b2⟩
  .omega
  .cases Ry
  .exact λe=>by cases e
  .exact hi.inj j1 j2 g1 g2 a2 b2 PE b' Ry
 .obtain⟨_,rfl⟩|⟨_,b2⟩:=PS j h hh
  .cases Ry
  .rw[Qf];exact hi.new j h b' b2 Ry
theorem eT.ofC {k:Nat}{xs:List (List AC)}{news:List Value}(h:Cells R k xs news):eT R γ L k (xs.map (List.map SV.c)) news:=by
 refine⟨by rw[h.len];simp,λe he=>?_,λi e j u x he hu hx=>?_,h.one⟩
 .obtain⟨y,hy,rfl⟩:=aip.1 he;simpa using h.wide y hy
 .rw[aic]at he
  cases hq:xs[i]? with
  |none=>simp[hq]at he
  |some y =>
   simp[hq]at he;subst he;rw[aic]at hx
   cases Vn:y[j]? with
   |none=>simp[Vn]at hx
   |some z =>
    simp[Vn]at hx;subst hx;obtain⟨u',g1,g2⟩:=h.get i y j z hq Vn;rw[hu]at g1;injection g1 with g1;subst g1
    exact g2
theorem eT.ofStr (s:ByteArray):eT R γ L 1 (bj s) (byteCells s):=by
 refine⟨by rw[byteCells_length];simp[bj],λe he=>?_,λi e j u x he hu hx=>?_,λu hu=>?_⟩
 .obtain⟨y,hy,rfl⟩:=aip.1 he;rfl
 .unfold bj at he;unfold byteCells at hu
  rw[aic]at he
  cases hq:s.data.toList[i]? with
  |none=>rw[hq]at he;simp at he
  |some y =>
   rw[hq]at he;simp at he;subst he;have hj:j=0:=by have:=(ahR.1 hx).1;simpa using this
   subst hj;simp at hx;subst hx;rw[Nat.mul_one,Nat.add_zero,aic,hq]at hu;simp at hu;subst hu;exact .int _ _
 .unfold byteCells at hu
  obtain⟨y,hy,rfl⟩:=aip.1 hu;rfl
theorem eT.mv {R':PH}{γ':List Gh}{L':List Ob}(h:Mv R R' γ γ' L L'){k:Nat}{xs:List (List SV)}{news:List Value}(hc:eT R γ L k xs news):eT R' γ' L' k xs news :=
 ⟨hc.len,hc.wide,λi e j u x he hu hx=>SV.mv h (hc.rep i e j u x he hu hx),hc.one⟩
theorem eT.app {es xs:List (List SV)}{k:Nat}{olds news:List Value}(h:eT R γ L k es olds)(g:eT R γ L k xs news):eT R γ L k (es++xs) (olds++news):=by
 refine⟨by rw[ahZ,h.len,g.len,ahZ,Nat.add_mul],λe he=>?_,λi e j u x he hu hx=>?_,λu hu=>?_⟩
 .obtain he|he:=aih.1 he
  .exact h.wide e he
  .exact g.wide e he
 .by_cases hi:i<es.length
  .rw[ah5 hi]at he
   have UU:j<k:=by rw[<- h.wide e (ahX he)];exact(ahR.1 hx).1
   rw[ah5 (by rw[h.len];exact oD hi UU)]at hu;exact h.rep i e j u x he hu hx
  .rw[ahY m0]at he
   have hle:es.length*k<=i*k:=air _ m0;rw[ahY (by rw[h.len];omega),h.len]at hu;refine g.rep (i-es.length) e j u x he ?_ hx;rw[Nat.mul_sub_right_distrib];have:i*k-es.length*k+j=i*k+j-es.length*k:=m0
   rw[this];exact hu
 .obtain hu|hu:=aih.1 hu
  .exact h.one u hu
  .exact g.one u hu
theorem SV.one_cell {x:SV}{u:Value}(h:x.rep R γ L u):u.oneCell'=true:=(SV.rep_one h).2
theorem fu (hi:Inv B R γ L w){id O9 k b c:Nat}{es:List (List SV)}(hL:L[id]?=some (.row O9 es k))(hg:γ[id]?=some (.arr b c)) :
  ∃ vs E,w.heap[b]?=some (.cells vs E (0,0))/\(E=O9%65536/\65536<=O9)/\vs.size=c*k/\es.length<=c/\0<k/\eT R γ L k es (vs.toList.take (es.length*k)) /\ ∀ o,R b o=none:=by
 obtain⟨⟨vs,E,h1,h2,h3⟩,h4,h5,h6,h7⟩:=hi.obj id _ _ hL hg;have hle:es.length*k<=c*k:=air _ h4;have get:∀ (i:Nat) e (j:Nat) u,es[i]?=some e->j<k->(vs.toList.take (es.length*k))[i*k+j]?=some u->vs[i*k+j]?=some u:=by
  intro i e j u he hj hu;rw[aij,if_pos (oD (ahR.1 he).1 hj)]at hu;simpa using hu
 refine⟨vs,E,h1.1,h1.2,h2,h4,h5,⟨by simp;omega,h6,λi e j u x he hu hx=>?_,λu hu=>?_⟩,h7⟩
 .have UU:j<k:=by rw[<- h6 e (ahX he)];exact(ahR.1 hx).1
  exact h3 i e j u x he (get i e j u he UU hu) hx
 .obtain⟨q,hq⟩:=List.mem_iff_getElem?.1 hu
  have O8:=(ahR.1 hq).1;have VN:q<es.length*k:=by rw[aiD]at O8;omega
  have Tn:q/k<es.length:=by rw[Nat.div_lt_iff_lt_mul h5];exact VN
  have Xr:q%k<k:=Nat.mod_lt _ h5;have he:=ah0 Tn;have hx:=ah0 (l:=es[q/k]) (i:=q%k) (by rw[h6 _ (ahX he)];exact Xr);have hqe:q/k*k+q%k=q:=by rw[Nat.mul_comm];exact Nat.div_add_mod q k
  exact SV.one_cell (h3 (q/k) _ (q%k) u _ he (by
   rw[hqe];rw[aij,if_pos VN]at hq;simpa using hq) hx)
theorem acO (hi:Inv B R γ L w){t tx ty E:TypeId}{k by_:Nat}{es xs:List (List SV)}{id O9 n:Nat}{v x:Value}(ht:P.underlying t=some (.slice E))(UD:0<k)(hz:L3 P E k)(Su:kH P E=some by_)(hE:O9%65536=E)
  (hL:L[id]?=some (.row O9 es k)) (hv:(SV.sl id O9 0 n).rep R γ L v) (hn:es.length=n) {news:List Value} (S5:Src P k tx x xs.length news w) (SL:eT R γ L k xs news)
  (OZ:(n+xs.length)*by_<=140737488355328) (Pe:n+xs.length<=140737488355328) :
  ∃ u w' γ',(Builtin.append_ #[t,tx] ty #[v,x]).run P w = .ok u w'/\Inv B R γ' (L.set id (.row (O9+65536) (es++xs) k)) w'/\Ext B R R w w'/\Mv R R γ γ' L (L.set id (.row (O9+65536) (es++xs) k)) /\
   (SV.sl id (O9+65536) 0 (n+xs.length)).rep R γ' (L.set id (.row (O9+65536) (es++xs) k)) u:=by
 obtain⟨inf,z,Qa,Tc,RA,VS⟩:=hz;have QO:inf.bytes=by_:=by unfold kH at Su;rw[Qa]at Su;simpa using Su
 obtain⟨hvc,O8,QA⟩:=hv;obtain⟨hle,g,hg,P5⟩:=(QA _ es k hL).2 rfl;have RS:Src P inf.size tx x xs.length news w:=by rw[RA];exact S5
 have W5:news.length=xs.length*k:=SL.len;have YD:id<γ.length:=by rw[hi.len];exact O8
 have Tf:∀ g',(∀ b,g ≠ .box b)->Mv R R γ (γ.set id g') L (L.set id (.row (O9+65536) (es++xs) k)):=λg' VB =>
  Mv.setOb (PH.sub_refl _) hi.len hL (λb e=>by rw[hg]at e;injection e with e;exact VB b e) (λ_ _ e=>by cases e) (λPn Ql k' e=>by injection e with e1 e2 e3;subst e1 e2 e3;exact⟨O9,es,rfl,m0⟩)

 have grow:∀ (a:Option Addr) (c:Nat) (olds:List Value),v = .slice a n c->c<n+xs.length->(∀ b,g ≠ .box b)->eT R γ L k es olds->(Builtin.firstCells inf.size n (.slice a n c)).run P w.drew = .ok olds.toArray w.drew ->
   ∃ u w' γ',(Builtin.append_ #[t,tx] ty #[v,x]).run P w = .ok u w'/\Inv B R γ' (L.set id (.row (O9+65536) (es++xs) k)) w'/\Ext B R R w w'/\Mv R R γ γ' L (L.set id (.row (O9+65536) (es++xs) k)) /\
   (SV.sl id (O9+65536) 0 (n+xs.length)).rep R γ' (L.set id (.row (O9+65536) (es++xs) k)) u:=by
  intro a c olds U3 hc VB holds Zz;have P4:=run_append_grow_src (P:=P) (w:=w) t tx ty E inf z ht Qa Tc a n c olds Zz x xs.length news RS hc m0 (by
   have h2:=nextslicecap_le hc;have h3:Builtin.nextslicecap (n+xs.length) c*inf.bytes<=2*(n+xs.length)*inf.bytes:=air _ h2;rw[QO]at h3 ⊢;rw[Nat.mul_assoc]at h3;omega)
  have Tq:=grownCap_ge w (n+xs.length) c E;generalize grownCap w (n+xs.length) c E=cap at P4 Tq;have hm:=Tf (.arr w.heap.size cap) VB;have SO:=(holds.app SL).mv hm;have Vq:(olds++news).length=(n+xs.length)*k:=by rw[SO.len,ahZ,hn]
  have hI:=hi.rehome hL (g' := .arr w.heap.size cap) rfl (.cells ((olds++news).toArray++Builtin.zeroCells z.cells (cap-(n+xs.length))) E) hm (by
   refine⟨⟨_,E,⟨di w.drew _,by rw[<- hE];show O9%65536=(O9+65536)%65536;omega,m0⟩,?_,λi e j u x he hu hx=>?_⟩,by rw[ahZ,hn];exact Tq,UD,SO.wide,λo=>hi.none_at o⟩
   .rw[Array.size_append,size_zeroCells,VS];simp only[List.size_toArray];rw[Vq,<- Nat.add_mul];congr 1;omega
   .have UU:j<k:=by rw[<- SO.wide e (ahX he)];exact(ahR.1 hx).1
    have We:i<n+xs.length:=by have:=(ahR.1 he).1;simpa[hn]using this
    rw[Array.getElem?_append_left (by simp only[List.size_toArray];rw[Vq];exact oD We UU)]at hu;exact SO.rep i e j u x he (by simpa using hu) hx)
  refine⟨_,_,_,by rw[U3];exact P4,hI,?_,hm,⟨rfl,rfl⟩,by simpa using O8,λRl UC k2 e2=>?_⟩
  .exact⟨⟨rfl,rfl,rfl,by show w.heap.size<=(w.heap.push _).size;simp,λb hb=>eC w.drew _ (hi.bsz b hb)⟩,PH.sub_refl _,λ_ _ _=>rfl⟩
  .rw[ah_ O8]at e2;injection e2 with e2;injection e2 with q1 q2 q3;subst q1 q2 q3
   refine⟨ah7 _,λ_=>⟨by simp[hn],.arr w.heap.size cap,ah_ YD,.inl ?_⟩⟩;simp
 match g,hg,P5 with
 |.none,hg,⟨U3,Ua,_⟩ =>
  have Uc:es=[]:=hi.obj id _ _ hL hg;subst Uc Ua;by_cases hm:xs.length=0
  .have VT:xs=[]:=aif hm
   subst VT;have X3:news=[]:=aif (by rw[W5];simp);rw[X3]at RS;have P4:=run_append_nothing (P:=P) w t tx ty E inf ht Qa none 0 0 (ah7 _) x RS;have Wg:=Tf .none (λb e=>by cases e);have ZQ:γ.set id .none=γ:=by
    apply List.ext_getElem?;intro j;by_cases hj:j=id
    .subst hj;rw[ah_ YD,hg]
    .rw[ah' (Ne.symm hj)]
   rw[ZQ]at Wg;refine⟨v,w,γ,by rw[U3];exact P4,?_,Ext.refl _ _ _,Wg,hvc,by simpa using O8,λRl UC k2 e2=>?_⟩
   .refine⟨by simp[hi.len],hi.val,λj y h hy hh=>?_,hi.inj,hi.new,hi.bsz⟩
    by_cases hj:j=id
    .subst hj
     rw[ah_ O8]at hy;injection hy with hy;subst hy
     rw[hg]at hh;injection hh with hh;subst hh
     rfl
    .rw[ah' (Ne.symm hj)]at hy
     exact(hi.obj j y h hy hh).mv Wg (λ_ _=>rfl) (λ_ _ _ e=>e)
   .rw[ah_ O8]at e2;injection e2 with e2;injection e2 with q1 q2 q3;subst q1 q2 q3
    exact⟨ah7 _,λ_=>⟨m5,.none,hg,U3,rfl,rfl⟩⟩
  .exact grow none 0 [] U3 m0 (λb e=>by cases e) ⟨m5,m5,λi e j u x he=>by simp at he,m5⟩ (run_firstCells_none w.drew inf.size 0 0 0)
 |.arr b c,hg,P5 =>
  obtain⟨vs,E2,hb,Ya,Qf,Yw,hk,P_,VU⟩:=fu hi hL hg;have Zi:v = .slice (some ⟨b,0,none⟩) n c\/(c=0/\n=0 /\ ∃ a,v = .slice a 0 0):=by
   obtain P5|⟨q1,q2,q3⟩:=P5
   .left;rw[P5];simp
   .exact .inr ⟨q1,q2,q3⟩
  by_cases Td:n+xs.length<=c
  .have YE:(n+xs.length)*k<=c*k:=air _ Td
   have hadd:n*k+news.length=(n+xs.length)*k:=by rw[W5,Nat.add_mul]
   obtain⟨S4,g1,g2,g3⟩:=fV b E2 (0,0) news (n*k) w vs hb m0;have ZQ:γ.set id (.arr b c)=γ:=by
    apply List.ext_getElem?;intro j;by_cases hj:j=id
    .subst hj;rw[ah_ YD,hg]
    .rw[ah' (Ne.symm hj)]
   have Wg:=Tf (.arr b c) (λb e=>by cases e);rw[ZQ]at Wg;have Vl:vs.toList.take (es.length*k)=vs.toList.take (n*k):=by rw[hn]
   rw[Vl]at P_;have SO:=(P_.app SL).mv Wg;have hI:Inv B R γ (L.set id (.row (O9+65536) (es++xs) k)) (w.setCells b (n*k) news):=by
    refine hi.turn hL hg rfl Wg (λb' PE=>dQ b PE _ _ _) (eW _ _ _ _) (λ_ _ _=>rfl) (λo u h=>by rw[VU o]at h;cases h) ?_;refine⟨⟨S4,E2,⟨g1,by rw[Ya.1];show O9%65536=(O9+65536)%65536;omega,m0⟩,by rw[g2];exact Qf,λi e j u x he hu hx=>?_⟩,by rw[ahZ,hn];exact Td,hk,SO.wide,VU⟩;have UU:j<k:=by rw[<- SO.wide e (ahX he)];exact(ahR.1 hx).1
    have We:i<n+xs.length:=by have:=(ahR.1 he).1;simpa[hn]using this
    have Rz:=oD We UU;refine SO.rep i e j u x he ?_ hx;rw[g3]at hu;have htl:(vs.toList.take (n*k)).length=n*k:=by simp;omega
    by_cases Vm:n*k<=i*k+j
    .rw[if_pos m0]at hu
     rw[ahY m0,htl];exact hu
    .rw[if_neg m0]at hu
     rw[ah5 m0,aij,if_pos m0];simpa using hu
   have hE:Ext B R R w (w.setCells b (n*k) news):=⟨eK (hi.new id _ b hg rfl).1 _ _ _,PH.sub_refl _,λ_ _ _=>rfl⟩;obtain Vt|⟨q1,q2,a,q3⟩:=Zi
   .have P4:=run_append_room_src (P:=P) (w:=w) t tx ty E inf ht Qa b 0 n c x xs.length news RS Td
     (λj hj=>by
      rw[RA,cob_ hb];have:0+n*k+j<vs.size:=m0
      rw[aie this];rfl)
     (λj hj=>by simp[World.frozen?,hb])
    rw[RA,aiw]at P4;refine⟨_,_,γ,by rw[Vt];exact P4,hI,hE,Wg,⟨rfl,rfl⟩,by simpa using O8,λRl UC k2 e2=>?_⟩;rw[ah_ O8]at e2;injection e2 with e2;injection e2 with p1 p2 p3;subst p1 p2 p3
    refine⟨ah7 _,λ_=>⟨by simp[hn],.arr b c,hg,.inl ?_⟩⟩;simp
   .have hxl:xs.length=0:=m0
    have X3:news=[]:=aif (by rw[W5,hxl];simp);rw[X3,hxl]at RS;have P4:=run_append_nothing (P:=P) w t tx ty E inf ht Qa a 0 0 (ah7 _) x RS;rw[X3]at hI hE;refine⟨v,_,γ,by rw[q3];exact P4,hI,hE,Wg,hvc,by simpa using O8,λRl UC k2 e2=>?_⟩;rw[ah_ O8]at e2;injection e2 with e2;injection e2 with p1 p2 p3;subst p1 p2 p3
    exact⟨ah7 _,λ_=>⟨by simp[hn],.arr b c,hg,.inr ⟨q1,m0,a,q3⟩⟩⟩
  .obtain Vt|⟨q1,q2,a,q3⟩:=Zi
   .refine grow _ c _ Vt m0 (λb e=>by cases e) P_ ?_
    rw[RA];refine run_firstCells_some w.drew k n ⟨b,0,none⟩ n c _ (by rw[P_.len,hn]) (λj u hu=>?_);rw[Addr.add_mid,aiw];have hc1:w.cell? ⟨b,j,none⟩=some u:=by
     rw[cob_ hb];have hj:=(ahR.1 hu).1;rw[aij]at hu;split at hu
     .simpa using hu
     .cases hu
    exact hc1
   .have Uc:es=[]:=aif m0
    subst Uc q2;refine grow a 0 [] q3 m0 (λb e=>by cases e) ⟨m5,m5,λi e j u x he=>by simp at he,m5⟩ ?_
    cases a with
    |none=>exact run_firstCells_none w.drew inf.size 0 0 0
    |some ad=>exact run_firstCells_some w.drew inf.size 0 ad 0 0 [] m5 (λj u hu=>by simp at hu)
end
def IW (L:List Ob):AV->Option (List (List SV))
 |.one (.c (.str s))=>some (bj s)
 |.one (.sl id _ lo n)=>match L[id]? with
  |some (.row _ es _)=>some ((es.drop lo).take n)
  |_=>none
 |x=>(cX x).map λes=>es.map (List.map SV.c)
def yS (ti:TI)(L:List Ob)(k:Nat)(tx:TypeId):AV->Prop
 |.one (.c (.str _))=>k=1/\ti.kind tx=some .string
 |.one (.sl id O9 lo n)=>(ti.elem tx).isSome /\ ∃ es,L[id]?=some (.row O9 es k)/\lo+n<=es.length
 |x=>(ti.elem tx).isSome /\ ∃ es,cX x=some es /\ ∀ e∈es,e.length=k
section
variable {P:Program} {ti:TI} {B:Nat->Prop} {N:Nat} {R:PH} {γ:List Gh} {L:List Ob} {w:World} {ρ:Operand->Option AV}
theorem Nn {k:Nat}{tx:TypeId}(Pm:TIok P ti)(hi:Inv B R γ L w){x:AV}{u:Value}(hx:x.rep R γ L u){es:List (List AC)}(he:cX x=some es)(hw:∀ e∈es,e.length=k)(ht:(ti.elem tx).isSome) :
  ∃ news,Src P k tx u (es.map (List.map SV.c)).length news w/\eT R γ L k (es.map (List.map SV.c)) news:=by
 obtain⟨E,hE⟩:=aiv.1 ht;have T8:=Pm.elem _ _ hE;have:P.underlying tx=some (.slice E):=by
  unfold mM at T8;split at T8
  .rename_i e h;injection T8 with T8;rw[h,T8]
  .cases T8
 obtain⟨news,h1,h2⟩:=OV (P:=P) this hi (iD hx he) hw;exact⟨news,by simpa using h1,eT.ofC h2⟩
theorem Ln {k:Nat}{tx:TypeId}(Pm:TIok P ti)(hi:Inv B R γ L w){x:AV}{u:Value}(hx:x.rep R γ L u){xs:List (List SV)}(h:IW L x=some xs)(Rb:yS ti L k tx x) :
  ∃ news,Src P k tx u xs.length news w/\eT R γ L k xs news:=by
 unfold IW at h;split at h
 .rename_i s
  injection h with h;subst h
  obtain⟨rfl,hk⟩:=Rb
  cases hx;have hl:(bj s).length=s.size:=by unfold bj;rw[ah3];simp
  exact⟨byteCells s,by rw[hl];exact Src.ofString w (Pm.kind _ _ hk) s,eT.ofStr s⟩
 .rename_i id O9 lo n
  obtain⟨ht,es,hL,hle⟩:=Rb;rw[hL]at h;injection h with h;subst h
  obtain⟨E,hE⟩:=aiv.1 ht;have T8:=Pm.elem _ _ hE;have Xx:P.underlying tx=some (.slice E):=by
   unfold mM at T8;split at T8
   .rename_i e h;injection T8 with T8;rw[h,T8]
   .cases T8
  obtain⟨_,O8,QA⟩:=hx;obtain⟨_,g,hg,P5⟩:=(QA _ es k hL).2 rfl;have hlen:((es.drop lo).take n).length=n:=by simp;omega
  match g,hg,P5 with
  |.none,hg,⟨hu,hn,PU⟩ =>
   subst hu hn PU;refine⟨[],by simpa using Src.ofNil w Xx 0,⟨m5,m5,λi e j u x he=>by simp at he,m5⟩⟩
  |.arr b c,hg,P5 =>
   obtain⟨vs,E2,hb,Ya,Qf,Yw,hk,P_,VU⟩:=fu hi hL hg;by_cases Ua:n=0
   .subst Ua
    refine⟨[],?_,⟨m5,m5,λi e j u x he=>by simp at he,m5⟩⟩;have:∃ a c',u = .slice a 0 c':=by
     obtain P5|⟨_,_,a,P5⟩:=P5
     .exact⟨_,_,P5⟩
     .exact⟨_,_,P5⟩
    obtain⟨a,c',rfl⟩:=this
    cases a with
    |none=>simpa using Src.ofNil w Xx c'
    |some ad=>simpa using Src.ofSlice w Xx ad 0 c' [] m5 (λj u hu=>by simp at hu) m5
   .have P5:u = .slice (some ⟨b,lo*k,none⟩) n (c-lo):=by
     obtain P5|⟨_,h0,_⟩:=P5
     .exact P5
     .exact absurd h0 Ua
    subst P5;have h1:lo*k+n*k<=es.length*k:=by rw[<- Nat.add_mul];exact air _ hle
    have h2:es.length*k<=c*k:=air _ Yw;have Xy:∀ (j:Nat) u,(((vs.toList.take (es.length*k)).drop (lo*k)).take (n*k))[j]?=some u->j<n*k/\(vs.toList.take (es.length*k))[lo*k+j]?=some u:=by
     intro j u hu;rw[aij]at hu;split at hu
     .rename_i hj;rw[aiA]at hu;exact⟨hj,hu⟩
     .cases hu
    have W5:(((vs.toList.take (es.length*k)).drop (lo*k)).take (n*k)).length=n*k:=by simp;omega
    refine⟨((vs.toList.take (es.length*k)).drop (lo*k)).take (n*k),?_,⟨by rw[hlen];exact W5,λe he=>P_.wide e (List.mem_of_mem_drop (List.mem_of_mem_take he)),λi e j u x he hu hx=>?_,λu hu=>P_.one u (List.mem_of_mem_drop (List.mem_of_mem_take hu))⟩⟩
    .rw[hlen]
     refine Src.ofSlice w Xx ⟨b,lo*k,none⟩ n (c-lo) _ W5 (λj u hu=>?_) (λu hu=>P_.one u (List.mem_of_mem_drop (List.mem_of_mem_take hu)));obtain⟨hj,hu⟩:=Xy j u hu;rw[Addr.add_mid,cob_ hb];rw[aij]at hu;split at hu
     .simpa using hu
     .cases hu
    .obtain⟨hj,hu⟩:=Xy _ u hu
     rw[aij]at he;split at he
     .rw[aiA]at he
      refine P_.rep (lo+i) e j u x he ?_ hx;rw[Nat.add_mul,Nat.add_assoc];exact hu
     .cases he
 .cases he:cX x with
  |none=>simp[he]at h
  |some es =>
   rw[he]at h;injection h with h;subst h
   unfold yS at Rb;split at Rb
   .rename_i x1 _;exact absurd rfl (x1 _)
   .rename_i h2;exact absurd rfl (h2 _ _ _ _)
   .obtain⟨ht,Ql,h1,h2⟩:=Rb
    rw[he]at h1;injection h1 with h1;subst h1
    exact Nn Pm hi hx he h2 ht
theorem lm (Pm:TIok P ti){t E:TypeId}(h:ti.elem t=some E):P.underlying t=some (.slice E):=by
 have T8:=Pm.elem _ _ h;unfold mM at T8;split at T8
 .rename_i e h';injection T8 with T8;rw[h',T8]
 .cases T8
theorem jf (Pm:TIok P ti){s x:Operand}{t tx E:TypeId}{k by_ id O9 n:Nat}{vx:AV}{es xs:List (List SV)}(hs:ρ s=some (.one (.sl id O9 0 n)))(hx:ρ x=some vx)(hL:L[id]?=some (.row O9 es k))(S5:IW L vx=some xs)(Rb:yS ti L k tx vx)
  (ht:ti.elem t=some E) (hE:O9%65536=E) (Qf:ti.size E=some k) (Xa:ti.zok E=true) (Su:ti.bytes E=some by_) (hk:0<k) (hn:es.length=n) (OZ:(n+xs.length)*by_<=140737488355328) (Pe:n+xs.length<=140737488355328) :
  nA P ρ L (.call { callee := .builtin .append,args :=#[s,x],argTypes :=#[t,tx] }) (.one (.sl id (O9+65536) 0 (n+xs.length))) (L.set id (.row (O9+65536) (es++xs) k)):=by
 intro B R γ w ev o ho hi hρ RN;obtain⟨dst,op,type,pos,after,guard⟩:=o;simp only at ho;subst ho;obtain⟨news,h1,h2⟩:=Ln (P:=P) (w:=w) (B:=B) Pm hi (hρ _ (by simp[Op.operands,Call.operands]) _ hx) S5 Rb;obtain⟨u,w',γ',g1,g2,g3,g4,g5⟩:=acO (P:=P) (ty:=type) hi (lm Pm ht) hk (Pm.zok _ Xa _ (Pm.size _ _ Qf)) (Pm.bytes _ _ Su) hE hL (hρ _ (by simp[Op.operands,Call.operands]) _ hs) hn h1 h2 OZ Pe;refine⟨w',R,γ',.inl ⟨u,?_,g5⟩,g2,g3,g4⟩;simp[execOp,resolve,invoke,builtin,g1]
theorem Inv.rowTok (hi:Inv B R γ L w)(O9 k:Nat):Inv B R (γ++[.none]) (L++[.row O9 [] k]) w:=by
 have it:=hi.tok k;refine⟨by simp[hi.len],hi.val,λi y g hy hg=>?_,it.inj,it.new,hi.bsz⟩;by_cases hid:i<L.length
 .rw[ah5 hid]at hy
  rw[ah5 (by rw[hi.len];exact hid)]at hg;exact(hi.obj i y g hy hg).mv (Mv.push _ _ hi.len) (λ_ _=>rfl) (λ_ _ _ h=>h)
 .have:i=L.length:=by have:=(ahR.1 hy).1;simp at this;omega
  subst this;rw[ahY m0]at hy;rw[ahY (by rw[hi.len];omega),hi.len]at hg;simp at hy hg;subst hy hg;rfl
theorem pq (Pm:TIok P ti){s x:Operand}{t tx:TypeId}{E:Nat}{k by_:Nat}{vx:AV}{xs:List (List SV)}(hs:ρ s=some (.one .emp))(hx:ρ x=some vx)(S5:IW L vx=some xs)(Rb:yS ti L k tx vx)
  (ht:ti.elem t=some E) (hE:E<65536) (Qf:ti.size E=some k) (Xa:ti.zok E=true) (Su:ti.bytes E=some by_) (hk:0<k) (h0:0<xs.length) (OZ:xs.length*by_<=140737488355328) (Pe:xs.length<=140737488355328) :
  nA P ρ L (.call { callee := .builtin .append,args :=#[s,x],argTypes :=#[t,tx] }) (.one (.sl L.length (E+65536) 0 xs.length)) (L++[.row (E+65536) xs k]):=by
 intro B R γ w ev o ho hi hρ RN;obtain⟨dst,op,type,pos,after,guard⟩:=o;simp only at ho;subst ho;obtain⟨news,h1,h2⟩:=Ln (P:=P) (w:=w) (B:=B) Pm hi (hρ _ (by simp[Op.operands,Call.operands]) _ hx) S5 Rb;obtain⟨a,U3⟩:=(hρ _ (by simp[Op.operands,Call.operands]) _ hs);obtain⟨inf,z,Qa,Tc,RA,VS⟩:=Pm.zok _ Xa _ (Pm.size _ _ Qf);have QO:inf.bytes=by_:=by have SA:=Pm.bytes _ _ Su;unfold kH at SA;rw[Qa]at SA;simpa using SA
 have Zz:(Builtin.firstCells inf.size 0 (.slice a 0 0)).run P w.drew = .ok ([]:List Value).toArray w.drew:=by
  cases a with
  |none=>exact run_firstCells_none w.drew inf.size 0 0 0
  |some ad=>exact run_firstCells_some w.drew inf.size 0 ad 0 0 [] m5 (λj u hu=>by simp at hu)
 have P4:=run_append_grow_src (P:=P) (w:=w) t tx type E inf z (lm Pm ht) Qa Tc a 0 0 [] Zz (ev x) xs.length news (by rw[RA];exact h1) m0 m0 (by
   have h2:=nextslicecap_le (need:=0+xs.length) (old:=0) m0;have h3:Builtin.nextslicecap (0+xs.length) 0*inf.bytes<=2*(0+xs.length)*inf.bytes:=air _ h2;rw[QO]at h3 ⊢;rw[Nat.mul_assoc,aiw]at h3;rw[aiw];omega)
 have Tq:=grownCap_ge w (0+xs.length) 0 E;generalize grownCap w (0+xs.length) 0 E=cap at P4 Tq;rw[aiw]at P4 Tq;have hm:Mv R R γ (γ++[.arr w.heap.size cap]) L (L++[.row (E+65536) xs k]):=Mv.push _ _ hi.len;have SO:=h2.mv hm;have V0:Inv B R (γ++[.arr w.heap.size cap]) (L++[.row (E+65536) xs k]) (w.alloc (.cells (([]++news).toArray++Builtin.zeroCells z.cells (cap-xs.length)) E)):=by
  refine hi.push _ _ _ rfl ⟨⟨_,E,⟨di w _,by show(E:Nat)=(E+65536)%65536;omega,by show 65536<=(E:Nat)+65536;omega⟩,?_,λi e j u x he hu hx=>?_⟩,Tq,hk,SO.wide,λo=>hi.none_at o⟩
  .rw[Array.size_append,size_zeroCells,VS];simp only[List.size_toArray,ahW];rw[SO.len,<- Nat.add_mul];congr 1;omega
  .have UU:j<k:=by rw[<- SO.wide e (ahX he)];exact(ahR.1 hx).1
   have We:=(ahR.1 he).1;rw[Array.getElem?_append_left (by simp only[List.size_toArray,ahW];rw[SO.len];exact oD We UU)]at hu;exact SO.rep i e j u x he (by simpa using hu) hx
 refine⟨w.drew.alloc (.cells (([]++news).toArray++Builtin.zeroCells z.cells (cap-xs.length)) E),R,_,.inl ⟨.slice (some ⟨w.heap.size,0,none⟩) xs.length cap,by simp[execOp,resolve,invoke,builtin,U3,P4],⟨rfl,rfl⟩,m5,λRl UC k2 e2=>?_⟩,?_,⟨⟨rfl,rfl,rfl,by show w.heap.size<=(w.heap.push _).size;simp,λb hb=>eC w.drew _ (hi.bsz b hb)⟩,PH.sub_refl _,λ_ _ _=>rfl⟩,hm⟩
 .rw[ahY m0]at e2
  simp at e2;obtain⟨q1,q2,q3⟩:=e2;subst q1 q2 q3;refine⟨ah7 _,λ_=>⟨m5,.arr w.heap.size cap,by rw[<- hi.len];simp,.inl ?_⟩⟩;simp
 .exact⟨V0.len,λb o u h=>V0.val b o u h,λi x g h1 h2=>(V0.obj i x g h1 h2).mv Mv.refl (λ_ _=>rfl) (λ_ _ _ h=>h),V0.inj,V0.new,V0.bsz⟩
theorem xe (Pm:TIok P ti){l c:Operand}{t:TypeId}{E k by_:Nat}{m:Int}{kl kc:IntKind}(hl:ρ l=some (.one (.c (.int kl 0))))(hc:ρ c=some (.one (.c (.int kc m))))(ht:ti.elem t=some E)(hE:E<65536)(Qf:ti.size E=some k)(Xa:ti.zok E=true)(Su:ti.bytes E=some by_)
  (hk:0<k) (h0:0<=m) (OZ:(by_:Int)*m<=281474976710656) (Pe:m<=9223372036854775807) :
  nA P ρ L (.makeSlice t l c) (.one (.sl L.length (E+65536) 0 0)) (L++[.row (E+65536) [] k]):=by
 intro B R γ w ev o ho hi hρ RN;obtain⟨dst,op,type,pos,after,guard⟩:=o;simp only at ho;subst ho;obtain⟨inf,z,Qa,Tc,RA,VS⟩:=Pm.zok _ Xa _ (Pm.size _ _ Qf);have QO:inf.bytes=by_:=by have SA:=Pm.bytes _ _ Su;unfold kH at SA;rw[Qa]at SA;simpa using SA
 have Yb:=(hρ _ (by simp[Op.operands,Call.operands]) _ hl);have Sl:=(hρ _ (by simp[Op.operands,Call.operands]) _ hc);generalize hle:ev l=lv at Yb;generalize ZR:ev c=cv at Sl
 cases Yb;cases Sl;have P4:=run_make (P:=P) w t E inf z (lm Pm ht) Qa Tc kl kc 0 m (Int.le_refl _) h0 (by rw[QO];exact OZ) Pe;have hm:Mv R R γ (γ++[.arr w.heap.size m.toNat]) L (L++[.row (E+65536) [] k]):=Mv.push _ _ hi.len;refine⟨w.alloc (.cells (madeCells z.cells (m.toNat*inf.size)) E),R,_,.inl ⟨.slice (some ⟨w.heap.size,0,none⟩) 0 m.toNat,by simp[execOp,hle,ZR,P4],⟨rfl,rfl⟩,m5,λRl UC k2 e2=>?_⟩,?_,⟨Kept.alloc hi.bsz _,PH.sub_refl _,λ_ _ _=>rfl⟩,hm⟩
 .rw[ahY m0]at e2
  simp at e2;obtain⟨q1,q2,q3⟩:=e2;subst q1 q2 q3;refine⟨ah7 _,λ_=>⟨m5,.arr w.heap.size m.toNat,by rw[<- hi.len];simp,.inl ?_⟩⟩;simp
 .exact hi.push _ _ _ rfl ⟨⟨_,E,⟨di w _,by show(E:Nat)=(E+65536)%65536;omega,by show 65536<=(E:Nat)+65536;omega⟩,by rw[size_madeCells,RA],λi e j u x he=>by simp at he⟩,m5,hk,m5,λo=>hi.none_at o⟩
theorem ju (Pm:TIok P ti){l c:Operand}{t:TypeId}{E k by_:Nat}{m:Int}{kl kc:IntKind}(hl:ρ l=some (.one (.c (.int kl 0))))(hc:ρ c=some (.one (.c (.int kc m))))(ht:ti.elem t=some E)(Qf:ti.size E=some k)(Xa:ti.zok E=true)(Su:ti.bytes E=some by_)
  (hk:0<k) (h0:0<=m) (OZ:(by_:Int)*m<=281474976710656) (Pe:m<=9223372036854775807) :
  nA P ρ L (.makeSlice t l c) (.one (.own [] L.length)) (L++[.spare 0 k]):=by
 intro B R γ w ev o ho hi hρ RN;obtain⟨dst,op,type,pos,after,guard⟩:=o;simp only at ho;subst ho;obtain⟨inf,z,Qa,Tc,RA,VS⟩:=Pm.zok _ Xa _ (Pm.size _ _ Qf);have QO:inf.bytes=by_:=by have SA:=Pm.bytes _ _ Su;unfold kH at SA;rw[Qa]at SA;simpa using SA
 have Yb:=(hρ _ (by simp[Op.operands,Call.operands]) _ hl);have Sl:=(hρ _ (by simp[Op.operands,Call.operands]) _ hc);generalize hle:ev l=lv at Yb;generalize ZR:ev c=cv at Sl
 cases Yb;cases Sl;have P4:=run_make (P:=P) w t E inf z (lm Pm ht) Qa Tc kl kc 0 m (Int.le_refl _) h0 (by rw[QO];exact OZ) Pe;have hm:Mv R R γ (γ++[.arr w.heap.size m.toNat]) L (L++[.spare 0 k]):=Mv.push _ _ hi.len;refine⟨w.alloc (.cells (madeCells z.cells (m.toNat*inf.size)) E),R,_,.inl ⟨.slice (some ⟨w.heap.size,0,none⟩) 0 m.toNat,by simp[execOp,hle,ZR,P4],dS _ _ _,m5,λn2 k2 e2=>?_⟩,?_,⟨Kept.alloc hi.bsz _,PH.sub_refl _,λ_ _ _=>rfl⟩,hm⟩
 .rw[ahY m0]at e2
  simp at e2;obtain⟨q1,q2⟩:=e2;subst q1 q2;exact⟨m5,m5,λ_=>⟨.arr w.heap.size m.toNat,by rw[<- hi.len];simp,rfl⟩⟩
 .exact hi.push _ _ _ rfl ⟨⟨_,E,di w _,by rw[size_madeCells,RA]⟩,m5,hk,λo _=>hi.none_at o⟩
end
section
variable {P:Program} {ti:TI} {B:Nat->Prop} {N:Nat} {R:PH} {γ:List Gh} {L:List Ob} {w:World} {ρ:Operand->Option AV}
theorem nq {E Eb k:Nat}{inf:TypeInfo}(Qa:P.info? E=some inf)(hz:inf.zero=some (.agg #[.pointer none,.slice none 0 0]))(hE:E<65536)(hEb:Eb<65536)(hk:0<k) :
  nA P ρ L (.alloc E) (.one (.ep L.length (E+65536) 0 0)) (L++[.row (E+65536) [[.c (.nul .ptr),.sl (L.length+1) Eb 0 0]] 2,.row Eb [] k]):=by
 intro B R γ w ev o ho hi hρ RN;obtain⟨dst,op,type,pos,after,guard⟩:=o;simp only at ho;subst ho;have SH:=hi.rowTok Eb k;have P4:(execOp ev { dst,op := .alloc E,type,pos,after,guard }).run P w = .ok (.value (.pointer (some ⟨w.heap.size,0,none⟩))) (w.alloc (.cells #[.pointer none,.slice none 0 0] E)):=by
  simp[execOp,Instr.alloc,zeroValue,typeInfo,program,Sem.run,Qa,hz,newVar,newRow,Value.cells]
 have Wg:Mv R R γ (γ++[.arr w.heap.size 1,.none]) L (L++[.row (E+65536) [[.c (.nul .ptr),.sl (L.length+1) Eb 0 0]] 2,.row Eb [] k]):=by
  have h1:Mv R R γ (γ++[.arr w.heap.size 1]) L (L++[.row (E+65536) [[.c (.nul .ptr),.sl (L.length+1) Eb 0 0]] 2]):=Mv.push _ _ hi.len;have h2:Mv R R (γ++[.arr w.heap.size 1]) ((γ++[.arr w.heap.size 1])++[.none]) (L++[.row (E+65536) [[.c (.nul .ptr),.sl (L.length+1) Eb 0 0]] 2]) ((L++[.row (E+65536) [[.c (.nul .ptr),.sl (L.length+1) Eb 0 0]] 2])++[.row Eb [] k]):=Mv.push _ _ (by simp[hi.len]);have:=h1.trans h2;simpa using this
 have PS:∀ j h,(γ++[Gh.arr w.heap.size 1,Gh.none])[j]?=some h->(j<L.length/\γ[j]?=some h)\/(j=L.length/\h = .arr w.heap.size 1)\/(j=L.length+1/\h = .none):=by
  intro j h hh;by_cases hj:j<γ.length
  .rw[ah5 hj]at hh;exact .inl ⟨by rw[<- hi.len];exact hj,hh⟩
  .rw[ahY m0]at hh
   have O8:=(ahR.1 hh).1;simp at O8;have:j-γ.length=0\/j-γ.length=1:=m0
   rcases this with e|e<;>rw[e]at hh<;>simp at hh
   .exact .inr (.inl ⟨by rw[<- hi.len];omega,hh.symm⟩)
   .exact .inr (.inr ⟨by rw[<- hi.len];omega,hh.symm⟩)
 have hold:∀ b,b<w.heap.size->(w.alloc (.cells #[.pointer none,.slice none 0 0] E)).heap[b]?=w.heap[b]?:=λb hb=>eC w _ hb
 have esz:(w.alloc (.cells #[.pointer none,.slice none 0 0] E)).heap.size=w.heap.size+1:=by show(w.heap.push _).size=_;simp
 have VY:(SV.sl (L.length+1) Eb 0 0).rep R (γ++[Gh.arr w.heap.size 1,Gh.none]) (L++[.row (E+65536) [[.c (.nul .ptr),.sl (L.length+1) Eb 0 0]] 2,.row Eb [] k]) (.slice none 0 0):=by
  refine⟨⟨rfl,rfl⟩,m5,λRl UC k2 e2=>?_⟩;rw[ahY m0]at e2;simp at e2;obtain⟨q1,q2,q3⟩:=e2;subst q1 q2 q3;exact⟨ah7 _,λ_=>⟨m5,.none,by rw[ahY (by rw[hi.len];omega),hi.len];simp,rfl,rfl,rfl⟩⟩
 refine⟨_,R,γ++[.arr w.heap.size 1,.none],.inl ⟨_,P4,⟨rfl,rfl⟩,m5,λRl UC k2 e2=>?_⟩,?_,⟨Kept.alloc hi.bsz _,PH.sub_refl _,λ_ _ _=>rfl⟩,Wg⟩
 .rw[ahY m0]at e2
  simp at e2;obtain⟨q1,q2,q3⟩:=e2;subst q1 q2 q3;exact⟨ah7 _,λ_=>⟨m5,.arr w.heap.size 1,by rw[ahY (by rw[hi.len];omega),hi.len];simp,rfl⟩⟩
 .refine⟨by simp[hi.len],λb o' u h=>?_,λj y h hy hh=>?_,λj1 j2 g1 g2 h1 h2 PE b hb=>?_,λj h b hh hb=>?_,λb hb=>by have:=hi.bsz b hb;omega⟩
  .have:=hi.lt h
   rw[<- hi.val _ _ _ h];exact World.cell?_of_block (w:=w) (hold b this)
  .obtain⟨hj,Um⟩|⟨rfl,rfl⟩|⟨rfl,rfl⟩:=PS j h hh
   .rw[ah5 hj]at hy
    exact(hi.obj j y h hy Um).mv Wg (λb hb=>hold b (hi.new j h b Um hb).2) (λ_ _ _ e=>e)
   .rw[ahY m0]at hy
    simp at hy;subst hy;refine⟨⟨_,E,⟨di w _,by show(E:Nat)=(E+65536)%65536;omega,m0⟩,rfl,λi e j' u x he hu hx=>?_⟩,m5,m0,m5,λo=>hi.none_at o⟩;have:i=0:=by have:=(ahR.1 he).1;simpa using this
    subst this;simp at he;subst he
    match j',hx with
    |0,hx=>simp at hx hu;subst hx hu;exact .nul .ptr _ rfl
    |1,hx=>simp at hx hu;subst hx hu;exact VY
    |j'+2,hx=>simp at hx
   .rw[ahY m0]at hy
    simp at hy;subst hy;rfl
  .rcases PS j1 g1 h1 with⟨a1,a2⟩|⟨a1,rfl⟩|⟨a1,rfl⟩<;>rcases PS j2 g2 h2 with⟨b1,b2⟩|⟨b1,rfl⟩|⟨b1,rfl⟩
   .exact hi.inj j1 j2 g1 g2 a2 b2 PE b hb
   .have:=(hi.new j1 g1 b a2 hb).2
    simp only[Gh.block,ne_eq,Option.some.injEq];omega
   .exact λe=>by cases e
   .simp only[Gh.block,Option.some.injEq]at hb
    intro e;have:=(hi.new j2 g2 _ b2 e).2;omega
   .omega
   .exact λe=>by cases e
   .cases hb
   .cases hb
   .cases hb
  .obtain⟨_,b2⟩|⟨_,rfl⟩|⟨_,rfl⟩:=PS j h hh
   .have:=hi.new j h b b2 hb
    exact⟨this.1,m0⟩
   .simp only[Gh.block,Option.some.injEq]at hb;subst hb
    exact⟨λhB=>by have:=hi.bsz _ hB;omega,m0⟩
   .cases hb
theorem Dn {id O9 i off k:Nat}{es:List (List SV)}{u:Value}(hL:L[id]?=some (.row O9 es k))(h:(SV.ep id O9 i off).rep R γ L u):i<es.length /\ ∃ b c,γ[id]?=some (.arr b c)/\u = .pointer (some ⟨b,i*k+off,none⟩):=by
 obtain⟨_,_,QA⟩:=h;obtain⟨h1,g,hg,P5⟩:=(QA _ es k hL).2 rfl
 match g,hg,P5 with
 |.arr b c,hg,P5=>exact⟨h1,b,c,hg,P5⟩
theorem Gj {e:TypeId}{s:Nat}(hs:P.cellsOf e=s)(h0:0<s)(count:Nat)(hn:1<=count):liesAt P P.depth e count 0 e 1=true:=by
 have hd:P.depth=(2*(P.types.size+Made.depth)+1)+1:=rfl;rw[hd];simp only[liesAt,Bool.or_eq_true];left;rw[hd];have:s≠0:=m0
 simp[rowAt,hs,hn,sameLayout,this]
theorem kS {s d t:TypeId}{x:Operand}{id O9 k:Nat}{es:List (List SV)}{j:TypeInfo}(hx:ρ x=some (.one (.ep id O9 0 0)))(hL:L[id]?=some (.row O9 es k))(hs:P.underlying s=some (.pointer t))(hd:P.underlying d=some .unsafePointer)(ht:P.info? t=some j)(hj:j.size≠0) :
  nA P ρ L (.convert s d x) (.one (.ep id O9 0 0)) L:=by
 intro B R γ w ev o ho hi hρ RN;obtain⟨dst,op,type,pos,after,guard⟩:=o;simp only at ho;subst ho;have RF:=(hρ _ (by simp[Op.operands,Call.operands]) _ hx);obtain⟨O8,b,c,hg,hu⟩:=Dn (R:=R) hL RF;obtain⟨vs,E,hb,hE,Qf,hle,hk,_,_⟩:=fu hi hL hg;have Yp:w.shape? b=some (E,c*k):=by simp[World.shape?,hb,Qf]
 have h1:1*k<=c*k:=air _ m0;rw[hu]at RF;refine⟨w,R,γ,.inl ⟨_,?_,RF⟩,hi,Ext.refl _ _ _,Mv.refl⟩;have:=Lib.run_to_unsafe (P:=P) w (⟨b,0*k+0,none⟩:Addr) hs hd ht hj Yp (by show 0*k+0<c*k;omega);simp only[Nat.zero_mul,aiw,Nat.add_zero]at this hu ⊢;simp[execOp,hu,this]
theorem oM {s d:TypeId}{t:Nat}{x:Operand}{id O9 k:Nat}{es:List (List SV)}{j:TypeInfo}(hx:ρ x=some (.one (.ep id O9 0 0)))(hL:L[id]?=some (.row O9 es k))(hs:P.underlying s=some .unsafePointer)(hd:P.underlying d=some (.pointer t))(ht:P.info? t=some j)(hc:P.cellsOf t=k)(hE:O9%65536=t) :
  nA P ρ L (.convert s d x) (.one (.ep id O9 0 0)) L:=by
 intro B R γ w ev o ho hi hρ RN;obtain⟨dst,op,type,pos,after,guard⟩:=o;simp only at ho;subst ho;have RF:=(hρ _ (by simp[Op.operands,Call.operands]) _ hx);obtain⟨O8,b,c,hg,hu⟩:=Dn (R:=R) hL RF;obtain⟨vs,E,hb,Ya,Qf,hle,hk,_,_⟩:=fu hi hL hg;have hEt:E=t:=by rw[Ya.1];exact hE
 subst hEt;have Yp:w.shape? b=some (E,c*k):=by simp[World.shape?,hb,Qf]
 rw[hu]at RF;refine⟨w,R,γ,.inl ⟨_,?_,RF⟩,hi,Ext.refl _ _ _,Mv.refl⟩;have ZS:liesAt P P.depth E (c*k/P.cellsOf E) 0 E 1=true:=by
  rw[hc,Nat.mul_div_cancel _ hk];exact Gj hc hk c m0
 have:=Lib.run_from_unsafe (P:=P) w (⟨b,0*k+0,none⟩:Addr) hs hd ht Yp (by simpa using ZS);simp only[Nat.zero_mul,aiw,Nat.add_zero]at this hu ⊢;simp[execOp,hu,this]
theorem nW {f : FuncId} {fn : Func} {x : Operand} {ts : Array TypeId} {v : AV} (hx : ρ x = some v) (hf : P.funcs[f]? = some fn) (Qy : (fn.name == "runtime.NumGoroutine") = false)
  (hb:fn.body.isNone=true) (hn:Extern.findNext fn=none) (he:Extern.find fn=some Extern.AbiNoEscape.same) :
  nA P ρ L (.call { callee := .value (.func f),args :=#[x],argTypes:=ts }) v L:=by
 intro B R γ w ev o ho hi hρ RN;obtain⟨dst,op,type,pos,after,guard⟩:=o;simp only at ho;subst ho;refine⟨w,R,γ,.inl ⟨ev x,?_,(hρ _ (by simp[Op.operands,Call.operands]) _ hx)⟩,hi,Ext.refl _ _ _,Mv.refl⟩;have:=run_callFunc_extern hf Qy hb hn he #[ev x] w;rw[Lib.run_noEscape]at this;simp[execOp,resolve,Deferred.ofValue,RN.1,invoke,this,Result.andThen]
theorem xt {t te:TypeId}(b:Option Addr)(ht:P.underlying t=some (.pointer te)):(binOp .eql t (.pointer b) (.pointer none)).run P w = .ok (.bool b.isNone) w:=by
 have h:∀ d:Nat,(Op.equalIn (d+1) t (.pointer b) (.pointer none)).run P w = .ok b.isNone w:=λd=>by
  cases b<;>simp[Op.equalIn,run_underlying ht]
 simp only[binOp];rw[Sem.run_bind,show Op.equal t (.pointer b) (.pointer none)=Op.equalIn (9999+1) t (.pointer b) (.pointer none)from rfl,h];simp
theorem ww {t t' te:TypeId}{x y:Operand}(hx:ρ x=some (.one (.c (.nul .ptr))))(hy:ρ y=some (.one (.c (.nul .ptr))))(ht:P.underlying t=some (.pointer te)) :
  nA P ρ L (.binOp .eql t x y t') (.one (.c (.bool true))) L:=by
 intro B R γ w ev o ho hi hρ RN;obtain⟨dst,Xj,type,pos,after,guard⟩:=o;simp only at ho;subst ho;have h1:=(hρ _ (by simp[Op.operands,Call.operands]) _ hx);have h2:=(hρ _ (by simp[Op.operands,Call.operands]) _ hy);generalize hex:ev x=ux at h1;generalize Xz:ev y=uy at h2
 cases h1 with|nul _ _ e1=>cases h2 with|nul _ _ e2 =>
 subst e1 e2;have:=xt (P:=P) (w:=w) none ht;exact⟨w,R,γ,.inl ⟨.bool true,by simp[execOp,hex,Xz,eqGuard,Nul.val,this],.bool true⟩,hi,Ext.refl _ _ _,Mv.refl⟩
theorem pH {t t' te:TypeId}{x y:Operand}{id O9 i off k:Nat}{es:List (List SV)}(hx:ρ x=some (.one (.ep id O9 i off)))(hL:L[id]?=some (.row O9 es k))(hy:ρ y=some (.one (.c (.nul .ptr))))(ht:P.underlying t=some (.pointer te)) :
  nA P ρ L (.binOp .eql t x y t') (.one (.c (.bool false))) L:=by
 intro B R γ w ev o ho hi hρ RN;obtain⟨dst,Xj,type,pos,after,guard⟩:=o;simp only at ho;subst ho;obtain⟨_,b,c,_,hu⟩:=Dn (R:=R) hL (hρ _ (by simp[Op.operands,Call.operands]) _ hx);have h2:=(hρ _ (by simp[Op.operands,Call.operands]) _ hy);generalize Xz:ev y=uy at h2
 cases h2 with|nul _ _ e2 =>
 subst e2;have:=xt (P:=P) (w:=w) (some ⟨b,i*k+off,none⟩) ht;exact⟨w,R,γ,.inl ⟨.bool false,by simp[execOp,hu,Xz,eqGuard,Nul.val,this],.bool false⟩,hi,Ext.refl _ _ _,Mv.refl⟩
theorem pz {t t' te:TypeId}{x y:Operand}{id O9 i off k:Nat}{es:List (List SV)}{j:TypeInfo}(hx:ρ x=some (.one (.ep id O9 i off)))(hL:L[id]?=some (.row O9 es k))(hy:ρ y=some (.one (.ep id O9 i off)))(ht:P.underlying t=some (.pointer te))(T8:P.info? te=some j) :
  nA P ρ L (.binOp .neq t x y t') (.one (.c (.bool false))) L:=by
 intro B R γ w ev o ho hi hρ RN;obtain⟨dst,Xj,type,pos,after,guard⟩:=o;simp only at ho;subst ho;obtain⟨_,b,c,hg,hu⟩:=Dn (R:=R) hL (hρ _ (by simp[Op.operands,Call.operands]) _ hx);obtain⟨_,b',c',RO,Zb⟩:=Dn (R:=R) hL (hρ _ (by simp[Op.operands,Call.operands]) _ hy);rw[hg]at RO;injection RO with RO;injection RO with e1 e2;subst e1 e2
 refine⟨w,R,γ,.inl ⟨.bool false,?_,.bool false⟩,hi,Ext.refl _ _ _,Mv.refl⟩;have:=Lib.run_neq_ptr_same (P:=P) w (⟨b,i*k+off,none⟩:Addr) ht T8;simp[execOp,hu,Zb,eqGuard,this]
theorem tJ {t t' te:TypeId}{x:Operand}{vx:AV}{e:List AC}{es:List (List AC)}(hx:ρ x=some vx)(hl:cX vx=some (e::es))(ht:P.underlying t=some (.slice te)) :
  nA P ρ L (.binOp .eql t x (.const (.slice none 0 0)) t') (.one (.c (.bool false))) L:=by
 intro B R γ w ev o ho hi hρ RN;obtain⟨dst,Xj,type,pos,after,guard⟩:=o;simp only at ho;subst ho;have h1:=iD (hρ x (by simp[Op.operands]) _ hx) hl;generalize hex:ev x=ux at h1
 cases h1 with
 |lst a n c _ k cv b o hn hc hk ha hr he =>
  have h0:0<n:=by rw[<- hn];simp
  have ha':=ha h0;subst ha';refine⟨w,R,γ,.inl ⟨.bool false,?_,.bool false⟩,hi,Ext.refl _ _ _,Mv.refl⟩;have h:∀ d:Nat,(Op.equalIn (d+1) t (.slice (some ⟨b,o,none⟩) n c) (.slice none 0 0)).run P w = .ok false w:=λd=>by
   simp[Op.equalIn,run_underlying ht]
  have h2:(binOp .eql t (.slice (some ⟨b,o,none⟩) n c) (.slice none 0 0)).run P w = .ok (.bool false) w:=by
   simp only[binOp];rw[Sem.run_bind,show Op.equal t (.slice (some ⟨b,o,none⟩) n c) (.slice none 0 0)=Op.equalIn (9999+1) t (.slice (some ⟨b,o,none⟩) n c) (.slice none 0 0)from rfl,h];simp
  simp[execOp,hex,RN.2,eqGuard,h2]
theorem sJ {x:Operand}{ts:Array TypeId}{id O9 n k:Nat}{es:List (List SV)}(hx:ρ x=some (.one (.sl id O9 0 n)))(hL:L[id]?=some (.row O9 es k))(hn:0<n) :
  nA P ρ L (.call { callee := .builtin .unsafeSliceData,args :=#[x],argTypes:=ts }) (.one (.ep id O9 0 0)) L:=by
 intro B R γ w ev o ho hi hρ RN;obtain⟨dst,Xj,type,pos,after,guard⟩:=o;simp only at ho;subst ho;obtain⟨hvc,O8,QA⟩:=(hρ _ (by simp[Op.operands,Call.operands]) _ hx);obtain⟨hle,g,hg,P5⟩:=(QA _ es k hL).2 rfl
 match g,hg,P5 with
 |.none,hg,⟨_,h0,_⟩=>omega
 |.arr b c,hg,P5 =>
  have P5:ev x = .slice (some ⟨b,0*k,none⟩) n (c-0):=by
   obtain P5|⟨_,h0,_⟩:=P5
   .exact P5
   .omega
  obtain⟨vs,E,hb,Ya,Qf,YE,hk,_,_⟩:=fu hi hL hg;have hc:c≠0:=m0
  refine⟨w,R,γ,.inl ⟨.pointer (some ⟨b,0,none⟩),?_,⟨rfl,rfl⟩,O8,λRl UC k2 e2=>?_⟩,hi,Ext.refl _ _ _,Mv.refl⟩
  .have:=Lib.run_unsafeSliceData_row (P:=P) w ts type (⟨b,0,none⟩:Addr) n c hc
   simp only[Nat.zero_mul,Nat.sub_zero]at P5;simp[execOp,resolve,invoke,builtin,P5,this]
  .rw[hL]at e2;injection e2 with e2;injection e2 with q1 q2 q3;subst q1 q2 q3
   refine⟨ah7 _,λ_=>⟨m0,.arr b c,hg,?_⟩⟩;simp[agj]
theorem qI {x:Operand}{ts:Array TypeId}{id O9 k:Nat}(hx:ρ x=some (.one (.sl id O9 0 0)))(hL:L[id]?=some (.row O9 [] k))(hv:O9<65536) :
  nA P ρ L (.call { callee := .builtin .unsafeSliceData,args :=#[x],argTypes:=ts }) (.one (.c (.nul .ptr))) L:=by
 intro B R γ w ev o ho hi hρ RN;obtain⟨dst,Xj,type,pos,after,guard⟩:=o;simp only at ho;subst ho;obtain⟨hvc,O8,QA⟩:=(hρ _ (by simp[Op.operands,Call.operands]) _ hx);obtain⟨hle,g,hg,P5⟩:=(QA _ [] k hL).2 rfl
 match g,hg,P5 with
 |.none,hg,⟨hu,h0,_⟩ =>
  exact⟨w,R,γ,.inl ⟨.pointer none,by have:=Lib.run_unsafeSliceData_nil (P:=P) w ts type 0 0;simp[execOp,resolve,invoke,builtin,hu,this],.nul .ptr _ rfl⟩,hi,Ext.refl _ _ _,Mv.refl⟩
 |.arr b c,hg,P5 =>
  obtain⟨vs,E,hb,Ya,Qf,YE,hk,_,_⟩:=fu hi hL hg;omega
theorem lM {x y:Operand}{pt it:TypeId}(hx:ρ x=some (.one (.c (.nul .ptr))))(hy:ρ y=some (.one (.c (.int .i64 0)))) :
  nA P ρ L (.call { callee := .builtin .unsafeString,args :=#[x,y],argTypes :=#[pt,it] }) (.one (.c (.str .empty))) L:=by
 intro B R γ w ev o ho hi hρ RN;obtain⟨dst,Xj,type,pos,after,guard⟩:=o;simp only at ho;subst ho;have h1:=(hρ _ (by simp[Op.operands,Call.operands]) _ hx);have h2:=(hρ _ (by simp[Op.operands,Call.operands]) _ hy);generalize hex:ev x=ux at h1;generalize Xz:ev y=uy at h2
 cases h1 with|nul _ _ e1 =>
 cases h2;subst e1;have:=Lib.run_unsafeString_none (P:=P) w pt it type none;exact⟨w,R,γ,.inl ⟨.string .empty,by simp[execOp,resolve,invoke,builtin,hex,Xz,Nul.val,this],.str _⟩,hi,Ext.refl _ _ _,Mv.refl⟩
theorem ny {x y:Operand}{pt it:TypeId}{E id O9:Nat}{s:ByteArray}(hx:ρ x=some (.one (.ep id O9 0 0)))(hy:ρ y=some (.one (.c (.int .i64 s.size))))(hL:L[id]?=some (.row O9 (bj s) 1))(hE:O9%65536=E)(hp:P.underlying pt=some (.pointer E))(hc:P.cellsOf E=1)
  (h0:0<s.size) (h63:s.size<=9223372036854775807) :
  nA P ρ L (.call { callee := .builtin .unsafeString,args :=#[x,y],argTypes :=#[pt,it] }) (.one (.c (.str s))) (L.set id .dead):=by
 intro B R γ w ev o ho hi hρ RN;obtain⟨dst,Xj,type,pos,after,guard⟩:=o;simp only at ho;subst ho;obtain⟨_,b,c,hg,hu⟩:=Dn (R:=R) hL (hρ _ (by simp[Op.operands,Call.operands]) _ hx);have h2:=(hρ _ (by simp[Op.operands,Call.operands]) _ hy);generalize Xz:ev y=uy at h2
 cases h2;obtain⟨vs,E2,hb,Ya,Qf,hle,hk,P_,VU⟩:=fu hi hL hg;have hEt:E2=E:=by rw[Ya.1];exact hE
 subst hEt;have hlen:(bj s).length=s.size:=by unfold bj;rw[ah3];simp
 have ZT:s.data.toList.length=s.size:=by simp
 have Yp:w.shape? b=some (E2,c*1):=by simp[World.shape?,hb,Qf]
 have P4:=Lib.run_unsafeString_row (P:=P) w pt it type E2 hp hc b (c*1) Yp s.data.toList (by intro e;rw[e]at ZT;simp at ZT;omega) (by rw[ZT];omega) (by rw[ZT];omega) (λj x hj=>by
  have Wh:=(ahR.1 hj).1;rw[Addr.add_mid,aiw,cob_ hb];have X7:j<vs.size:=by rw[Qf];omega
  have hbr:(bj s)[j]?=some [.c (.int .u8 x.toNat)]:=by unfold bj;rw[aic,hj];rfl
  have:=P_.rep j _ 0 vs[j] _ hbr (by
   rw[Nat.mul_one,Nat.add_zero,aij,if_pos m0];simp[X7]) rfl
  rw[aie X7];generalize vs[j]=vj at this
  cases this;rfl)
 rw[ZT]at P4;have hfr:∀ m,0<m->((∀ b',b'≠b->(w.freeze ⟨b,0,none⟩ m).heap[b']?=w.heap[b']?)/\(w.freeze ⟨b,0,none⟩ m).heap.size=w.heap.size)/\(w.freeze ⟨b,0,none⟩ m).os=w.os/\(w.freeze ⟨b,0,none⟩ m).tape=w.tape/\(w.freeze ⟨b,0,none⟩ m).output=w.output:=by
  intro m hm;have:m≠0:=m0
  refine⟨⟨λb' PE=>?_,?_⟩,?_,?_,?_⟩<;>simp only[World.freeze,hb]<;>simp[this];rw[Array.getElem?_modify];simp[Ne.symm PE]
 obtain⟨⟨Xm,hfs⟩,f1,f2,f3⟩:=hfr s.size h0;obtain⟨i1,i2⟩:=hi.kill hL hg rfl (λb e=>by cases e) (R':=R) (w':=w.freeze ⟨b,0,none⟩ s.size) (PH.sub_refl _) Xm hfs (λ_ _ _=>rfl) (λo u e=>by rw[VU o]at e;cases e);have VB:=(hi.new id _ b hg rfl).1;refine⟨_,R,_,.inl ⟨.string s,?_,.str s⟩,i1,⟨⟨?_,?_,?_,m0,λb' Ry=>Xm b' (λe=>VB (by rw[<- e];exact Ry))⟩,PH.sub_refl _,λ_ _ _=>rfl⟩,i2⟩
 .have hs:(⟨s.data.toList.toArray⟩:ByteArray)=s:=by cases s;simp
  rw[hs]at P4;simp only[Nat.zero_mul,aiw,Nat.add_zero]at hu;simp[execOp,resolve,invoke,builtin,hu,Xz,P4]
 .exact f1
 .exact f2
 .exact f3
end
open Go.RowKit
def jk:List (List SV)->Option (List (List AC))
 |[]=>some []
 |e::es=>match jh e,jk es with
  |some x,some xs=>some (x::xs)
  |_,_=>none
theorem wR:∀ {es:List (List SV)} {cs:List (List AC)},jk es=some cs->es.length=cs.length
 |[],cs,h=>by injection h with h;subst h;rfl
 |e::es,cs,h=>by
  unfold jk at h;split at h
  .rename_i x xs hx QP;injection h with h;subst h;simp[wR QP]
  .cases h
theorem vM:∀ {es:List (List SV)} {cs:List (List AC)},jk es=some cs ->∀ (i:Nat) c,cs[i]?=some c ->∃ e,es[i]?=some e/\jh e=some c
 |[],cs,h=>by injection h with h;subst h;intro i c hc;simp at hc
 |e::es,cs,h=>by
  unfold jk at h;split at h
  .rename_i x xs hx QP
   injection h with h;subst h
   intro i c hc
   cases i with
   |zero=>simp at hc;subst hc;exact⟨e,rfl,hx⟩
   |succ i=>simp at hc;obtain⟨e',h1,h2⟩:=vM QP i c hc;exact⟨e',by simpa using h1,h2⟩
  .cases h
theorem qX:∀ (cs:List (List AC)),jk (cs.map (List.map SV.c))=some cs
 |[]=>rfl
 |c::cs=>by
  have h1:∀ l:List AC,jh (l.map SV.c)=some l:=by
   intro l
   induction l with
   |nil=>rfl
   |cons x l ih=>simp[jh,SV.norm,ih]
  simp[jk,h1,qX cs]
section
variable {P:Program} {ti:TI} {B:Nat->Prop} {N n0:Nat} {R:PH} {γ:List Gh} {L:List Ob} {T:Tm} {w:World} {Q:AX->Tm->List Ob->Prop}
end
section
variable {P:Program} {ti:TI} {N n0:Nat} {L:List Ob} {T:Tm} {Q:AX->Tm->List Ob->Prop}
theorem xA {B:Nat->Prop}{R:PH}{γ:List Gh}{w:World}(hi:Inv B R γ L w){id O9 k:Nat}{es:List (List SV)}{cs:List (List AC)}(hL:L[id]?=some (.row O9 es k))(hn:jk es=some cs) :
  ∃ R' γ',Inv B R' γ' (L.set id .dead) w/\Ext B R R' w w/\Mv R R' γ γ' L (L.set id .dead) /\ ∀ lo n u,(SV.sl id O9 lo n).rep R γ L u->bK R' u (.lst ((cs.drop lo).take n)):=by
 have O8:id<L.length:=(ahR.1 hL).1;obtain⟨g,hg⟩:∃ g,γ[id]?=some g:=⟨_,ah0 (by rw[hi.len];exact O8)⟩;have Sj:=hi.obj id _ _ hL hg;have hlc:=wR hn
 match g,hg,Sj with
 |.none,hg,Sj =>
  have he:es=[]:=Sj;subst he;injection hn with hn;subst hn
  have hm:Mv R R γ (γ.set id .none) L (L.set id .dead):=Mv.setOb (PH.sub_refl _) hi.len hL (λb e=>by rw[hg]at e;cases e) (λ_ _ e=>by cases e) (λ_ _ _ e=>by cases e);have ZQ:γ.set id .none=γ:=by
   apply List.ext_getElem?;intro j;by_cases hj:j=id
   .subst hj;rw[ah_ (by rw[hi.len];exact O8),hg]
   .rw[ah' (Ne.symm hj)]
  rw[ZQ]at hm;refine⟨R,γ,⟨by simp[hi.len],hi.val,λj y h hy hh=>?_,hi.inj,hi.new,hi.bsz⟩,Ext.refl _ _ _,hm,λlo n u hu=>?_⟩
  .by_cases hj:j=id
   .subst hj
    rw[ah_ O8]at hy;injection hy with hy;subst hy
    rw[hg]at hh;injection hh with hh;subst hh
    trivial
   .rw[ah' (Ne.symm hj)]at hy
    exact(hi.obj j y h hy hh).mv hm (λ_ _=>rfl) (λ_ _ _ e=>e)
  .obtain⟨_,_,QA⟩:=hu
   obtain⟨_,g',RO,P5⟩:=(QA _ [] k hL).2 rfl;rw[hg]at RO;injection RO with RO;subst RO
   obtain⟨rfl,rfl,rfl⟩:=P5;exact dS _ _ _
 |.arr b c,hg,Sj =>
  obtain⟨vs,E,hb,hE,Qf,hle,hk,P_,VU⟩:=fu hi hL hg;have YE:es.length*k<=c*k:=air _ hle;have Sm:∀ b' o u,R b' o=some u->(if b'=b/\o<es.length*k then vs[o]? else R b' o)=some u:=by
   intro b' o u h;by_cases hc:b'=b/\o<es.length*k
   .exfalso;rw[hc.1,VU]at h;cases h
   .rw[if_neg hc];exact h
  let R':PH:=R.put (λb' o=>if b'=b/\o<es.length*k then vs[o]? else R b' o) Sm
  have SK:PH.sub R R':=Sm;obtain⟨i1,i2⟩:=hi.kill hL hg rfl (λb e=>by cases e) (R':=R') (w':=w) SK (λ_ _=>rfl) rfl (λb' o PE=>by show(if b'=b/\o<es.length*k then vs[o]? else R b' o)=R b' o;rw[if_neg (λh=>PE h.1)])
   (λo u h=>by
    have h:(if b=b/\o<es.length*k then vs[o]? else R b o)=some u:=h;rw[cob_ hb];by_cases hc:b=b/\o<es.length*k
    .rw[if_pos hc]at h;exact h
    .rw[if_neg hc,VU]at h;cases h)
  have VB:=(hi.new id _ b hg rfl).1;refine⟨R',γ.set id .none,i1,⟨Kept.refl _ _,SK,λb' o Ry=>?_⟩,i2,λlo n u hu=>?_⟩
  .show(if b'=b/\o<es.length*k then vs[o]? else R b' o)=R b' o
   rw[if_neg (λh=>VB (by rw[<- h.1];exact Ry))]
  .obtain⟨_,_,QA⟩:=hu
   obtain⟨hln,g',RO,P5⟩:=(QA _ es k hL).2 rfl;rw[hg]at RO;injection RO with RO;subst RO
   have hlen:((cs.drop lo).take n).length=n:=by simp;omega
   have Sl:∃ a c',u = .slice a n c'/\n<=c'/\(0<n->a=some ⟨b,lo*k,none⟩):=by
    obtain P5|⟨q1,q2,a,q3⟩:=P5
    .exact⟨_,_,P5,m0,λ_=>rfl⟩
    .exact⟨a,0,by rw[q3,q2],m0,λh=>by omega⟩
   obtain⟨a,c',rfl,Yw,ha⟩:=Sl;have h1:lo*k+n*k<=es.length*k:=by rw[<- Nat.add_mul];exact air _ hln
   have ZU:∀ (i:Nat) e,((cs.drop lo).take n)[i]?=some e->i<n /\ ∃ y,es[lo+i]?=some y/\jh y=some e:=by
    intro i e he;rw[aij]at he;split at he
    .rename_i SI
     rw[aiA]at he;obtain⟨y,g1,g2⟩:=vM hn (lo+i) e he;exact⟨SI,y,g1,g2⟩
    .cases he
   refine .lst a n c' _ k (λj=>(vs[lo*k+j]?).getD Go.undef) b (lo*k) hlen Yw (λe he=>?_) ha (λj hj=>?_) (λi e j x he hx=>?_)
   .obtain⟨i,Ub⟩:=List.mem_iff_getElem?.1 he
    obtain⟨_,y,g1,g2⟩:=ZU i e Ub;rw[iG g2];exact P_.wide y (ahX g1)
   .have Rz:lo*k+j<vs.size:=m0
    show(if b=b/\lo*k+j<es.length*k then vs[lo*k+j]? else R b (lo*k+j))=_;rw[if_pos ⟨rfl,m0⟩,aie Rz];rfl
   .obtain⟨SI,y,g1,g2⟩:=ZU i e he
    have UU:j<k:=by rw[<- P_.wide y (ahX g1),<- iG g2];exact(ahR.1 hx).1
    have YF:=oD SI UU;have Rz:lo*k+(i*k+j)<vs.size:=m0
    have hyj:j<y.length:=by rw[P_.wide y (ahX g1)];exact UU
    have hr:=P_.rep (lo+i) y j vs[lo*k+(i*k+j)] _ g1 (by
     rw[aij,if_pos (by rw[Nat.add_mul];omega),Nat.add_mul,Nat.add_assoc];simp[Rz]) (ah0 hyj)
    have:=SV.norm_rep hr (nu g2 j _ _ (ah0 hyj) hx);show bK R' ((vs[lo*k+(i*k+j)]?).getD Go.undef) x;rw[aie Rz];exact bK.mono SK this
theorem ga {c:Code}(id t:Nat){O9 k n:Nat}{es:List (List SV)}{cs:List (List AC)}(hL:L[id]?=some (.row O9 es k))(hn:jk es=some cs)(ht:T.lookup t=some (.one (.sl id O9 0 n)))(hlen:cs.length=n)(h:Aw P N n0 c Q ((t,.one (.c (.lst cs)))::T) (L.set id .dead)):Aw P N n0 c Q T L:=by
 intro Ua B R γ w a hi hT;obtain⟨R',γ',hI,hE,hM,hS⟩:=xA hi hL hn;refine wp_mono (h (by simpa using Ua) B R' γ' w a hI ?_) λ_ _ _ hh=>hh.ext hE hi.len (uK.of Ua hM)
 refine⟨hT.size,hT.defers,λt' x hx=>?_⟩;rw[List.lookup_cons]at hx;by_cases e:t'=t
 .subst e
  simp at hx;subst hx;obtain⟨u,h1,h2⟩:=hT.slot t' _ ht;refine⟨u,h1,?_⟩;have:=hS 0 n u h2;rw[List.drop_zero,<- hlen,List.take_length]at this;exact this
 .have:(t'==t)=false:=by simpa using e
  rw[this]at hx;obtain⟨u,h1,h2⟩:=hT.slot t' x hx;exact⟨u,h1,AV.mv hM h2⟩
end
def unC (id:Nat)(ts:List AC):Cap->Cap
 |.ptr i off=>if i=id then .c (.ref (ts.drop off))else .ptr i off
 |.c x => .c x
def unS (id:Nat)(ts:List AC):SV->SV
 |.ptr i off=>if i=id then .c (.ref (ts.drop off))else .ptr i off
 |.clo f Pz=>match oY (Pz.map (unC id ts))with
  |some cs => .c (.fn f cs)
  |none => .clo f (Pz.map (unC id ts))
 |x=>x
def unA (id:Nat)(ts:List AC):AV->AV
 |.one x => .one (unS id ts x)
 |.agg xs => .agg (xs.map (unS id ts))
 |v=>v
section
variable {P:Program} {ti:TI} {B:Nat->Prop} {N n0:Nat} {R:PH} {γ:List Gh} {L:List Ob} {T:Tm} {w:World} {Q:AX->Tm->List Ob->Prop}
theorem Ba (hi:Inv B R γ L w){id:Nat}{cs:List SV}{ts:List AC}(hL:L[id]?=some (.box cs))(hn:jh cs=some ts) :
  ∃ R',Inv B R' γ (L.set id .dead) w/\Ext B R R' w w/\Mv R R' γ γ L (L.set id .dead) /\ ∀ off u,(SV.ptr id off).rep R γ L u->bK R' u (.ref (ts.drop off)):=by
 have O8:id<L.length:=(ahR.1 hL).1;obtain⟨g,hg⟩:∃ g,γ[id]?=some g:=⟨_,ah0 (by rw[hi.len];exact O8)⟩;have Sj:=hi.obj id _ _ hL hg
 match g,hg,Sj with
 |.box b,hg,Sj =>
  obtain⟨⟨vs,E,hb,Qf,UE⟩,VU⟩:=Sj;have Sm:∀ b' o u,R b' o=some u->(if b'=b then vs[o]? else R b' o)=some u:=by
   intro b' o u h;by_cases hc:b'=b
   .exfalso;rw[hc,VU]at h;cases h
   .rw[if_neg hc];exact h
  let R':PH:=R.put (λb' o=>if b'=b then vs[o]? else R b' o) Sm
  have SK:PH.sub R R':=Sm;have Xp:∀ o,R' b o=vs[o]?:=λo=>by show(if b=b then vs[o]? else R b o)=_;rw[if_pos rfl]
  have X2:∀ b' o,b'≠b->R' b' o=R b' o:=λb' o h=>by show(if b'=b then vs[o]? else R b' o)=_;rw[if_neg h]
  have Yc:∀ (t:Nat) x,(L.set id .dead)[t]?=some x->x ≠ .dead->L[t]?=some x:=by
   intro t x hx PE;by_cases ht:t=id
   .subst ht;rw[ah_ O8]at hx;injection hx with hx;exact absurd hx.symm PE
   .rwa[ah' (Ne.symm ht)]at hx
  have hm:Mv R R' γ γ L (L.set id .dead):=⟨Sm,m5,λt n' k _ h=>⟨n',Yc t _ h (λe=>by cases e),ah7 _,λ_=>rfl⟩,λt O9 es k _ h=>⟨O9,es,Yc t _ h (λe=>by cases e),ah7 _,λ_=>⟨rfl,rfl⟩⟩,λ_ _ h=>h⟩;have VB:=(hi.new id _ b hg rfl).1;refine⟨R',⟨by simp[hi.len],λb' o u h=>?_,λj y h hy hh=>?_,hi.inj,hi.new,hi.bsz⟩,⟨Kept.refl _ _,Sm,λb' o Ry=>X2 b' o (λe=>VB (e▸Ry))⟩,hm,λoff u hu=>?_⟩
  .by_cases hc:b'=b
   .subst hc;rw[Xp]at h;rw[cob_ hb];exact h
   .rw[X2 _ _ hc]at h;exact hi.val _ _ _ h
  .by_cases hj:j=id
   .subst hj
    rw[ah_ O8]at hy;injection hy with hy;subst hy
    rw[hg]at hh;injection hh with hh;subst hh
    trivial
   .rw[ah' (Ne.symm hj)]at hy
    exact(hi.obj j y h hy hh).mv hm (λ_ _=>rfl) (λb' o Ry e=>by rw[X2 b' o (λe'=>hi.inj j id h _ hh hg hj b' Ry (by rw[e'];rfl))];exact e)
  .obtain⟨b2,rfl,Pe⟩:=hu
   rw[hg]at Pe;injection Pe with Pe;injection Pe with Pe;subst Pe
   have hlen:=iG hn;refine .ref b off (ts.drop off) (λj=>(vs[off+j]?).getD Go.undef) (λj hj=>?_) (λj x hx=>?_)
   .have Rz:off+j<vs.size:=by rw[List.length_drop]at hj;omega
    rw[Xp,aie Rz];rfl
   .rw[aiA]at hx
    have YF:off+j<ts.length:=(ahR.1 hx).1;have Rz:off+j<vs.size:=m0
    have hcj:off+j<cs.length:=m0
    show bK R' ((vs[off+j]?).getD Go.undef) x;rw[aie Rz];exact bK.mono SK (SV.norm_rep (UE (off+j) _ _ (aie Rz) (ah0 hcj)) (nu hn (off+j) _ _ (ah0 hcj) hx))
theorem adk {R':PH}{L':List Ob}{id:Nat}{ts:List AC}(hS:∀ off u,(SV.ptr id off).rep R γ L u->bK R' u (.ref (ts.drop off)))(hM:Mv R R' γ γ L L'){x:Cap}{u:Value}(h:x.rep R γ u):(unC id ts x).rep R' γ u:=by
 cases x with
 |c x=>exact Cap.mv hM.sub hM.ptr h
 |ptr i off =>
  unfold unC;dsimp only;split
  .rename_i e;subst e;exact hS off u h
  .exact Cap.mv hM.sub hM.ptr h
theorem KV {R':PH}{L':List Ob}{id:Nat}{ts:List AC}(hS:∀ off u,(SV.ptr id off).rep R γ L u->bK R' u (.ref (ts.drop off)))(hM:Mv R R' γ γ L L'){x:SV}{u:Value}(h:x.rep R γ L u):(unS id ts x).rep R' γ L' u:=by
 cases x with
 |ptr i off =>
  unfold unS;dsimp only;split
  .rename_i e;subst e;exact hS off u h
  .exact SV.mv hM h
 |clo f Pz =>
  obtain⟨vs,rfl,Qf,hc⟩:=h;have Zc:∀ (j:Nat) u x,vs[j]?=some u->(Pz.map (unC id ts))[j]?=some x->x.rep R' γ u:=by
   intro j u x hu hx;rw[aic]at hx
   cases hy:Pz[j]? with
   |none=>rw[hy]at hx;cases hx
   |some y=>rw[hy]at hx;cases hx;exact adk hS hM (hc j u y hu hy)
  unfold unS;dsimp only;split
  .rename_i cs Vl
   have hl:=wh Vl;rw[ah3]at hl;exact .fn f vs cs (by rw[Qf,hl]) (λj v x hv hx=>Zc j v (.c x) hv (wO Vl j x hx))
  .exact⟨vs,rfl,by rw[Qf,ah3],Zc⟩
 |c x=>exact SV.mv hM h
 |emp=>exact SV.mv (x := .emp) hM h
 |own es t=>exact SV.mv (x := .own es t) hM h
 |sl i v l n=>exact SV.mv (x := .sl i v l n) hM h
 |ep i v j o=>exact SV.mv (x := .ep i v j o) hM h
 |mp i=>exact SV.mv (x := .mp i) hM h
theorem ac_ {R':PH}{L':List Ob}{id:Nat}{ts:List AC}(hS:∀ off u,(SV.ptr id off).rep R γ L u->bK R' u (.ref (ts.drop off)))(hM:Mv R R' γ γ L L'){x:AV}{u:Value}(h:x.rep R γ L u):(unA id ts x).rep R' γ L' u:=by
 cases x with
 |one x=>exact KV hS hM h
 |agg xs =>
  obtain⟨vs,rfl,Qf,hc⟩:=h;refine⟨vs,rfl,by rw[Qf,ah3],λj u x hu hx=>?_⟩;rw[aic]at hx
  cases hy:xs[j]? with
  |none=>rw[hy]at hx;cases hx
  |some y=>rw[hy]at hx;cases hx;exact KV hS hM (hc j u y hu hy)
 |tup ps=>exact AV.mv (x := .tup ps) hM h
 |tupS xs=>exact AV.mv (x := .tupS xs) hM h
 |undef=>exact AV.mv (x := .undef) hM h
theorem pV {f:AV->AV}:∀ {T:Tm} {t:Nat} {x:AV},(T.map λp=>(p.1,f p.2)).lookup t=some x ->∃ y,T.lookup t=some y/\x=f y
 |[],t,x,h=>by cases h
 |p::T,t,x,h=>by
  rw[ah2,List.lookup_cons]at h;rw[List.lookup_cons];by_cases e:t=p.1
  .subst e;simp at h;exact⟨p.2,m5,h.symm⟩
  .have e':(t==p.1)=false:=by simpa using e
   rw[e']at h ⊢;exact pV h
theorem EJ {c:Code}(id:Nat){cs:List SV}{ts:List AC}(hL:L[id]?=some (.box cs))(hn:jh cs=some ts)(h:Aw P N n0 c Q (T.map λp=>(p.1,unA id ts p.2)) (L.set id .dead)):Aw P N n0 c Q T L:=by
 intro Ua B R γ w a hi hT;obtain⟨R',hI,hE,hM,hS⟩:=Ba hi hL hn;refine wp_mono (h (by simpa using Ua) B R' γ w a hI ?_) λ_ _ _ hh=>hh.ext hE hi.len (uK.of Ua hM)
 refine⟨hT.size,hT.defers,λt x hx=>?_⟩;obtain⟨y,hy,rfl⟩:=pV hx;obtain⟨u,h1,h2⟩:=hT.slot t y hy;exact⟨u,h1,ac_ hS hM h2⟩
def thS (id O9:Nat)(cs:List (List AC)):SV->SV
 |.sl W9 Pn lo n=>if W9=id/\Pn=O9 then .c (.lst ((cs.drop lo).take n))else .sl W9 Pn lo n
 |x=>x
def thA (id O9:Nat)(cs:List (List AC)):AV->AV
 |.one x => .one (thS id O9 cs x)
 |.agg xs => .agg (xs.map (thS id O9 cs))
 |v=>v
theorem LR {R':PH}{γ':List Gh}{L':List Ob}{id O9:Nat}{cs:List (List AC)}(hS:∀ lo n u,(SV.sl id O9 lo n).rep R γ L u->bK R' u (.lst ((cs.drop lo).take n)))(hM:Mv R R' γ γ' L L'){x:SV}{u:Value}(h:x.rep R γ L u):(thS id O9 cs x).rep R' γ' L' u:=by
 cases x with
 |sl i v l n =>
  unfold thS;dsimp only;split
  .rename_i e;obtain⟨rfl,rfl⟩:=e;exact hS l n u h
  .exact SV.mv hM h
 |c x=>exact SV.mv hM h
 |emp=>exact SV.mv (x := .emp) hM h
 |own es t=>exact SV.mv (x := .own es t) hM h
 |ptr i o=>exact SV.mv (x := .ptr i o) hM h
 |ep i v j o=>exact SV.mv (x := .ep i v j o) hM h
 |mp i=>exact SV.mv (x := .mp i) hM h
 |clo f Pz=>exact SV.mv (x := .clo f Pz) hM h
theorem tW {c:Code}(id:Nat){O9 k:Nat}{es:List (List SV)}{cs:List (List AC)}(hL:L[id]?=some (.row O9 es k))(hn:jk es=some cs)(h:Aw P N n0 c Q (T.map λp=>(p.1,thA id O9 cs p.2)) (L.set id .dead)):Aw P N n0 c Q T L:=by
 intro Ua B R γ w a hi hT;obtain⟨R',γ',hI,hE,hM,hS⟩:=xA hi hL hn;refine wp_mono (h (by simpa using Ua) B R' γ' w a hI ?_) λ_ _ _ hh=>hh.ext hE hi.len (uK.of Ua hM)
 refine⟨hT.size,hT.defers,λt x hx=>?_⟩;obtain⟨y,hy,rfl⟩:=pV hx;obtain⟨u,h1,h2⟩:=hT.slot t y hy;refine⟨u,h1,?_⟩
 cases y with
 |one x=>exact LR hS hM h2
 |agg xs =>
  obtain⟨vs,rfl,Qf,hc⟩:=h2;refine⟨vs,rfl,by rw[Qf,ah3],λj u x hu hx=>?_⟩;rw[aic]at hx
  cases hy:xs[j]? with
  |none=>rw[hy]at hx;cases hx
  |some y=>rw[hy]at hx;cases hx;exact LR hS hM (hc j u y hu hy)
 |tup ps=>exact AV.mv (x := .tup ps) hM h2
 |tupS xs=>exact AV.mv (x := .tupS xs) hM h2
 |undef=>exact AV.mv (x := .undef) hM h2
end
