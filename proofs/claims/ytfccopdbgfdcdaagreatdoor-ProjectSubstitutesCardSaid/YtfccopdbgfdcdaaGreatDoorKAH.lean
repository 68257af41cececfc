/- Parts of the proof, joined. No condition. -/
import Derived.Test.YtfccopdbgfdcdaaGreatDoorKAA
import Derived.Test.YtfccopdbgfdcdaaGreatDoorKAG
import Derived.IntWalk
import Derived.MapFrom
import Derived.Laws.MakeOwn
import Derived.Lib.UnsafeStr
set_option linter.unusedSimpArgs false
set_option linter.unusedVariables false
namespace Go.Proofs.YtfccopdbgfdcdaaGreatDoor
open Go.RowKit
def TU (T':Tm):Tm->Prop
 | []=>True
 | (t,x)::T=>T'.lookup t=some x/\TU T' T
def R7 (n:Nat):Tm->Prop
 | []=>True
 | (_,x)::T=>x.below n/\R7 n T
def I_ (n:Nat):List Ob->Prop
 | []=>True
 | x::L=>x.below n/\I_ n L
theorem fm_ {T' T:Tm} {L' L:List Ob} (h1:TU T' T) (G:List Ob) (h2:L'=L++G) (h3:R7 L.length T) (h4:I_ L.length L):Fits T' L' T L:=by
 refine ⟨fun p hp=>?_,⟨G,h2⟩,fun p hp=>?_,fun x hx=>?_⟩
 ·clear h3 h2
  induction T with
  | nil=>cases hp
  | cons q T ih =>
   rcases adZ.1 hp with rfl|hp
   ·exact h1.1
   ·exact ih h1.2 hp
 ·clear h1 h2
  induction T with
  | nil=>cases hp
  | cons q T ih =>
   rcases adZ.1 hp with rfl|hp
   ·exact h3.1
   ·exact ih h3.2 hp
 ·clear h1 h2 h3
  generalize hn:L.length=n at h4
  clear hn
  induction L with
  | nil=>cases hx
  | cons q L ih =>
   rcases adZ.1 hx with rfl|hx
   ·exact h4.1
   ·exact ih hx h4.2
theorem iA {k:IntKind} {a b:Int} (h:a=b):some (AV.one (.c (.int k a)))=some (AV.one (.c (.int k b))):=by rw [h]
theorem fJ {x:Int} (h : -9223372036854775808<=x/\x<=9223372036854775807):IntKind.i64.wrap x=x:=IntWalk.i64_in x (by omega)
theorem iY {x y:Int} (h:x=y) (hb : -9223372036854775808<=y/\y<=9223372036854775807):IntKind.i64.wrap x=y:=by rw [h];exact fJ hb
theorem Mr {α:Type} {l:List α} {f:α->List AC} {i:Nat} {x:α} (h:l[i]?=some x):(l.map f)[((i:Nat):Int).toNat]?=some (f x):=by
 rw [Int.toNat_natCast,ad6,h];rfl
theorem gol_ {α:Type} {l:List α} {i:Nat} (h:i<l.length) : ∃ x,l[i]?=some x:=⟨l[i],adR h⟩
theorem kV {α:Type} {l:List α} {i:Nat} {x:α} (h:l[i]?=some x):l.take (i+1)=l.take i++[x]:=by
 obtain ⟨hi,rfl⟩:=adI.1 h
 rw [List.take_succ_eq_append_getElem hi]
section
variable {P:Program} {ti:TI} {N n0:Nat} {ds:List (Option Tmp)} {K:Tm->List Ob->Prop} {o:Oper} {rest:List Oper} {T:Tm} {L:List Ob}
theorem ZH {ρ:Operand->Option AV} {t:TypeId} {x ix:Operand} {vx:AV} {es:List (List AC)} {k0:IntKind} {i:Int} {k:Nat} {e:List AC} (hx:ρ x=some vx) (hl:eU vx=some es) (hi:ρ ix=some (.one (.c (.int k0 i)))) (hk:(ti.elem t).bind ti.size=some k) (he:es[i.toNat]?=some e) :
  pop ti ρ L (.indexAddr t x ix)=some (.one (.c (.ref e)),0<=i/\e.length=k):=by
 simp only [pop,hx,hi]
 split
 ·rename_i h1 h2
  injection h1 with h1;subst h1;simp [eU] at hl
 ·rename_i h1 h2
  injection h1 with h1;injection h2 with h2;subst h1 h2
  simp only [iW,hl,hk,he]
 ·rename_i h;exact (h _ _ rfl rfl).elim
theorem A9 {t:TypeId} {x ix:Operand} {vx:AV} {es:List (List AC)} {k0:IntKind} {i:Int} {k d:Nat} {e:List AC} (hd:o.dst=some d) (hN:Nat.blt d N=true) (hg:jX ds T o.guard=some true) (ho:o.op = .indexAddr t x ix) (hx:look T x=some vx) (hl:eU vx=some es) (hi:look T ix=some (.one (.c (.int k0 i))))
  (hk:(ti.elem t).bind ti.size=some k) (he:es[i.toNat]?=some e) (hφ:0<=i/\e.length=k) (h:aN P ti N ds K rest ((d, .one (.c (.ref e)))::T) L):aN P ti N ds K (o::rest) T L :=
 aP hd hN hg (by rw [ho];exact ZH hx hl hi hk he) hφ h
theorem Zh {ρ:Operand->Option AV} {t:TypeId} {p:Operand} {id ver i off k:Nat} {es:List (List SV)} {e:List SV} {x:SV} (hp:ρ p=some (.one (.ep id ver i off))) (hL:L[id]?=some (.row ver es k)) (ha:ti.agg t=some false) (he:es[i]?=some e) (hx:e[off]?=some x) :
  pop ti ρ L (.load t p)=some (.one x,ver=ver):=by
 simp only [pop,hp,adH,kg,hL,he,ha,hx]
theorem Q7 {t:TypeId} {p:Operand} {id ver i off k d:Nat} {es:List (List SV)} {e:List SV} {x:SV} (hd:o.dst=some d) (hN:Nat.blt d N=true) (hg:jX ds T o.guard=some true) (ho:o.op = .load t p) (hp:look T p=some (.one (.ep id ver i off))) (hL:L[id]?=some (.row ver es k)) (ha:ti.agg t=some false) (he:es[i]?=some e) (hx:e[off]?=some x)
  (h:aN P ti N ds K rest ((d, .one x)::T) L):aN P ti N ds K (o::rest) T L :=
 aP hd hN hg (by rw [ho];exact Zh hp hL ha he hx) rfl h
theorem WS {ρ:Operand->Option AV} {t:TypeId} {p:Operand} {id ver i off k n:Nat} {es:List (List SV)} {e:List SV} (hp:ρ p=some (.one (.ep id ver i off))) (hL:L[id]?=some (.row ver es k)) (ha:ti.agg t=some true) (hn:ti.size t=some n) (he:es[i]?=some e) :
  pop ti ρ L (.load t p)=some (.agg ((e.drop off).take n),ver=ver/\off+n<=e.length):=by
 simp only [pop,hp,adH,kg,hL,he,ha,hn]
theorem Tk {t:TypeId} {p:Operand} {id ver i off k d n:Nat} {es:List (List SV)} {e xs:List SV} (hd:o.dst=some d) (hN:Nat.blt d N=true) (hg:jX ds T o.guard=some true) (ho:o.op = .load t p) (hp:look T p=some (.one (.ep id ver i off))) (hL:L[id]?=some (.row ver es k)) (ha:ti.agg t=some true) (hn:ti.size t=some n) (he:es[i]?=some e) (hx:(e.drop off).take n=xs) (hle:off+n<=e.length)
  (h:aN P ti N ds K rest ((d, .agg xs)::T) L):aN P ti N ds K (o::rest) T L :=
 aP hd hN hg (φ:=ver=ver/\off+n<=e.length) (by rw [ho];exact WS hp hL ha hn he) ⟨rfl,hle⟩ (by rw [hx];exact h)
theorem ZM {ρ:Operand->Option AV} {t:TypeId} {p q:Operand} {id ver i off k:Nat} {es:List (List SV)} {e xs:List SV} (hp:ρ p=some (.one (.ep id ver i off))) (hq:(ρ q).bind AV.cells=some xs) (hL:L[id]?=some (.row ver es k)) (he:es[i]?=some e) :
  FE ti ρ L (.store t p q)=some (.undef,L.set id (.row ver (es.set i (splice e off xs)) k),ver=ver/\off+xs.length<=e.length/\ti.size t=some xs.length):=by
 simp only [FE,hp,hq,hL,he]
theorem D6 {t:TypeId} {p q:Operand} {id ver i off k:Nat} {es:List (List SV)} {e xs:List SV} {L':List Ob} (hd:o.dst=none) (hg:jX ds T o.guard=some true) (ho:o.op = .store t p q) (hp:look T p=some (.one (.ep id ver i off))) (hq:(look T q).bind AV.cells=some xs) (hL:L[id]?=some (.row ver es k)) (he:es[i]?=some e)
  (hφ:off+xs.length<=e.length/\ti.size t=some xs.length) (hL':L.set id (.row ver (es.set i (splice e off xs)) k)=L') (h:aN P ti N ds K rest T L'):aN P ti N ds K (o::rest) T L :=
 sS_ hd hg (φ:=ver=ver/\off+xs.length<=e.length/\ti.size t=some xs.length) (by rw [ho];exact ZM hp hq hL he) ⟨rfl,hφ⟩ (by rw [hL'];exact h)
end
open Go.RowKit Go.MapKept
def zk (s:ByteArray):List (AC × AV)->Option Nat
 | []=>none
 | p::r=>match p.1 with
  | .str t=>if s=t then some 0 else (zk s r).map (· + 1)
  | _=>(zk s r).map (· + 1)
def strKeys (kvs:List (AC × AV)):Prop := ∀ p∈kvs, ∃ t,p.1 = .str t
def sW (kvs:List (AC × AV)) (s:ByteArray) (z:AV):AV :=
 match zk s kvs with
 | some i=>match kvs[i]? with
  | some p=>p.2
  | none=>z
 | none=>z
def JU (kvs:List (AC × AV)) (s:ByteArray) (v:AV):List (AC × AV) :=
 match zk s kvs with
 | some i=>kvs.set i (.str s,v)
 | none=>kvs++[(.str s,v)]
def MX (kvs:List (AC × AV)) (s:ByteArray):Nat :=
 match zk s kvs with
 | some i=>i
 | none=>kvs.length
section
variable {P:Program} {ti:TI} {B:Nat->Prop} {N:Nat} {R:PH} {γ:List Gh} {L:List Ob} {w:World} {ρ:Operand->Option AV}
theorem yx {s:ByteArray} : ∀ {kvs:List (AC × AV)} {i:Nat}, zk s kvs=some i -> ∃ p,kvs[i]?=some p/\p.1 = .str s
 | p::r,i,h=>by
  unfold zk at h
  split at h
  ·rename_i t ht
   split at h
   ·rename_i e;injection h with h;subst h e;exact ⟨p,rfl,ht⟩
   ·cases hr:zk s r with
    | none=>simp [hr] at h
    | some j=>simp [hr] at h;subst h;obtain ⟨q,h1,h2⟩:=yx hr;exact ⟨q,by simpa using h1,h2⟩
  ·cases hr:zk s r with
   | none=>simp [hr] at h
   | some j=>simp [hr] at h;subst h;obtain ⟨q,h1,h2⟩:=yx hr;exact ⟨q,by simpa using h1,h2⟩
theorem tY {s:ByteArray} : ∀ (l:List MapEntry) (kvs:List (AC × AV)) (i0:Nat),l.length=kvs.length->strKeys kvs->(∀ (j:Nat) e p,l[j]?=some e->kvs[j]?=some p->bH R e.key p.1) ->
  (zk s kvs=none/\Instr.findNow .string (.string s) l i0=some none)\/(∃ i e,zk s kvs=some i/\l[i]?=some e/\e.key = .string s/\Instr.findNow .string (.string s) l i0=some (some (i0+i,e.val)))
 | [],[],i0,_,_,_ => .inl ⟨rfl,rfl⟩
 | e::l,p::kvs,i0,hl,hs,hr=>by
  obtain ⟨t,ht⟩:=hs p (by simp)
  have hk:=hr 0 e p rfl rfl
  rw [ht] at hk
  generalize hek:e.key=ek at hk
  cases hk
  unfold zk Instr.findNow
  simp only [ht,hek,Instr.sameNow]
  by_cases e1:s=t
  ·subst e1
   refine .inr ⟨0,e,by simp,rfl,hek,?_⟩
   have:(s==s)=true:=(bytes_beq s s).2 rfl
   simp [this]
  ·have:(s==t)=false:=by
    cases hb:(s==t) with
    | false=>rfl
    | true=>exact absurd ((bytes_beq s t).1 hb) e1
   simp only [this,e1,if_false]
   rcases tY l kvs (i0+1) (by simpa using hl) (fun q hq=>hs q (ad7 _ hq)) (fun j e' q h1 h2=>hr (j+1) e' q (by simpa using h1) (by simpa using h2)) with ⟨h1,h2⟩|⟨i,e',h1,h2,h3,h4⟩
   ·exact .inl ⟨by simp [h1],h2⟩
   ·exact .inr ⟨i+1,e',by simp [h1],by simpa using h2,h3,by rw [h4];simp;omega⟩
theorem Es {t:TypeId} : wu P ρ L (.makeMap t none) (.one (.mp L.length)) (L++[.map []]):=by
 intro B R γ w ev o ho hi hρ hfv
 obtain ⟨dst,op,type,pos,after,guard⟩:=o
 simp only at ho;subst ho
 refine ⟨w.alloc (.map #[] 0),R,γ++[.box w.heap.size], .inl ⟨.map (some w.heap.size),?_,w.heap.size,rfl,?_⟩,?_,⟨Kept.alloc hi.bsz _,PH.sub_refl _,fun _ _ _=>rfl⟩,Mv.push _ _ hi.len⟩
 ·simp [execOp,Instr.makeMap]
 ·rw [adP (by rw [hi.len];omega),hi.len];simp
 ·exact hi.push _ _ _ rfl ⟨⟨#[],gq w _,rfl,fun j e p he _=>by simp at he⟩,fun o=>hi.none_at o⟩
theorem Mv.turnMap {id:Nat} {kvs kvs':List (AC × AV)} (hL:L[id]?=some (.map kvs)):Mv R R γ γ L (L.set id (.map kvs')):=by
 have hlt:id<L.length:=(adI.1 hL).1
 refine ⟨PH.sub_refl _,by simp,fun t n k _ h=>⟨n,?_,adY _,fun _=>rfl⟩,fun t ver es k _ h=>⟨ver,es,?_,adY _,fun _=>⟨rfl,rfl⟩⟩,fun _ _ h=>h⟩
 ·by_cases e:t=id
  ·subst e;rw [ad2 hlt] at h;cases h
  ·rw [ad3 (Ne.symm e)] at h;exact h
 ·by_cases e:t=id
  ·subst e;rw [ad2 hlt] at h;cases h
  ·rw [ad3 (Ne.symm e)] at h;exact h
theorem HV (hi:Inv B R γ L w) {id b:Nat} {kvs:List (AC × AV)} (hL:L[id]?=some (.map kvs)) (hg:γ[id]?=some (.box b)) :
  (∃ es,w.heap[b]?=some (.map es es.size)/\es.size=kvs.length /\ ∀ (j:Nat) e p,es[j]?=some e->kvs[j]?=some p->e.born=j/\bH R e.key p.1/\p.2.rep R γ L e.val):=(hi.obj id _ _ hL hg).1
theorem xO (hi:Inv B R γ L w) {id b:Nat} {kvs kvs':List (AC × AV)} {es:Array MapEntry} (hL:L[id]?=some (.map kvs)) (hg:γ[id]?=some (.box b)) (hb:w.heap[b]?=some (.map es es.size)) (es':Array MapEntry) (hs:es'.size=kvs'.length)
  (h : ∀ (j:Nat) e p,es'[j]?=some e->kvs'[j]?=some p->e.born=j/\bH R e.key p.1/\p.2.rep R γ L e.val) :
  Inv B R γ (L.set id (.map kvs')) { w with heap:=w.heap.setIfInBounds b (.map es' es'.size) } /\ Ext B R R w { w with heap:=w.heap.setIfInBounds b (.map es' es'.size) } := by
 have hh:=Go.MapKept.heap_set (o' := .map es' es'.size) hb
 have hm:=Mv.turnMap (R:=R) (γ:=γ) (kvs':=kvs') hL
 have hnb:=(hi.new id _ b hg rfl).1
 have hR : ∀ o,R b o=none:=(hi.obj id _ _ hL hg).2
 refine ⟨hi.turn hL hg rfl hm (fun b' hne=>hh.2 b' hne) (by simp) (fun _ _ _=>rfl) (fun o u e=>by rw [hR o] at e;cases e) ⟨⟨es',hh.1,hs,fun j e p he hp=>?_⟩,hR⟩,⟨⟨rfl,rfl,rfl,by simp,fun b' hb'=>hh.2 b' (fun e=>hnb (by rw [<- e];exact hb'))⟩,PH.sub_refl _,fun _ _ _=>rfl⟩⟩
 obtain ⟨a1,a2,a3⟩:=h j e p he hp
 exact ⟨a1,a2,AV.mv hm a3⟩
theorem wX {et:TypeId} {z:AV} (hz:zeroOf P et=some z) : ∃ u,(zeroValue et).run P w = .ok u w/\z.rep R γ L u:=by
 unfold zeroOf at hz
 cases hinf:P.info? et with
 | none=>simp [hinf] at hz
 | some inf =>
  simp only [hinf,adH] at hz
  cases hzz:inf.zero with
  | none=>simp [hzz] at hz
  | some u =>
   simp only [hzz,adH] at hz
   exact ⟨u,by simp [zeroValue,typeInfo,program,Sem.run,hinf,hzz],AV.ofVal_rep hz⟩
theorem RH {t kt et:TypeId} {x k:Operand} {s:ByteArray} {id:Nat} {kvs:List (AC × AV)} {z:AV} (hx:ρ x=some (.one (.mp id))) (hk:ρ k=some (.one (.c (.str s)))) (hL:L[id]?=some (.map kvs)) (hkeys:strKeys kvs)
  (ht:P.underlying t=some (.map kt et)) (hkt:P.underlying kt=some .string) (hz:zeroOf P et=some z):wu P ρ L (.lookup t x k false) (sW kvs s z) L:=by
 intro B R γ w ev o ho hi hρ hfv
 obtain ⟨dst,op,type,pos,after,guard⟩:=o
 simp only at ho;subst ho
 obtain ⟨b,hxv,hg⟩:=(hρ _ (by simp [Op.operands,Call.operands]) _ hx)
 have hkv:=(hρ _ (by simp [Op.operands,Call.operands]) _ hk)
 generalize hke:ev k=kv at hkv
 cases hkv
 obtain ⟨es,hb,hsz,hent⟩:=HV hi hL hg
 have hchk:=fun e=>Go.MapKept.run_checkKey (P:=P) (w:=w) (k := .string s) hkt trivial e 9999
 obtain ⟨zu,hzr,hzrep⟩:=wX (P:=P) (w:=w) (R:=R) (γ:=γ) (L:=L) hz
 rcases tY (R:=R) (s:=s) es.toList kvs 0 (by simpa using hsz) hkeys (fun j e p he hp=>(hent j e p (by simpa using he) hp).2.1) with ⟨h1,h2⟩|⟨i,e,h1,h2,h3,h4⟩
 ·refine ⟨w,R,γ, .inl ⟨zu,?_,?_⟩,hi,Ext.refl _ _ _,Mv.refl⟩
  ·simp [execOp,Instr.lookup,hxv,hke,run_underlying ht,Go.MapKept.run_getObj_map hb,hchk,Go.MapKept.run_findKey hkt h2,hzr,Result.andThen]
  ·unfold sW;rw [h1];exact hzrep
 ·obtain ⟨p,hp,hp1⟩:=yx h1
  refine ⟨w,R,γ, .inl ⟨e.val,?_,?_⟩,hi,Ext.refl _ _ _,Mv.refl⟩
  ·simp [execOp,Instr.lookup,hxv,hke,run_underlying ht,Go.MapKept.run_getObj_map hb,hchk,Go.MapKept.run_findKey hkt h4,Result.andThen]
  ·unfold sW;rw [h1];simp only [hp];exact (hent i e p (by simpa using h2) hp).2.2
theorem tH {v:AV} {p:PV} {u:Value} (h:v.norm=some p) (hu:v.rep R γ L u):p.rep R u:=AV.norm_rep hu h
theorem aai {p q:PV} {u v:Value} (hp:p.rep R u) (hq:q.rep R v):(AV.tup [p,q]).rep R γ L (.tuple #[u,v]):=by
 refine ⟨#[u,v],rfl,rfl,fun j x y hx hy=>?_⟩
 match j,hx,hy with
 | 0,hx,hy=>simp at hx hy;subst hx hy;exact hp
 | 1,hx,hy=>simp at hx hy;subst hx hy;exact hq
 | j+2,hx,hy=>simp at hx
theorem rF {t kt et:TypeId} {x k:Operand} {s:ByteArray} {id:Nat} {kvs:List (AC × AV)} {z:AV} {p:PV} (hx:ρ x=some (.one (.mp id))) (hk:ρ k=some (.one (.c (.str s)))) (hL:L[id]?=some (.map kvs)) (hkeys:strKeys kvs)
  (ht:P.underlying t=some (.map kt et)) (hkt:P.underlying kt=some .string) (hz:zeroOf P et=some z) (hp:(sW kvs s z).norm=some p):wu P ρ L (.lookup t x k true) (.tup [p, .one (.bool (zk s kvs).isSome)]) L:=by
 intro B R γ w ev o ho hi hρ hfv
 obtain ⟨dst,op,type,pos,after,guard⟩:=o
 simp only at ho;subst ho
 obtain ⟨b,hxv,hg⟩:=(hρ _ (by simp [Op.operands,Call.operands]) _ hx)
 have hkv:=(hρ _ (by simp [Op.operands,Call.operands]) _ hk)
 generalize hke:ev k=kv at hkv
 cases hkv
 obtain ⟨es,hb,hsz,hent⟩:=HV hi hL hg
 have hchk:=fun e=>Go.MapKept.run_checkKey (P:=P) (w:=w) (k := .string s) hkt trivial e 9999
 obtain ⟨zu,hzr,hzrep⟩:=wX (P:=P) (w:=w) (R:=R) (γ:=γ) (L:=L) hz
 rcases tY (R:=R) (s:=s) es.toList kvs 0 (by simpa using hsz) hkeys (fun j e p he hp=>(hent j e p (by simpa using he) hp).2.1) with ⟨h1,h2⟩|⟨i,e,h1,h2,h3,h4⟩
 ·refine ⟨w,R,γ, .inl ⟨.tuple #[zu, .bool false],?_,?_⟩,hi,Ext.refl _ _ _,Mv.refl⟩
  ·simp [execOp,Instr.lookup,hxv,hke,run_underlying ht,Go.MapKept.run_getObj_map hb,hchk,Go.MapKept.run_findKey hkt h2,hzr,Result.andThen]
  ·unfold sW at hp;rw [h1] at hp ⊢;exact aai (tH hp hzrep) (.bool false)
 ·obtain ⟨q,hq,hq1⟩:=yx h1
  refine ⟨w,R,γ, .inl ⟨.tuple #[e.val, .bool true],?_,?_⟩,hi,Ext.refl _ _ _,Mv.refl⟩
  ·simp [execOp,Instr.lookup,hxv,hke,run_underlying ht,Go.MapKept.run_getObj_map hb,hchk,Go.MapKept.run_findKey hkt h4,Result.andThen]
  ·unfold sW at hp;rw [h1] at hp ⊢;simp only [hq] at hp;exact aai (tH hp (hent i e q (by simpa using h2) hq).2.2) (.bool true)
theorem Ak {es:Array MapEntry} {i j:Nat} {f:MapEntry->MapEntry} {e:MapEntry} (h:(es.modify i f)[j]?=some e) : ∃ e0,es[j]?=some e0/\e=if j=i then f e0 else e0:=by
 rw [Array.getElem?_modify] at h
 split at h
 ·rename_i e1;subst e1
  cases h0:es[i]? with
  | none=>simp [h0] at h
  | some e0=>simp [h0] at h;exact ⟨e0,rfl,by simp [h]⟩
 ·rename_i hne;exact ⟨e,h,by rw [if_neg (Ne.symm hne)]⟩
theorem O4 {es:Array MapEntry} {kvs:List (AC × AV)} (hsz:es.size=kvs.length) (hent : ∀ (j:Nat) e p,es[j]?=some e->kvs[j]?=some p->e.born=j/\bH R e.key p.1/\p.2.rep R γ L e.val) {key val:Value} {kx:AC} {v:AV} (hk:bH R key kx) (hv:v.rep R γ L val) :
  ∀ (j:Nat) e p,(es.push { key,val,born:=es.size })[j]?=some e->(kvs++[(kx,v)])[j]?=some p->e.born=j/\bH R e.key p.1/\p.2.rep R γ L e.val:=by
 intro j e p he hp
 by_cases hj:j<es.size
 ·rw [Array.getElem?_push_lt hj] at he
  rw [adW (by omega)] at hp
  exact hent j e p (by rw [ad8 hj];exact he) hp
 ·have hj2:j=es.size:=by
   have:=(aeq.1 he).1
   simp at this;omega
  subst hj2
  rw [Array.getElem?_push_size] at he
  rw [adP (by omega),hsz] at hp
  simp at he hp;subst he hp
  exact ⟨rfl,hk,hv⟩
theorem zt {t kt et:TypeId} {x k y:Operand} {s:ByteArray} {id:Nat} {kvs:List (AC × AV)} {v:AV} (hx:ρ x=some (.one (.mp id))) (hk:ρ k=some (.one (.c (.str s)))) (hy:ρ y=some v) (hL:L[id]?=some (.map kvs)) (hkeys:strKeys kvs)
  (ht:P.underlying t=some (.map kt et)) (hkt:P.underlying kt=some .string):wu P ρ L (.mapUpdate t x k y) .undef (L.set id (.map (JU kvs s v))):=by
 intro B R γ w ev o ho hi hρ hfv
 obtain ⟨dst,op,type,pos,after,guard⟩:=o
 simp only at ho;subst ho
 obtain ⟨b,hxv,hg⟩:=(hρ _ (by simp [Op.operands,Call.operands]) _ hx)
 have hkv:=(hρ _ (by simp [Op.operands,Call.operands]) _ hk)
 have hyv:=(hρ _ (by simp [Op.operands,Call.operands]) _ hy)
 generalize hke:ev k=kv at hkv
 generalize hye:ev y=yv at hyv
 cases hkv
 obtain ⟨es,hb,hsz,hent⟩:=HV hi hL hg
 have hchk:=fun e=>Go.MapKept.run_checkKey (P:=P) (w:=w) (k := .string s) hkt trivial e 9999
 rcases tY (R:=R) (s:=s) es.toList kvs 0 (by simpa using hsz) hkeys (fun j e p he hp=>(hent j e p (by simpa using he) hp).2.1) with ⟨h1,h2⟩|⟨i,e,h1,h2,h3,h4⟩
 ·obtain ⟨i1,i2⟩:=xO hi (kvs':=kvs++[(.str s,v)]) hL hg hb (es.push { key := .string s,val:=yv,born:=es.size }) (by simp [hsz]) (O4 hsz hent (.str s) hyv)
  refine ⟨_,R,γ, .inr ⟨?_,rfl⟩,?_,i2,Mv.turnMap hL⟩
  ·simp [execOp,Instr.mapUpdate,hxv,hke,hye,run_underlying ht,Go.MapKept.run_getObj_map hb,hchk,Go.MapKept.run_findKey hkt h2,Go.MapKept.run_setObj_map _ hb,Result.andThen]
  ·unfold JU;rw [h1];exact i1
 ·have hj:es[i]?=some e:=by simpa using h2
  obtain ⟨p,hp,hp1⟩:=yx h1
  obtain ⟨i1,i2⟩:=xO hi (kvs':=kvs.set i (.str s,v)) hL hg hb (es.modify i fun e => { e with key := .string s,val:=yv }) (by simp [hsz]) (fun j e' p' he' hp'=>by
   obtain ⟨e0,h5,h6⟩:=Ak he'
   by_cases hji:j=i
   ·subst hji
    rw [ad2 (adI.1 hp).1] at hp';injection hp' with hp';subst hp'
    rw [if_pos rfl] at h6;subst h6
    exact ⟨(hent j e0 p h5 hp).1, .str s,hyv⟩
   ·rw [ad3 (Ne.symm hji)] at hp'
    rw [if_neg hji] at h6;subst h6
    exact hent j _ p' h5 hp')
  rw [Array.size_modify] at i1 i2
  refine ⟨_,R,γ, .inr ⟨?_,rfl⟩,?_,i2,Mv.turnMap hL⟩
  ·simp [execOp,Instr.mapUpdate,hxv,hke,hye,run_underlying ht,Go.MapKept.run_getObj_map hb,hchk,Go.MapKept.run_findKey hkt h4,hj,h3,run_keyThatStays (d := .string) (k := .string s) trivial,Go.MapKept.run_setObj_map _ hb,Result.andThen]
  ·unfold JU;rw [h1];exact i1
theorem M9 {t kt et:TypeId} {x k:Operand} {s:ByteArray} {id:Nat} {kvs:List (AC × AV)} {z:AV} {p:PV} (hx:ρ x=some (.one (.mp id))) (hk:ρ k=some (.one (.c (.str s)))) (hL:L[id]?=some (.map kvs)) (hkeys:strKeys kvs)
  (ht:P.underlying t=some (.map kt et)) (hkt:P.underlying kt=some .string) (hz:zeroOf P et=some z) (hp:(sW kvs s z).norm=some p):wu P ρ L (.mapEntry t x k) (.tup [p, .one (.int .i64 (MX kvs s))]) (L.set id (.map (JU kvs s (sW kvs s z)))):=by
 intro B R γ w ev o ho hi hρ hfv
 obtain ⟨dst,op,type,pos,after,guard⟩:=o
 simp only at ho;subst ho
 obtain ⟨b,hxv,hg⟩:=(hρ _ (by simp [Op.operands,Call.operands]) _ hx)
 have hkv:=(hρ _ (by simp [Op.operands,Call.operands]) _ hk)
 generalize hke:ev k=kv at hkv
 cases hkv
 obtain ⟨es,hb,hsz,hent⟩:=HV hi hL hg
 have hchk:=fun e=>Go.MapKept.run_checkKey (P:=P) (w:=w) (k := .string s) hkt trivial e 9999
 obtain ⟨zu,hzr,hzrep⟩:=wX (P:=P) (w:=w) (R:=R) (γ:=γ) (L:=L) hz
 rcases tY (R:=R) (s:=s) es.toList kvs 0 (by simpa using hsz) hkeys (fun j e p he hp=>(hent j e p (by simpa using he) hp).2.1) with ⟨h1,h2⟩|⟨i,e,h1,h2,h3,h4⟩
 ·obtain ⟨i1,i2⟩:=xO hi (kvs':=kvs++[(.str s,z)]) hL hg hb (es.push { key := .string s,val:=zu,born:=es.size }) (by simp [hsz]) (O4 hsz hent (.str s) hzrep)
  have hmv:sW kvs s z=z:=by unfold sW;rw [h1]
  rw [hmv] at hp ⊢
  refine ⟨_,R,γ, .inl ⟨.tuple #[zu, .int .i64 es.size],?_,?_⟩,?_,i2,Mv.turnMap hL⟩
  ·simp [execOp,Instr.mapEntry,hxv,hke,run_underlying ht,Go.MapKept.run_getObj_map hb,hchk,Go.MapKept.run_findKey hkt h2,hzr,Go.MapKept.run_setObj_map _ hb,Result.andThen,goInt]
  ·refine aai (tH hp hzrep) ?_
   unfold MX;rw [h1, <- hsz];exact .int _ _
  ·unfold JU;rw [h1];exact i1
 ·have hj:es[i]?=some e:=by simpa using h2
  obtain ⟨q,hq,hq1⟩:=yx h1
  have hmv:sW kvs s z=q.2:=by unfold sW;rw [h1];simp only [hq]
  have hent':=hent i e q hj hq
  rw [hmv] at hp ⊢
  obtain ⟨i1,i2⟩:=xO hi (kvs':=kvs.set i (.str s,q.2)) hL hg hb (es.modify i fun e => { e with key := .string s }) (by simp [hsz]) (fun j e' p' he' hp'=>by
   obtain ⟨e0,h5,h6⟩:=Ak he'
   by_cases hji:j=i
   ·subst hji
    rw [ad2 (adI.1 hq).1] at hp';injection hp' with hp';subst hp'
    rw [if_pos rfl] at h6;subst h6
    exact ⟨(hent j e0 q h5 hq).1, .str s,(hent j e0 q h5 hq).2.2⟩
   ·rw [ad3 (Ne.symm hji)] at hp'
    rw [if_neg hji] at h6;subst h6
    exact hent j _ p' h5 hp')
  rw [Array.size_modify] at i1 i2
  refine ⟨_,R,γ, .inl ⟨.tuple #[e.val, .int .i64 i],?_,?_⟩,?_,i2,Mv.turnMap hL⟩
  ·simp [execOp,Instr.mapEntry,hxv,hke,run_underlying ht,Go.MapKept.run_getObj_map hb,hchk,Go.MapKept.run_findKey hkt h4,hj,h3,run_keyThatStays (d := .string) (k := .string s) trivial,Go.MapKept.run_setObj_map _ hb,Result.andThen,goInt,hent'.1]
  ·refine aai (tH hp hent'.2.2) ?_
   unfold MX;rw [h1];exact .int _ _
  ·unfold JU;rw [h1];exact i1
theorem find_born {es:Array MapEntry} (h : ∀ (j:Nat) e,es[j]?=some e->e.born=j) {i:Nat} (hi:i<es.size):es.findIdx? (fun e=>(e.born:Int)==(i:Int))=some i:=by
 rw [Array.findIdx?_eq_some_iff_getElem]
 refine ⟨hi,?_,fun j hj=>?_⟩
 ·have:=h i es[i] (ad8 hi)
  simp [this]
 ·have:=h j es[j] (ad8 (by omega))
  simp [this];omega
theorem FY {t:TypeId} {x k y:Operand} {id i:Nat} {kvs:List (AC × AV)} {q:AC × AV} {v:AV} (hx:ρ x=some (.one (.mp id))) (hk:ρ k=some (.one (.c (.int .i64 i)))) (hy:ρ y=some v) (hL:L[id]?=some (.map kvs)) (hq:kvs[i]?=some q) :
  wu P ρ L (.entryStore t x k y) .undef (L.set id (.map (kvs.set i (q.1,v)))):=by
 intro B R γ w ev o ho hi hρ hfv
 obtain ⟨dst,op,type,pos,after,guard⟩:=o
 simp only at ho;subst ho
 obtain ⟨b,hxv,hg⟩:=(hρ _ (by simp [Op.operands,Call.operands]) _ hx)
 have hkv:=(hρ _ (by simp [Op.operands,Call.operands]) _ hk)
 have hyv:=(hρ _ (by simp [Op.operands,Call.operands]) _ hy)
 generalize hke:ev k=kv at hkv
 generalize hye:ev y=yv at hyv
 cases hkv
 obtain ⟨es,hb,hsz,hent⟩:=HV hi hL hg
 have hlt:=(adI.1 hq).1
 have hfi:=find_born (es:=es) (fun j e he=>by
  have:j<kvs.length:=by rw [<- hsz];exact (aeq.1 he).1
  exact (hent j e _ he (adR this)).1) (i:=i) (by omega)
 obtain ⟨i1,i2⟩:=xO hi (kvs':=kvs.set i (q.1,v)) hL hg hb (es.modify i fun e => { e with val:=yv }) (by simp [hsz]) (fun j e' p' he' hp'=>by
   obtain ⟨e0,h5,h6⟩:=Ak he'
   by_cases hji:j=i
   ·subst hji
    rw [ad2 hlt] at hp';injection hp' with hp';subst hp'
    rw [if_pos rfl] at h6;subst h6
    exact ⟨(hent j e0 q h5 hq).1,(hent j e0 q h5 hq).2.1,hyv⟩
   ·rw [ad3 (Ne.symm hji)] at hp'
    rw [if_neg hji] at h6;subst h6
    exact hent j _ p' h5 hp')
 rw [Array.size_modify] at i1 i2
 refine ⟨_,R,γ, .inr ⟨?_,rfl⟩,i1,i2,Mv.turnMap hL⟩
 simp [execOp,Instr.entryStore,hxv,hke,hye,Go.MapKept.run_getObj_map hb,asInt,asIntOf,hfi,Go.MapKept.run_setObj_map _ hb,Result.andThen]
def capOf:AV->Option Cap
 | .one (.c x)=>some (.c x)
 | .one (.ptr id off)=>some (.ptr id off)
 | v=>match v.norm with
  | some (.one x)=>some (.c x)
  | _=>none
def Cn (ρ:Operand->Option AV):List Operand->Option (List Cap)
 | []=>some []
 | x::xs=>match (ρ x).bind capOf,Cn ρ xs with
  | some c,some cs=>some (c::cs)
  | _,_=>none
theorem UB {v:AV} {c:Cap} {u:Value} (h:capOf v=some c) (hu:v.rep R γ L u):c.rep R γ u:=by
 unfold capOf at h
 split at h
 ·injection h with h;subst h;exact hu
 ·injection h with h;subst h;exact hu
 ·split at h
  ·rename_i x hx;injection h with h;subst h;exact tH hx hu
  ·cases h
theorem En {ev:Operand->Value} : ∀ {xs:List Operand} {cs:List Cap}, (∀ x,x∈xs -> ∀ v,ρ x=some v->v.rep R γ L (ev x))->Cn ρ xs=some cs->xs.length=cs.length /\ ∀ (j:Nat) x c,xs[j]?=some x->cs[j]?=some c->c.rep R γ (ev x)
 | [],cs,_,h=>by injection h with h;subst h;exact ⟨rfl,fun j x c h=>by simp at h⟩
 | x::xs,cs,hρ,h=>by
  unfold Cn at h
  split at h
  ·rename_i c cs' hc hcs
   injection h with h;subst h
   obtain ⟨h1,h2⟩:=En (fun y hy=>hρ y (ad7 _ hy)) hcs
   refine ⟨by simp [h1],fun j y d hy hd=>?_⟩
   cases j with
   | zero =>
    simp at hy hd;subst hy hd
    cases hx:ρ x with
    | none=>simp [hx] at hc
    | some v=>simp [hx] at hc;exact UB hc (hρ x (by simp) _ hx)
   | succ j=>exact h2 j y d (by simpa using hy) (by simpa using hd)
  ·cases h
theorem Nf {f:FuncId} {captured:Array Operand} {caps:List Cap} (hc:Cn ρ captured.toList=some caps):wu P ρ L (.makeFunc (.func f) #[] captured) (.one (.clo f caps)) L:=by
 intro B R γ w ev o ho hi hρ hfv
 obtain ⟨dst,op,type,pos,after,guard⟩:=o
 simp only at ho;subst ho
 obtain ⟨h1,h2⟩:=En (fun y hy=>hρ y (by simp [Op.operands];simpa using hy)) hc
 refine ⟨w,R,γ, .inl ⟨.func (.func f) #[] (captured.map ev),by simp [execOp,Instr.makeFunc],captured.map ev,rfl,by simpa using h1,fun j u x hu hx=>?_⟩,hi,Ext.refl _ _ _,Mv.refl⟩
 rw [Array.getElem?_map] at hu
 cases hq:captured[j]? with
 | none=>simp [hq] at hu
 | some y=>simp [hq] at hu;subst hu;exact h2 j y x (by simpa using hq) hx
end
structure ic (R:PH) (γ:List Gh) (L:List Ob) (k:Nat) (xs:List (List SV)) (news:List Value):Prop where
 len:news.length=xs.length*k
 wide : ∀ e∈xs,e.length=k
 rep : ∀ (i:Nat) e (j:Nat) u x,xs[i]?=some e->news[i*k+j]?=some u->e[j]?=some x->x.rep R γ L u
 one : ∀ u∈news,u.oneCell'=true
def bA (s:ByteArray):List (List SV):=s.data.toList.map fun b=>[.c (.int .u8 b.toNat)]
section
variable {P:Program} {ti:TI} {B:Nat->Prop} {N:Nat} {R:PH} {γ:List Gh} {L:List Ob} {w:World} {ρ:Operand->Option AV}
theorem Mv.setOb {id:Nat} {x x':Ob} {g':Gh} {R':PH} (hs:PH.sub R R') (hl:γ.length=L.length) (hx:L[id]?=some x) (hnb : ∀ b,γ[id]?≠some (.box b)) (htok : ∀ n k,x' ≠ .spare n k) (hrow : ∀ ver' es' k,x' = .row ver' es' k -> ∃ ver es,x = .row ver es k/\ver<ver') :
  Mv R R' γ (γ.set id g') L (L.set id x'):=by
 have hlt:id<L.length:=(adI.1 hx).1
 refine ⟨hs,by simp,fun t n k _ h=>?_,fun t ver es k _ h=>?_,fun j b h=>?_⟩
 ·by_cases e:t=id
  ·subst e;rw [ad2 hlt] at h;injection h with h;exact absurd h (htok n k)
  ·rw [ad3 (Ne.symm e)] at h;exact ⟨n,h,adY _,fun _=>by rw [ad3 (Ne.symm e)]⟩
 ·by_cases e:t=id
  ·subst e;rw [ad2 hlt] at h;injection h with h
   obtain ⟨v0,e0,h1,h2⟩:=hrow ver es k h
   exact ⟨v0,e0,by rw [hx,h1],by omega,fun q=>by omega⟩
  ·rw [ad3 (Ne.symm e)] at h;exact ⟨ver,es,h,adY _,fun _=>⟨rfl,by rw [ad3 (Ne.symm e)]⟩⟩
 ·have:j≠id:=by rintro rfl;exact hnb b h
  rw [ad3 (Ne.symm this)];exact h
theorem Inv.rehome (hi:Inv B R γ L w) {id:Nat} {x x':Ob} {g':Gh} (hx:L[id]?=some x) (hg':g'.block=some w.heap.size) (o:Obj) (hm:Mv R R γ (γ.set id g') L (L.set id x'))
  (hobj:pV R (γ.set id g') (L.set id x') (w.drew.alloc o) x' g'):Inv B R (γ.set id g') (L.set id x') (w.drew.alloc o):=by
 have hlt:id<L.length:=(adI.1 hx).1
 have gcase : ∀ j h,(γ.set id g')[j]?=some h->(j=id/\h=g')\/(j≠id/\γ[j]?=some h):=by
  intro j h hh
  by_cases hj:j=id
  ·subst hj
   rw [ad2 (by rw [hi.len];exact hlt)] at hh
   injection hh with hh
   exact .inl ⟨rfl,hh.symm⟩
  ·rw [ad3 (Ne.symm hj)] at hh
   exact .inr ⟨hj,hh⟩
 have hold : ∀ b,b<w.heap.size->(w.drew.alloc o).heap[b]?=w.heap[b]?:=fun b hb=>iI w.drew _ hb
 have esz:(w.drew.alloc o).heap.size=w.heap.size+1:=by show (w.heap.push _).size=_;simp
 refine ⟨by simp [hi.len],fun b o' u h=>?_,fun j y h hy hh=>?_,fun j1 j2 g1 g2 h1 h2 hne b hb=>?_,fun j h b hh hb=>?_,fun b hb=>by have:=hi.bsz b hb;omega⟩
 ·have:=hi.lt h
  rw [<- hi.val _ _ _ h]
  exact World.cell?_of_block (w:=w) (hold b this)
 ·rcases gcase j h hh with ⟨rfl,rfl⟩|⟨hne,hh'⟩
  ·rw [ad2 hlt] at hy
   injection hy with hy;subst hy
   exact hobj
  ·rw [ad3 (Ne.symm hne)] at hy
   exact (hi.obj j y h hy hh').mv hm (fun b hb=>hold b (hi.new j h b hh' hb).2) (fun _ _ _ e=>e)
 ·rcases gcase j1 g1 h1 with ⟨a1,rfl⟩|⟨a1,a2⟩<;>rcases gcase j2 g2 h2 with ⟨b1,rfl⟩|⟨b1,b2⟩
  ·omega
  ·rw [hg'] at hb;injection hb with hb;subst hb
   intro e;have:=(hi.new j2 g2 _ b2 e).2;omega
  ·have:=(hi.new j1 g1 b a2 hb).2
   rw [hg'];simp;omega
  ·exact hi.inj j1 j2 g1 g2 a2 b2 hne b hb
 ·rcases gcase j h hh with ⟨_,rfl⟩|⟨_,b2⟩
  ·rw [hg'] at hb;injection hb with hb;subst hb
   exact ⟨fun hB=>by have:=hi.bsz _ hB;omega,by omega⟩
  ·have:=hi.new j h b b2 hb
   exact ⟨this.1,by omega⟩
theorem Inv.kill (hi:Inv B R γ L w) {id:Nat} {x:Ob} {g:Gh} {b:Nat} (hx:L[id]?=some x) (hg:γ[id]?=some g) (hb:g.block=some b) (hnb : ∀ b,g ≠ .box b) {R':PH} {w':World} (hs:PH.sub R R')
  (hw : ∀ b',b'≠b->w'.heap[b']?=w.heap[b']?) (hsz:w'.heap.size=w.heap.size) (hR : ∀ b' o,b'≠b->R' b' o=R b' o) (hv : ∀ o u,R' b o=some u->w'.cell? ⟨b,o,none⟩=some u) :
  Inv B R' (γ.set id .none) (L.set id .dead) w'/\Mv R R' γ (γ.set id .none) L (L.set id .dead):=by
 have hlt:id<L.length:=(adI.1 hx).1
 have hm:Mv R R' γ (γ.set id .none) L (L.set id .dead):=Mv.setOb hs hi.len hx (fun b e=>by rw [hg] at e;injection e with e;exact hnb b e) (fun _ _ e=>by cases e) (fun _ _ _ e=>by cases e)
 have gcase : ∀ j h,(γ.set id Gh.none)[j]?=some h->(j=id/\h = .none)\/(j≠id/\γ[j]?=some h):=by
  intro j h hh
  by_cases hj:j=id
  ·subst hj
   rw [ad2 (by rw [hi.len];exact hlt)] at hh
   injection hh with hh
   exact .inl ⟨rfl,hh.symm⟩
  ·rw [ad3 (Ne.symm hj)] at hh
   exact .inr ⟨hj,hh⟩
 refine ⟨⟨by simp [hi.len],fun b' o u h=>?_,fun j y h hy hh=>?_,fun j1 j2 g1 g2 h1 h2 hne b' hb'=>?_,fun j h b' hh hb'=>?_,fun b' hb'=>by rw [hsz];exact hi.bsz b' hb'⟩,hm⟩
 ·by_cases hbb:b'=b
  ·subst hbb;exact hv o u h
  ·rw [hR b' o hbb] at h
   rw [<- hi.val _ _ _ h]
   exact World.cell?_of_block (w:=w) (hw b' hbb)
 ·rcases gcase j h hh with ⟨rfl,rfl⟩|⟨hne,hh'⟩
  ·rw [ad2 hlt] at hy
   injection hy with hy;subst hy
   trivial
  ·rw [ad3 (Ne.symm hne)] at hy
   have hne' : ∀ b',h.block=some b'->b'≠b:=fun b' hb' e=>hi.inj j id h g hh' hg hne b' hb' (by rw [hb,e])
   exact (hi.obj j y h hy hh').mv hm (fun b' hb'=>hw b' (hne' b' hb')) (fun b' o hb' e=>by rw [hR b' o (hne' b' hb')];exact e)
 ·rcases gcase j1 g1 h1 with ⟨a1,rfl⟩|⟨a1,a2⟩<;>rcases gcase j2 g2 h2 with ⟨b1,rfl⟩|⟨b1,b2⟩
  ·omega
  ·cases hb'
  ·exact fun e=>by cases e
  ·exact hi.inj j1 j2 g1 g2 a2 b2 hne b' hb'
 ·rcases gcase j h hh with ⟨_,rfl⟩|⟨_,b2⟩
  ·cases hb'
  ·rw [hsz];exact hi.new j h b' b2 hb'
theorem ic.ofC {k:Nat} {xs:List (List AC)} {news:List Value} (h:Cells R k xs news):ic R γ L k (xs.map (List.map SV.c)) news:=by
 refine ⟨by rw [h.len];simp,fun e he=>?_,fun i e j u x he hu hx=>?_,h.one⟩
 ·obtain ⟨y,hy,rfl⟩:=aeh.1 he;simpa using h.wide y hy
 ·rw [ad6] at he
  cases hq:xs[i]? with
  | none=>simp [hq] at he
  | some y =>
   simp [hq] at he;subst he
   rw [ad6] at hx
   cases hq2:y[j]? with
   | none=>simp [hq2] at hx
   | some z =>
    simp [hq2] at hx;subst hx
    obtain ⟨u',g1,g2⟩:=h.get i y j z hq hq2
    rw [hu] at g1;injection g1 with g1;subst g1
    exact g2
theorem ic.ofStr (s:ByteArray):ic R γ L 1 (bA s) (byteCells s):=by
 refine ⟨by rw [byteCells_length];simp [bA],fun e he=>?_,fun i e j u x he hu hx=>?_,fun u hu=>?_⟩
 ·obtain ⟨y,hy,rfl⟩:=aeh.1 he;rfl
 ·unfold bA at he;unfold byteCells at hu
  rw [ad6] at he
  cases hq:s.data.toList[i]? with
  | none=>rw [hq] at he;simp at he
  | some y =>
   rw [hq] at he;simp at he;subst he
   have hj:j=0:=by have:=(adI.1 hx).1;simpa using this
   subst hj
   simp at hx;subst hx
   rw [Nat.mul_one,Nat.add_zero,ad6,hq] at hu
   simp at hu;subst hu
   exact .int _ _
 ·unfold byteCells at hu
  obtain ⟨y,hy,rfl⟩:=aeh.1 hu;rfl
theorem ic.mv {R':PH} {γ':List Gh} {L':List Ob} (h:Mv R R' γ γ' L L') {k:Nat} {xs:List (List SV)} {news:List Value} (hc:ic R γ L k xs news):ic R' γ' L' k xs news :=
 ⟨hc.len,hc.wide,fun i e j u x he hu hx=>SV.mv h (hc.rep i e j u x he hu hx),hc.one⟩
theorem ic.app {es xs:List (List SV)} {k:Nat} {olds news:List Value} (h:ic R γ L k es olds) (g:ic R γ L k xs news):ic R γ L k (es++xs) (olds++news):=by
 refine ⟨by rw [adQ,h.len,g.len,adQ,Nat.add_mul],fun e he=>?_,fun i e j u x he hu hx=>?_,fun u hu=>?_⟩
 ·rcases ad'.1 he with he|he
  ·exact h.wide e he
  ·exact g.wide e he
 ·by_cases hi:i<es.length
  ·rw [adW hi] at he
   have hjk:j<k:=by rw [<- h.wide e (adO he)];exact (adI.1 hx).1
   rw [adW (by rw [h.len];exact vv hi hjk)] at hu
   exact h.rep i e j u x he hu hx
  ·rw [adP (by omega)] at he
   have hle:es.length*k<=i*k:=aei _ (by omega)
   rw [adP (by rw [h.len];omega),h.len] at hu
   refine g.rep (i-es.length) e j u x he ?_ hx
   rw [Nat.mul_sub_right_distrib]
   have:i*k-es.length*k+j=i*k+j-es.length*k:=by omega
   rw [this];exact hu
 ·rcases ad'.1 hu with hu|hu
  ·exact h.one u hu
  ·exact g.one u hu
theorem SV.one_cell {x:SV} {u:Value} (h:x.rep R γ L u):u.oneCell'=true:=(SV.rep_one h).2
theorem iU (hi:Inv B R γ L w) {id ver k b c:Nat} {es:List (List SV)} (hL:L[id]?=some (.row ver es k)) (hg:γ[id]?=some (.arr b c)) :
  ∃ vs E,w.heap[b]?=some (.cells vs E (0,0))/\(E=ver%65536/\65536<=ver)/\vs.size=c*k/\es.length<=c/\0<k/\ic R γ L k es (vs.toList.take (es.length*k)) /\ ∀ o,R b o=none:=by
 obtain ⟨⟨vs,E,h1,h2,h3⟩,h4,h5,h6,h7⟩:=hi.obj id _ _ hL hg
 have hle:es.length*k<=c*k:=aei _ h4
 have get : ∀ (i:Nat) e (j:Nat) u,es[i]?=some e->j<k->(vs.toList.take (es.length*k))[i*k+j]?=some u->vs[i*k+j]?=some u:=by
  intro i e j u he hj hu
  rw [aeb,if_pos (vv (adI.1 he).1 hj)] at hu
  simpa using hu
 refine ⟨vs,E,h1.1,h1.2,h2,h4,h5,⟨by simp;omega,h6,fun i e j u x he hu hx=>?_,fun u hu=>?_⟩,h7⟩
 ·have hjk:j<k:=by rw [<- h6 e (adO he)];exact (adI.1 hx).1
  exact h3 i e j u x he (get i e j u he hjk hu) hx
 ·obtain ⟨q,hq⟩:=List.mem_iff_getElem?.1 hu
  have hlt:=(adI.1 hq).1
  have hq1:q<es.length*k:=by rw [aex] at hlt;omega
  have hi1:q/k<es.length:=by rw [Nat.div_lt_iff_lt_mul h5];exact hq1
  have hj1:q%k<k:=Nat.mod_lt _ h5
  have he:=adR hi1
  have hx:=adR (l:=es[q/k]) (i:=q%k) (by rw [h6 _ (adO he)];exact hj1)
  have hqe:q/k*k+q%k=q:=by rw [Nat.mul_comm];exact Nat.div_add_mod q k
  exact SV.one_cell (h3 (q/k) _ (q%k) u _ he (by
   rw [hqe];rw [aeb,if_pos hq1] at hq;simpa using hq) hx)
theorem ZA (hi:Inv B R γ L w) {t tx ty E:TypeId} {k by_:Nat} {es xs:List (List SV)} {id ver n:Nat} {v x:Value} (ht:P.underlying t=some (.slice E)) (hk0:0<k) (hz:TW P E k) (hby:rA P E=some by_) (hE:ver%65536=E)
  (hL:L[id]?=some (.row ver es k)) (hv:(SV.sl id ver 0 n).rep R γ L v) (hn:es.length=n) {news:List Value} (hsrc:Src P k tx x xs.length news w) (hnews:ic R γ L k xs news)
  (hb1:(n+xs.length)*by_<=140737488355328) (hb2:n+xs.length<=140737488355328) :
  ∃ u w' γ',(Builtin.append_ #[t,tx] ty #[v,x]).run P w = .ok u w'/\Inv B R γ' (L.set id (.row (ver+65536) (es++xs) k)) w'/\Ext B R R w w'/\Mv R R γ γ' L (L.set id (.row (ver+65536) (es++xs) k)) /\
   (SV.sl id (ver+65536) 0 (n+xs.length)).rep R γ' (L.set id (.row (ver+65536) (es++xs) k)) u:=by
 obtain ⟨inf,z,hinf,hzz,hisz,hzc⟩:=hz
 have hbytes:inf.bytes=by_:=by unfold rA at hby;rw [hinf] at hby;simpa using hby
 obtain ⟨hvc,hlt,hall⟩:=hv
 obtain ⟨hle,g,hg,hat⟩:=(hall _ es k hL).2 rfl
 have hsrc':Src P inf.size tx x xs.length news w:=by rw [hisz];exact hsrc
 have hnl:news.length=xs.length*k:=hnews.len
 have hglt:id<γ.length:=by rw [hi.len];exact hlt
 have hmv : ∀ g',(∀ b,g ≠ .box b)->Mv R R γ (γ.set id g') L (L.set id (.row (ver+65536) (es++xs) k)):=fun g' hnb =>
  Mv.setOb (PH.sub_refl _) hi.len hL (fun b e=>by rw [hg] at e;injection e with e;exact hnb b e) (fun _ _ e=>by cases e) (fun ver' es' k' e=>by injection e with e1 e2 e3;subst e1 e2 e3;exact ⟨ver,es,rfl,by omega⟩)

 have grow : ∀ (a:Option Addr) (c:Nat) (olds:List Value),v = .slice a n c->c<n+xs.length->(∀ b,g ≠ .box b)->ic R γ L k es olds->(Builtin.firstCells inf.size n (.slice a n c)).run P w.drew = .ok olds.toArray w.drew ->
   ∃ u w' γ',(Builtin.append_ #[t,tx] ty #[v,x]).run P w = .ok u w'/\Inv B R γ' (L.set id (.row (ver+65536) (es++xs) k)) w'/\Ext B R R w w'/\Mv R R γ γ' L (L.set id (.row (ver+65536) (es++xs) k)) /\
   (SV.sl id (ver+65536) 0 (n+xs.length)).rep R γ' (L.set id (.row (ver+65536) (es++xs) k)) u:=by
  intro a c olds hva hc hnb holds hfc
  have hrun:=run_append_grow_src (P:=P) (w:=w) t tx ty E inf z ht hinf hzz a n c olds hfc x xs.length news hsrc' hc (by omega) (by
   have h2:=nextslicecap_le hc
   have h3:Builtin.nextslicecap (n+xs.length) c*inf.bytes<=2*(n+xs.length)*inf.bytes:=aei _ h2
   rw [hbytes] at h3 ⊢
   rw [Nat.mul_assoc] at h3
   omega)
  have hcap:=grownCap_ge w (n+xs.length) c E
  generalize grownCap w (n+xs.length) c E=cap at hrun hcap
  have hm:=hmv (.arr w.heap.size cap) hnb
  have happ:=(holds.app hnews).mv hm
  have hal:(olds++news).length=(n+xs.length)*k:=by rw [happ.len,adQ,hn]
  have hI:=hi.rehome hL (g' := .arr w.heap.size cap) rfl (.cells ((olds++news).toArray++Builtin.zeroCells z.cells (cap-(n+xs.length))) E) hm (by
   refine ⟨⟨_,E,⟨gq w.drew _,by rw [<- hE];show ver%65536=(ver+65536)%65536;omega,by omega⟩,?_,fun i e j u x he hu hx=>?_⟩,by rw [adQ,hn];exact hcap,hk0,happ.wide,fun o=>hi.none_at o⟩
   ·rw [Array.size_append,size_zeroCells,hzc];simp only [List.size_toArray];rw [hal, <- Nat.add_mul];congr 1;omega
   ·have hjk:j<k:=by rw [<- happ.wide e (adO he)];exact (adI.1 hx).1
    have hil:i<n+xs.length:=by have:=(adI.1 he).1;simpa [hn] using this
    rw [Array.getElem?_append_left (by simp only [List.size_toArray];rw [hal];exact vv hil hjk)] at hu
    exact happ.rep i e j u x he (by simpa using hu) hx)
  refine ⟨_,_,_,by rw [hva];exact hrun,hI,?_,hm,⟨rfl,rfl⟩,by simpa using hlt,fun ver2 es2 k2 e2=>?_⟩
  ·exact ⟨⟨rfl,rfl,rfl,by show w.heap.size<=(w.heap.push _).size;simp,fun b hb=>iI w.drew _ (hi.bsz b hb)⟩,PH.sub_refl _,fun _ _ _=>rfl⟩
  ·rw [ad2 hlt] at e2;injection e2 with e2;injection e2 with q1 q2 q3;subst q1 q2 q3
   refine ⟨adY _,fun _=>⟨by simp [hn], .arr w.heap.size cap,ad2 hglt, .inl ?_⟩⟩
   simp
 match g,hg,hat with
 | .none,hg,⟨hva,hn0,_⟩ =>
  have he0:es=[]:=hi.obj id _ _ hL hg
  subst he0 hn0
  by_cases hm:xs.length=0
  ·have hx0:xs=[]:=ad9 hm
   subst hx0
   have hnn:news=[]:=ad9 (by rw [hnl];simp)
   rw [hnn] at hsrc'
   have hrun:=run_append_nothing (P:=P) w t tx ty E inf ht hinf none 0 0 (adY _) x hsrc'
   have hm0:=hmv .none (fun b e=>by cases e)
   have hgs:γ.set id .none=γ:=by
    apply List.ext_getElem?
    intro j
    by_cases hj:j=id
    ·subst hj;rw [ad2 hglt,hg]
    ·rw [ad3 (Ne.symm hj)]
   rw [hgs] at hm0
   refine ⟨v,w,γ,by rw [hva];exact hrun,?_,Ext.refl _ _ _,hm0,hvc,by simpa using hlt,fun ver2 es2 k2 e2=>?_⟩
   ·refine ⟨by simp [hi.len],hi.val,fun j y h hy hh=>?_,hi.inj,hi.new,hi.bsz⟩
    by_cases hj:j=id
    ·subst hj
     rw [ad2 hlt] at hy;injection hy with hy;subst hy
     rw [hg] at hh;injection hh with hh;subst hh
     rfl
    ·rw [ad3 (Ne.symm hj)] at hy
     exact (hi.obj j y h hy hh).mv hm0 (fun _ _=>rfl) (fun _ _ _ e=>e)
   ·rw [ad2 hlt] at e2;injection e2 with e2;injection e2 with q1 q2 q3;subst q1 q2 q3
    exact ⟨adY _,fun _=>⟨by simp, .none,hg,hva,rfl,rfl⟩⟩
  ·exact grow none 0 [] hva (by omega) (fun b e=>by cases e) ⟨by simp,by simp,fun i e j u x he=>by simp at he,by simp⟩ (run_firstCells_none w.drew inf.size 0 0 0)
 | .arr b c,hg,hat =>
  obtain ⟨vs,E2,hb,hE2,hsz,hnc,hk,hcells,hRn⟩:=iU hi hL hg
  have hc0:v = .slice (some ⟨b,0,none⟩) n c\/(c=0/\n=0 /\ ∃ a,v = .slice a 0 0):=by
   rcases hat with hat|⟨q1,q2,q3⟩
   ·left;rw [hat];simp
   ·exact .inr ⟨q1,q2,q3⟩
  by_cases hroom:n+xs.length<=c
  ·have hle2:(n+xs.length)*k<=c*k:=aei _ hroom
   have hadd:n*k+news.length=(n+xs.length)*k:=by rw [hnl,Nat.add_mul]
   obtain ⟨cs',g1,g2,g3⟩:=jm b E2 (0,0) news (n*k) w vs hb (by omega)
   have hgs:γ.set id (.arr b c)=γ:=by
    apply List.ext_getElem?
    intro j
    by_cases hj:j=id
    ·subst hj;rw [ad2 hglt,hg]
    ·rw [ad3 (Ne.symm hj)]
   have hm0:=hmv (.arr b c) (fun b e=>by cases e)
   rw [hgs] at hm0
   have hcs:vs.toList.take (es.length*k)=vs.toList.take (n*k):=by rw [hn]
   rw [hcs] at hcells
   have happ:=(hcells.app hnews).mv hm0
   have hI:Inv B R γ (L.set id (.row (ver+65536) (es++xs) k)) (w.setCells b (n*k) news):=by
    refine hi.turn hL hg rfl hm0 (fun b' hne=>fT b hne _ _ _) (iC _ _ _ _) (fun _ _ _=>rfl) (fun o u h=>by rw [hRn o] at h;cases h) ?_
    refine ⟨⟨cs',E2,⟨g1,by rw [hE2.1];show ver%65536=(ver+65536)%65536;omega,by omega⟩,by rw [g2];exact hsz,fun i e j u x he hu hx=>?_⟩,by rw [adQ,hn];exact hroom,hk,happ.wide,hRn⟩
    have hjk:j<k:=by rw [<- happ.wide e (adO he)];exact (adI.1 hx).1
    have hil:i<n+xs.length:=by have:=(adI.1 he).1;simpa [hn] using this
    have hlt2:=vv hil hjk
    refine happ.rep i e j u x he ?_ hx
    rw [g3] at hu
    have htl:(vs.toList.take (n*k)).length=n*k:=by simp;omega
    by_cases hc2:n*k<=i*k+j
    ·rw [if_pos (by omega)] at hu
     rw [adP (by omega),htl];exact hu
    ·rw [if_neg (by omega)] at hu
     rw [adW (by omega),aeb,if_pos (by omega)];simpa using hu
   have hE:Ext B R R w (w.setCells b (n*k) news):=⟨gU (hi.new id _ b hg rfl).1 _ _ _,PH.sub_refl _,fun _ _ _=>rfl⟩
   rcases hc0 with hv2|⟨q1,q2,a,q3⟩
   ·have hrun:=run_append_room_src (P:=P) (w:=w) t tx ty E inf ht hinf b 0 n c x xs.length news hsrc' hroom
     (fun j hj=>by
      rw [hisz,cob_ hb]
      have:0+n*k+j<vs.size:=by omega
      rw [ad8 this];rfl)
     (fun j hj=>by simp [World.frozen?,hb])
    rw [hisz,aeo] at hrun
    refine ⟨_,_,γ,by rw [hv2];exact hrun,hI,hE,hm0,⟨rfl,rfl⟩,by simpa using hlt,fun ver2 es2 k2 e2=>?_⟩
    rw [ad2 hlt] at e2;injection e2 with e2;injection e2 with p1 p2 p3;subst p1 p2 p3
    refine ⟨adY _,fun _=>⟨by simp [hn], .arr b c,hg, .inl ?_⟩⟩
    simp
   ·have hxl:xs.length=0:=by omega
    have hnn:news=[]:=ad9 (by rw [hnl,hxl];simp)
    rw [hnn,hxl] at hsrc'
    have hrun:=run_append_nothing (P:=P) w t tx ty E inf ht hinf a 0 0 (adY _) x hsrc'
    rw [hnn] at hI hE
    refine ⟨v,_,γ,by rw [q3];exact hrun,hI,hE,hm0,hvc,by simpa using hlt,fun ver2 es2 k2 e2=>?_⟩
    rw [ad2 hlt] at e2;injection e2 with e2;injection e2 with p1 p2 p3;subst p1 p2 p3
    exact ⟨adY _,fun _=>⟨by simp [hn], .arr b c,hg, .inr ⟨q1,by omega,a,q3⟩⟩⟩
  ·rcases hc0 with hv2|⟨q1,q2,a,q3⟩
   ·refine grow _ c _ hv2 (by omega) (fun b e=>by cases e) hcells ?_
    rw [hisz]
    refine run_firstCells_some w.drew k n ⟨b,0,none⟩ n c _ (by rw [hcells.len,hn]) (fun j u hu=>?_)
    rw [Addr.add_mid,aeo]
    have hc1:w.cell? ⟨b,j,none⟩=some u:=by
     rw [cob_ hb]
     have hj:=(adI.1 hu).1
     rw [aeb] at hu
     split at hu
     ·simpa using hu
     ·cases hu
    exact hc1
   ·have he0:es=[]:=ad9 (by omega)
    subst he0 q2
    refine grow a 0 [] q3 (by omega) (fun b e=>by cases e) ⟨by simp,by simp,fun i e j u x he=>by simp at he,by simp⟩ ?_
    cases a with
    | none=>exact run_firstCells_none w.drew inf.size 0 0 0
    | some ad=>exact run_firstCells_some w.drew inf.size 0 ad 0 0 [] (by simp) (fun j u hu=>by simp at hu)
end
end Go.Proofs.YtfccopdbgfdcdaaGreatDoor
