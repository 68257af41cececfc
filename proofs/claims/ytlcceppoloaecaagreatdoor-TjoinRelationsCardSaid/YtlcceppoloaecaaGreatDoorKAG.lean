/- Parts of the proof, joined. No condition. -/
import Derived.Test.YtlcceppoloaecaaGreatDoorKAA
import Derived.Test.YtlcceppoloaecaaGreatDoorKAF
import Derived.Test.YtlcceppoloaecaaGreatDoorKAE
set_option linter.unusedSimpArgs false
set_option linter.unusedVariables false
namespace Go.Proofs.YtlcceppoloaecaaGreatDoor
open Go.RowKit Go.MapKept
def ck {α:Type} (v:α) (φ:Prop) [Decidable φ]:Option α:=if φ then some v else none
theorem aC {α:Type} {v r:α} {φ:Prop} [Decidable φ] (h:ck v φ=some r):v=r/\φ:=by
 unfold ck at h
 split at h
 ·exact ⟨VI h,by assumption⟩
 ·cases h
def yP {α:Type} (f:Option (α × Prop)) (r:α):Prop := ∃ φ,f=some (r,φ)/\φ
theorem fQ {α:Type} {v r:α} (h:some v=some r):yP (some (v,True)) r:=by
 cases h;exact ⟨_,rfl,trivial⟩
theorem fF {α:Type} {v r:α} {φ:Prop} [Decidable φ] (h:ck v φ=some r):yP (some (v,φ)) r:=by
 obtain ⟨rfl,hφ⟩:=aC h
 exact ⟨_,rfl,hφ⟩
def isStr:Option TypeDesc->Bool
 | some .string=>true
 | _=>false
theorem fJ {d:Option TypeDesc} (h:isStr d=true):d=some .string:=by
 unfold isStr at h;split at h
 ·rfl
 ·cases h
def vk:Option TypeDesc->Bool
 | some .bool=>true
 | _=>false
theorem A_ {d:Option TypeDesc} (h:vk d=true):d=some .bool:=by
 unfold vk at h;split at h
 ·rfl
 ·cases h
def uu (k:Nat):List (List AC)->Bool
 | []=>true
 | e::es=>Nat.beq e.length k&&uu k es
theorem kR {k:Nat} : ∀ {es:List (List AC)}, uu k es=true -> ∀ e∈es,e.length=k
 | [],_,e,he=>by cases he
 | x::es,h,e,he=>by
  rw [uu,Vu] at h
  rcases Vt.1 he with rfl|he
  ·exact Nat.eq_of_beq_eq_true h.1
  ·exact kR h.2 e he
def Rt (op:BinOp) (k:IntKind) (a b:Int):Option AC :=
 match op with
 | .add=>some (.int k (k.wrap (a+b)))
 | .sub=>some (.int k (k.wrap (a-b)))
 | .mul=>some (.int k (k.wrap (a*b)))
 | .quo=>ck (.int k (k.wrap (a.tdiv b))) (b≠0)
 | .rem=>ck (.int k (a.tmod b)) (b≠0)
 | .eql=>some (.bool (decide (a=b)))
 | .neq=>some (.bool (decide (a≠b)))
 | .lss=>some (.bool (decide (a<b)))
 | .leq=>some (.bool (decide (a<=b)))
 | .gtr=>some (.bool (decide (b<a)))
 | .geq=>some (.bool (decide (b<=a)))
 | .and=>some (.int k (k.wrap (BitVec.ofInt k.bits a &&& BitVec.ofInt k.bits b).toNat))
 | .or=>some (.int k (k.wrap (BitVec.ofInt k.bits a ||| BitVec.ofInt k.bits b).toNat))
 | _=>none
theorem MJ {op:BinOp} {k:IntKind} {a b:Int} {r:AC} (h:Rt op k a b=some r):yP (KQ op k a b) r:=by
 cases op<;>first|exact fQ h|exact fF h|cases h
def UW (op:BinOp) (k:IntKind) (a b:Int):Option (Option AC) :=
 match op with
 | .shl=>some (ck (.int k (k.wrap (a*2 ^ (min b.toNat k.bits)))) (0<=b))
 | .shr=>some (ck (.int k (a.fdiv (2 ^ (min b.toNat k.bits)))) (0<=b))
 | _=>none
def RN (op:BinOp) (a b:ByteArray):Option AC :=
 match op with
 | .add=>ck (.str (a++b)) (a.size+b.size<=9223372036854775807)
 | .eql=>some (.bool (a.toList==b.toList))
 | .neq=>some (.bool (!(a.toList==b.toList)))
 | .lss=>some (.bool (Op.bytesLess a.toList b.toList))
 | .leq=>some (.bool (Op.bytesLess a.toList b.toList||a.toList==b.toList))
 | .gtr=>some (.bool (!(Op.bytesLess a.toList b.toList||a.toList==b.toList)))
 | .geq=>some (.bool (!Op.bytesLess a.toList b.toList))
 | _=>none
theorem Ot {op:BinOp} {a b:ByteArray} {r:AC} (h:RN op a b=some r):yP (Mg op a b) r:=by
 cases op<;>first|exact fQ h|exact fF h|cases h
def PN (ti:TI) (op:BinOp) (t:TypeId):AV->AV->Option AV
 | .one (.c (.int k a)), .one (.c (.int k' b))=>match UW op k a b with
  | some r=>r.map fun r => .one (.c r)
  | none=>match decide (k=k') with
   | true=>(Rt op k a b).map fun r => .one (.c r)
   | false=>none
 | .one (.c (.str a)), .one (.c (.str b))=>(RN op a b).map fun r => .one (.c r)
 | .one (.c (.bool a)), .one (.c (.bool b))=>match op with
  | .eql=>ck (.one (.c (.bool (a==b)))) (vk (ti.kind t)=true)
  | .neq=>ck (.one (.c (.bool (!(a==b))))) (vk (ti.kind t)=true)
  | _=>none
 | .agg xs, .agg ys=>match ti.eqs t with
  | some sh=>match op with
   | .eql=>ck (.one (.c (.bool (bz xs ys)))) (df sh xs=true/\df sh ys=true)
   | .neq=>ck (.one (.c (.bool (!bz xs ys)))) (df sh xs=true/\df sh ys=true)
   | _=>none
  | none=>none
 | _,_=>none
theorem map_some {α β:Type} {o:Option α} {f:α->β} {r:β} (h:o.map f=some r) : ∃ a,o=some a/\f a=r:=by
 cases o with
 | none=>cases h
 | some a=>exact ⟨a,rfl,VI h⟩
theorem NN {ti:TI} {op:BinOp} {t:TypeId} {x y v:AV} (h:PN ti op t x y=some v):yP (qd ti op t x y) v:=by
 unfold PN at h
 split at h
 ·rename_i k a k' b
  unfold qd
  cases op
  case shl=>obtain ⟨r,h1,rfl⟩:=map_some h;obtain ⟨rfl,hφ⟩:=aC h1;exact ⟨_,rfl,hφ⟩
  case shr=>obtain ⟨r,h1,rfl⟩:=map_some h;obtain ⟨rfl,hφ⟩:=aC h1;exact ⟨_,rfl,hφ⟩
  all_goals
   simp only [UW,PQ] at h ⊢
   split at h
   ·rename_i hk
    obtain ⟨r,h1,rfl⟩:=map_some h
    obtain ⟨φ,h2,hφ⟩:=MJ h1
    rw [hk,h2]
    exact ⟨_,rfl,hφ⟩
   ·cases h
 ·obtain ⟨r,h1,rfl⟩:=map_some h
  obtain ⟨φ,h2,hφ⟩:=Ot h1
  unfold qd
  dsimp only
  rw [h2]
  exact ⟨_,rfl,hφ⟩
 ·split at h
  ·obtain ⟨rfl,hφ⟩:=aC h;exact ⟨_,rfl,A_ hφ⟩
  ·obtain ⟨rfl,hφ⟩:=aC h;exact ⟨_,rfl,A_ hφ⟩
  ·cases h
 ·unfold qd
  dsimp only
  split at h
  ·rename_i sh hs
   rw [hs]
   split at h
   ·exact fF h
   ·exact fF h
   ·cases h
  ·cases h
 ·cases h
def EG (ti:TI) (L:List Ob) (t:TypeId):AV->Option AV
 | .one (.c (.ref cs))=>match ti.agg t,ti.size t with
  | some false,_=>match cs with
   | x::_=>some (.one (.c x))
   | []=>none
  | some true,some n=>ck (.agg ((cs.take n).map .c)) (n<=cs.length)
  | _,_=>none
 | .one (.ptr id off)=>match L[id]? with
  | some (.box cs)=>match ti.agg t,ti.size t with
   | some false,_=>match cs[off]? with
    | some x=>some (.one x)
    | none=>none
   | some true,some n=>ck (.agg ((cs.drop off).take n)) (off+n<=cs.length)
   | _,_=>none
  | _=>none
 | .one (.ep id ver i o)=>match L[id]? with
  | some (.row ver' es _)=>match es[i]?,ti.agg t,ti.size t with
   | some e,some false,_=>match e[o]? with
    | some x=>ck (.one x) (ver=ver')
    | none=>none
   | some e,some true,some n=>ck (.agg ((e.drop o).take n)) (ver=ver'/\o+n<=e.length)
   | _,_,_=>none
  | _=>none
 | _=>none
theorem yD {ti:TI} {L:List Ob} {t:TypeId} {x v:AV} (h:EG ti L t x=some v):yP (dP ti L t x) v:=by
 unfold EG at h
 unfold dP
 split at h
 ·dsimp only
  split at h
  ·rename_i h1
   rw [h1]
   split at h
   ·exact fQ h
   ·cases h
  ·rename_i h1 h2
   rw [h1,h2]
   exact fF h
  ·cases h
 ·dsimp only
  split at h
  ·rename_i h0
   rw [h0]
   dsimp only
   split at h
   ·rename_i h1
    rw [h1]
    dsimp only
    split at h
    ·rename_i h2
     rw [h2]
     exact fQ h
    ·cases h
   ·rename_i h1 h2
    rw [h1,h2]
    exact fF h
   ·cases h
  ·cases h
 ·dsimp only
  split at h
  ·rename_i h0
   rw [h0]
   dsimp only
   split at h
   ·rename_i h1 h2
    rw [h1,h2]
    dsimp only
    split at h
    ·rename_i h3
     rw [h3]
     exact fF h
    ·cases h
   ·rename_i h1 h2 h3
    rw [h1,h2,h3]
    exact fF h
   ·cases h
  ·cases h
 ·cases h
def pI (ti:TI) (s:TypeId) (i0:Nat):AV->Option AV
 | .one (.c (.ref cs))=>match ti.field s i0 with
  | some (o,t)=>match ti.size t with
   | some (_+1)=>ck (.one (.c (.ref (cs.drop o)))) (o<=cs.length)
   | _=>none
  | none=>none
 | .one (.ptr id off)=>match ti.field s i0 with
  | some (o,t)=>match ti.size t with
   | some (_+1)=>some (.one (.ptr id (off+o)))
   | _=>none
  | none=>none
 | _=>none
theorem yX {ti:TI} {s:TypeId} {i0:Nat} {x v:AV} (h:pI ti s i0 x=some v):yP (eB ti s i0 x) v:=by
 unfold pI at h
 unfold eB
 split at h
 ·dsimp only
  split at h
  ·rename_i h0
   rw [h0]
   dsimp only
   split at h
   ·rename_i h1
    rw [h1]
    exact fF h
   ·cases h
  ·cases h
 ·dsimp only
  split at h
  ·rename_i h0
   rw [h0]
   dsimp only
   split at h
   ·rename_i h1
    rw [h1]
    exact fQ h
   ·cases h
  ·cases h
 ·cases h
def Fx (ti:TI) (s:TypeId) (i:Nat):AV->Option AV
 | .agg xs=>match ti.field s i with
  | some (o,t)=>match ti.agg t,ti.size t with
   | some false,_=>match xs[o]? with
    | some x=>some (.one x)
    | none=>none
   | some true,some n=>ck (.agg ((xs.drop o).take n)) (o+n<=xs.length)
   | _,_=>none
  | none=>none
 | _=>none
theorem Ja {ti:TI} {s:TypeId} {i:Nat} {x v:AV} (h:Fx ti s i x=some v):yP (nu ti s i x) v:=by
 unfold Fx at h
 unfold nu
 split at h
 ·dsimp only
  split at h
  ·rename_i h0
   rw [h0]
   dsimp only
   split at h
   ·rename_i h1
    rw [h1]
    dsimp only
    split at h
    ·rename_i h2
     rw [h2]
     exact fQ h
    ·cases h
   ·rename_i h1 h2
    rw [h1,h2]
    exact fF h
   ·cases h
  ·cases h
 ·cases h
def sJ (ti:TI) (L:List Ob) (s:TypeId) (i0 id ver i off:Nat):Option AV :=
 match L[id]?,ti.field s i0 with
 | some (.row ver' _ _),some (o,t)=>match ti.size t with
  | some (_+1)=>ck (.one (.ep id ver i (off+o))) (ver=ver')
  | _=>none
 | _,_=>none
theorem BA {ti:TI} {L:List Ob} {s:TypeId} {i0 id ver i off:Nat} {v:AV} (h:sJ ti L s i0 id ver i off=some v):yP (dh ti L s i0 id ver i off) v:=by
 unfold sJ at h
 unfold dh
 split at h
 ·rename_i h0 h1
  rw [h0,h1]
  dsimp only
  split at h
  ·rename_i h2
   rw [h2]
   exact fF h
  ·cases h
 ·cases h
def BM (ti:TI) (L:List Ob) (t:TypeId) (id ver n:Nat):Option AV :=
 match L[id]? with
 | some (.row ver' _ _)=>ck (.one (.c (.int .i64 n))) (ver=ver'/\(ti.elem t).isSome=true)
 | _=>none
theorem FE {ti:TI} {L:List Ob} {t:TypeId} {id ver n:Nat} {v:AV} (h:BM ti L t id ver n=some v):yP (fI ti L t id ver n) v:=by
 unfold BM at h
 unfold fI
 split at h
 ·rename_i h0
  rw [h0]
  exact fF h
 ·cases h
def tq (ti:TI) (L:List Ob) (t:TypeId) (id ver lo n:Nat) (ix:AV):Option AV :=
 match L[id]?,ix,(ti.elem t).bind ti.size with
 | some (.row ver' _ k'), .one (.c (.int _ i)),some k=>ck (.one (.ep id ver (lo+i.toNat) 0)) ((ver=ver'/\k=k')/\0<=i/\i<n)
 | _,_,_=>none
theorem Ck {ti:TI} {L:List Ob} {t:TypeId} {id ver lo n:Nat} {ix v:AV} (h:tq ti L t id ver lo n ix=some v):yP (di ti L t id ver lo n ix) v:=by
 unfold tq at h
 unfold di
 split at h
 ·rename_i h0 h1
  rw [h0,h1]
  exact fF h
 ·cases h
def qz (ti:TI) (t:TypeId) (x ix:AV):Option AV :=
 match bW x,ix,(ti.elem t).bind ti.size with
 | some es, .one (.c (.int _ i)),some k=>match es[i.toNat]? with
  | some e=>ck (.one (.c (.ref e))) (0<=i/\e.length=k)
  | none=>none
 | _,_,_=>none
theorem yH {ti:TI} {t:TypeId} {x ix v:AV} (h:qz ti t x ix=some v):yP (dx ti t x ix) v:=by
 unfold qz at h
 unfold dx
 split at h
 ·rename_i h0 h1
  rw [h0,h1]
  dsimp only
  split at h
  ·rename_i h2
   rw [h2]
   exact fF h
  ·cases h
 ·cases h
def indexB (ti:TI) (t:TypeId) (x ix:AV):Option AV :=
 match x,ix with
 | .one (.c (.str s)), .one (.c (.int _ i))=>match s[i.toNat]? with
  | some b=>ck (.one (.c (.int .u8 b.toNat))) (0<=i/\isStr (ti.kind t)=true)
  | none=>none
 | .agg zs, .one (.c (.int _ i))=>match ti.kind t with
  | some (.array n e)=>match ti.agg e,ti.size e with
   | some false,some k=>match zs[i.toNat*k]? with
    | some x=>ck (.one x) (0<=i/\i<(n:Int))
    | none=>none
   | some true,some k=>ck (.agg ((zs.drop (i.toNat*k)).take k)) ((0<=i/\i<(n:Int))/\i.toNat*k+k<=zs.length)
   | _,_=>none
  | _=>none
 | _,_=>none
theorem Jd {ti:TI} {t:TypeId} {x ix v:AV} (h:indexB ti t x ix=some v):yP (kS ti t x ix) v:=by
 unfold indexB at h
 unfold kS
 split at h
 ·dsimp only
  split at h
  ·rename_i h2
   rw [h2]
   obtain ⟨rfl,h3,h4⟩:=aC h
   exact ⟨_,rfl,h3,fJ h4⟩
  ·cases h
 ·dsimp only
  split at h
  ·rename_i hk
   rw [hk]
   dsimp only
   split at h
   ·rename_i ha hs
    rw [ha,hs]
    dsimp only
    split at h
    ·rename_i hx
     rw [hx]
     exact fF h
    ·cases h
   ·rename_i ha hs
    rw [ha,hs]
    exact fF h
   ·cases h
  ·cases h
 ·cases h
def sliceB (ti:TI) (L:List Ob) (t:TypeId) (x:AV) (lo hi:Option AV):Option AV :=
 match x with
 | .one (.c (.str s))=>match iD 0 lo,iD s.size hi with
  | some l,some h=>ck (.one (.c (.str (s.extract l.toNat h.toNat)))) (0<=l/\l<=h/\h<=s.size/\isStr (ti.kind t)=true)
  | _,_=>none
 | .one (.sl id ver lo0 n)=>match L[id]?,(ti.elem t).bind ti.size with
  | some (.row ver' _ k'),some k=>match iD 0 lo,iD n hi with
   | some l,some h=>ck (.one (.sl id ver (lo0+l.toNat) (h.toNat-l.toNat))) (ver=ver'/\k=k'/\0<=l/\l<=h/\h<=n)
   | _,_=>none
  | _,_=>none
 | _=>match bW x,(ti.elem t).bind ti.size with
  | some es,some k=>match iD 0 lo,iD es.length hi with
   | some l,some h=>ck (.one (.c (.lst ((es.take h.toNat).drop l.toNat)))) (0<=l/\l<=h/\h<=es.length/\uu k es=true)
   | _,_=>none
  | _,_=>none
theorem nW {ti:TI} {L:List Ob} {t:TypeId} {x v:AV} {lo hi:Option AV} (h:sliceB ti L t x lo hi=some v):yP (cK ti L t x lo hi) v:=by
 unfold sliceB at h
 split at h
 ·unfold cK
  dsimp only
  split at h
  ·rename_i h0 h1
   rw [h0,h1]
   obtain ⟨rfl,h3,h4,h5,h6⟩:=aC h
   exact ⟨_,rfl,h3,h4,h5,fJ h6⟩
  ·cases h
 ·unfold cK
  dsimp only
  split at h
  ·rename_i h0 h1
   rw [h0,h1]
   dsimp only
   split at h
   ·rename_i h2 h3
    rw [h2,h3]
    exact fF h
   ·cases h
  ·cases h
 ·rename_i n1 n2
  unfold cK
  split
  ·rename_i s;exact absurd rfl (n1 s)
  ·rename_i a b c d;exact absurd rfl (n2 a b c d)
  ·split at h
   ·rename_i h0 h1
    rw [h0,h1]
    dsimp only
    split at h
    ·rename_i h2 h3
     rw [h2,h3]
     obtain ⟨rfl,h3,h4,h5,h6⟩:=aC h
     exact ⟨_,rfl,h3,h4,h5,kR h6⟩
    ·cases h
   ·cases h
def PT (ti:TI) (t:TypeId) (x:AV):Option AV :=
 match x with
 | .one (.c (.str s))=>ck (.one (.c (.int .i64 s.size))) (isStr (ti.kind t)=true)
 | _=>match bW x with
  | some es=>ck (.one (.c (.int .i64 es.length))) ((ti.elem t).isSome=true)
  | none=>none
theorem Nq {ti:TI} {t:TypeId} {x v:AV} (h:PT ti t x=some v):yP (vV ti t x) v:=by
 unfold PT at h
 split at h
 ·obtain ⟨rfl,h1⟩:=aC h
  exact ⟨_,rfl,fJ h1⟩
 ·rename_i n1
  unfold vV
  split
  ·rename_i s;exact absurd rfl (n1 s)
  ·split at h
   ·rename_i h0
    rw [h0]
    exact fF h
   ·cases h
def xm (ti:TI) (t:TypeId):List SV->List (Nat × Option AV)->Option (List SV)
 | zs,[]=>some zs
 | zs,(i,v)::ps=>match v.bind AV.cells,sj ti t i with
  | some xs,some (o,ty)=>match xm ti t (splice zs o xs) ps with
   | some r=>ck r (ti.size ty=some xs.length/\o+xs.length<=zs.length)
   | none=>none
  | _,_=>none
theorem zI {ti:TI} {t:TypeId} : ∀ {ps:List (Nat × Option AV)} {zs r:List SV}, xm ti t zs ps=some r->yP (iZ ti t zs ps) r
 | [],zs,r,h=>fQ h
 | (i,v)::ps,zs,r,h=>by
  unfold xm at h
  unfold iZ
  split at h
  ·rename_i h0 h1
   rw [h0,h1]
   dsimp only
   split at h
   ·rename_i r' h2
    obtain ⟨φ,h3,h4⟩:=zI h2
    rw [h3]
    obtain ⟨rfl,h5⟩:=aC h
    exact ⟨_,rfl,h5,h4⟩
   ·cases h
  ·cases h
def JU (ti:TI) (ρ:Operand->Option AV) (L:List Ob):Op->Option AV
 | .move x=>ρ x
 | .assign x=>ρ x
 | .pick c a b=>match ρ c,ρ a,ρ b with
  | some (.one (.c (.bool t))),some va,some vb=>some (if t=true then va else vb)
  | _,_,_=>none
 | .binOp op t x y _=>match ρ x,ρ y with
  | some va,some vb=>PN ti op t va vb
  | _,_=>none
 | .unOp op _ x=>match op,ρ x with
  | .not,some (.one (.c (.bool b)))=>some (.one (.c (.bool !b)))
  | .neg,some (.one (.c (.int k n)))=>some (.one (.c (.int k (k.wrap (0-n)))))
  | _,_=>none
 | .convert src dst x=>match ρ x with
  | some (.one (.c (.int _ n)))=>match ti.kind dst with
   | some (.int k)=>ck (.one (.c (.int k (k.wrap n)))) ((ti.kind src).isSome=true)
   | _=>none
  | some (.one (.c (.str s)))=>ck (.one (.c (.str s))) (isStr (ti.kind dst)=true/\(ti.kind src).isSome=true)
  | _=>none
 | .load t p=>(ρ p).bind (EG ti L t)
 | .fieldAddr s x i=>match ρ x with
  | some (.one (.ep id ver i0 off))=>sJ ti L s i id ver i0 off
  | some vx=>pI ti s i vx
  | none=>none
 | .field s x i=>(ρ x).bind (Fx ti s i)
 | .indexAddr t x ix=>match ρ x,ρ ix with
  | some (.one (.sl id ver lo n)),some vi=>tq ti L t id ver lo n vi
  | some vx,some vi=>qz ti t vx vi
  | _,_=>none
 | .index t x ix=>match ρ x,ρ ix with
  | some vx,some vi=>indexB ti t vx vi
  | _,_=>none
 | .extract t i=>match ρ t with
  | some (.tup ps)=>match ps[i]? with
   | some p=>some p.av
   | none=>none
  | some (.tupS xs)=>match xs[i]? with
   | some x=>some (.one x)
   | none=>none
  | _=>none
 | .nilCheck x=>match ρ x with
  | some (.one (.c (.ref cs)))=>some (.one (.c (.ref cs)))
  | some (.one (.ptr id off))=>some (.one (.ptr id off))
  | some (.one (.ep id ver i o))=>match L[id]? with
   | some (.row ver' _ _)=>ck (.one (.ep id ver i o)) (ver=ver')
   | _=>none
  | some (.one (.clo f cs))=>some (.one (.clo f cs))
  | some (.one (.c (.fn f cs)))=>some (.one (.c (.fn f cs)))
  | _=>none
 | .slice t x lo hi none=>match ρ x,lo.map ρ,hi.map ρ with
  | some v,none,none=>sliceB ti L t v none none
  | some v,some (some l),none=>sliceB ti L t v (some l) none
  | some v,none,some (some h)=>sliceB ti L t v none (some h)
  | some v,some (some l),some (some h)=>sliceB ti L t v (some l) (some h)
  | _,_,_=>none
 | .call { callee := .builtin .len,args,argTypes } => match args.toList,argTypes.toList with
  | [x],[t]=>match ρ x with
   | some (.one (.sl id ver _ n))=>BM ti L t id ver n
   | some vx=>PT ti t vx
   | none=>none
  | _,_=>none
 | .call { callee := .builtin .min,args, .. } => match args.toList.map ρ with
  | [some (.one (.c (.int k a))),some (.one (.c (.int _ b)))]=>some (.one (.c (.int k (if b<a then b else a))))
  | _=>none
 | .call { callee := .builtin .max,args, .. } => match args.toList.map ρ with
  | [some (.one (.c (.int k a))),some (.one (.c (.int _ b)))]=>some (.one (.c (.int k (if b > a then b else a))))
  | _=>none
 | .build t parts=>match ti.zero t with
  | some (.agg zs)=>((xm ti t zs (parts.toList.map fun p=>(p.1,ρ p.2))).bind fun r=>ck (AV.agg r) (R4 ti t=true))
  | _=>none
 | .makeFunc (.func f) first captured=>match first.toList,xK (captured.toList.map ρ) with
  | [],some cs=>some (.one (.c (.fn f cs)))
  | _,_=>none
 | _=>none
theorem K5 {ti:TI} {ρ:Operand->Option AV} {L:List Ob} {op:Op} {v:AV} (h:JU ti ρ L op=some v):yP (pop ti ρ L op) v:=by
 unfold JU at h
 split at h
 ·unfold pop;dsimp only;rw [h];exact ⟨_,rfl,trivial⟩
 ·unfold pop;dsimp only;rw [h];exact ⟨_,rfl,trivial⟩
 ·unfold pop
  dsimp only
  split at h
  ·rename_i h0 h1 h2
   rw [h0,h1,h2]
   exact fQ h
  ·cases h
 ·unfold pop
  dsimp only
  split at h
  ·rename_i h0 h1
   rw [h0,h1]
   exact NN h
  ·cases h
 ·unfold pop
  dsimp only
  split at h
  ·rename_i h0
   rw [h0]
   exact fQ h
  ·rename_i h0
   rw [h0]
   exact fQ h
  ·cases h
 ·unfold pop
  dsimp only
  split at h
  ·rename_i h0
   rw [h0]
   dsimp only
   split at h
   ·rename_i h1
    rw [h1]
    exact fF h
   ·cases h
  ·rename_i h0
   rw [h0]
   obtain ⟨rfl,h1,h2⟩:=aC h
   exact ⟨_,rfl,fJ h1,h2⟩
  ·cases h
 ·rename_i t p
  unfold pop
  dsimp only
  cases hp:ρ p with
  | none=>rw [hp] at h;cases h
  | some x=>rw [hp] at h;exact yD h
 ·unfold pop
  dsimp only
  split at h
  ·rename_i h0
   rw [h0]
   exact BA h
  ·rename_i vx hn h0
   rw [h0]
   split
   ·rename_i e;cases e;exact (hn _ _ _ _ rfl).elim
   ·rename_i e;cases e;exact yX h
   ·rename_i e;cases e
  ·cases h
 ·rename_i s x i
  unfold pop
  dsimp only
  cases hp:ρ x with
  | none=>rw [hp] at h;cases h
  | some x=>rw [hp] at h;exact Ja h
 ·unfold pop
  dsimp only
  split at h
  ·rename_i h0 h1
   rw [h0,h1]
   exact Ck h
  ·rename_i vx vi hn h0 h1
   rw [h0,h1]
   split
   ·rename_i e1 e2;cases e1;exact (hn _ _ _ _ rfl).elim
   ·rename_i e1 e2;cases e1;cases e2;exact yH h
   ·rename_i hm;exact (hm _ _ rfl rfl).elim
  ·cases h
 ·unfold pop
  dsimp only
  split at h
  ·rename_i h0 h1
   rw [h0,h1]
   exact Jd h
  ·cases h
 ·unfold pop
  dsimp only
  split at h
  ·rename_i h0
   rw [h0]
   dsimp only
   split at h
   ·rename_i h1
    rw [h1]
    exact fQ h
   ·cases h
  ·rename_i h0
   rw [h0]
   dsimp only
   split at h
   ·rename_i h1
    rw [h1]
    exact fQ h
   ·cases h
  ·cases h
 ·unfold pop
  dsimp only
  split at h
  ·rename_i h0;rw [h0];exact fQ h
  ·rename_i h0;rw [h0];exact fQ h
  ·rename_i h0
   rw [h0]
   dsimp only
   split at h
   ·rename_i h1
    rw [h1]
    exact fF h
   ·cases h
  ·rename_i h0;rw [h0];exact fQ h
  ·rename_i h0;rw [h0];exact fQ h
  ·cases h
 ·unfold pop
  dsimp only
  split at h
  ·rename_i h0 h1 h2;rw [h0,h1,h2];exact nW h
  ·rename_i h0 h1 h2;rw [h0,h1,h2];exact nW h
  ·rename_i h0 h1 h2;rw [h0,h1,h2];exact nW h
  ·rename_i h0 h1 h2;rw [h0,h1,h2];exact nW h
  ·cases h
 ·unfold pop
  dsimp only
  split at h
  ·rename_i h0 h1
   rw [h0,h1]
   dsimp only
   split at h
   ·rename_i h2
    rw [h2]
    exact FE h
   ·rename_i vx hn h2
    rw [h2]
    split
    ·rename_i e;cases e;exact (hn _ _ _ _ rfl).elim
    ·rename_i e;cases e;exact Nq h
    ·rename_i e;cases e
   ·cases h
  ·cases h
 ·unfold pop
  dsimp only
  split at h
  ·rename_i h0
   rw [h0]
   exact fQ h
  ·cases h
 ·unfold pop
  dsimp only
  split at h
  ·rename_i h0
   rw [h0]
   exact fQ h
  ·cases h
 ·rename_i t parts
  unfold pop
  dsimp only
  split at h
  ·rename_i zs h0
   rw [h0]
   dsimp only
   cases hb:xm ti t zs (parts.toList.map fun p=>(p.1,ρ p.2)) with
   | none=>rw [hb] at h;cases h
   | some r =>
    rw [hb] at h
    obtain ⟨rfl,h1⟩:=aC h
    obtain ⟨φ,h2,h3⟩:=zI hb
    rw [h2]
    exact ⟨_,rfl,h1,h3⟩
  ·cases h
 ·unfold pop
  dsimp only
  split at h
  ·rename_i h0 h1
   rw [h0,h1]
   exact fQ h
  ·cases h
 ·cases h
def vX (ρ:Operand->Option AV):List (Nat × Operand)->Nat->Option (List (List SV))
 | [],_=>some []
 | (i,x)::ps,j=>match decide (i=j),(ρ x).bind AV.cells,vX ρ ps (j+1) with
  | true,some p,some es=>some (p::es)
  | _,_,_=>none
section
variable {P:Program} {ti:TI} {B:Nat->Prop} {R:PH} {γ:List Gh} {L:List Ob} {w:World} {ρ:Operand->Option AV}
theorem xc {ev:Operand->Value} : ∀ (ps:List (Nat × Operand)) (hρ : ∀ p∈ps, ∀ v,ρ p.2=some v->v.rep R γ L (ev p.2)) (j:Nat) (es:List (List SV)),vX ρ ps j=some es ->
  ∃ vs:List Value,(ps.map fun p=>(p.1,ev p.2))=(vs.zipIdx j).map (fun x=>(x.2,x.1))/\vs.length=es.length /\
   (∀ (i:Nat) v e,vs[i]?=some v->es[i]?=some e->zm R γ L e v.cells)
 | [],hρ,j,es,h=>by injection h with h;subst h;exact ⟨[],rfl,rfl,fun i v e hv=>by simp at hv⟩
 | (i,x)::ps,hρ,j,es,h=>by
  unfold vX at h
  split at h
  ·rename_i p es' hij hp hes
   obtain rfl:=VF hij
   injection h with h;subst h
   obtain ⟨vs,h1,h2,h3⟩:=xc ps (fun p hp=>hρ p (VA _ hp)) (i+1) es' hes
   cases hx:ρ x with
   | none=>simp [hx] at hp
   | some vx =>
    simp only [hx,Va] at hp
    have hr:=cells_rep (hρ (i,x) (VU ..) _ hx) hp
    refine ⟨ev x::vs,by simp [List.zipIdx_cons,h1],by simp [h2],fun q v e hv he=>?_⟩
    cases q with
    | zero=>simp at hv he;subst hv he;exact hr
    | succ q=>exact h3 q v e (by simpa using hv) (by simpa using he)
  ·cases h
theorem FP (hti:TIok P ti) {t:TypeId} {E k len:Nat} {parts:Array (Nat × Operand)} {es:List (List SV)} (ht:ti.elem t=some E) (hE:E<65536) (hk:ti.size E=some k) (hzk:ti.zok E=true) (hes:vX ρ parts.toList 0=some es) (hlen:es.length=len) (h0:0<len) (hek : ∀ e∈es,e.length=k) (hk0:0<k) (hsm:len*k<=16777216) :
  oq P ρ L (.buildSlice t len parts) (.one (.sl L.length (E+65536) 0 len)) (L++[.row (E+65536) es k]):=by
 intro B R γ w ev o ho hi hρ hfv
 obtain ⟨dst,op,type,pos,after,guard⟩:=o
 simp only at ho;subst ho
 have hk:=hti.size _ _ hk
 have hu:=kH hti ht
 obtain ⟨vs,e1,e2,e3⟩:=xc (ev:=ev) parts.toList (fun p hp v hv=>hρ p.2 (by simp only [Op.operands,List.mem_toArray,VK];exact ⟨p,hp,rfl⟩) v hv) _ _ hes
 have hparts:(parts.map fun p=>(p.1,ev p.2)).toList=(vs.zipIdx 0).map fun x=>(x.2,x.1):=by rw [Array.toList_map,e1]
 obtain ⟨i,z,hi1,hi2,hi3,hi4⟩:=hti.zok _ hzk _ hk
 have hcs : ∀ v∈vs,v.cells.size=k:=by
  intro v hv
  obtain ⟨q,hq⟩:=List.mem_iff_getElem?.1 hv
  have hlt:q<es.length:=by rw [<- e2];exact (Vb.1 hq).1
  have he:es[q]?=some es[q]:=Vl hlt
  rw [(e3 q v _ hq he).1]
  exact hek _ (List.getElem_mem hlt)
 have hne : ¬ len*i.size=0:=by
  rw [hi3]
  intro e
  rcases Nat.mul_eq_zero.1 e with e|e<;>omega
 have hrun:=run_buildSlice (P:=P) w t E len (parts.map fun p=>(p.1,ev p.2)) (vs.flatMap fun v=>v.cells.toList).toArray i z hu hi1 hi2 (by rw [hi3];omega) hne (by
  rw [hparts,hi3]
  exact Go.Great.fill_whole hk0 vs _ hcs (by simp;rw [e2,hlen]))
 have hm:Mv R R γ (γ++[.arr w.heap.size len]) L (L++[.row (E+65536) es k]):=Mv.push _ _ hi.len
 refine ⟨_,R,_, .inl ⟨.slice (some ⟨w.heap.size,0,none⟩) len len,by simp only [execOp,Sem.run_bind];rw [hrun];rfl,⟨rfl,rfl⟩,by simp,fun ver2 es2 k2 e2'=>?_⟩,?_,⟨Kept.alloc hi.bsz _,PH.sub_refl _,fun _ _ _=>rfl⟩,hm⟩
 ·rw [Vj (by omega)] at e2'
  simp at e2'
  obtain ⟨q1,q2,q3⟩:=e2'
  subst q1 q2 q3
  exact ⟨Vs _,fun _=>⟨by omega, .arr w.heap.size len,by rw [<- hi.len];simp, .inl (by simp)⟩⟩
 ·have hsz:(vs.flatMap fun v=>v.cells.toList).toArray.size=len*k:=by rw [List.size_toArray,flat_len k vs hcs,e2,hlen]
  refine hi.push _ _ _ rfl ⟨⟨_,E,⟨bZ w _,by show (E:Nat)=(E+65536)%65536;omega,by omega⟩,hsz,fun q e j u x he hu hx=>?_⟩,by omega,hk0,hek,fun o=>hi.none_at o⟩
  have hqlt:q<vs.length:=by rw [e2];exact (Vb.1 he).1
  have hv:vs[q]?=some vs[q]:=Vl hqlt
  have hjk:j<k:=by rw [<- hek e (Vi he)];exact (Vb.1 hx).1
  have h3:=e3 q _ e hv he
  rw [List.getElem?_toArray,flat_get k vs hcs q _ hv j hjk] at hu
  exact SV.mv hm (h3.2 j u x hu hx)
end
section
variable {P:Program} {ti:TI} {ρ:Operand->Option AV} {L:List Ob}
theorem zb (z:Array Value) (n i:Nat) (h:i<n):(madeCells z n)[i]?=some z[i%z.size]! := by
 simp [madeCells,h]
theorem zC (hti:TIok P ti) {l c:Operand} {t:TypeId} {E k by_:Nat} {m:Int} {kl kc:IntKind} {zs:List SV} {zv:AV} (hl:ρ l=some (.one (.c (.int kl m)))) (hc:ρ c=some (.one (.c (.int kc m)))) (ht:ti.elem t=some E) (hE:E<65536) (hsz:ti.size E=some k) (hzo:ti.zok E=true) (hzv:ti.zero E=some zv) (hcz:zv.cells=some zs) (hby:ti.bytes E=some by_)
  (hk:0<k) (h0:0<=m) (hb1:(by_:Int)*m<=281474976710656) (hb2:m<=9223372036854775807) :
  oq P ρ L (.makeSlice t l c) (.one (.sl L.length (E+65536) 0 m.toNat)) (L++[.row (E+65536) (List.replicate m.toNat zs) k]):=by
 intro B R γ w ev o ho hi hρ hfv
 obtain ⟨dst,op,type,pos,after,guard⟩:=o
 simp only at ho;subst ho
 obtain ⟨inf,z,hinf,hzz,hisz,hzc⟩:=hti.zok _ hzo _ (hti.size _ _ hsz)
 have hbytes:inf.bytes=by_:=by have hby':=hti.bytes _ _ hby;unfold iT at hby';rw [hinf] at hby';simpa using hby'
 have hzo':AV.ofVal z=some zv:=by have:=hti.zero _ _ hzv;unfold zeroOf at this;rw [hinf] at this;simpa [hzz] using this
 have hlv:=(hρ _ (by simp [Op.operands,Call.operands]) _ hl)
 have hcv:=(hρ _ (by simp [Op.operands,Call.operands]) _ hc)
 generalize hle:ev l=lv at hlv
 generalize hce:ev c=cv at hcv
 cases hlv;cases hcv
 have hrun:=run_make (P:=P) w t E inf z (kH hti ht) hinf hzz kl kc m m h0 (Int.le_refl _) (by rw [hbytes];exact hb1) hb2
 have hm:Mv R R γ (γ++[.arr w.heap.size m.toNat]) L (L++[.row (E+65536) (List.replicate m.toNat zs) k]):=Mv.push _ _ hi.len
 have hcr:=cells_rep (R:=R) (γ:=γ++[.arr w.heap.size m.toNat]) (L:=L++[.row (E+65536) (List.replicate m.toNat zs) k]) (AV.ofVal_rep hzo') hcz
 have hzl:zs.length=k:=by have:=hcr.1;rw [hzc] at this;omega
 refine ⟨w.alloc (.cells (madeCells z.cells (m.toNat*inf.size)) E),R,_, .inl ⟨.slice (some ⟨w.heap.size,0,none⟩) m.toNat m.toNat,by simp [execOp,hle,hce,hrun],⟨rfl,rfl⟩,by simp,fun ver2 es2 k2 e2=>?_⟩,?_,⟨Kept.alloc hi.bsz _,PH.sub_refl _,fun _ _ _=>rfl⟩,hm⟩
 ·rw [Vj (by omega)] at e2
  simp at e2
  obtain ⟨q1,q2,q3⟩:=e2
  subst q1 q2 q3
  refine ⟨Vs _,fun _=>⟨by simp, .arr w.heap.size m.toNat,by rw [<- hi.len];simp, .inl ?_⟩⟩
  simp
 ·refine hi.push _ _ _ rfl ⟨⟨_,E,⟨bZ w _,by show (E:Nat)=(E+65536)%65536;omega,by show 65536<=(E:Nat)+65536;omega⟩,by rw [size_madeCells,hisz],fun i e j u x he hu hx=>?_⟩,by simp,hk,fun e he=>?_,fun o=>hi.none_at o⟩
  ·rw [List.getElem?_replicate] at he
   split at he
   ·rename_i him
    obtain rfl:=VI he
    have hj:j<k:=by rw [<- hzl];exact (Vb.1 hx).1
    have hlt:i*k+j<m.toNat*inf.size:=by rw [hisz];exact lK him hj
    rw [zb _ _ _ hlt,hzc,Nat.add_comm,Nat.add_mul_mod_self_right,Nat.mod_eq_of_lt hj] at hu
    have hj2:j<z.cells.size:=by rw [hzc];exact hj
    refine hcr.2 j u x ?_ hx
    rw [<- hu,VB hj2,getElem!_pos z.cells j hj2]
   ·cases he
  ·rw [List.eq_of_mem_replicate he];exact hzl
end
def NY (ti:TI) (ρ:Operand->Option AV):Op->Option AV
 | .buildSlice t len parts=>match jy ρ parts.toList 0,ti.elem t with
  | some es,some E=>match ti.size E with
   | some k=>match len with
    | 0=>ck (.one .emp) (es.isEmpty=true)
    | n+1=>ck (.one (.c (.lst es))) (es.length=n+1/\uu k es=true/\0<k/\(n+1)*k<=16777216/\ti.zok E=true)
   | none=>none
  | _,_=>none
 | _=>none
theorem GK {ti:TI} {ρ:Operand->Option AV} {op:Op} {v:AV} (h:NY ti ρ op=some v):yP (o9 ti ρ op) v:=by
 unfold NY at h
 split at h
 ·rename_i t len parts
  show yP (sG ti ρ t len parts.toList) v
  unfold sG
  split at h
  ·rename_i h0 h1
   rw [h0,h1]
   dsimp only
   split at h
   ·rename_i h2
    rw [h2]
    dsimp only
    split at h
    ·obtain ⟨rfl,h3⟩:=aC h
     rw [if_pos rfl]
     exact ⟨_,rfl,List.isEmpty_iff.1 h3⟩
    ·obtain ⟨rfl,h3,h4,h5,h6,h7⟩:=aC h
     rw [if_neg (Nat.succ_ne_zero _)]
     exact ⟨_,rfl,h3,kR h4,h5,h6,h7⟩
   ·cases h
  ·cases h
 ·cases h
def PI (ti:TI) (L:List Ob) (t tx:TypeId) (s x:AV):Option (AV × List Ob) :=
 match bW x,ti.elem t with
 | some xs,some E=>match ti.size E,ti.bytes E with
  | some k,some by_=>match s with
   | .one .emp=>ck (.one (.own xs L.length),L++[.spare xs.length k]) ((ti.elem tx).isSome=true/\0<k/\ti.zok E=true/\uu k xs=true/\xs.length*by_<=140737488355328/\xs.length<=140737488355328)
   | .one (.own es i)=>match L[i]? with
    | some (.spare n k')=>ck (.one (.own (es++xs) i),L.set i (.spare (n+xs.length) k)) ((ti.elem tx).isSome=true/\k'=k/\es.length=n/\(ti.zok E=true/\0<k)/\uu k xs=true/\(n+xs.length)*by_<=140737488355328/\n+xs.length<=140737488355328)
    | _=>none
   | _=>none
  | _,_=>none
 | _,_=>none
def SC {α β:Type} (f:Option (α × β × Prop)) (a:α) (b:β):Prop := ∃ φ,f=some (a,b,φ)/\φ
theorem NB {ti:TI} {L L':List Ob} {t tx:TypeId} {s x v:AV} (h:PI ti L t tx s x=some (v,L')):SC (tJ ti L t tx s x) v L':=by
 unfold PI at h
 unfold tJ
 split at h
 ·rename_i h0 h1
  rw [h0,h1]
  dsimp only
  split at h
  ·rename_i h2 h3
   rw [h2,h3]
   dsimp only
   split at h
   ·obtain ⟨e,h4,h5,h6,h7,h8⟩:=aC h
    cases e
    exact ⟨_,rfl,h4,h5,h6,kR h7,h8⟩
   ·dsimp only
    split at h
    ·rename_i h4
     rw [h4]
     obtain ⟨e,h5,h6,h7,h8,h9,h10⟩:=aC h
     cases e
     exact ⟨_,rfl,h5,h6,h7,h8,kR h9,h10⟩
    ·cases h
   ·cases h
  ·cases h
 ·cases h
def NL (ti:TI) (ρ:Operand->Option AV) (L:List Ob):Op->Option (AV × List Ob)
 | .alloc E=>match (ti.zero E).bind AV.cells with
  | some zs=>some (.one (.ptr L.length 0),L++[.box zs])
  | none=>none
 | .box _ x=>match (ρ x).bind AV.cells with
  | some xs=>some (.one (.ptr L.length 0),L++[.box xs])
  | none=>none
 | .store t p x=>match ρ p,(ρ x).bind AV.cells with
  | some (.one (.ptr id off)),some xs=>match L[id]? with
   | some (.box cs)=>ck (.undef,L.set id (.box (splice cs off xs))) (off+xs.length<=cs.length/\ti.size t=some xs.length)
   | _=>none
  | some (.one (.ep id ver i o)),some xs=>match L[id]? with
   | some (.row ver' es k)=>match es[i]? with
    | some e=>ck (.undef,L.set id (.row ver' (es.set i (splice e o xs)) k)) (ver=ver'/\o+xs.length<=e.length/\ti.size t=some xs.length)
    | none=>none
   | _=>none
  | _,_=>none
 | .call { callee := .builtin .append,args,argTypes } => match args.toList,argTypes.toList with
  | [s,x],[t,tx]=>match ρ s,ρ x with
   | some vs,some vx=>PI ti L t tx vs vx
   | _,_=>none
  | _,_=>none
 | _=>none
theorem GU {ti:TI} {ρ:Operand->Option AV} {L L':List Ob} {op:Op} {v:AV} (h:NL ti ρ L op=some (v,L')):SC (yE ti ρ L op) v L':=by
 unfold NL at h
 split at h
 ·unfold yE
  dsimp only
  split at h
  ·rename_i h0
   rw [h0];cases h;exact ⟨_,rfl,trivial⟩
  ·cases h
 ·unfold yE
  dsimp only
  split at h
  ·rename_i h0
   rw [h0];cases h;exact ⟨_,rfl,trivial⟩
  ·cases h
 ·unfold yE
  dsimp only
  split at h
  ·rename_i h0 h1
   rw [h0,h1]
   dsimp only
   split at h
   ·rename_i h2
    rw [h2]
    obtain ⟨e,h3⟩:=aC h
    cases e
    exact ⟨_,rfl,h3⟩
   ·cases h
  ·rename_i h0 h1
   rw [h0,h1]
   dsimp only
   split at h
   ·rename_i h2
    rw [h2]
    dsimp only
    split at h
    ·rename_i h3
     rw [h3]
     obtain ⟨e,h4⟩:=aC h
     cases e
     exact ⟨_,rfl,h4⟩
    ·cases h
   ·cases h
  ·cases h
 ·unfold yE
  dsimp only
  split at h
  ·rename_i h0 h1
   rw [h0,h1]
   dsimp only
   split at h
   ·rename_i h2 h3
    rw [h2,h3]
    exact NB h
   ·cases h
  ·cases h
 ·cases h
def je:List (AC × AV)->Bool
 | []=>true
 | p::kvs=>match p.1 with
  | .str _=>je kvs
  | _=>false
theorem gZ : ∀ {kvs:List (AC × AV)}, je kvs=true->strKeys kvs
 | [],_,p,hp=>by cases hp
 | q::kvs,h,p,hp=>by
  unfold je at h
  split at h
  ·rename_i s hs
   rcases Vt.1 hp with rfl|hp
   ·exact ⟨s,hs⟩
   ·exact gZ h p hp
  ·cases h
def L8:Option TypeDesc->Option (TypeId × TypeId)
 | some (.map k e)=>some (k,e)
 | _=>none
theorem BV {d:Option TypeDesc} {k e:TypeId} (h:L8 d=some (k,e)):d=some (.map k e):=by
 unfold L8 at h
 split at h
 ·cases h;rfl
 ·cases h
def D7:Option TypeDesc->Option TypeId
 | some (.pointer e)=>some e
 | _=>none
theorem oN {d:Option TypeDesc} {e:TypeId} (h:D7 d=some e):d=some (.pointer e):=by
 unfold D7 at h
 split at h
 ·cases h;rfl
 ·cases h
def PS:Option TypeDesc->Option TypeId
 | some (.slice e)=>some e
 | _=>none
theorem Na {d:Option TypeDesc} {e:TypeId} (h:PS d=some e):d=some (.slice e):=by
 unfold PS at h
 split at h
 ·cases h;rfl
 ·cases h
def G7:Option TypeDesc->Bool
 | some .unsafePointer=>true
 | _=>false
theorem D9 {d:Option TypeDesc} (h:G7 d=true):d=some .unsafePointer:=by
 unfold G7 at h
 split at h
 ·rfl
 ·cases h
def MU (ti:TI) (L:List Ob) (k:Nat) (tx:TypeId):AV->Bool
 | .one (.c (.str _))=>decide (k=1)&&isStr (ti.kind tx)
 | .one (.sl id ver lo n)=>(ti.elem tx).isSome&&(match L[id]? with
  | some (.row ver' es k')=>decide (ver=ver')&&(decide (k=k')&&decide (lo+n<=es.length))
  | _=>false)
 | x=>(ti.elem tx).isSome&&(match bW x with
  | some es=>uu k es
  | none=>false)
theorem G_ {ti:TI} {L:List Ob} {k:Nat} {tx:TypeId} {x:AV} (h:MU ti L k tx x=true):AU ti L k tx x:=by
 unfold MU at h
 split at h
 ·rw [Vu] at h
  exact ⟨VF h.1,fJ h.2⟩
 ·rw [Vu] at h
  obtain ⟨h1,h2⟩:=h
  split at h2
  ·rename_i h3
   rw [Vu,Vu] at h2
   obtain ⟨h4,h5,h6⟩:=h2
   obtain rfl:=VF h4
   obtain rfl:=VF h5
   exact ⟨h1,_,h3,VF h6⟩
  ·cases h2
 ·rename_i n1 n2
  rw [Vu] at h
  obtain ⟨h1,h2⟩:=h
  unfold AU
  split
  ·rename_i s;exact absurd rfl (n1 s)
  ·rename_i a b c d;exact absurd rfl (n2 a b c d)
  ·split at h2
   ·rename_i h3;exact ⟨h1,_,h3,kR h2⟩
   ·cases h2
def bytesOf:List (List SV)->Option (List UInt8)
 | []=>some []
 | [.c (.int .u8 n)]::es=>match bytesOf es with
  | some bs=>if n=(UInt8.ofNat n.toNat).toNat then some (UInt8.ofNat n.toNat::bs) else none
  | none=>none
 | _=>none
theorem ym : ∀ {es:List (List SV)} {bs:List UInt8}, bytesOf es=some bs->es=bs.map fun b=>[.c (.int .u8 b.toNat)]
 | [],bs,h=>by cases h;rfl
 | e::es,bs,h=>by
  unfold bytesOf at h
  split at h
  ·rename_i e1;cases e1
  ·rename_i n es' e1
   cases e1
   split at h
   ·rename_i bs' h1
    split at h
    ·rename_i h2
     cases h
     rw [Vn, <- ym h1, <- h2]
    ·cases h
   ·cases h
  ·cases h
def BK (k:Nat):List (List SV)->Bool
 | []=>true
 | e::es=>Nat.beq e.length k&&BK k es
theorem zn {k:Nat} : ∀ {es:List (List SV)}, BK k es=true -> ∀ e∈es,e.length=k
 | [],_,e,he=>by cases he
 | x::es,h,e,he=>by
  rw [BK,Vu] at h
  rcases Vt.1 he with rfl|he
  ·exact Nat.eq_of_beq_eq_true h.1
  ·exact zn h.2 e he
def mK (a b:ByteArray):Int:=Extern.BytealgCompare.cmp a b
theorem FK {P : Program} {ρ : Operand -> Option AV} {L : List Ob} {f : FuncId} {fn : Func} {x y : Operand} {ts : Array TypeId} {a b : ByteArray} (hx : ρ x = some (.one (.c (.str a)))) (hy : ρ y = some (.one (.c (.str b)))) (hf : P.funcs[f]? = some fn) (hname : (fn.name == "runtime.NumGoroutine") = false)
  (hb:fn.body.isNone=true) (hn:Extern.findNext fn=none) (he:Extern.find fn=some Extern.BytealgCompare.compare) :
  oq P ρ L (.call { callee := .value (.func f),args := #[x,y],argTypes:=ts }) (.one (.c (.int .i64 (mK a b)))) L:=by
 intro B R γ w ev o ho hi hρ hfv
 obtain ⟨dst,op,type,pos,after,guard⟩:=o
 simp only at ho;subst ho
 have h1:=hρ x (by simp [Op.operands,Call.operands]) _ hx
 have h2:=hρ y (by simp [Op.operands,Call.operands]) _ hy
 generalize hex:ev x=ux at h1
 generalize hey:ev y=uy at h2
 cases h1;cases h2
 refine ⟨w,R,γ, .inl ⟨.int .i64 (mK a b),?_, .int _ _⟩,hi,Ext.refl _ _ _,Mv.refl⟩
 have:=run_callFunc_extern hf hname hb hn he #[.string a, .string b] w
 have h3:(Extern.BytealgCompare.compare #[.string a, .string b]).run P w = .ok (.int .i64 (mK a b)) w:=rfl
 rw [h3] at this
 simp [execOp,resolve,Deferred.ofValue,hfv.1,hex,hey,invoke,this,Result.andThen]
structure ER where
 noEsc:FuncId
 cmpS:FuncId
def Dy (P:Program) (ti:TI) (xs:ER) (rowB:Bool) (ρ:Operand->Option AV) (L:List Ob):Op->Option (AV × List Ob)
 | .makeMap _ none=>some (.one (.mp L.length),L++[.map []])
 | .buildSlice t len parts=>match vX ρ parts.toList 0,ti.elem t with
  | some es,some E=>match ti.size E with
   | some k=>ck (.one (.sl L.length (E+65536) 0 len),L++[.row (E+65536) es k]) (rowB=true/\E<65536/\ti.zok E=true/\es.length=len/\0<len/\BK k es=true/\0<k/\len*k<=16777216)
   | none=>none
  | _,_=>none
 | .lookup t x k ok=>match ρ x,ρ k,L8 (ti.kind t) with
  | some (.one (.mp id)),some (.one (.c (.str s))),some (kt,et)=>match L[id]?,ti.zero et with
   | some (.map kvs),some z=>match ok with
    | false=>ck (o6 kvs s z,L) (je kvs=true/\isStr (ti.kind kt)=true)
    | true=>match (o6 kvs s z).norm with
     | some p=>ck (.tup [p, .one (.bool (qM s kvs).isSome)],L) (je kvs=true/\isStr (ti.kind kt)=true)
     | none=>none
   | _,_=>none
  | _,_,_=>none
 | .mapUpdate t x k y=>match ρ x,ρ k,ρ y,L8 (ti.kind t) with
  | some (.one (.mp id)),some (.one (.c (.str s))),some v,some (kt,_)=>match L[id]? with
   | some (.map kvs)=>ck (.undef,L.set id (.map (C9 kvs s v))) (je kvs=true/\isStr (ti.kind kt)=true)
   | _=>none
  | _,_,_,_=>none
 | .mapEntry t x k=>match ρ x,ρ k,L8 (ti.kind t) with
  | some (.one (.mp id)),some (.one (.c (.str s))),some (kt,et)=>match L[id]?,ti.zero et with
   | some (.map kvs),some z=>match (o6 kvs s z).norm with
    | some p=>ck (.tup [p, .one (.int .i64 (Cq kvs s))],L.set id (.map (C9 kvs s (o6 kvs s z)))) (je kvs=true/\isStr (ti.kind kt)=true)
    | none=>none
   | _,_=>none
  | _,_,_=>none
 | .entryStore _ x k y=>match ρ x,ρ k,ρ y with
  | some (.one (.mp id)),some (.one (.c (.int .i64 i))),some v=>match L[id]? with
   | some (.map kvs)=>match kvs[i.toNat]? with
    | some q=>ck (.undef,L.set id (.map (kvs.set i.toNat (q.1,v)))) (0<=i)
    | none=>none
   | _=>none
  | _,_,_=>none
 | .makeFunc (.func f) first captured=>match first.toList,rH ρ captured.toList with
  | [],some caps=>some (.one (.clo f caps),L)
  | _,_=>none
 | .call { callee := .builtin .append,args,argTypes } => match args.toList,argTypes.toList with
  | [s,x],[t,tx]=>match ρ s,ρ x,ti.elem t with
   | some (.one (.sl id ver 0 n)),some vx,some E=>match L[id]?,I_ L vx,ti.size E,ti.bytes E with
    | some (.row ver' es k'),some xs,some k,some by_=>ck (.one (.sl id (ver+65536) 0 (n+xs.length)),L.set id (.row (ver+65536) (es++xs) k)) ((ver'=ver/\k'=k/\MU ti L k tx vx=true/\ver%65536=E)/\ti.zok E=true/\0<k/\es.length=n/\(n+xs.length)*by_<=140737488355328/\n+xs.length<=140737488355328)
    | _,_,_,_=>none
   | some (.one .emp),some vx,some E=>match I_ L vx,ti.size E,ti.bytes E with
    | some xs,some k,some by_=>ck (.one (.sl L.length (E+65536) 0 xs.length),L++[.row (E+65536) xs k]) ((rowB=true/\MU ti L k tx vx=true/\E<65536)/\ti.zok E=true/\0<k/\0<xs.length/\xs.length*by_<=140737488355328/\xs.length<=140737488355328)
    | _,_,_=>none
   | _,_,_=>none
  | _,_=>none
 | .makeSlice t l c=>match ρ l,ρ c,ti.elem t with
  | some (.one (.c (.int _ l))),some (.one (.c (.int _ m))),some E=>match ti.size E,ti.bytes E with
   | some k,some by_=>match rowB with
    | true=>match decide (l=0),(ti.zero E).bind AV.cells with
     | true,_=>ck (.one (.sl L.length (E+65536) 0 0),L++[.row (E+65536) [] k]) ((l=0/\E<65536)/\ti.zok E=true/\0<k/\0<=m/\(by_:Int)*m<=281474976710656/\m<=9223372036854775807)
     | false,some zs=>ck (.one (.sl L.length (E+65536) 0 m.toNat),L++[.row (E+65536) (List.replicate m.toNat zs) k]) ((l=m/\E<65536)/\ti.zok E=true/\0<k/\0<=m/\(by_:Int)*m<=281474976710656/\m<=9223372036854775807)
     | false,none=>none
    | false=>ck (.one (.own [] L.length),L++[.spare 0 k]) (l=0/\ti.zok E=true/\0<k/\0<=m/\(by_:Int)*m<=281474976710656/\m<=9223372036854775807)
   | _,_=>none
  | _,_,_=>none
 | .alloc E=>match P.info? E,ti.field E 1 with
  | some inf,some (1,ts)=>match inf.zero,ti.elem ts with
   | some (.agg vs),some Eb=>match vs.toList,ti.size Eb with
    | [.pointer none, .slice none 0 0],some k=>ck (.one (.ep L.length (E+65536) 0 0),L++[.row (E+65536) [[.c (.nul .ptr), .sl (L.length+1) Eb 0 0]] 2, .row Eb [] k]) (rowB=true/\E<65536/\Eb<65536/\0<k)
    | _,_=>none
   | _,_=>none
  | _,_=>none
 | .convert s d x=>match ρ x with
  | some (.one (.ep id ver 0 0))=>match L[id]? with
   | some (.row ver' es k)=>match D7 (ti.kind s),G7 (ti.kind d),D7 (ti.kind d),G7 (ti.kind s) with
    | some t,true,_,_=>match ti.size t with
     | some (_+1)=>ck (.one (.ep id ver 0 0),L) (ver'=ver)
     | _=>none
    | _,_,some t,true=>ck (.one (.ep id ver 0 0),L) (ver'=ver/\(ti.size t).isSome=true/\P.cellsOf t=k/\ver%65536=t)
    | _,_,_,_=>none
   | _=>none
  | _=>none
 | .binOp op t x y _=>match op,ρ x with
  | .eql,some (.one (.c (.nul .ptr)))=>match ρ y,D7 (ti.kind t) with
   | some (.one (.c (.nul .ptr))),some _=>some (.one (.c (.bool true)),L)
   | _,_=>none
  | .eql,some (.one (.ep id ver i off))=>match ρ y,D7 (ti.kind t),L[id]? with
   | some (.one (.c (.nul .ptr))),some _,some (.row ver' es k)=>ck (.one (.c (.bool false)),L) (ver'=ver)
   | _,_,_=>none
  | .neq,some (.one (.ep id ver i off))=>match ρ y,D7 (ti.kind t),L[id]? with
   | some (.one (.ep id2 ver2 i2 off2)),some te,some (.row ver' es k)=>ck (.one (.c (.bool false)),L) (ver'=ver/\id2=id/\ver2=ver/\i2=i/\off2=off/\(ti.size te).isSome=true)
   | _,_,_=>none
  | .eql,some vx=>match bW vx,y,PS (ti.kind t) with
   | some (_::_), .const (.slice none 0 0),some _=>some (.one (.c (.bool false)),L)
   | _,_,_=>none
  | _,_=>none
 | .call { callee := .builtin .unsafeSliceData,args, .. } => match args.toList with
  | [x]=>match ρ x with
   | some (.one (.sl id ver 0 (n+1)))=>match L[id]? with
    | some (.row ver' _ _)=>ck (.one (.ep id ver 0 0),L) (ver'=ver)
    | _=>none
   | some (.one (.sl id ver 0 0))=>match L[id]? with
    | some (.row ver' [] _)=>ck (.one (.c (.nul .ptr)),L) (ver'=ver/\ver<65536)
    | _=>none
   | _=>none
  | _=>none
 | .call { callee := .builtin .unsafeString,args,argTypes } => match args.toList,argTypes.toList with
  | [x,y],[pt,_]=>match ρ x,ρ y with
   | some (.one (.c (.nul .ptr))),some (.one (.c (.int .i64 n)))=>ck (.one (.c (.str .empty)),L) (n=0)
   | some (.one (.ep id ver 0 0)),some (.one (.c (.int .i64 n)))=>match L[id]?,D7 (ti.kind pt) with
    | some (.row ver' es 1),some E=>match bytesOf es with
     | some bs=>ck (.one (.c (.str ⟨bs.toArray⟩)),L.set id .dead) ((ver'=ver/\n=bs.length)/\ver%65536=E/\P.cellsOf E=1/\0<bs.length/\bs.length<=9223372036854775807)
     | none=>none
    | _,_=>none
   | _,_=>none
  | _,_=>none
 | .call { callee := .value (.func f),args, .. } => match args.toList with
  | [x]=>match ρ x with
   | some v=>ck (v,L) (f=xs.noEsc)
   | none=>none
  | [x,y]=>match ρ x,ρ y with
   | some (.one (.c (.str a))),some (.one (.c (.str b)))=>ck (.one (.c (.int .i64 (mK a b))),L) (f=xs.cmpS)
   | _,_=>none
  | _=>none
 | _=>none
def L_ (P : Program) (f : FuncId) : Prop := ∃ fn, P.funcs[f]? = some fn /\ (fn.name == "runtime.NumGoroutine") = false /\ fn.body.isNone = true /\ Extern.findNext fn = none /\ Extern.find fn = some Extern.AbiNoEscape.same
def PX (P : Program) (f : FuncId) : Prop := ∃ fn, P.funcs[f]? = some fn /\ (fn.name == "runtime.NumGoroutine") = false /\ fn.body.isNone = true /\ Extern.findNext fn = none /\ Extern.find fn = some Extern.BytealgCompare.compare
structure sZ (P:Program) (xs:ER):Prop where
 noEsc:L_ P xs.noEsc
 cmpS:PX P xs.cmpS
theorem pF {P:Program} {t:TypeId} {n:Nat} (h:dG P t=some n) : ∃ j,P.info? t=some j/\j.size=n:=by
 unfold dG at h
 exact map_some h
theorem LZ {P:Program} {ti:TI} {xs:ER} {rowB:Bool} {ρ:Operand->Option AV} {L L':List Ob} {op:Op} {v:AV} (hti:TIok P ti) (hne:sZ P xs) (h:Dy P ti xs rowB ρ L op=some (v,L')):oq P ρ L op v L':=by
 unfold Dy at h
 split at h
 ·cases h;exact D6
 ·split at h
  ·rename_i es E hes hE
   split at h
   ·rename_i k hk
    obtain ⟨e,h1,h2,h3,h4,h5,h6,h7,h8⟩:=aC h
    cases e
    exact FP hti hE h2 hk h3 hes h4 h5 (zn h6) h7 h8
   ·cases h
  ·cases h
 ·split at h
  ·rename_i id s kt et hx hk hm
   have ht:=hti.kind _ _ (BV hm)
   split at h
   ·rename_i kvs z hL hz
    have hz:=hti.zero _ _ hz
    split at h
    ·obtain ⟨e,h1,h2⟩:=aC h
     cases e
     exact FI hx hk hL (gZ h1) ht (hti.kind _ _ (fJ h2)) hz
    ·split at h
     ·rename_i p hp
      obtain ⟨e,h1,h2⟩:=aC h
      cases e
      exact y8 hx hk hL (gZ h1) ht (hti.kind _ _ (fJ h2)) hz hp
     ·cases h
   ·cases h
  ·cases h
 ·split at h
  ·rename_i id s v' kt et hx hk hy hm
   have ht:=hti.kind _ _ (BV hm)
   split at h
   ·rename_i kvs hL
    obtain ⟨e,h1,h2⟩:=aC h
    cases e
    exact yG hx hk hy hL (gZ h1) ht (hti.kind _ _ (fJ h2))
   ·cases h
  ·cases h
 ·split at h
  ·rename_i id s kt et hx hk hm
   have ht:=hti.kind _ _ (BV hm)
   split at h
   ·rename_i kvs z hL hz
    have hz:=hti.zero _ _ hz
    split at h
    ·rename_i p hp
     obtain ⟨e,h1,h2⟩:=aC h
     cases e
     exact Br hx hk hL (gZ h1) ht (hti.kind _ _ (fJ h2)) hz hp
    ·cases h
   ·cases h
  ·cases h
 ·split at h
  ·rename_i id i v' hx hk hy
   split at h
   ·rename_i kvs hL
    split at h
    ·rename_i q hq
     obtain ⟨e,h1⟩:=aC h
     cases e
     exact wI hx (by rw [hk,Int.toNat_of_nonneg h1]) hy hL hq
    ·cases h
   ·cases h
  ·cases h
 ·rename_i f first captured
  split at h
  ·rename_i caps h1 h2
   cases h
   obtain rfl:first = #[]:=by cases first;simp at h1;subst h1;rfl
   exact BO h2
  ·cases h
 ·rename_i args ts
  split at h
  ·rename_i s x t tx ha hts
   obtain rfl:args = #[s,x]:=by cases args;simp at ha;subst ha;rfl
   obtain rfl:ts = #[t,tx]:=by cases ts;simp at hts;subst hts;rfl
   split at h
   ·rename_i id ver n vx E hs hx hE
    split at h
    ·rename_i ver' es k' xs k by_ hL hsrc hk hby
     obtain ⟨e,⟨h1,h2,h3,h4⟩,h5,h6,h7,h8,h9⟩:=aC h
     cases e;subst h1;subst h2
     exact iH hti hs hx hL hsrc (G_ h3) hE h4 hk h5 hby h6 h7 h8 h9
    ·cases h
   ·rename_i vx E hs hx hE
    split at h
    ·rename_i xs k by_ hsrc hk hby
     obtain ⟨e,⟨h1,h2,h3⟩,h5,h6,h7,h8,h9⟩:=aC h
     cases e
     exact Kl hti hs hx hsrc (G_ h2) hE h3 hk h5 hby h6 h7 h8 h9
    ·cases h
   ·cases h
  ·cases h
 ·split at h
  ·rename_i l m E hl hc hE
   split at h
   ·rename_i k by_ hk hby
    split at h
    ·split at h
     ·obtain ⟨e,⟨h1,h2⟩,h3,h4,h5,h6,h7⟩:=aC h
      cases e;subst h1
      exact Ec hti hl hc hE h2 hk h3 hby h4 h5 h6 h7
     ·rename_i zs _ hz
      obtain ⟨e,⟨h1,h2⟩,h3,h4,h5,h6,h7⟩:=aC h
      cases e;subst h1
      obtain ⟨zv,hzv,hcz⟩:=Option.bind_eq_some_iff.1 hz
      exact zC hti hl hc hE h2 hk h3 hzv hcz hby h4 h5 h6 h7
     ·cases h
    ·obtain ⟨e,h1,h3,h4,h5,h6,h7⟩:=aC h
     cases e;subst h1
     exact nU hti hl hc hE hk h3 hby h4 h5 h6 h7
   ·cases h
  ·cases h
 ·split at h
  ·rename_i inf ts hi hf
   split at h
   ·rename_i vs Eb hz hEb
    split at h
    ·rename_i k hv hk
     obtain ⟨e,h1,h2,h3,h4⟩:=aC h
     cases e
     exact sS hi (by rw [hz];cases vs;simp at hv;subst hv;rfl) h2 h3 h4
    ·cases h
   ·cases h
  ·cases h
 ·split at h
  ·rename_i id ver hx
   split at h
   ·rename_i ver' es k hL
    split at h
    ·rename_i t _ h1 h2
     split at h
     ·rename_i n hn
      obtain ⟨e,h4⟩:=aC h
      cases e;subst h4
      obtain ⟨j,hj,hs⟩:=pF (hti.size _ _ hn)
      exact iO hx hL (hti.kind _ _ (oN h1)) (hti.kind _ _ (D9 h2)) hj (by rw [hs];exact Nat.succ_ne_zero _)
     ·cases h
    ·rename_i t h1 h2 _
     obtain ⟨e,h4,h5,h6,h7⟩:=aC h
     cases e;subst h4
     obtain ⟨n,hn⟩:=VP.1 h5
     obtain ⟨j,hj,hs⟩:=pF (hti.size _ _ hn)
     exact lJ hx hL (hti.kind _ _ (D9 h2)) (hti.kind _ _ (oN h1)) hj h6 h7
    ·cases h
   ·cases h
  ·cases h
 ·split at h
  ·rename_i hx
   split at h
   ·rename_i te hy hm
    cases h
    exact sI hx hy (hti.kind _ _ (oN hm))
   ·cases h
  ·rename_i hx
   split at h
   ·rename_i te ver' es k hy hm hL
    obtain ⟨e,h4⟩:=aC h
    cases e;subst h4
    exact nD hx hL hy (hti.kind _ _ (oN hm))
   ·cases h
  ·rename_i hx
   split at h
   ·rename_i te ver' es k hy hm hL
    obtain ⟨e,h4,h5,h6,h7,h8,h9⟩:=aC h
    cases e;subst h4;subst h5;subst h6;subst h7;subst h8
    obtain ⟨n,hn⟩:=VP.1 h9
    obtain ⟨j,hj,hs⟩:=pF (hti.size _ _ hn)
    exact nM hx hL hy (hti.kind _ _ (oN hm)) hj
   ·cases h
  ·rename_i vx hx
   split at h
   ·rename_i hl hm
    cases h
    exact Fj hx hl (hti.kind _ _ (Na hm))
   ·cases h
  ·cases h
 ·rename_i args ts
  split at h
  ·rename_i x ha
   obtain rfl:args = #[x]:=by cases args;simp at ha;subst ha;rfl
   split at h
   ·rename_i id ver n hx
    split at h
    ·rename_i ver' es k hL
     obtain ⟨e,h4⟩:=aC h
     cases e;subst h4
     exact pE hx hL (Nat.succ_pos _)
    ·cases h
   ·rename_i id ver hx
    split at h
    ·rename_i ver' k hL
     obtain ⟨e,h4,h5⟩:=aC h
     cases e;subst h4
     exact nO hx hL h5
    ·cases h
   ·cases h
  ·cases h
 ·rename_i args ts
  split at h
  ·rename_i x y pt it ha hts
   obtain rfl:args = #[x,y]:=by cases args;simp at ha;subst ha;rfl
   obtain rfl:ts = #[pt,it]:=by cases ts;simp at hts;subst hts;rfl
   split at h
   ·rename_i n hx hy
    obtain ⟨e,h4⟩:=aC h
    cases e;subst h4
    exact jN hx hy
   ·rename_i id ver n hx hy
    split at h
    ·rename_i ver' es E hL hm
     split at h
     ·rename_i bs hb
      obtain ⟨e,⟨h4,h5⟩,h6,h7,h8,h9⟩:=aC h
      cases e;subst h4;subst h5
      refine j_ hx hy ?_ h6 (hti.kind _ _ (oN hm)) h7 h8 h9
      rw [hL,ym hb];rfl
     ·cases h
    ·cases h
   ·cases h
  ·cases h
 ·rename_i f args ts
  split at h
  ·rename_i x ha
   obtain rfl:args = #[x]:=by cases args;simp at ha;subst ha;rfl
   split at h
   ·rename_i v' hx
    obtain ⟨e,h4⟩:=aC h
    cases e;subst h4
    obtain ⟨fn,h1,h2,h3,h5,h6⟩:=hne.noEsc
    exact lC hx h1 h2 h3 h5 h6
   ·cases h
  ·rename_i x y ha
   obtain rfl:args = #[x,y]:=by cases args;simp at ha;subst ha;rfl
   split at h
   ·rename_i a b hx hy
    obtain ⟨e,h4⟩:=aC h
    cases e;subst h4
    obtain ⟨fn,h1,h2,h3,h5,h6⟩:=hne.cmpS
    exact FK hx hy h1 h2 h3 h5 h6
   ·cases h
  ·cases h
 ·cases h
open Go.RowKit
section
variable {P:Program} {Q:Exit->Act->World->Prop} {md:Region.Mode}
def jT (md:Region.Mode) (ops:Array Oper):Nat->Array Bool->List Nat->Prop
 | 0,_,s=>s=[]
 | fuel+1,listed,s=>(Region.ready md ops listed=[]/\s=[]) \/ ∃ i s',i∈Region.ready md ops listed/\s=i::s'/\jT md ops fuel (listed.setIfInBounds i true) s'
theorem Oq (ops:Array Oper) : ∀ (fuel t:Nat) (listed:Array Bool),jT md ops fuel listed (Region.linearise.go md ops fuel t listed []):=by
 intro fuel
 induction fuel with
 | zero=>intro t listed;simp [Region.linearise.go,jT]
 | succ fuel ih =>
  intro t listed
  simp only [Region.linearise.go]
  change jT md ops (fuel+1) listed (match (Region.ready md ops listed)[t%(Region.ready md ops listed).length]? with
   | some i=>Region.linearise.go md ops fuel (t/(Region.ready md ops listed).length) (listed.setIfInBounds i true) [i]
   | none=>[].reverse)
  cases hi:(Region.ready md ops listed)[t%(Region.ready md ops listed).length]? with
  | none =>
   have hnil:Region.ready md ops listed=[]:=by
    cases hr:Region.ready md ops listed with
    | nil=>rfl
    | cons x xs =>
     rw [hr] at hi
     have hlt:t%(x::xs).length<(x::xs).length:=Nat.mod_lt _ (by simp)
     simp at hi
     simp at hlt
     omega
   exact .inl ⟨hnil,rfl⟩
  | some i =>
   simp only []
   rw [linearise_go_acc,List.reverse_singleton,List.singleton_append]
   exact .inr ⟨i,_,Vi hi,rfl,ih _ _⟩
theorem tT {ops:Array Oper} : ∀ (fuel:Nat) (listed:Array Bool) (s:List Nat) (a:Act) (w:World),wpAny P md ops Q fuel listed a w->jT md ops fuel listed s->wpOps P ops Q s a w
 | 0,_,s,a,w,h,hs=>by cases hs;exact h.2
 | fuel+1,listed,s,a,w,h,hs=>by
  rcases hs with ⟨h0,rfl⟩|⟨i,s',hi,rfl,hs⟩
  ·exact h.1 h0
  ·rw [wpOps_cons]
   exact wpOp_mono (fun a w hh=>tT fuel _ s' a w hh hs) (h.2 i hi)
theorem mem_ready {ops:Array Oper} {listed:Array Bool} {i:Nat} : i∈Region.ready md ops listed ↔ ∃ o,ops[i]?=some o/\listed.getD i true=false /\ ∀ e∈o.after.toList,Region.binds md e=true->listed.getD e.on false=true:=by
 unfold Region.ready
 rw [List.mem_filter,List.mem_range,Vu,Bool.not_eq_true']
 constructor
 ·rintro ⟨hi,h1,h2⟩
  have ho:ops[i]?=some ops[i]:=VB hi
  rw [ho,Option.map_some,Option.getD_some] at h2
  refine ⟨_,ho,h1,fun e he hb=>?_⟩
  have:=Array.all_eq_true'.1 h2 e (by simpa using he)
  rw [hb] at this
  simpa using this
 ·rintro ⟨o,ho,h1,h2⟩
  refine ⟨(VS.1 ho).1,h1,?_⟩
  rw [ho,Option.map_some,Option.getD_some,Array.all_eq_true']
  intro e he
  by_cases hb:Region.binds md e=true
  ·rw [hb,h2 e (by simpa using he) hb];rfl
  ·simp [hb]
structure qi (π:Nat->Nat) (u v:Nat) (l m:List Oper):Prop where
 inv : ∀ i,π (π i)=i
 get : ∀ i, ∃ f:Oper->Array Edge,m[π i]?=(l[i]?).map (fun o => { o with after:=f o }) /\
  ∀ o,l[i]?=some o->(∀ e∈o.after.toList, { e with on:=π e.on } ∈ (f o).toList) /\ ∀ e∈(f o).toList,(∃ e'∈o.after.toList,e = { e' with on:=π e'.on })\/(i=v/\e.on=π u)
 len:m.length=l.length
structure Sw (π:Nat->Nat) (listed listed':Array Bool):Prop where
 get : ∀ i,listed'[π i]?=listed[i]?
theorem qi.inj {π:Nat->Nat} {u v:Nat} {l m:List Oper} (h:qi π u v l m) {i j:Nat} (e:π i=π j):i=j:=by rw [<- h.inv i,e,h.inv]
theorem Sw.set {π:Nat->Nat} {u v:Nat} {l m:List Oper} (hL:qi π u v l m) {a b:Array Bool} (h:Sw π a b) (i:Nat):Sw π (a.setIfInBounds i true) (b.setIfInBounds (π i) true):=by
 refine ⟨fun j=>?_⟩
 rw [Array.getElem?_setIfInBounds,Array.getElem?_setIfInBounds]
 by_cases e:i=j
 ·subst e
  rw [if_pos rfl,if_pos rfl]
  have:=h.get i
  by_cases hi:i<a.size
  ·rw [VB hi] at this
   rw [if_pos hi,if_pos (VS.1 this).1]
  ·have hn:a[i]?=none:=Array.getElem?_eq_none (by omega)
   rw [hn] at this
   rw [if_neg hi,if_neg (by have:=Array.getElem?_eq_none_iff.1 this;omega)]
 ·rw [if_neg e,if_neg (fun e'=>e (hL.inj e'))]
  exact h.get j
theorem Sw.getD {π:Nat->Nat} {a b:Array Bool} (h:Sw π a b) (i:Nat) (d:Bool):b.getD (π i) d=a.getD i d:=by
 rw [Array.getD_eq_getD_getElem?,Array.getD_eq_getD_getElem?,h.get]
theorem qi.fwd {π:Nat->Nat} {u v:Nat} {l m:List Oper} (hL:qi π u v l m) {a b:Array Bool} (h:Sw π a b) {i:Nat} (hi:i∈Region.ready md l.toArray a) (hv:i=v->a.getD u false=true):π i∈Region.ready md m.toArray b:=by
 obtain ⟨o,ho,h1,h2⟩:=mem_ready.1 hi
 rw [List.getElem?_toArray] at ho
 obtain ⟨f,hm,hf⟩:=hL.get i
 rw [ho,Option.map_some] at hm
 refine mem_ready.2 ⟨_,by rw [List.getElem?_toArray];exact hm,by rw [h.getD];exact h1,fun e he hb=>?_⟩
 rcases (hf o ho).2 e he with ⟨e',he',rfl⟩|⟨hiv,hon⟩
 ·rw [h.getD];exact h2 e' he' hb
 ·rw [hon,h.getD];exact hv hiv
theorem qi.bwd {π:Nat->Nat} {u v:Nat} {l m:List Oper} (hL:qi π u v l m) {a b:Array Bool} (h:Sw π a b) {j:Nat} (hj:j∈Region.ready md m.toArray b):π j∈Region.ready md l.toArray a:=by
 obtain ⟨o',ho',h1,h2⟩:=mem_ready.1 hj
 rw [List.getElem?_toArray] at ho'
 obtain ⟨f,hm,hf⟩:=hL.get (π j)
 rw [hL.inv,ho'] at hm
 cases ho:l[π j]? with
 | none=>rw [ho] at hm;cases hm
 | some o =>
  rw [ho,Option.map_some] at hm
  injection hm with hm
  subst hm
  refine mem_ready.2 ⟨o,by rw [List.getElem?_toArray];exact ho,by rw [<- h.getD,hL.inv];exact h1,fun e he hb=>?_⟩
  have:=h2 _ ((hf o ho).1 e he) hb
  rw [<- h.getD];exact this
theorem qi.seq {π:Nat->Nat} {u v:Nat} {l m:List Oper} (hL:qi π u v l m) : ∀ (fuel:Nat) (a b:Array Bool) (s:List Nat),Sw π a b->a.getD u false=true->jT md l.toArray fuel a s->jT md m.toArray fuel b (s.map π)
 | 0,_,_,s,_,_,hs=>by cases hs;rfl
 | fuel+1,a,b,s,h,hu,hs=>by
  rcases hs with ⟨h0,rfl⟩|⟨i,s',hi,rfl,hs⟩
  ·refine .inl ⟨?_,rfl⟩
   apply List.eq_nil_iff_forall_not_mem.2
   intro j hj
   have:=hL.bwd h hj
   rw [h0] at this;cases this
  ·refine .inr ⟨π i,s'.map π,hL.fwd h hi (fun _=>hu),rfl,qi.seq hL fuel _ _ s' (h.set hL i) ?_ hs⟩
   rw [Array.getD_eq_getD_getElem?] at hu ⊢
   rw [Array.getElem?_setIfInBounds]
   by_cases e:i=u
   ·subst e
    rw [if_pos rfl]
    by_cases hlt:i<a.size
    ·rw [if_pos hlt];rfl
    ·rw [Array.getElem?_eq_none (by omega)] at hu;cases hu
   ·rw [if_neg e];exact hu
theorem Aj {π1 π2:Nat->Nat} {u v:Nat} {l m1 m2:List Oper} (h1:qi π1 u v l m1) (h2:qi π2 v u l m2) (hne:u≠v) : ∀ (fuel:Nat) (a b1 b2:Array Bool) (s:List Nat),Sw π1 a b1->Sw π2 a b2->jT md l.toArray fuel a s ->
  jT md m1.toArray fuel b1 (s.map π1)\/jT md m2.toArray fuel b2 (s.map π2)
 | 0,_,_,_,s,_,_,hs=>by cases hs;exact .inl rfl
 | fuel+1,a,b1,b2,s,k1,k2,hs=>by
  rcases hs with ⟨h0,rfl⟩|⟨i,s',hi,rfl,hs⟩
  ·refine .inl (.inl ⟨?_,rfl⟩)
   apply List.eq_nil_iff_forall_not_mem.2
   intro j hj
   have:=h1.bwd k1 hj
   rw [h0] at this;cases this
  ·have hin : ∀ x,i=x->(a.setIfInBounds i true).getD x false=true:=fun x e=>by
    subst e
    obtain ⟨o,_,hl,_⟩:=mem_ready.1 hi
    rw [Array.getD_eq_getD_getElem?,Array.getElem?_setIfInBounds,if_pos rfl]
    by_cases hlt:i<a.size
    ·rw [if_pos hlt];rfl
    ·rw [Array.getD_eq_getD_getElem?,Array.getElem?_eq_none (by omega)] at hl;cases hl
   by_cases eu:i=u
   ·exact .inl (.inr ⟨_,_,h1.fwd k1 hi (fun e=>absurd (eu.symm.trans e) hne),rfl,h1.seq fuel _ _ s' (k1.set h1 i) (hin u eu) hs⟩)
   ·by_cases ev:i=v
    ·exact .inr (.inr ⟨_,_,h2.fwd k2 hi (fun e=>absurd e eu),rfl,h2.seq fuel _ _ s' (k2.set h2 i) (hin v ev) hs⟩)
    ·rcases Aj h1 h2 hne fuel _ _ _ s' (k1.set h1 i) (k2.set h2 i) hs with h|h
     ·exact .inl (.inr ⟨_,_,h1.fwd k1 hi (fun e=>absurd e ev),rfl,h⟩)
     ·exact .inr (.inr ⟨_,_,h2.fwd k2 hi (fun e=>absurd e eu),rfl,h⟩)
theorem qy {π:Nat->Nat} {u v:Nat} {l m:List Oper} (hL:qi π u v l m) (hg : ∀ (i:Nat) o,l[i]?=some o->o.guard=none) : ∀ (s:List Nat) (a:Act) (w:World),wpOps P m.toArray Q (s.map π) a w->wpOps P l.toArray Q s a w
 | [],_,_,h=>h
 | i::s,a,w,h=>by
  rw [Vn,wpOps_cons] at h
  rw [wpOps_cons]
  have ih:=qy hL hg s
  obtain ⟨f,hm,_⟩:=hL.get i
  unfold wpOp at h ⊢
  rw [List.getElem?_toArray] at h ⊢
  rw [hm] at h
  cases ho:l[i]? with
  | none=>rw [ho] at h;exact ih a w h
  | some o =>
   rw [ho,Option.map_some] at h
   simp only at h ⊢
   have hgo:=hg i o ho
   have e1 : ∀ y,Region.wanted o y=true:=fun y=>by unfold Region.wanted;rw [hgo]
   have e2 : ∀ y,Region.wanted { o with after:=f o } y=true:=fun y=>by unfold Region.wanted;show (match o.guard with|none=>true|some (j,b)=>_)=true;rw [hgo]
   rw [e2,if_pos rfl] at h
   rw [e1,if_pos rfl]
   rcases h with h|h
   ·exact .inl (Oper.wp_mono (fun a w=>ih a w) h)
   ·exact .inr h
end
end Go.Proofs.YtlcceppoloaecaaGreatDoor
