/- Parts of the proof, joined. No condition. -/
import Derived.Test.YtngehibfdjdejaaGreatDoorKAF
set_option linter.unusedSimpArgs false
set_option linter.unusedVariables false
namespace Go.Proofs.YtngehibfdjdejaaGreatDoor
open Go.RowKit Go.MapKept
def ck {α:Type} (v:α) (φ:Prop) [Decidable φ]:Option α:=if φ then some v else none
theorem ck_some {α:Type} {v r:α} {φ:Prop} [Decidable φ] (h:ck v φ=some r):v=r∧φ:=by
 unfold ck at h
 split at h
 ·exact ⟨Option.some.inj h,by assumption⟩
 ·cases h
def Yes {α:Type} (f:Option (α × Prop)) (r:α):Prop := ∃ φ,f=some (r,φ)∧φ
theorem yes_t {α:Type} {v r:α} (h:some v=some r):Yes (some (v,True)) r:=by
 cases h;exact ⟨_,rfl,trivial⟩
theorem yes_c {α:Type} {v r:α} {φ:Prop} [Decidable φ] (h:ck v φ=some r):Yes (some (v,φ)) r:=by
 obtain ⟨rfl,hφ⟩:=ck_some h
 exact ⟨_,rfl,hφ⟩
def isStr:Option TypeDesc→Bool
 | some .string=>true
 | _=>false
theorem isStr_of {d:Option TypeDesc} (h:isStr d=true):d=some .string:=by
 unfold isStr at h;split at h
 ·rfl
 ·cases h
def isBoolT:Option TypeDesc→Bool
 | some .bool=>true
 | _=>false
theorem isBool_of {d:Option TypeDesc} (h:isBoolT d=true):d=some .bool:=by
 unfold isBoolT at h;split at h
 ·rfl
 ·cases h
def wideB (k:Nat):List (List AC)→Bool
 | []=>true
 | e::es=>Nat.beq e.length k&&wideB k es
theorem wideB_of {k:Nat} : ∀ {es:List (List AC)}, wideB k es=true → ∀ e∈es,e.length=k
 | [],_,e,he=>by cases he
 | x::es,h,e,he=>by
  rw [wideB,Bool.and_eq_true] at h
  rcases List.mem_cons.1 he with rfl|he
  ·exact Nat.eq_of_beq_eq_true h.1
  ·exact wideB_of h.2 e he
def intB (op:BinOp) (k:IntKind) (a b:Int):Option AC :=
 match op with
 | .add=>some (.int k (k.wrap (a+b)))
 | .sub=>some (.int k (k.wrap (a-b)))
 | .mul=>some (.int k (k.wrap (a*b)))
 | .quo=>ck (.int k (k.wrap (a.tdiv b))) (b≠0)
 | .rem=>ck (.int k (a.tmod b)) (b≠0)
 | .eql=>some (.bool (decide (a=b)))
 | .neq=>some (.bool (decide (a≠b)))
 | .lss=>some (.bool (decide (a<b)))
 | .leq=>some (.bool (decide (a≤b)))
 | .gtr=>some (.bool (decide (b<a)))
 | .geq=>some (.bool (decide (b≤a)))
 | .and=>some (.int k (k.wrap (BitVec.ofInt k.bits a &&& BitVec.ofInt k.bits b).toNat))
 | .or=>some (.int k (k.wrap (BitVec.ofInt k.bits a ||| BitVec.ofInt k.bits b).toNat))
 | _=>none
theorem intB_ok {op:BinOp} {k:IntKind} {a b:Int} {r:AC} (h:intB op k a b=some r):Yes (intOp op k a b) r:=by
 cases op<;>first|exact yes_t h|exact yes_c h|cases h
def shB (op:BinOp) (k:IntKind) (a b:Int):Option (Option AC) :=
 match op with
 | .shl=>some (ck (.int k (k.wrap (a*2 ^ (min b.toNat k.bits)))) (0≤b))
 | .shr=>some (ck (.int k (a.fdiv (2 ^ (min b.toNat k.bits)))) (0≤b))
 | _=>none
def strB (op:BinOp) (a b:ByteArray):Option AC :=
 match op with
 | .add=>ck (.str (a++b)) (a.size+b.size≤9223372036854775807)
 | .eql=>some (.bool (a.toList==b.toList))
 | .neq=>some (.bool (!(a.toList==b.toList)))
 | .lss=>some (.bool (Op.bytesLess a.toList b.toList))
 | .leq=>some (.bool (Op.bytesLess a.toList b.toList||a.toList==b.toList))
 | .gtr=>some (.bool (!(Op.bytesLess a.toList b.toList||a.toList==b.toList)))
 | .geq=>some (.bool (!Op.bytesLess a.toList b.toList))
 | _=>none
theorem strB_ok {op:BinOp} {a b:ByteArray} {r:AC} (h:strB op a b=some r):Yes (strOp op a b) r:=by
 cases op<;>first|exact yes_t h|exact yes_c h|cases h
def binB (ti:TI) (op:BinOp) (t:TypeId):AV→AV→Option AV
 | .one (.c (.int k a)), .one (.c (.int k' b))=>match shB op k a b with
  | some r=>r.map fun r => .one (.c r)
  | none=>match decide (k=k') with
   | true=>(intB op k a b).map fun r => .one (.c r)
   | false=>none
 | .one (.c (.str a)), .one (.c (.str b))=>(strB op a b).map fun r => .one (.c r)
 | .one (.c (.bool a)), .one (.c (.bool b))=>match op with
  | .eql=>ck (.one (.c (.bool (a==b)))) (isBoolT (ti.kind t)=true)
  | .neq=>ck (.one (.c (.bool (!(a==b))))) (isBoolT (ti.kind t)=true)
  | _=>none
 | .agg xs, .agg ys=>match ti.eqs t with
  | some sh=>match op with
   | .eql=>ck (.one (.c (.bool (sameS xs ys)))) (fitsS sh xs=true∧fitsS sh ys=true)
   | .neq=>ck (.one (.c (.bool (!sameS xs ys)))) (fitsS sh xs=true∧fitsS sh ys=true)
   | _=>none
  | none=>none
 | _,_=>none
theorem map_some {α β:Type} {o:Option α} {f:α→β} {r:β} (h:o.map f=some r) : ∃ a,o=some a∧f a=r:=by
 cases o with
 | none=>cases h
 | some a=>exact ⟨a,rfl,Option.some.inj h⟩
theorem binB_ok {ti:TI} {op:BinOp} {t:TypeId} {x y v:AV} (h:binB ti op t x y=some v):Yes (popBin ti op t x y) v:=by
 unfold binB at h
 split at h
 ·rename_i k a k' b
  unfold popBin
  cases op
  case shl=>obtain ⟨r,h1,rfl⟩:=map_some h;obtain ⟨rfl,hφ⟩:=ck_some h1;exact ⟨_,rfl,hφ⟩
  case shr=>obtain ⟨r,h1,rfl⟩:=map_some h;obtain ⟨rfl,hφ⟩:=ck_some h1;exact ⟨_,rfl,hφ⟩
  all_goals
   simp only [shB,shOp] at h ⊢
   split at h
   ·rename_i hk
    obtain ⟨r,h1,rfl⟩:=map_some h
    obtain ⟨φ,h2,hφ⟩:=intB_ok h1
    rw [hk,h2]
    exact ⟨_,rfl,hφ⟩
   ·cases h
 ·obtain ⟨r,h1,rfl⟩:=map_some h
  obtain ⟨φ,h2,hφ⟩:=strB_ok h1
  unfold popBin
  dsimp only
  rw [h2]
  exact ⟨_,rfl,hφ⟩
 ·split at h
  ·obtain ⟨rfl,hφ⟩:=ck_some h;exact ⟨_,rfl,isBool_of hφ⟩
  ·obtain ⟨rfl,hφ⟩:=ck_some h;exact ⟨_,rfl,isBool_of hφ⟩
  ·cases h
 ·unfold popBin
  dsimp only
  split at h
  ·rename_i sh hs
   rw [hs]
   split at h
   ·exact yes_c h
   ·exact yes_c h
   ·cases h
  ·cases h
 ·cases h
def loadB (ti:TI) (L:List Ob) (t:TypeId):AV→Option AV
 | .one (.c (.ref cs))=>match ti.agg t,ti.size t with
  | some false,_=>match cs with
   | x::_=>some (.one (.c x))
   | []=>none
  | some true,some n=>ck (.agg ((cs.take n).map .c)) (n≤cs.length)
  | _,_=>none
 | .one (.ptr id off)=>match L[id]? with
  | some (.box cs)=>match ti.agg t,ti.size t with
   | some false,_=>match cs[off]? with
    | some x=>some (.one x)
    | none=>none
   | some true,some n=>ck (.agg ((cs.drop off).take n)) (off+n≤cs.length)
   | _,_=>none
  | _=>none
 | .one (.ep id ver i o)=>match L[id]? with
  | some (.row ver' es _)=>match es[i]?,ti.agg t,ti.size t with
   | some e,some false,_=>match e[o]? with
    | some x=>ck (.one x) (ver=ver')
    | none=>none
   | some e,some true,some n=>ck (.agg ((e.drop o).take n)) (ver=ver'∧o+n≤e.length)
   | _,_,_=>none
  | _=>none
 | _=>none
theorem loadB_ok {ti:TI} {L:List Ob} {t:TypeId} {x v:AV} (h:loadB ti L t x=some v):Yes (popLoad ti L t x) v:=by
 unfold loadB at h
 unfold popLoad
 split at h
 ·dsimp only
  split at h
  ·rename_i h1
   rw [h1]
   split at h
   ·exact yes_t h
   ·cases h
  ·rename_i h1 h2
   rw [h1,h2]
   exact yes_c h
  ·cases h
 ·dsimp only
  split at h
  ·rename_i h0
   rw [h0]
   dsimp only
   split at h
   ·rename_i h1
    rw [h1]
    dsimp only
    split at h
    ·rename_i h2
     rw [h2]
     exact yes_t h
    ·cases h
   ·rename_i h1 h2
    rw [h1,h2]
    exact yes_c h
   ·cases h
  ·cases h
 ·dsimp only
  split at h
  ·rename_i h0
   rw [h0]
   dsimp only
   split at h
   ·rename_i h1 h2
    rw [h1,h2]
    dsimp only
    split at h
    ·rename_i h3
     rw [h3]
     exact yes_c h
    ·cases h
   ·rename_i h1 h2 h3
    rw [h1,h2,h3]
    exact yes_c h
   ·cases h
  ·cases h
 ·cases h
def fieldAddrB (ti:TI) (s:TypeId) (i0:Nat):AV→Option AV
 | .one (.c (.ref cs))=>match ti.field s i0 with
  | some (o,t)=>match ti.size t with
   | some (_+1)=>ck (.one (.c (.ref (cs.drop o)))) (o≤cs.length)
   | _=>none
  | none=>none
 | .one (.ptr id off)=>match ti.field s i0 with
  | some (o,t)=>match ti.size t with
   | some (_+1)=>some (.one (.ptr id (off+o)))
   | _=>none
  | none=>none
 | _=>none
theorem fieldAddrB_ok {ti:TI} {s:TypeId} {i0:Nat} {x v:AV} (h:fieldAddrB ti s i0 x=some v):Yes (popFieldAddr ti s i0 x) v:=by
 unfold fieldAddrB at h
 unfold popFieldAddr
 split at h
 ·dsimp only
  split at h
  ·rename_i h0
   rw [h0]
   dsimp only
   split at h
   ·rename_i h1
    rw [h1]
    exact yes_c h
   ·cases h
  ·cases h
 ·dsimp only
  split at h
  ·rename_i h0
   rw [h0]
   dsimp only
   split at h
   ·rename_i h1
    rw [h1]
    exact yes_t h
   ·cases h
  ·cases h
 ·cases h
def fieldB (ti:TI) (s:TypeId) (i:Nat):AV→Option AV
 | .agg xs=>match ti.field s i with
  | some (o,t)=>match ti.agg t,ti.size t with
   | some false,_=>match xs[o]? with
    | some x=>some (.one x)
    | none=>none
   | some true,some n=>ck (.agg ((xs.drop o).take n)) (o+n≤xs.length)
   | _,_=>none
  | none=>none
 | _=>none
theorem fieldB_ok {ti:TI} {s:TypeId} {i:Nat} {x v:AV} (h:fieldB ti s i x=some v):Yes (popField ti s i x) v:=by
 unfold fieldB at h
 unfold popField
 split at h
 ·dsimp only
  split at h
  ·rename_i h0
   rw [h0]
   dsimp only
   split at h
   ·rename_i h1
    rw [h1]
    dsimp only
    split at h
    ·rename_i h2
     rw [h2]
     exact yes_t h
    ·cases h
   ·rename_i h1 h2
    rw [h1,h2]
    exact yes_c h
   ·cases h
  ·cases h
 ·cases h
def fieldRowB (ti:TI) (L:List Ob) (s:TypeId) (i0 id ver i off:Nat):Option AV :=
 match L[id]?,ti.field s i0 with
 | some (.row ver' _ _),some (o,t)=>match ti.size t with
  | some (_+1)=>ck (.one (.ep id ver i (off+o))) (ver=ver')
  | _=>none
 | _,_=>none
theorem fieldRowB_ok {ti:TI} {L:List Ob} {s:TypeId} {i0 id ver i off:Nat} {v:AV} (h:fieldRowB ti L s i0 id ver i off=some v):Yes (popFieldRow ti L s i0 id ver i off) v:=by
 unfold fieldRowB at h
 unfold popFieldRow
 split at h
 ·rename_i h0 h1
  rw [h0,h1]
  dsimp only
  split at h
  ·rename_i h2
   rw [h2]
   exact yes_c h
  ·cases h
 ·cases h
def lenRowB (ti:TI) (L:List Ob) (t:TypeId) (id ver n:Nat):Option AV :=
 match L[id]? with
 | some (.row ver' _ _)=>ck (.one (.c (.int .i64 n))) (ver=ver'∧(ti.elem t).isSome=true)
 | _=>none
theorem lenRowB_ok {ti:TI} {L:List Ob} {t:TypeId} {id ver n:Nat} {v:AV} (h:lenRowB ti L t id ver n=some v):Yes (popLenRow ti L t id ver n) v:=by
 unfold lenRowB at h
 unfold popLenRow
 split at h
 ·rename_i h0
  rw [h0]
  exact yes_c h
 ·cases h
def indexRowB (ti:TI) (L:List Ob) (t:TypeId) (id ver lo n:Nat) (ix:AV):Option AV :=
 match L[id]?,ix,(ti.elem t).bind ti.size with
 | some (.row ver' _ k'), .one (.c (.int _ i)),some k=>ck (.one (.ep id ver (lo+i.toNat) 0)) ((ver=ver'∧k=k')∧0≤i∧i<n)
 | _,_,_=>none
theorem indexRowB_ok {ti:TI} {L:List Ob} {t:TypeId} {id ver lo n:Nat} {ix v:AV} (h:indexRowB ti L t id ver lo n ix=some v):Yes (popIndexRow ti L t id ver lo n ix) v:=by
 unfold indexRowB at h
 unfold popIndexRow
 split at h
 ·rename_i h0 h1
  rw [h0,h1]
  exact yes_c h
 ·cases h
def indexAddrB (ti:TI) (t:TypeId) (x ix:AV):Option AV :=
 match listOf x,ix,(ti.elem t).bind ti.size with
 | some es, .one (.c (.int _ i)),some k=>match es[i.toNat]? with
  | some e=>ck (.one (.c (.ref e))) (0≤i∧e.length=k)
  | none=>none
 | _,_,_=>none
theorem indexAddrB_ok {ti:TI} {t:TypeId} {x ix v:AV} (h:indexAddrB ti t x ix=some v):Yes (popIndexAddr ti t x ix) v:=by
 unfold indexAddrB at h
 unfold popIndexAddr
 split at h
 ·rename_i h0 h1
  rw [h0,h1]
  dsimp only
  split at h
  ·rename_i h2
   rw [h2]
   exact yes_c h
  ·cases h
 ·cases h
def indexB (ti:TI) (t:TypeId) (x ix:AV):Option AV :=
 match x,ix with
 | .one (.c (.str s)), .one (.c (.int _ i))=>match s[i.toNat]? with
  | some b=>ck (.one (.c (.int .u8 b.toNat))) (0≤i∧isStr (ti.kind t)=true)
  | none=>none
 | .agg zs, .one (.c (.int _ i))=>match ti.kind t with
  | some (.array n e)=>match ti.agg e,ti.size e with
   | some false,some k=>match zs[i.toNat*k]? with
    | some x=>ck (.one x) (0≤i∧i<(n:Int))
    | none=>none
   | some true,some k=>ck (.agg ((zs.drop (i.toNat*k)).take k)) ((0≤i∧i<(n:Int))∧i.toNat*k+k≤zs.length)
   | _,_=>none
  | _=>none
 | _,_=>none
theorem indexB_ok {ti:TI} {t:TypeId} {x ix v:AV} (h:indexB ti t x ix=some v):Yes (popIndex ti t x ix) v:=by
 unfold indexB at h
 unfold popIndex
 split at h
 ·dsimp only
  split at h
  ·rename_i h2
   rw [h2]
   obtain ⟨rfl,h3,h4⟩:=ck_some h
   exact ⟨_,rfl,h3,isStr_of h4⟩
  ·cases h
 ·dsimp only
  split at h
  ·rename_i hk
   rw [hk]
   dsimp only
   split at h
   ·rename_i ha hs
    rw [ha,hs]
    dsimp only
    split at h
    ·rename_i hx
     rw [hx]
     exact yes_c h
    ·cases h
   ·rename_i ha hs
    rw [ha,hs]
    exact yes_c h
   ·cases h
  ·cases h
 ·cases h
def sliceB (ti:TI) (L:List Ob) (t:TypeId) (x:AV) (lo hi:Option AV):Option AV :=
 match x with
 | .one (.c (.str s))=>match bndOf 0 lo,bndOf s.size hi with
  | some l,some h=>ck (.one (.c (.str (s.extract l.toNat h.toNat)))) (0≤l∧l≤h∧h≤s.size∧isStr (ti.kind t)=true)
  | _,_=>none
 | .one (.sl id ver lo0 n)=>match L[id]?,(ti.elem t).bind ti.size with
  | some (.row ver' _ k'),some k=>match bndOf 0 lo,bndOf n hi with
   | some l,some h=>ck (.one (.sl id ver (lo0+l.toNat) (h.toNat-l.toNat))) (ver=ver'∧k=k'∧0≤l∧l≤h∧h≤n)
   | _,_=>none
  | _,_=>none
 | _=>match listOf x,(ti.elem t).bind ti.size with
  | some es,some k=>match bndOf 0 lo,bndOf es.length hi with
   | some l,some h=>ck (.one (.c (.lst ((es.take h.toNat).drop l.toNat)))) (0≤l∧l≤h∧h≤es.length∧wideB k es=true)
   | _,_=>none
  | _,_=>none
theorem sliceB_ok {ti:TI} {L:List Ob} {t:TypeId} {x v:AV} {lo hi:Option AV} (h:sliceB ti L t x lo hi=some v):Yes (popSlice ti L t x lo hi) v:=by
 unfold sliceB at h
 split at h
 ·unfold popSlice
  dsimp only
  split at h
  ·rename_i h0 h1
   rw [h0,h1]
   obtain ⟨rfl,h3,h4,h5,h6⟩:=ck_some h
   exact ⟨_,rfl,h3,h4,h5,isStr_of h6⟩
  ·cases h
 ·unfold popSlice
  dsimp only
  split at h
  ·rename_i h0 h1
   rw [h0,h1]
   dsimp only
   split at h
   ·rename_i h2 h3
    rw [h2,h3]
    exact yes_c h
   ·cases h
  ·cases h
 ·rename_i n1 n2
  unfold popSlice
  split
  ·rename_i s;exact absurd rfl (n1 s)
  ·rename_i a b c d;exact absurd rfl (n2 a b c d)
  ·split at h
   ·rename_i h0 h1
    rw [h0,h1]
    dsimp only
    split at h
    ·rename_i h2 h3
     rw [h2,h3]
     obtain ⟨rfl,h3,h4,h5,h6⟩:=ck_some h
     exact ⟨_,rfl,h3,h4,h5,wideB_of h6⟩
    ·cases h
   ·cases h
def lenB (ti:TI) (t:TypeId) (x:AV):Option AV :=
 match x with
 | .one (.c (.str s))=>ck (.one (.c (.int .i64 s.size))) (isStr (ti.kind t)=true)
 | _=>match listOf x with
  | some es=>ck (.one (.c (.int .i64 es.length))) ((ti.elem t).isSome=true)
  | none=>none
theorem lenB_ok {ti:TI} {t:TypeId} {x v:AV} (h:lenB ti t x=some v):Yes (popLen ti t x) v:=by
 unfold lenB at h
 split at h
 ·obtain ⟨rfl,h1⟩:=ck_some h
  exact ⟨_,rfl,isStr_of h1⟩
 ·rename_i n1
  unfold popLen
  split
  ·rename_i s;exact absurd rfl (n1 s)
  ·split at h
   ·rename_i h0
    rw [h0]
    exact yes_c h
   ·cases h
def buildB (ti:TI) (t:TypeId):List SV→List (Nat × Option AV)→Option (List SV)
 | zs,[]=>some zs
 | zs,(i,v)::ps=>match v.bind AV.cells,bplace ti t i with
  | some xs,some (o,ty)=>match buildB ti t (splice zs o xs) ps with
   | some r=>ck r (ti.size ty=some xs.length∧o+xs.length≤zs.length)
   | none=>none
  | _,_=>none
theorem buildB_ok {ti:TI} {t:TypeId} : ∀ {ps:List (Nat × Option AV)} {zs r:List SV}, buildB ti t zs ps=some r→Yes (popBuild ti t zs ps) r
 | [],zs,r,h=>yes_t h
 | (i,v)::ps,zs,r,h=>by
  unfold buildB at h
  unfold popBuild
  split at h
  ·rename_i h0 h1
   rw [h0,h1]
   dsimp only
   split at h
   ·rename_i r' h2
    obtain ⟨φ,h3,h4⟩:=buildB_ok h2
    rw [h3]
    obtain ⟨rfl,h5⟩:=ck_some h
    exact ⟨_,rfl,h5,h4⟩
   ·cases h
  ·cases h
def evPop (ti:TI) (ρ:Operand→Option AV) (L:List Ob):Op→Option AV
 | .move x=>ρ x
 | .assign x=>ρ x
 | .pick c a b=>match ρ c,ρ a,ρ b with
  | some (.one (.c (.bool t))),some va,some vb=>some (if t=true then va else vb)
  | _,_,_=>none
 | .binOp op t x y _=>match ρ x,ρ y with
  | some va,some vb=>binB ti op t va vb
  | _,_=>none
 | .unOp op _ x=>match op,ρ x with
  | .not,some (.one (.c (.bool b)))=>some (.one (.c (.bool !b)))
  | .neg,some (.one (.c (.int k n)))=>some (.one (.c (.int k (k.wrap (0-n)))))
  | _,_=>none
 | .convert src dst x=>match ρ x with
  | some (.one (.c (.int _ n)))=>match ti.kind dst with
   | some (.int k)=>ck (.one (.c (.int k (k.wrap n)))) ((ti.kind src).isSome=true)
   | _=>none
  | some (.one (.c (.str s)))=>ck (.one (.c (.str s))) (isStr (ti.kind dst)=true∧(ti.kind src).isSome=true)
  | _=>none
 | .load t p=>(ρ p).bind (loadB ti L t)
 | .fieldAddr s x i=>match ρ x with
  | some (.one (.ep id ver i0 off))=>fieldRowB ti L s i id ver i0 off
  | some vx=>fieldAddrB ti s i vx
  | none=>none
 | .field s x i=>(ρ x).bind (fieldB ti s i)
 | .indexAddr t x ix=>match ρ x,ρ ix with
  | some (.one (.sl id ver lo n)),some vi=>indexRowB ti L t id ver lo n vi
  | some vx,some vi=>indexAddrB ti t vx vi
  | _,_=>none
 | .index t x ix=>match ρ x,ρ ix with
  | some vx,some vi=>indexB ti t vx vi
  | _,_=>none
 | .extract t i=>match ρ t with
  | some (.tup ps)=>match ps[i]? with
   | some p=>some p.av
   | none=>none
  | some (.tupS xs)=>match xs[i]? with
   | some x=>some (.one x)
   | none=>none
  | _=>none
 | .nilCheck x=>match ρ x with
  | some (.one (.c (.ref cs)))=>some (.one (.c (.ref cs)))
  | some (.one (.ptr id off))=>some (.one (.ptr id off))
  | some (.one (.ep id ver i o))=>match L[id]? with
   | some (.row ver' _ _)=>ck (.one (.ep id ver i o)) (ver=ver')
   | _=>none
  | some (.one (.clo f cs))=>some (.one (.clo f cs))
  | some (.one (.c (.fn f cs)))=>some (.one (.c (.fn f cs)))
  | _=>none
 | .slice t x lo hi none=>match ρ x,lo.map ρ,hi.map ρ with
  | some v,none,none=>sliceB ti L t v none none
  | some v,some (some l),none=>sliceB ti L t v (some l) none
  | some v,none,some (some h)=>sliceB ti L t v none (some h)
  | some v,some (some l),some (some h)=>sliceB ti L t v (some l) (some h)
  | _,_,_=>none
 | .call { callee := .builtin .len,args,argTypes } => match args.toList,argTypes.toList with
  | [x],[t]=>match ρ x with
   | some (.one (.sl id ver _ n))=>lenRowB ti L t id ver n
   | some vx=>lenB ti t vx
   | none=>none
  | _,_=>none
 | .call { callee := .builtin .min,args, .. } => match args.toList.map ρ with
  | [some (.one (.c (.int k a))),some (.one (.c (.int _ b)))]=>some (.one (.c (.int k (if b<a then b else a))))
  | _=>none
 | .call { callee := .builtin .max,args, .. } => match args.toList.map ρ with
  | [some (.one (.c (.int k a))),some (.one (.c (.int _ b)))]=>some (.one (.c (.int k (if b > a then b else a))))
  | _=>none
 | .build t parts=>match ti.zero t with
  | some (.agg zs)=>((buildB ti t zs (parts.toList.map fun p=>(p.1,ρ p.2))).bind fun r=>ck (AV.agg r) (bok ti t=true))
  | _=>none
 | .makeFunc (.func f) first captured=>match first.toList,capsOf (captured.toList.map ρ) with
  | [],some cs=>some (.one (.c (.fn f cs)))
  | _,_=>none
 | _=>none
theorem evPop_ok {ti:TI} {ρ:Operand→Option AV} {L:List Ob} {op:Op} {v:AV} (h:evPop ti ρ L op=some v):Yes (pop ti ρ L op) v:=by
 unfold evPop at h
 split at h
 ·unfold pop;dsimp only;rw [h];exact ⟨_,rfl,trivial⟩
 ·unfold pop;dsimp only;rw [h];exact ⟨_,rfl,trivial⟩
 ·unfold pop
  dsimp only
  split at h
  ·rename_i h0 h1 h2
   rw [h0,h1,h2]
   exact yes_t h
  ·cases h
 ·unfold pop
  dsimp only
  split at h
  ·rename_i h0 h1
   rw [h0,h1]
   exact binB_ok h
  ·cases h
 ·unfold pop
  dsimp only
  split at h
  ·rename_i h0
   rw [h0]
   exact yes_t h
  ·rename_i h0
   rw [h0]
   exact yes_t h
  ·cases h
 ·unfold pop
  dsimp only
  split at h
  ·rename_i h0
   rw [h0]
   dsimp only
   split at h
   ·rename_i h1
    rw [h1]
    exact yes_c h
   ·cases h
  ·rename_i h0
   rw [h0]
   obtain ⟨rfl,h1,h2⟩:=ck_some h
   exact ⟨_,rfl,isStr_of h1,h2⟩
  ·cases h
 ·rename_i t p
  unfold pop
  dsimp only
  cases hp:ρ p with
  | none=>rw [hp] at h;cases h
  | some x=>rw [hp] at h;exact loadB_ok h
 ·unfold pop
  dsimp only
  split at h
  ·rename_i h0
   rw [h0]
   exact fieldRowB_ok h
  ·rename_i vx hn h0
   rw [h0]
   split
   ·rename_i e;cases e;exact (hn _ _ _ _ rfl).elim
   ·rename_i e;cases e;exact fieldAddrB_ok h
   ·rename_i e;cases e
  ·cases h
 ·rename_i s x i
  unfold pop
  dsimp only
  cases hp:ρ x with
  | none=>rw [hp] at h;cases h
  | some x=>rw [hp] at h;exact fieldB_ok h
 ·unfold pop
  dsimp only
  split at h
  ·rename_i h0 h1
   rw [h0,h1]
   exact indexRowB_ok h
  ·rename_i vx vi hn h0 h1
   rw [h0,h1]
   split
   ·rename_i e1 e2;cases e1;exact (hn _ _ _ _ rfl).elim
   ·rename_i e1 e2;cases e1;cases e2;exact indexAddrB_ok h
   ·rename_i hm;exact (hm _ _ rfl rfl).elim
  ·cases h
 ·unfold pop
  dsimp only
  split at h
  ·rename_i h0 h1
   rw [h0,h1]
   exact indexB_ok h
  ·cases h
 ·unfold pop
  dsimp only
  split at h
  ·rename_i h0
   rw [h0]
   dsimp only
   split at h
   ·rename_i h1
    rw [h1]
    exact yes_t h
   ·cases h
  ·rename_i h0
   rw [h0]
   dsimp only
   split at h
   ·rename_i h1
    rw [h1]
    exact yes_t h
   ·cases h
  ·cases h
 ·unfold pop
  dsimp only
  split at h
  ·rename_i h0;rw [h0];exact yes_t h
  ·rename_i h0;rw [h0];exact yes_t h
  ·rename_i h0
   rw [h0]
   dsimp only
   split at h
   ·rename_i h1
    rw [h1]
    exact yes_c h
   ·cases h
  ·rename_i h0;rw [h0];exact yes_t h
  ·rename_i h0;rw [h0];exact yes_t h
  ·cases h
 ·unfold pop
  dsimp only
  split at h
  ·rename_i h0 h1 h2;rw [h0,h1,h2];exact sliceB_ok h
  ·rename_i h0 h1 h2;rw [h0,h1,h2];exact sliceB_ok h
  ·rename_i h0 h1 h2;rw [h0,h1,h2];exact sliceB_ok h
  ·rename_i h0 h1 h2;rw [h0,h1,h2];exact sliceB_ok h
  ·cases h
 ·unfold pop
  dsimp only
  split at h
  ·rename_i h0 h1
   rw [h0,h1]
   dsimp only
   split at h
   ·rename_i h2
    rw [h2]
    exact lenRowB_ok h
   ·rename_i vx hn h2
    rw [h2]
    split
    ·rename_i e;cases e;exact (hn _ _ _ _ rfl).elim
    ·rename_i e;cases e;exact lenB_ok h
    ·rename_i e;cases e
   ·cases h
  ·cases h
 ·unfold pop
  dsimp only
  split at h
  ·rename_i h0
   rw [h0]
   exact yes_t h
  ·cases h
 ·unfold pop
  dsimp only
  split at h
  ·rename_i h0
   rw [h0]
   exact yes_t h
  ·cases h
 ·rename_i t parts
  unfold pop
  dsimp only
  split at h
  ·rename_i zs h0
   rw [h0]
   dsimp only
   cases hb:buildB ti t zs (parts.toList.map fun p=>(p.1,ρ p.2)) with
   | none=>rw [hb] at h;cases h
   | some r =>
    rw [hb] at h
    obtain ⟨rfl,h1⟩:=ck_some h
    obtain ⟨φ,h2,h3⟩:=buildB_ok hb
    rw [h2]
    exact ⟨_,rfl,h1,h3⟩
  ·cases h
 ·unfold pop
  dsimp only
  split at h
  ·rename_i h0 h1
   rw [h0,h1]
   exact yes_t h
  ·cases h
 ·cases h
def elemsS (ρ:Operand→Option AV):List (Nat × Operand)→Nat→Option (List (List SV))
 | [],_=>some []
 | (i,x)::ps,j=>match decide (i=j),(ρ x).bind AV.cells,elemsS ρ ps (j+1) with
  | true,some p,some es=>some (p::es)
  | _,_,_=>none
section
variable {P:Program} {ti:TI} {B:Nat→Prop} {R:PH} {γ:List Gh} {L:List Ob} {w:World} {ρ:Operand→Option AV}
theorem elemsS_rep {ev:Operand→Value} : ∀ (ps:List (Nat × Operand)) (hρ : ∀ p∈ps, ∀ v,ρ p.2=some v→v.rep R γ L (ev p.2)) (j:Nat) (es:List (List SV)),elemsS ρ ps j=some es →
  ∃ vs:List Value,(ps.map fun p=>(p.1,ev p.2))=(vs.zipIdx j).map (fun x=>(x.2,x.1))∧vs.length=es.length ∧
   (∀ (i:Nat) v e,vs[i]?=some v→es[i]?=some e→CRep R γ L e v.cells)
 | [],hρ,j,es,h=>by injection h with h;subst h;exact ⟨[],rfl,rfl,fun i v e hv=>by simp at hv⟩
 | (i,x)::ps,hρ,j,es,h=>by
  unfold elemsS at h
  split at h
  ·rename_i p es' hij hp hes
   obtain rfl:=of_decide_eq_true hij
   injection h with h;subst h
   obtain ⟨vs,h1,h2,h3⟩:=elemsS_rep ps (fun p hp=>hρ p (List.mem_cons_of_mem _ hp)) (i+1) es' hes
   cases hx:ρ x with
   | none=>simp [hx] at hp
   | some vx =>
    simp only [hx,Option.bind_some] at hp
    have hr:=cells_rep (hρ (i,x) (List.mem_cons_self ..) _ hx) hp
    refine ⟨ev x::vs,by simp [List.zipIdx_cons,h1],by simp [h2],fun q v e hv he=>?_⟩
    cases q with
    | zero=>simp at hv he;subst hv he;exact hr
    | succ q=>exact h3 q v e (by simpa using hv) (by simpa using he)
  ·cases h
theorem sop_litRow (hti:TIok P ti) {t:TypeId} {E k len:Nat} {parts:Array (Nat × Operand)} {es:List (List SV)} (ht:ti.elem t=some E) (hE:E<65536) (hk:ti.size E=some k) (hzk:ti.zok E=true) (hes:elemsS ρ parts.toList 0=some es) (hlen:es.length=len) (h0:0<len) (hek : ∀ e∈es,e.length=k) (hk0:0<k) (hsm:len*k≤16777216) :
  Sop P ρ L (.buildSlice t len parts) (.one (.sl L.length (E+65536) 0 len)) (L++[.row (E+65536) es k]):=by
 intro B R γ w ev o ho hi hρ hfv
 obtain ⟨dst,op,type,pos,after,guard⟩:=o
 simp only at ho;subst ho
 have hk:=hti.size _ _ hk
 have hu:=under_of hti ht
 obtain ⟨vs,e1,e2,e3⟩:=elemsS_rep (ev:=ev) parts.toList (fun p hp v hv=>hρ p.2 (by simp only [Op.operands,List.mem_toArray,List.mem_map];exact ⟨p,hp,rfl⟩) v hv) _ _ hes
 have hparts:(parts.map fun p=>(p.1,ev p.2)).toList=(vs.zipIdx 0).map fun x=>(x.2,x.1):=by rw [Array.toList_map,e1]
 obtain ⟨i,z,hi1,hi2,hi3,hi4⟩:=hti.zok _ hzk _ hk
 have hcs : ∀ v∈vs,v.cells.size=k:=by
  intro v hv
  obtain ⟨q,hq⟩:=List.mem_iff_getElem?.1 hv
  have hlt:q<es.length:=by rw [← e2];exact (List.getElem?_eq_some_iff.1 hq).1
  have he:es[q]?=some es[q]:=List.getElem?_eq_getElem hlt
  rw [(e3 q v _ hq he).1]
  exact hek _ (List.getElem_mem hlt)
 have hne : ¬ len*i.size=0:=by
  rw [hi3]
  intro e
  rcases Nat.mul_eq_zero.1 e with e|e<;>omega
 have hrun:=run_buildSlice (P:=P) w t E len (parts.map fun p=>(p.1,ev p.2)) (vs.flatMap fun v=>v.cells.toList).toArray i z hu hi1 hi2 (by rw [hi3];omega) hne (by
  rw [hparts,hi3]
  exact Go.Great.fill_whole hk0 vs _ hcs (by simp;rw [e2,hlen]))
 have hm:Mv R R γ (γ++[.arr w.heap.size len]) L (L++[.row (E+65536) es k]):=Mv.push _ _ hi.len
 refine ⟨_,R,_, .inl ⟨.slice (some ⟨w.heap.size,0,none⟩) len len,by simp only [execOp,Sem.run_bind];rw [hrun];rfl,⟨rfl,rfl⟩,by simp,fun ver2 es2 k2 e2'=>?_⟩,?_,⟨Kept.alloc hi.bsz _,PH.sub_refl _,fun _ _ _=>rfl⟩,hm⟩
 ·rw [List.getElem?_append_right (by omega)] at e2'
  simp at e2'
  obtain ⟨q1,q2,q3⟩:=e2'
  subst q1 q2 q3
  exact ⟨Nat.le_refl _,fun _=>⟨by omega, .arr w.heap.size len,by rw [← hi.len];simp, .inl (by simp)⟩⟩
 ·have hsz:(vs.flatMap fun v=>v.cells.toList).toArray.size=len*k:=by rw [List.size_toArray,flat_len k vs hcs,e2,hlen]
  refine hi.push _ _ _ rfl ⟨⟨_,E,⟨heap_new w _,by show (E:Nat)=(E+65536)%65536;omega,by omega⟩,hsz,fun q e j u x he hu hx=>?_⟩,by omega,hk0,hek,fun o=>hi.none_at o⟩
  have hqlt:q<vs.length:=by rw [e2];exact (List.getElem?_eq_some_iff.1 he).1
  have hv:vs[q]?=some vs[q]:=List.getElem?_eq_getElem hqlt
  have hjk:j<k:=by rw [← hek e (List.mem_of_getElem? he)];exact (List.getElem?_eq_some_iff.1 hx).1
  have h3:=e3 q _ e hv he
  rw [List.getElem?_toArray,flat_get k vs hcs q _ hv j hjk] at hu
  exact SV.mv hm (h3.2 j u x hu hx)
end
section
variable {P:Program} {ti:TI} {ρ:Operand→Option AV} {L:List Ob}
theorem madeCells_get (z:Array Value) (n i:Nat) (h:i<n):(madeCells z n)[i]?=some z[i%z.size]! := by
 simp [madeCells,h]
theorem sop_makeN (hti:TIok P ti) {l c:Operand} {t:TypeId} {E k by_:Nat} {m:Int} {kl kc:IntKind} {zs:List SV} {zv:AV} (hl:ρ l=some (.one (.c (.int kl m)))) (hc:ρ c=some (.one (.c (.int kc m)))) (ht:ti.elem t=some E) (hE:E<65536) (hsz:ti.size E=some k) (hzo:ti.zok E=true) (hzv:ti.zero E=some zv) (hcz:zv.cells=some zs) (hby:ti.bytes E=some by_)
  (hk:0<k) (h0:0≤m) (hb1:(by_:Int)*m≤281474976710656) (hb2:m≤9223372036854775807) :
  Sop P ρ L (.makeSlice t l c) (.one (.sl L.length (E+65536) 0 m.toNat)) (L++[.row (E+65536) (List.replicate m.toNat zs) k]):=by
 intro B R γ w ev o ho hi hρ hfv
 obtain ⟨dst,op,type,pos,after,guard⟩:=o
 simp only at ho;subst ho
 obtain ⟨inf,z,hinf,hzz,hisz,hzc⟩:=hti.zok _ hzo _ (hti.size _ _ hsz)
 have hbytes:inf.bytes=by_:=by have hby':=hti.bytes _ _ hby;unfold tbytes at hby';rw [hinf] at hby';simpa using hby'
 have hzo':AV.ofVal z=some zv:=by have:=hti.zero _ _ hzv;unfold zeroOf at this;rw [hinf] at this;simpa [hzz] using this
 have hlv:=(hρ _ (by simp [Op.operands,Call.operands]) _ hl)
 have hcv:=(hρ _ (by simp [Op.operands,Call.operands]) _ hc)
 generalize hle:ev l=lv at hlv
 generalize hce:ev c=cv at hcv
 cases hlv;cases hcv
 have hrun:=run_make (P:=P) w t E inf z (under_of hti ht) hinf hzz kl kc m m h0 (Int.le_refl _) (by rw [hbytes];exact hb1) hb2
 have hm:Mv R R γ (γ++[.arr w.heap.size m.toNat]) L (L++[.row (E+65536) (List.replicate m.toNat zs) k]):=Mv.push _ _ hi.len
 have hcr:=cells_rep (R:=R) (γ:=γ++[.arr w.heap.size m.toNat]) (L:=L++[.row (E+65536) (List.replicate m.toNat zs) k]) (AV.ofVal_rep hzo') hcz
 have hzl:zs.length=k:=by have:=hcr.1;rw [hzc] at this;omega
 refine ⟨w.alloc (.cells (madeCells z.cells (m.toNat*inf.size)) E),R,_, .inl ⟨.slice (some ⟨w.heap.size,0,none⟩) m.toNat m.toNat,by simp [execOp,hle,hce,hrun],⟨rfl,rfl⟩,by simp,fun ver2 es2 k2 e2=>?_⟩,?_,⟨Kept.alloc hi.bsz _,PH.sub_refl _,fun _ _ _=>rfl⟩,hm⟩
 ·rw [List.getElem?_append_right (by omega)] at e2
  simp at e2
  obtain ⟨q1,q2,q3⟩:=e2
  subst q1 q2 q3
  refine ⟨Nat.le_refl _,fun _=>⟨by simp, .arr w.heap.size m.toNat,by rw [← hi.len];simp, .inl ?_⟩⟩
  simp
 ·refine hi.push _ _ _ rfl ⟨⟨_,E,⟨heap_new w _,by show (E:Nat)=(E+65536)%65536;omega,by show 65536≤(E:Nat)+65536;omega⟩,by rw [size_madeCells,hisz],fun i e j u x he hu hx=>?_⟩,by simp,hk,fun e he=>?_,fun o=>hi.none_at o⟩
  ·rw [List.getElem?_replicate] at he
   split at he
   ·rename_i him
    obtain rfl:=Option.some.inj he
    have hj:j<k:=by rw [← hzl];exact (List.getElem?_eq_some_iff.1 hx).1
    have hlt:i*k+j<m.toNat*inf.size:=by rw [hisz];exact idx_lt him hj
    rw [madeCells_get _ _ _ hlt,hzc,Nat.add_comm,Nat.add_mul_mod_self_right,Nat.mod_eq_of_lt hj] at hu
    have hj2:j<z.cells.size:=by rw [hzc];exact hj
    refine hcr.2 j u x ?_ hx
    rw [← hu,Array.getElem?_eq_getElem hj2,getElem!_pos z.cells j hj2]
   ·cases he
  ·rw [List.eq_of_mem_replicate he];exact hzl
end
def litB (ti:TI) (ρ:Operand→Option AV):Op→Option AV
 | .buildSlice t len parts=>match elemsOf ρ parts.toList 0,ti.elem t with
  | some es,some E=>match ti.size E with
   | some k=>match len with
    | 0=>ck (.one .emp) (es.isEmpty=true)
    | n+1=>ck (.one (.c (.lst es))) (es.length=n+1∧wideB k es=true∧0<k∧(n+1)*k≤16777216∧ti.zok E=true)
   | none=>none
  | _,_=>none
 | _=>none
theorem litB_ok {ti:TI} {ρ:Operand→Option AV} {op:Op} {v:AV} (h:litB ti ρ op=some v):Yes (litOp ti ρ op) v:=by
 unfold litB at h
 split at h
 ·rename_i t len parts
  show Yes (popLit ti ρ t len parts.toList) v
  unfold popLit
  split at h
  ·rename_i h0 h1
   rw [h0,h1]
   dsimp only
   split at h
   ·rename_i h2
    rw [h2]
    dsimp only
    split at h
    ·obtain ⟨rfl,h3⟩:=ck_some h
     rw [if_pos rfl]
     exact ⟨_,rfl,List.isEmpty_iff.1 h3⟩
    ·obtain ⟨rfl,h3,h4,h5,h6,h7⟩:=ck_some h
     rw [if_neg (Nat.succ_ne_zero _)]
     exact ⟨_,rfl,h3,wideB_of h4,h5,h6,h7⟩
   ·cases h
  ·cases h
 ·cases h
def appB (ti:TI) (L:List Ob) (t tx:TypeId) (s x:AV):Option (AV × List Ob) :=
 match listOf x,ti.elem t with
 | some xs,some E=>match ti.size E,ti.bytes E with
  | some k,some by_=>match s with
   | .one .emp=>ck (.one (.own xs L.length),L++[.spare xs.length k]) ((ti.elem tx).isSome=true∧0<k∧ti.zok E=true∧wideB k xs=true∧xs.length*by_≤140737488355328∧xs.length≤140737488355328)
   | .one (.own es i)=>match L[i]? with
    | some (.spare n k')=>ck (.one (.own (es++xs) i),L.set i (.spare (n+xs.length) k)) ((ti.elem tx).isSome=true∧k'=k∧es.length=n∧(ti.zok E=true∧0<k)∧wideB k xs=true∧(n+xs.length)*by_≤140737488355328∧n+xs.length≤140737488355328)
    | _=>none
   | _=>none
  | _,_=>none
 | _,_=>none
def Yes3 {α β:Type} (f:Option (α × β × Prop)) (a:α) (b:β):Prop := ∃ φ,f=some (a,b,φ)∧φ
theorem appB_ok {ti:TI} {L L':List Ob} {t tx:TypeId} {s x v:AV} (h:appB ti L t tx s x=some (v,L')):Yes3 (lopApp ti L t tx s x) v L':=by
 unfold appB at h
 unfold lopApp
 split at h
 ·rename_i h0 h1
  rw [h0,h1]
  dsimp only
  split at h
  ·rename_i h2 h3
   rw [h2,h3]
   dsimp only
   split at h
   ·obtain ⟨e,h4,h5,h6,h7,h8⟩:=ck_some h
    cases e
    exact ⟨_,rfl,h4,h5,h6,wideB_of h7,h8⟩
   ·dsimp only
    split at h
    ·rename_i h4
     rw [h4]
     obtain ⟨e,h5,h6,h7,h8,h9,h10⟩:=ck_some h
     cases e
     exact ⟨_,rfl,h5,h6,h7,h8,wideB_of h9,h10⟩
    ·cases h
   ·cases h
  ·cases h
 ·cases h
def lopB (ti:TI) (ρ:Operand→Option AV) (L:List Ob):Op→Option (AV × List Ob)
 | .alloc E=>match (ti.zero E).bind AV.cells with
  | some zs=>some (.one (.ptr L.length 0),L++[.box zs])
  | none=>none
 | .box _ x=>match (ρ x).bind AV.cells with
  | some xs=>some (.one (.ptr L.length 0),L++[.box xs])
  | none=>none
 | .store t p x=>match ρ p,(ρ x).bind AV.cells with
  | some (.one (.ptr id off)),some xs=>match L[id]? with
   | some (.box cs)=>ck (.undef,L.set id (.box (splice cs off xs))) (off+xs.length≤cs.length∧ti.size t=some xs.length)
   | _=>none
  | some (.one (.ep id ver i o)),some xs=>match L[id]? with
   | some (.row ver' es k)=>match es[i]? with
    | some e=>ck (.undef,L.set id (.row ver' (es.set i (splice e o xs)) k)) (ver=ver'∧o+xs.length≤e.length∧ti.size t=some xs.length)
    | none=>none
   | _=>none
  | _,_=>none
 | .call { callee := .builtin .append,args,argTypes } => match args.toList,argTypes.toList with
  | [s,x],[t,tx]=>match ρ s,ρ x with
   | some vs,some vx=>appB ti L t tx vs vx
   | _,_=>none
  | _,_=>none
 | _=>none
theorem lopB_ok {ti:TI} {ρ:Operand→Option AV} {L L':List Ob} {op:Op} {v:AV} (h:lopB ti ρ L op=some (v,L')):Yes3 (lop ti ρ L op) v L':=by
 unfold lopB at h
 split at h
 ·unfold lop
  dsimp only
  split at h
  ·rename_i h0
   rw [h0];cases h;exact ⟨_,rfl,trivial⟩
  ·cases h
 ·unfold lop
  dsimp only
  split at h
  ·rename_i h0
   rw [h0];cases h;exact ⟨_,rfl,trivial⟩
  ·cases h
 ·unfold lop
  dsimp only
  split at h
  ·rename_i h0 h1
   rw [h0,h1]
   dsimp only
   split at h
   ·rename_i h2
    rw [h2]
    obtain ⟨e,h3⟩:=ck_some h
    cases e
    exact ⟨_,rfl,h3⟩
   ·cases h
  ·rename_i h0 h1
   rw [h0,h1]
   dsimp only
   split at h
   ·rename_i h2
    rw [h2]
    dsimp only
    split at h
    ·rename_i h3
     rw [h3]
     obtain ⟨e,h4⟩:=ck_some h
     cases e
     exact ⟨_,rfl,h4⟩
    ·cases h
   ·cases h
  ·cases h
 ·unfold lop
  dsimp only
  split at h
  ·rename_i h0 h1
   rw [h0,h1]
   dsimp only
   split at h
   ·rename_i h2 h3
    rw [h2,h3]
    exact appB_ok h
   ·cases h
  ·cases h
 ·cases h
def strKeysB:List (AC × AV)→Bool
 | []=>true
 | p::kvs=>match p.1 with
  | .str _=>strKeysB kvs
  | _=>false
theorem strKeysB_of : ∀ {kvs:List (AC × AV)}, strKeysB kvs=true→strKeys kvs
 | [],_,p,hp=>by cases hp
 | q::kvs,h,p,hp=>by
  unfold strKeysB at h
  split at h
  ·rename_i s hs
   rcases List.mem_cons.1 hp with rfl|hp
   ·exact ⟨s,hs⟩
   ·exact strKeysB_of h p hp
  ·cases h
def mapT:Option TypeDesc→Option (TypeId × TypeId)
 | some (.map k e)=>some (k,e)
 | _=>none
theorem mapT_of {d:Option TypeDesc} {k e:TypeId} (h:mapT d=some (k,e)):d=some (.map k e):=by
 unfold mapT at h
 split at h
 ·cases h;rfl
 ·cases h
def ptrT:Option TypeDesc→Option TypeId
 | some (.pointer e)=>some e
 | _=>none
theorem ptrT_of {d:Option TypeDesc} {e:TypeId} (h:ptrT d=some e):d=some (.pointer e):=by
 unfold ptrT at h
 split at h
 ·cases h;rfl
 ·cases h
def slcT:Option TypeDesc→Option TypeId
 | some (.slice e)=>some e
 | _=>none
theorem slcT_of {d:Option TypeDesc} {e:TypeId} (h:slcT d=some e):d=some (.slice e):=by
 unfold slcT at h
 split at h
 ·cases h;rfl
 ·cases h
def isUns:Option TypeDesc→Bool
 | some .unsafePointer=>true
 | _=>false
theorem isUns_of {d:Option TypeDesc} (h:isUns d=true):d=some .unsafePointer:=by
 unfold isUns at h
 split at h
 ·rfl
 ·cases h
def srcB (ti:TI) (L:List Ob) (k:Nat) (tx:TypeId):AV→Bool
 | .one (.c (.str _))=>decide (k=1)&&isStr (ti.kind tx)
 | .one (.sl id ver lo n)=>(ti.elem tx).isSome&&(match L[id]? with
  | some (.row ver' es k')=>decide (ver=ver')&&(decide (k=k')&&decide (lo+n≤es.length))
  | _=>false)
 | x=>(ti.elem tx).isSome&&(match listOf x with
  | some es=>wideB k es
  | none=>false)
theorem srcB_ok {ti:TI} {L:List Ob} {k:Nat} {tx:TypeId} {x:AV} (h:srcB ti L k tx x=true):srcOK ti L k tx x:=by
 unfold srcB at h
 split at h
 ·rw [Bool.and_eq_true] at h
  exact ⟨of_decide_eq_true h.1,isStr_of h.2⟩
 ·rw [Bool.and_eq_true] at h
  obtain ⟨h1,h2⟩:=h
  split at h2
  ·rename_i h3
   rw [Bool.and_eq_true,Bool.and_eq_true] at h2
   obtain ⟨h4,h5,h6⟩:=h2
   obtain rfl:=of_decide_eq_true h4
   obtain rfl:=of_decide_eq_true h5
   exact ⟨h1,_,h3,of_decide_eq_true h6⟩
  ·cases h2
 ·rename_i n1 n2
  rw [Bool.and_eq_true] at h
  obtain ⟨h1,h2⟩:=h
  unfold srcOK
  split
  ·rename_i s;exact absurd rfl (n1 s)
  ·rename_i a b c d;exact absurd rfl (n2 a b c d)
  ·split at h2
   ·rename_i h3;exact ⟨h1,_,h3,wideB_of h2⟩
   ·cases h2
def bytesOf:List (List SV)→Option (List UInt8)
 | []=>some []
 | [.c (.int .u8 n)]::es=>match bytesOf es with
  | some bs=>if n=(UInt8.ofNat n.toNat).toNat then some (UInt8.ofNat n.toNat::bs) else none
  | none=>none
 | _=>none
theorem bytesOf_ok : ∀ {es:List (List SV)} {bs:List UInt8}, bytesOf es=some bs→es=bs.map fun b=>[.c (.int .u8 b.toNat)]
 | [],bs,h=>by cases h;rfl
 | e::es,bs,h=>by
  unfold bytesOf at h
  split at h
  ·rename_i e1;cases e1
  ·rename_i n es' e1
   cases e1
   split at h
   ·rename_i bs' h1
    split at h
    ·rename_i h2
     cases h
     rw [List.map_cons, ← bytesOf_ok h1, ← h2]
    ·cases h
   ·cases h
  ·cases h
def widthB (k:Nat):List (List SV)→Bool
 | []=>true
 | e::es=>Nat.beq e.length k&&widthB k es
theorem widthB_of {k:Nat} : ∀ {es:List (List SV)}, widthB k es=true → ∀ e∈es,e.length=k
 | [],_,e,he=>by cases he
 | x::es,h,e,he=>by
  rw [widthB,Bool.and_eq_true] at h
  rcases List.mem_cons.1 he with rfl|he
  ·exact Nat.eq_of_beq_eq_true h.1
  ·exact widthB_of h.2 e he
def scmp (a b:ByteArray):Int:=Extern.BytealgCompare.cmp a b
theorem sop_cmpstr {P : Program} {ρ : Operand → Option AV} {L : List Ob} {f : FuncId} {fn : Func} {x y : Operand} {ts : Array TypeId} {a b : ByteArray} (hx : ρ x = some (.one (.c (.str a)))) (hy : ρ y = some (.one (.c (.str b)))) (hf : P.funcs[f]? = some fn) (hname : (fn.name == "runtime.NumGoroutine") = false)
  (hb:fn.body.isNone=true) (hn:Extern.findNext fn=none) (he:Extern.find fn=some Extern.BytealgCompare.compare) :
  Sop P ρ L (.call { callee := .value (.func f),args := #[x,y],argTypes:=ts }) (.one (.c (.int .i64 (scmp a b)))) L:=by
 intro B R γ w ev o ho hi hρ hfv
 obtain ⟨dst,op,type,pos,after,guard⟩:=o
 simp only at ho;subst ho
 have h1:=hρ x (by simp [Op.operands,Call.operands]) _ hx
 have h2:=hρ y (by simp [Op.operands,Call.operands]) _ hy
 generalize hex:ev x=ux at h1
 generalize hey:ev y=uy at h2
 cases h1;cases h2
 refine ⟨w,R,γ, .inl ⟨.int .i64 (scmp a b),?_, .int _ _⟩,hi,Ext.refl _ _ _,Mv.refl⟩
 have:=run_callFunc_extern hf hname hb hn he #[.string a, .string b] w
 have h3:(Extern.BytealgCompare.compare #[.string a, .string b]).run P w = .ok (.int .i64 (scmp a b)) w:=rfl
 rw [h3] at this
 simp [execOp,resolve,Deferred.ofValue,hfv.1,hex,hey,invoke,this,Result.andThen]
structure Exts where
 noEsc:FuncId
 cmpS:FuncId
def evSop (P:Program) (ti:TI) (xs:Exts) (rowB:Bool) (ρ:Operand→Option AV) (L:List Ob):Op→Option (AV × List Ob)
 | .makeMap _ none=>some (.one (.mp L.length),L++[.map []])
 | .buildSlice t len parts=>match elemsS ρ parts.toList 0,ti.elem t with
  | some es,some E=>match ti.size E with
   | some k=>ck (.one (.sl L.length (E+65536) 0 len),L++[.row (E+65536) es k]) (rowB=true∧E<65536∧ti.zok E=true∧es.length=len∧0<len∧widthB k es=true∧0<k∧len*k≤16777216)
   | none=>none
  | _,_=>none
 | .lookup t x k ok=>match ρ x,ρ k,mapT (ti.kind t) with
  | some (.one (.mp id)),some (.one (.c (.str s))),some (kt,et)=>match L[id]?,ti.zero et with
   | some (.map kvs),some z=>match ok with
    | false=>ck (mval kvs s z,L) (strKeysB kvs=true∧isStr (ti.kind kt)=true)
    | true=>match (mval kvs s z).norm with
     | some p=>ck (.tup [p, .one (.bool (kidx s kvs).isSome)],L) (strKeysB kvs=true∧isStr (ti.kind kt)=true)
     | none=>none
   | _,_=>none
  | _,_,_=>none
 | .mapUpdate t x k y=>match ρ x,ρ k,ρ y,mapT (ti.kind t) with
  | some (.one (.mp id)),some (.one (.c (.str s))),some v,some (kt,_)=>match L[id]? with
   | some (.map kvs)=>ck (.undef,L.set id (.map (mput kvs s v))) (strKeysB kvs=true∧isStr (ti.kind kt)=true)
   | _=>none
  | _,_,_,_=>none
 | .mapEntry t x k=>match ρ x,ρ k,mapT (ti.kind t) with
  | some (.one (.mp id)),some (.one (.c (.str s))),some (kt,et)=>match L[id]?,ti.zero et with
   | some (.map kvs),some z=>match (mval kvs s z).norm with
    | some p=>ck (.tup [p, .one (.int .i64 (mplace kvs s))],L.set id (.map (mput kvs s (mval kvs s z)))) (strKeysB kvs=true∧isStr (ti.kind kt)=true)
    | none=>none
   | _,_=>none
  | _,_,_=>none
 | .entryStore _ x k y=>match ρ x,ρ k,ρ y with
  | some (.one (.mp id)),some (.one (.c (.int .i64 i))),some v=>match L[id]? with
   | some (.map kvs)=>match kvs[i.toNat]? with
    | some q=>ck (.undef,L.set id (.map (kvs.set i.toNat (q.1,v)))) (0≤i)
    | none=>none
   | _=>none
  | _,_,_=>none
 | .makeFunc (.func f) first captured=>match first.toList,capsOfR ρ captured.toList with
  | [],some caps=>some (.one (.clo f caps),L)
  | _,_=>none
 | .call { callee := .builtin .append,args,argTypes } => match args.toList,argTypes.toList with
  | [s,x],[t,tx]=>match ρ s,ρ x,ti.elem t with
   | some (.one (.sl id ver 0 n)),some vx,some E=>match L[id]?,srcS L vx,ti.size E,ti.bytes E with
    | some (.row ver' es k'),some xs,some k,some by_=>ck (.one (.sl id (ver+65536) 0 (n+xs.length)),L.set id (.row (ver+65536) (es++xs) k)) ((ver'=ver∧k'=k∧srcB ti L k tx vx=true∧ver%65536=E)∧ti.zok E=true∧0<k∧es.length=n∧(n+xs.length)*by_≤140737488355328∧n+xs.length≤140737488355328)
    | _,_,_,_=>none
   | some (.one .emp),some vx,some E=>match srcS L vx,ti.size E,ti.bytes E with
    | some xs,some k,some by_=>ck (.one (.sl L.length (E+65536) 0 xs.length),L++[.row (E+65536) xs k]) ((rowB=true∧srcB ti L k tx vx=true∧E<65536)∧ti.zok E=true∧0<k∧0<xs.length∧xs.length*by_≤140737488355328∧xs.length≤140737488355328)
    | _,_,_=>none
   | _,_,_=>none
  | _,_=>none
 | .makeSlice t l c=>match ρ l,ρ c,ti.elem t with
  | some (.one (.c (.int _ l))),some (.one (.c (.int _ m))),some E=>match ti.size E,ti.bytes E with
   | some k,some by_=>match rowB with
    | true=>match decide (l=0),(ti.zero E).bind AV.cells with
     | true,_=>ck (.one (.sl L.length (E+65536) 0 0),L++[.row (E+65536) [] k]) ((l=0∧E<65536)∧ti.zok E=true∧0<k∧0≤m∧(by_:Int)*m≤281474976710656∧m≤9223372036854775807)
     | false,some zs=>ck (.one (.sl L.length (E+65536) 0 m.toNat),L++[.row (E+65536) (List.replicate m.toNat zs) k]) ((l=m∧E<65536)∧ti.zok E=true∧0<k∧0≤m∧(by_:Int)*m≤281474976710656∧m≤9223372036854775807)
     | false,none=>none
    | false=>ck (.one (.own [] L.length),L++[.spare 0 k]) (l=0∧ti.zok E=true∧0<k∧0≤m∧(by_:Int)*m≤281474976710656∧m≤9223372036854775807)
   | _,_=>none
  | _,_,_=>none
 | .alloc E=>match P.info? E,ti.field E 1 with
  | some inf,some (1,ts)=>match inf.zero,ti.elem ts with
   | some (.agg vs),some Eb=>match vs.toList,ti.size Eb with
    | [.pointer none, .slice none 0 0],some k=>ck (.one (.ep L.length (E+65536) 0 0),L++[.row (E+65536) [[.c (.nul .ptr), .sl (L.length+1) Eb 0 0]] 2, .row Eb [] k]) (rowB=true∧E<65536∧Eb<65536∧0<k)
    | _,_=>none
   | _,_=>none
  | _,_=>none
 | .convert s d x=>match ρ x with
  | some (.one (.ep id ver 0 0))=>match L[id]? with
   | some (.row ver' es k)=>match ptrT (ti.kind s),isUns (ti.kind d),ptrT (ti.kind d),isUns (ti.kind s) with
    | some t,true,_,_=>match ti.size t with
     | some (_+1)=>ck (.one (.ep id ver 0 0),L) (ver'=ver)
     | _=>none
    | _,_,some t,true=>ck (.one (.ep id ver 0 0),L) (ver'=ver∧(ti.size t).isSome=true∧P.cellsOf t=k∧ver%65536=t)
    | _,_,_,_=>none
   | _=>none
  | _=>none
 | .binOp op t x y _=>match op,ρ x with
  | .eql,some (.one (.c (.nul .ptr)))=>match ρ y,ptrT (ti.kind t) with
   | some (.one (.c (.nul .ptr))),some _=>some (.one (.c (.bool true)),L)
   | _,_=>none
  | .eql,some (.one (.ep id ver i off))=>match ρ y,ptrT (ti.kind t),L[id]? with
   | some (.one (.c (.nul .ptr))),some _,some (.row ver' es k)=>ck (.one (.c (.bool false)),L) (ver'=ver)
   | _,_,_=>none
  | .neq,some (.one (.ep id ver i off))=>match ρ y,ptrT (ti.kind t),L[id]? with
   | some (.one (.ep id2 ver2 i2 off2)),some te,some (.row ver' es k)=>ck (.one (.c (.bool false)),L) (ver'=ver∧id2=id∧ver2=ver∧i2=i∧off2=off∧(ti.size te).isSome=true)
   | _,_,_=>none
  | .eql,some vx=>match listOf vx,y,slcT (ti.kind t) with
   | some (_::_), .const (.slice none 0 0),some _=>some (.one (.c (.bool false)),L)
   | _,_,_=>none
  | _,_=>none
 | .call { callee := .builtin .unsafeSliceData,args, .. } => match args.toList with
  | [x]=>match ρ x with
   | some (.one (.sl id ver 0 (n+1)))=>match L[id]? with
    | some (.row ver' _ _)=>ck (.one (.ep id ver 0 0),L) (ver'=ver)
    | _=>none
   | some (.one (.sl id ver 0 0))=>match L[id]? with
    | some (.row ver' [] _)=>ck (.one (.c (.nul .ptr)),L) (ver'=ver∧ver<65536)
    | _=>none
   | _=>none
  | _=>none
 | .call { callee := .builtin .unsafeString,args,argTypes } => match args.toList,argTypes.toList with
  | [x,y],[pt,_]=>match ρ x,ρ y with
   | some (.one (.c (.nul .ptr))),some (.one (.c (.int .i64 n)))=>ck (.one (.c (.str .empty)),L) (n=0)
   | some (.one (.ep id ver 0 0)),some (.one (.c (.int .i64 n)))=>match L[id]?,ptrT (ti.kind pt) with
    | some (.row ver' es 1),some E=>match bytesOf es with
     | some bs=>ck (.one (.c (.str ⟨bs.toArray⟩)),L.set id .dead) ((ver'=ver∧n=bs.length)∧ver%65536=E∧P.cellsOf E=1∧0<bs.length∧bs.length≤9223372036854775807)
     | none=>none
    | _,_=>none
   | _,_=>none
  | _,_=>none
 | .call { callee := .value (.func f),args, .. } => match args.toList with
  | [x]=>match ρ x with
   | some v=>ck (v,L) (f=xs.noEsc)
   | none=>none
  | [x,y]=>match ρ x,ρ y with
   | some (.one (.c (.str a))),some (.one (.c (.str b)))=>ck (.one (.c (.int .i64 (scmp a b))),L) (f=xs.cmpS)
   | _,_=>none
  | _=>none
 | _=>none
def NoEsc (P : Program) (f : FuncId) : Prop := ∃ fn, P.funcs[f]? = some fn ∧ (fn.name == "runtime.NumGoroutine") = false ∧ fn.body.isNone = true ∧ Extern.findNext fn = none ∧ Extern.find fn = some Extern.AbiNoEscape.same
def CmpS (P : Program) (f : FuncId) : Prop := ∃ fn, P.funcs[f]? = some fn ∧ (fn.name == "runtime.NumGoroutine") = false ∧ fn.body.isNone = true ∧ Extern.findNext fn = none ∧ Extern.find fn = some Extern.BytealgCompare.compare
structure ExtsOK (P:Program) (xs:Exts):Prop where
 noEsc:NoEsc P xs.noEsc
 cmpS:CmpS P xs.cmpS
theorem tsize_info {P:Program} {t:TypeId} {n:Nat} (h:tsize P t=some n) : ∃ j,P.info? t=some j∧j.size=n:=by
 unfold tsize at h
 exact map_some h
theorem evSop_ok {P:Program} {ti:TI} {xs:Exts} {rowB:Bool} {ρ:Operand→Option AV} {L L':List Ob} {op:Op} {v:AV} (hti:TIok P ti) (hne:ExtsOK P xs) (h:evSop P ti xs rowB ρ L op=some (v,L')):Sop P ρ L op v L':=by
 unfold evSop at h
 split at h
 ·cases h;exact sop_makeMap
 ·split at h
  ·rename_i es E hes hE
   split at h
   ·rename_i k hk
    obtain ⟨e,h1,h2,h3,h4,h5,h6,h7,h8⟩:=ck_some h
    cases e
    exact sop_litRow hti hE h2 hk h3 hes h4 h5 (widthB_of h6) h7 h8
   ·cases h
  ·cases h
 ·split at h
  ·rename_i id s kt et hx hk hm
   have ht:=hti.kind _ _ (mapT_of hm)
   split at h
   ·rename_i kvs z hL hz
    have hz:=hti.zero _ _ hz
    split at h
    ·obtain ⟨e,h1,h2⟩:=ck_some h
     cases e
     exact sop_lookup hx hk hL (strKeysB_of h1) ht (hti.kind _ _ (isStr_of h2)) hz
    ·split at h
     ·rename_i p hp
      obtain ⟨e,h1,h2⟩:=ck_some h
      cases e
      exact sop_lookup_ok hx hk hL (strKeysB_of h1) ht (hti.kind _ _ (isStr_of h2)) hz hp
     ·cases h
   ·cases h
  ·cases h
 ·split at h
  ·rename_i id s v' kt et hx hk hy hm
   have ht:=hti.kind _ _ (mapT_of hm)
   split at h
   ·rename_i kvs hL
    obtain ⟨e,h1,h2⟩:=ck_some h
    cases e
    exact sop_mapUpdate hx hk hy hL (strKeysB_of h1) ht (hti.kind _ _ (isStr_of h2))
   ·cases h
  ·cases h
 ·split at h
  ·rename_i id s kt et hx hk hm
   have ht:=hti.kind _ _ (mapT_of hm)
   split at h
   ·rename_i kvs z hL hz
    have hz:=hti.zero _ _ hz
    split at h
    ·rename_i p hp
     obtain ⟨e,h1,h2⟩:=ck_some h
     cases e
     exact sop_mapEntry hx hk hL (strKeysB_of h1) ht (hti.kind _ _ (isStr_of h2)) hz hp
    ·cases h
   ·cases h
  ·cases h
 ·split at h
  ·rename_i id i v' hx hk hy
   split at h
   ·rename_i kvs hL
    split at h
    ·rename_i q hq
     obtain ⟨e,h1⟩:=ck_some h
     cases e
     exact sop_entryStore hx (by rw [hk,Int.toNat_of_nonneg h1]) hy hL hq
    ·cases h
   ·cases h
  ·cases h
 ·rename_i f first captured
  split at h
  ·rename_i caps h1 h2
   cases h
   obtain rfl:first = #[]:=by cases first;simp at h1;subst h1;rfl
   exact sop_makeFunc h2
  ·cases h
 ·rename_i args ts
  split at h
  ·rename_i s x t tx ha hts
   obtain rfl:args = #[s,x]:=by cases args;simp at ha;subst ha;rfl
   obtain rfl:ts = #[t,tx]:=by cases ts;simp at hts;subst hts;rfl
   split at h
   ·rename_i id ver n vx E hs hx hE
    split at h
    ·rename_i ver' es k' xs k by_ hL hsrc hk hby
     obtain ⟨e,⟨h1,h2,h3,h4⟩,h5,h6,h7,h8,h9⟩:=ck_some h
     cases e;subst h1;subst h2
     exact sop_app hti hs hx hL hsrc (srcB_ok h3) hE h4 hk h5 hby h6 h7 h8 h9
    ·cases h
   ·rename_i vx E hs hx hE
    split at h
    ·rename_i xs k by_ hsrc hk hby
     obtain ⟨e,⟨h1,h2,h3⟩,h5,h6,h7,h8,h9⟩:=ck_some h
     cases e
     exact sop_app0 hti hs hx hsrc (srcB_ok h2) hE h3 hk h5 hby h6 h7 h8 h9
    ·cases h
   ·cases h
  ·cases h
 ·split at h
  ·rename_i l m E hl hc hE
   split at h
   ·rename_i k by_ hk hby
    split at h
    ·split at h
     ·obtain ⟨e,⟨h1,h2⟩,h3,h4,h5,h6,h7⟩:=ck_some h
      cases e;subst h1
      exact sop_makeRow hti hl hc hE h2 hk h3 hby h4 h5 h6 h7
     ·rename_i zs _ hz
      obtain ⟨e,⟨h1,h2⟩,h3,h4,h5,h6,h7⟩:=ck_some h
      cases e;subst h1
      obtain ⟨zv,hzv,hcz⟩:=Option.bind_eq_some_iff.1 hz
      exact sop_makeN hti hl hc hE h2 hk h3 hzv hcz hby h4 h5 h6 h7
     ·cases h
    ·obtain ⟨e,h1,h3,h4,h5,h6,h7⟩:=ck_some h
     cases e;subst h1
     exact sop_makeOwn hti hl hc hE hk h3 hby h4 h5 h6 h7
   ·cases h
  ·cases h
 ·split at h
  ·rename_i inf ts hi hf
   split at h
   ·rename_i vs Eb hz hEb
    split at h
    ·rename_i k hv hk
     obtain ⟨e,h1,h2,h3,h4⟩:=ck_some h
     cases e
     exact sop_allocBuilder hi (by rw [hz];cases vs;simp at hv;subst hv;rfl) h2 h3 h4
    ·cases h
   ·cases h
  ·cases h
 ·split at h
  ·rename_i id ver hx
   split at h
   ·rename_i ver' es k hL
    split at h
    ·rename_i t _ h1 h2
     split at h
     ·rename_i n hn
      obtain ⟨e,h4⟩:=ck_some h
      cases e;subst h4
      obtain ⟨j,hj,hs⟩:=tsize_info (hti.size _ _ hn)
      exact sop_convUnsafe hx hL (hti.kind _ _ (ptrT_of h1)) (hti.kind _ _ (isUns_of h2)) hj (by rw [hs];exact Nat.succ_ne_zero _)
     ·cases h
    ·rename_i t h1 h2 _
     obtain ⟨e,h4,h5,h6,h7⟩:=ck_some h
     cases e;subst h4
     obtain ⟨n,hn⟩:=Option.isSome_iff_exists.1 h5
     obtain ⟨j,hj,hs⟩:=tsize_info (hti.size _ _ hn)
     exact sop_convBack hx hL (hti.kind _ _ (isUns_of h2)) (hti.kind _ _ (ptrT_of h1)) hj h6 h7
    ·cases h
   ·cases h
  ·cases h
 ·split at h
  ·rename_i hx
   split at h
   ·rename_i te hy hm
    cases h
    exact sop_eqNul hx hy (hti.kind _ _ (ptrT_of hm))
   ·cases h
  ·rename_i hx
   split at h
   ·rename_i te ver' es k hy hm hL
    obtain ⟨e,h4⟩:=ck_some h
    cases e;subst h4
    exact sop_eqEpNul hx hL hy (hti.kind _ _ (ptrT_of hm))
   ·cases h
  ·rename_i hx
   split at h
   ·rename_i te ver' es k hy hm hL
    obtain ⟨e,h4,h5,h6,h7,h8,h9⟩:=ck_some h
    cases e;subst h4;subst h5;subst h6;subst h7;subst h8
    obtain ⟨n,hn⟩:=Option.isSome_iff_exists.1 h9
    obtain ⟨j,hj,hs⟩:=tsize_info (hti.size _ _ hn)
    exact sop_neqSame hx hL hy (hti.kind _ _ (ptrT_of hm)) hj
   ·cases h
  ·rename_i vx hx
   split at h
   ·rename_i hl hm
    cases h
    exact sop_notNil hx hl (hti.kind _ _ (slcT_of hm))
   ·cases h
  ·cases h
 ·rename_i args ts
  split at h
  ·rename_i x ha
   obtain rfl:args = #[x]:=by cases args;simp at ha;subst ha;rfl
   split at h
   ·rename_i id ver n hx
    split at h
    ·rename_i ver' es k hL
     obtain ⟨e,h4⟩:=ck_some h
     cases e;subst h4
     exact sop_sliceData hx hL (Nat.succ_pos _)
    ·cases h
   ·rename_i id ver hx
    split at h
    ·rename_i ver' k hL
     obtain ⟨e,h4,h5⟩:=ck_some h
     cases e;subst h4
     exact sop_sliceData0 hx hL h5
    ·cases h
   ·cases h
  ·cases h
 ·rename_i args ts
  split at h
  ·rename_i x y pt it ha hts
   obtain rfl:args = #[x,y]:=by cases args;simp at ha;subst ha;rfl
   obtain rfl:ts = #[pt,it]:=by cases ts;simp at hts;subst hts;rfl
   split at h
   ·rename_i n hx hy
    obtain ⟨e,h4⟩:=ck_some h
    cases e;subst h4
    exact sop_unsafeString0 hx hy
   ·rename_i id ver n hx hy
    split at h
    ·rename_i ver' es E hL hm
     split at h
     ·rename_i bs hb
      obtain ⟨e,⟨h4,h5⟩,h6,h7,h8,h9⟩:=ck_some h
      cases e;subst h4;subst h5
      refine sop_unsafeString hx hy ?_ h6 (hti.kind _ _ (ptrT_of hm)) h7 h8 h9
      rw [hL,bytesOf_ok hb];rfl
     ·cases h
    ·cases h
   ·cases h
  ·cases h
 ·rename_i f args ts
  split at h
  ·rename_i x ha
   obtain rfl:args = #[x]:=by cases args;simp at ha;subst ha;rfl
   split at h
   ·rename_i v' hx
    obtain ⟨e,h4⟩:=ck_some h
    cases e;subst h4
    obtain ⟨fn,h1,h2,h3,h5,h6⟩:=hne.noEsc
    exact sop_noEscape hx h1 h2 h3 h5 h6
   ·cases h
  ·rename_i x y ha
   obtain rfl:args = #[x,y]:=by cases args;simp at ha;subst ha;rfl
   split at h
   ·rename_i a b hx hy
    obtain ⟨e,h4⟩:=ck_some h
    cases e;subst h4
    obtain ⟨fn,h1,h2,h3,h5,h6⟩:=hne.cmpS
    exact sop_cmpstr hx hy h1 h2 h3 h5 h6
   ·cases h
  ·cases h
 ·cases h
end Go.Proofs.YtngehibfdjdejaaGreatDoor
