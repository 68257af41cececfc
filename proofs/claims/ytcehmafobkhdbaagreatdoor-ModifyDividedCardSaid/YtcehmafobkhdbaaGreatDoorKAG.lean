/- Parts of the proof, joined. No condition. -/
import Derived.Test.YtcehmafobkhdbaaGreatDoorKAF
set_option linter.unusedSimpArgs false
set_option linter.unusedVariables false
namespace Go.Proofs.YtcehmafobkhdbaaGreatDoor
open Go.RowKit Go.MapKept
def ck {α:Type} (v:α) (φ:Prop) [Decidable φ]:Option α:=if φ then some v else none
theorem bA {α:Type} {v r:α} {φ:Prop} [Decidable φ] (h:ck v φ=some r):v=r/\φ:=by
 unfold ck at h
 split at h
 ·exact ⟨ahq h,by assumption⟩
 ·cases h
def Lu {α:Type} (f:Option (α × Prop)) (r:α):Prop := ∃ φ,f=some (r,φ)/\φ
theorem nk {α:Type} {v r:α} (h:some v=some r):Lu (some (v,True)) r:=by
 cases h;exact ⟨_,rfl,trivial⟩
theorem l6 {α:Type} {v r:α} {φ:Prop} [Decidable φ] (h:ck v φ=some r):Lu (some (v,φ)) r:=by
 obtain ⟨rfl,hφ⟩:=bA h
 exact ⟨_,rfl,hφ⟩
def isStr:Option TypeDesc->Bool
 | some .string=>true
 | _=>false
theorem mD {d:Option TypeDesc} (h:isStr d=true):d=some .string:=by
 unfold isStr at h;split at h
 ·rfl
 ·cases h
def GZ:Option TypeDesc->Bool
 | some .bool=>true
 | _=>false
theorem MB {d:Option TypeDesc} (h:GZ d=true):d=some .bool:=by
 unfold GZ at h;split at h
 ·rfl
 ·cases h
def Gd (k:Nat):List (List AC)->Bool
 | []=>true
 | e::es=>Nat.beq e.length k&&Gd k es
theorem uY {k:Nat} : ∀ {es:List (List AC)}, Gd k es=true -> ∀ e∈es,e.length=k
 | [],_,e,he=>by cases he
 | x::es,h,e,he=>by
  rw [Gd,ahb] at h
  rcases aha.1 he with rfl|he
  ·exact Nat.eq_of_beq_eq_true h.1
  ·exact uY h.2 e he
def afx (op:BinOp) (k:IntKind) (a b:Int):Option AC :=
 match op with
 | .add=>some (.int k (k.wrap (a+b)))
 | .sub=>some (.int k (k.wrap (a-b)))
 | .mul=>some (.int k (k.wrap (a*b)))
 | .quo=>ck (.int k (k.wrap (a.tdiv b))) (b≠0)
 | .rem=>ck (.int k (a.tmod b)) (b≠0)
 | .eql=>some (.bool (decide (a=b)))
 | .neq=>some (.bool (decide (a≠b)))
 | .lss=>some (.bool (decide (a<b)))
 | .leq=>some (.bool (decide (a<=b)))
 | .gtr=>some (.bool (decide (b<a)))
 | .geq=>some (.bool (decide (b<=a)))
 | .and=>some (.int k (k.wrap (BitVec.ofInt k.bits a &&& BitVec.ofInt k.bits b).toNat))
 | .or=>some (.int k (k.wrap (BitVec.ofInt k.bits a ||| BitVec.ofInt k.bits b).toNat))
 | _=>none
theorem acM {op:BinOp} {k:IntKind} {a b:Int} {r:AC} (h:afx op k a b=some r):Lu (aaA op k a b) r:=by
 cases op<;>first|exact nk h|exact l6 h|cases h
def shB (op:BinOp) (k:IntKind) (a b:Int):Option (Option AC) :=
 match op with
 | .shl=>some (ck (.int k (k.wrap (a*2 ^ (min b.toNat k.bits)))) (0<=b))
 | .shr=>some (ck (.int k (a.fdiv (2 ^ (min b.toNat k.bits)))) (0<=b))
 | _=>none
def ae' (op:BinOp) (a b:ByteArray):Option AC :=
 match op with
 | .add=>ck (.str (a++b)) (a.size+b.size<=9223372036854775807)
 | .eql=>some (.bool (a.toList==b.toList))
 | .neq=>some (.bool (!(a.toList==b.toList)))
 | .lss=>some (.bool (Op.bytesLess a.toList b.toList))
 | .leq=>some (.bool (Op.bytesLess a.toList b.toList||a.toList==b.toList))
 | .gtr=>some (.bool (!(Op.bytesLess a.toList b.toList||a.toList==b.toList)))
 | .geq=>some (.bool (!Op.bytesLess a.toList b.toList))
 | _=>none
theorem abD {op:BinOp} {a b:ByteArray} {r:AC} (h:ae' op a b=some r):Lu (aaY op a b) r:=by
 cases op<;>first|exact nk h|exact l6 h|cases h
def ad5 (ti:TI) (op:BinOp) (t:TypeId):AV->AV->Option AV
 | .one (.c (.int k a)), .one (.c (.int k' b))=>match shB op k a b with
  | some r=>r.map fun r => .one (.c r)
  | none=>match decide (k=k') with
   | true=>(afx op k a b).map fun r => .one (.c r)
   | false=>none
 | .one (.c (.str a)), .one (.c (.str b))=>(ae' op a b).map fun r => .one (.c r)
 | .one (.c (.bool a)), .one (.c (.bool b))=>match op with
  | .eql=>ck (.one (.c (.bool (a==b)))) (GZ (ti.kind t)=true)
  | .neq=>ck (.one (.c (.bool (!(a==b))))) (GZ (ti.kind t)=true)
  | _=>none
 | .agg xs, .agg ys=>match ti.eqs t with
  | some sh=>match op with
   | .eql=>ck (.one (.c (.bool (dL xs ys)))) (iE sh xs=true/\iE sh ys=true)
   | .neq=>ck (.one (.c (.bool (!dL xs ys)))) (iE sh xs=true/\iE sh ys=true)
   | _=>none
  | none=>none
 | _,_=>none
theorem map_some {α β:Type} {o:Option α} {f:α->β} {r:β} (h:o.map f=some r) : ∃ a,o=some a/\f a=r:=by
 cases o with
 | none=>cases h
 | some a=>exact ⟨a,rfl,ahq h⟩
theorem acj {ti:TI} {op:BinOp} {t:TypeId} {x y v:AV} (h:ad5 ti op t x y=some v):Lu (Ck ti op t x y) v:=by
 unfold ad5 at h
 split at h
 ·rename_i k a k' b
  unfold Ck
  cases op
  case shl=>obtain ⟨r,h1,rfl⟩:=map_some h;obtain ⟨rfl,hφ⟩:=bA h1;exact ⟨_,rfl,hφ⟩
  case shr=>obtain ⟨r,h1,rfl⟩:=map_some h;obtain ⟨rfl,hφ⟩:=bA h1;exact ⟨_,rfl,hφ⟩
  all_goals
   simp only [shB,aem] at h ⊢
   split at h
   ·rename_i hk
    obtain ⟨r,h1,rfl⟩:=map_some h
    obtain ⟨φ,h2,hφ⟩:=acM h1
    rw [hk,h2]
    exact ⟨_,rfl,hφ⟩
   ·cases h
 ·obtain ⟨r,h1,rfl⟩:=map_some h
  obtain ⟨φ,h2,hφ⟩:=abD h1
  unfold Ck
  dsimp only
  rw [h2]
  exact ⟨_,rfl,hφ⟩
 ·split at h
  ·obtain ⟨rfl,hφ⟩:=bA h;exact ⟨_,rfl,MB hφ⟩
  ·obtain ⟨rfl,hφ⟩:=bA h;exact ⟨_,rfl,MB hφ⟩
  ·cases h
 ·unfold Ck
  dsimp only
  split at h
  ·rename_i sh hs
   rw [hs]
   split at h
   ·exact l6 h
   ·exact l6 h
   ·cases h
  ·cases h
 ·cases h
def U8 (ti:TI) (L:List Ob) (t:TypeId):AV->Option AV
 | .one (.c (.ref cs))=>match ti.agg t,ti.size t with
  | some false,_=>match cs with
   | x::_=>some (.one (.c x))
   | []=>none
  | some true,some n=>ck (.agg ((cs.take n).map .c)) (n<=cs.length)
  | _,_=>none
 | .one (.ptr id off)=>match L[id]? with
  | some (.box cs)=>match ti.agg t,ti.size t with
   | some false,_=>match cs[off]? with
    | some x=>some (.one x)
    | none=>none
   | some true,some n=>ck (.agg ((cs.drop off).take n)) (off+n<=cs.length)
   | _,_=>none
  | _=>none
 | .one (.ep id ver i o)=>match L[id]? with
  | some (.row ver' es _)=>match es[i]?,ti.agg t,ti.size t with
   | some e,some false,_=>match e[o]? with
    | some x=>ck (.one x) (ver=ver')
    | none=>none
   | some e,some true,some n=>ck (.agg ((e.drop o).take n)) (ver=ver'/\o+n<=e.length)
   | _,_,_=>none
  | _=>none
 | _=>none
theorem Qd {ti:TI} {L:List Ob} {t:TypeId} {x v:AV} (h:U8 ti L t x=some v):Lu (lq ti L t x) v:=by
 unfold U8 at h
 unfold lq
 split at h
 ·dsimp only
  split at h
  ·rename_i h1
   rw [h1]
   split at h
   ·exact nk h
   ·cases h
  ·rename_i h1 h2
   rw [h1,h2]
   exact l6 h
  ·cases h
 ·dsimp only
  split at h
  ·rename_i h0
   rw [h0]
   dsimp only
   split at h
   ·rename_i h1
    rw [h1]
    dsimp only
    split at h
    ·rename_i h2
     rw [h2]
     exact nk h
    ·cases h
   ·rename_i h1 h2
    rw [h1,h2]
    exact l6 h
   ·cases h
  ·cases h
 ·dsimp only
  split at h
  ·rename_i h0
   rw [h0]
   dsimp only
   split at h
   ·rename_i h1 h2
    rw [h1,h2]
    dsimp only
    split at h
    ·rename_i h3
     rw [h3]
     exact l6 h
    ·cases h
   ·rename_i h1 h2 h3
    rw [h1,h2,h3]
    exact l6 h
   ·cases h
  ·cases h
 ·cases h
def Bn (ti:TI) (s:TypeId) (i0:Nat):AV->Option AV
 | .one (.c (.ref cs))=>match ti.field s i0 with
  | some (o,t)=>match ti.size t with
   | some (_+1)=>ck (.one (.c (.ref (cs.drop o)))) (o<=cs.length)
   | _=>none
  | none=>none
 | .one (.ptr id off)=>match ti.field s i0 with
  | some (o,t)=>match ti.size t with
   | some (_+1)=>some (.one (.ptr id (off+o)))
   | _=>none
  | none=>none
 | _=>none
theorem LD {ti:TI} {s:TypeId} {i0:Nat} {x v:AV} (h:Bn ti s i0 x=some v):Lu (mK ti s i0 x) v:=by
 unfold Bn at h
 unfold mK
 split at h
 ·dsimp only
  split at h
  ·rename_i h0
   rw [h0]
   dsimp only
   split at h
   ·rename_i h1
    rw [h1]
    exact l6 h
   ·cases h
  ·cases h
 ·dsimp only
  split at h
  ·rename_i h0
   rw [h0]
   dsimp only
   split at h
   ·rename_i h1
    rw [h1]
    exact nk h
   ·cases h
  ·cases h
 ·cases h
def UA (ti:TI) (s:TypeId) (i:Nat):AV->Option AV
 | .agg xs=>match ti.field s i with
  | some (o,t)=>match ti.agg t,ti.size t with
   | some false,_=>match xs[o]? with
    | some x=>some (.one x)
    | none=>none
   | some true,some n=>ck (.agg ((xs.drop o).take n)) (o+n<=xs.length)
   | _,_=>none
  | none=>none
 | _=>none
theorem XH {ti:TI} {s:TypeId} {i:Nat} {x v:AV} (h:UA ti s i x=some v):Lu (yo ti s i x) v:=by
 unfold UA at h
 unfold yo
 split at h
 ·dsimp only
  split at h
  ·rename_i h0
   rw [h0]
   dsimp only
   split at h
   ·rename_i h1
    rw [h1]
    dsimp only
    split at h
    ·rename_i h2
     rw [h2]
     exact nk h
    ·cases h
   ·rename_i h1 h2
    rw [h1,h2]
    exact l6 h
   ·cases h
  ·cases h
 ·cases h
def FD (ti:TI) (L:List Ob) (s:TypeId) (i0 id ver i off:Nat):Option AV :=
 match L[id]?,ti.field s i0 with
 | some (.row ver' _ _),some (o,t)=>match ti.size t with
  | some (_+1)=>ck (.one (.ep id ver i (off+o))) (ver=ver')
  | _=>none
 | _,_=>none
theorem NZ {ti:TI} {L:List Ob} {s:TypeId} {i0 id ver i off:Nat} {v:AV} (h:FD ti L s i0 id ver i off=some v):Lu (iH ti L s i0 id ver i off) v:=by
 unfold FD at h
 unfold iH
 split at h
 ·rename_i h0 h1
  rw [h0,h1]
  dsimp only
  split at h
  ·rename_i h2
   rw [h2]
   exact l6 h
  ·cases h
 ·cases h
def OU (ti:TI) (L:List Ob) (t:TypeId) (id ver n:Nat):Option AV :=
 match L[id]? with
 | some (.row ver' _ _)=>ck (.one (.c (.int .i64 n))) (ver=ver'/\(ti.elem t).isSome=true)
 | _=>none
theorem UT {ti:TI} {L:List Ob} {t:TypeId} {id ver n:Nat} {v:AV} (h:OU ti L t id ver n=some v):Lu (ma ti L t id ver n) v:=by
 unfold OU at h
 unfold ma
 split at h
 ·rename_i h0
  rw [h0]
  exact l6 h
 ·cases h
def ER (ti:TI) (L:List Ob) (t:TypeId) (id ver lo n:Nat) (ix:AV):Option AV :=
 match L[id]?,ix,(ti.elem t).bind ti.size with
 | some (.row ver' _ k'), .one (.c (.int _ i)),some k=>ck (.one (.ep id ver (lo+i.toNat) 0)) ((ver=ver'/\k=k')/\0<=i/\i<n)
 | _,_,_=>none
theorem Ol {ti:TI} {L:List Ob} {t:TypeId} {id ver lo n:Nat} {ix v:AV} (h:ER ti L t id ver lo n ix=some v):Lu (iG ti L t id ver lo n ix) v:=by
 unfold ER at h
 unfold iG
 split at h
 ·rename_i h0 h1
  rw [h0,h1]
  exact l6 h
 ·cases h
def Bl (ti:TI) (t:TypeId) (x ix:AV):Option AV :=
 match fZ x,ix,(ti.elem t).bind ti.size with
 | some es, .one (.c (.int _ i)),some k=>match es[i.toNat]? with
  | some e=>ck (.one (.c (.ref e))) (0<=i/\e.length=k)
  | none=>none
 | _,_,_=>none
theorem Lg {ti:TI} {t:TypeId} {x ix v:AV} (h:Bl ti t x ix=some v):Lu (jZ ti t x ix) v:=by
 unfold Bl at h
 unfold jZ
 split at h
 ·rename_i h0 h1
  rw [h0,h1]
  dsimp only
  split at h
  ·rename_i h2
   rw [h2]
   exact l6 h
  ·cases h
 ·cases h
def indexB (ti:TI) (t:TypeId) (x ix:AV):Option AV :=
 match x,ix with
 | .one (.c (.str s)), .one (.c (.int _ i))=>match s[i.toNat]? with
  | some b=>ck (.one (.c (.int .u8 b.toNat))) (0<=i/\isStr (ti.kind t)=true)
  | none=>none
 | .agg zs, .one (.c (.int _ i))=>match ti.kind t with
  | some (.array n e)=>match ti.agg e,ti.size e with
   | some false,some k=>match zs[i.toNat*k]? with
    | some x=>ck (.one x) (0<=i/\i<(n:Int))
    | none=>none
   | some true,some k=>ck (.agg ((zs.drop (i.toNat*k)).take k)) ((0<=i/\i<(n:Int))/\i.toNat*k+k<=zs.length)
   | _,_=>none
  | _=>none
 | _,_=>none
theorem Yq {ti:TI} {t:TypeId} {x ix v:AV} (h:indexB ti t x ix=some v):Lu (rE ti t x ix) v:=by
 unfold indexB at h
 unfold rE
 split at h
 ·dsimp only
  split at h
  ·rename_i h2
   rw [h2]
   obtain ⟨rfl,h3,h4⟩:=bA h
   exact ⟨_,rfl,h3,mD h4⟩
  ·cases h
 ·dsimp only
  split at h
  ·rename_i hk
   rw [hk]
   dsimp only
   split at h
   ·rename_i ha hs
    rw [ha,hs]
    dsimp only
    split at h
    ·rename_i hx
     rw [hx]
     exact l6 h
    ·cases h
   ·rename_i ha hs
    rw [ha,hs]
    exact l6 h
   ·cases h
  ·cases h
 ·cases h
def sliceB (ti:TI) (L:List Ob) (t:TypeId) (x:AV) (lo hi:Option AV):Option AV :=
 match x with
 | .one (.c (.str s))=>match pQ 0 lo,pQ s.size hi with
  | some l,some h=>ck (.one (.c (.str (s.extract l.toNat h.toNat)))) (0<=l/\l<=h/\h<=s.size/\isStr (ti.kind t)=true)
  | _,_=>none
 | .one (.sl id ver lo0 n)=>match L[id]?,(ti.elem t).bind ti.size with
  | some (.row ver' _ k'),some k=>match pQ 0 lo,pQ n hi with
   | some l,some h=>ck (.one (.sl id ver (lo0+l.toNat) (h.toNat-l.toNat))) (ver=ver'/\k=k'/\0<=l/\l<=h/\h<=n)
   | _,_=>none
  | _,_=>none
 | _=>match fZ x,(ti.elem t).bind ti.size with
  | some es,some k=>match pQ 0 lo,pQ es.length hi with
   | some l,some h=>ck (.one (.c (.lst ((es.take h.toNat).drop l.toNat)))) (0<=l/\l<=h/\h<=es.length/\Gd k es=true)
   | _,_=>none
  | _,_=>none
theorem zP {ti:TI} {L:List Ob} {t:TypeId} {x v:AV} {lo hi:Option AV} (h:sliceB ti L t x lo hi=some v):Lu (iC ti L t x lo hi) v:=by
 unfold sliceB at h
 split at h
 ·unfold iC
  dsimp only
  split at h
  ·rename_i h0 h1
   rw [h0,h1]
   obtain ⟨rfl,h3,h4,h5,h6⟩:=bA h
   exact ⟨_,rfl,h3,h4,h5,mD h6⟩
  ·cases h
 ·unfold iC
  dsimp only
  split at h
  ·rename_i h0 h1
   rw [h0,h1]
   dsimp only
   split at h
   ·rename_i h2 h3
    rw [h2,h3]
    exact l6 h
   ·cases h
  ·cases h
 ·rename_i n1 n2
  unfold iC
  split
  ·rename_i s;exact absurd rfl (n1 s)
  ·rename_i a b c d;exact absurd rfl (n2 a b c d)
  ·split at h
   ·rename_i h0 h1
    rw [h0,h1]
    dsimp only
    split at h
    ·rename_i h2 h3
     rw [h2,h3]
     obtain ⟨rfl,h3,h4,h5,h6⟩:=bA h
     exact ⟨_,rfl,h3,h4,h5,uY h6⟩
    ·cases h
   ·cases h
def aen (ti:TI) (t:TypeId) (x:AV):Option AV :=
 match x with
 | .one (.c (.str s))=>ck (.one (.c (.int .i64 s.size))) (isStr (ti.kind t)=true)
 | _=>match fZ x with
  | some es=>ck (.one (.c (.int .i64 es.length))) ((ti.elem t).isSome=true)
  | none=>none
theorem abC {ti:TI} {t:TypeId} {x v:AV} (h:aen ti t x=some v):Lu (KS ti t x) v:=by
 unfold aen at h
 split at h
 ·obtain ⟨rfl,h1⟩:=bA h
  exact ⟨_,rfl,mD h1⟩
 ·rename_i n1
  unfold KS
  split
  ·rename_i s;exact absurd rfl (n1 s)
  ·split at h
   ·rename_i h0
    rw [h0]
    exact l6 h
   ·cases h
def IU (ti:TI) (t:TypeId):List SV->List (Nat × Option AV)->Option (List SV)
 | zs,[]=>some zs
 | zs,(i,v)::ps=>match v.bind AV.cells,ES ti t i with
  | some xs,some (o,ty)=>match IU ti t (splice zs o xs) ps with
   | some r=>ck r (ti.size ty=some xs.length/\o+xs.length<=zs.length)
   | none=>none
  | _,_=>none
theorem Ny {ti:TI} {t:TypeId} : ∀ {ps:List (Nat × Option AV)} {zs r:List SV}, IU ti t zs ps=some r->Lu (qH ti t zs ps) r
 | [],zs,r,h=>nk h
 | (i,v)::ps,zs,r,h=>by
  unfold IU at h
  unfold qH
  split at h
  ·rename_i h0 h1
   rw [h0,h1]
   dsimp only
   split at h
   ·rename_i r' h2
    obtain ⟨φ,h3,h4⟩:=Ny h2
    rw [h3]
    obtain ⟨rfl,h5⟩:=bA h
    exact ⟨_,rfl,h5,h4⟩
   ·cases h
  ·cases h
def aan (ti:TI) (ρ:Operand->Option AV) (L:List Ob):Op->Option AV
 | .move x=>ρ x
 | .assign x=>ρ x
 | .pick c a b=>match ρ c,ρ a,ρ b with
  | some (.one (.c (.bool t))),some va,some vb=>some (if t=true then va else vb)
  | _,_,_=>none
 | .binOp op t x y _=>match ρ x,ρ y with
  | some va,some vb=>ad5 ti op t va vb
  | _,_=>none
 | .unOp op _ x=>match op,ρ x with
  | .not,some (.one (.c (.bool b)))=>some (.one (.c (.bool !b)))
  | .neg,some (.one (.c (.int k n)))=>some (.one (.c (.int k (k.wrap (0-n)))))
  | _,_=>none
 | .convert src dst x=>match ρ x with
  | some (.one (.c (.int _ n)))=>match ti.kind dst with
   | some (.int k)=>ck (.one (.c (.int k (k.wrap n)))) ((ti.kind src).isSome=true)
   | _=>none
  | some (.one (.c (.str s)))=>ck (.one (.c (.str s))) (isStr (ti.kind dst)=true/\(ti.kind src).isSome=true)
  | _=>none
 | .load t p=>(ρ p).bind (U8 ti L t)
 | .fieldAddr s x i=>match ρ x with
  | some (.one (.ep id ver i0 off))=>FD ti L s i id ver i0 off
  | some vx=>Bn ti s i vx
  | none=>none
 | .field s x i=>(ρ x).bind (UA ti s i)
 | .indexAddr t x ix=>match ρ x,ρ ix with
  | some (.one (.sl id ver lo n)),some vi=>ER ti L t id ver lo n vi
  | some vx,some vi=>Bl ti t vx vi
  | _,_=>none
 | .index t x ix=>match ρ x,ρ ix with
  | some vx,some vi=>indexB ti t vx vi
  | _,_=>none
 | .extract t i=>match ρ t with
  | some (.tup ps)=>match ps[i]? with
   | some p=>some p.av
   | none=>none
  | _=>none
 | .nilCheck x=>match ρ x with
  | some (.one (.c (.ref cs)))=>some (.one (.c (.ref cs)))
  | some (.one (.ptr id off))=>some (.one (.ptr id off))
  | some (.one (.ep id ver i o))=>match L[id]? with
   | some (.row ver' _ _)=>ck (.one (.ep id ver i o)) (ver=ver')
   | _=>none
  | some (.one (.clo f cs))=>some (.one (.clo f cs))
  | some (.one (.c (.fn f cs)))=>some (.one (.c (.fn f cs)))
  | _=>none
 | .slice t x lo hi none=>match ρ x,lo.map ρ,hi.map ρ with
  | some v,none,none=>sliceB ti L t v none none
  | some v,some (some l),none=>sliceB ti L t v (some l) none
  | some v,none,some (some h)=>sliceB ti L t v none (some h)
  | some v,some (some l),some (some h)=>sliceB ti L t v (some l) (some h)
  | _,_,_=>none
 | .call { callee := .builtin .len,args,argTypes } => match args.toList,argTypes.toList with
  | [x],[t]=>match ρ x with
   | some (.one (.sl id ver _ n))=>OU ti L t id ver n
   | some vx=>aen ti t vx
   | none=>none
  | _,_=>none
 | .call { callee := .builtin .min,args, .. } => match args.toList.map ρ with
  | [some (.one (.c (.int k a))),some (.one (.c (.int _ b)))]=>some (.one (.c (.int k (if b<a then b else a))))
  | _=>none
 | .call { callee := .builtin .max,args, .. } => match args.toList.map ρ with
  | [some (.one (.c (.int k a))),some (.one (.c (.int _ b)))]=>some (.one (.c (.int k (if b > a then b else a))))
  | _=>none
 | .build t parts=>match ti.zero t with
  | some (.agg zs)=>((IU ti t zs (parts.toList.map fun p=>(p.1,ρ p.2))).bind fun r=>ck (AV.agg r) (bok ti t=true))
  | _=>none
 | .makeFunc (.func f) first captured=>match first.toList,K9 (captured.toList.map ρ) with
  | [],some cs=>some (.one (.c (.fn f cs)))
  | _,_=>none
 | _=>none
theorem aa4 {ti:TI} {ρ:Operand->Option AV} {L:List Ob} {op:Op} {v:AV} (h:aan ti ρ L op=some v):Lu (pop ti ρ L op) v:=by
 unfold aan at h
 split at h
 ·unfold pop;dsimp only;rw [h];exact ⟨_,rfl,trivial⟩
 ·unfold pop;dsimp only;rw [h];exact ⟨_,rfl,trivial⟩
 ·unfold pop
  dsimp only
  split at h
  ·rename_i h0 h1 h2
   rw [h0,h1,h2]
   exact nk h
  ·cases h
 ·unfold pop
  dsimp only
  split at h
  ·rename_i h0 h1
   rw [h0,h1]
   exact acj h
  ·cases h
 ·unfold pop
  dsimp only
  split at h
  ·rename_i h0
   rw [h0]
   exact nk h
  ·rename_i h0
   rw [h0]
   exact nk h
  ·cases h
 ·unfold pop
  dsimp only
  split at h
  ·rename_i h0
   rw [h0]
   dsimp only
   split at h
   ·rename_i h1
    rw [h1]
    exact l6 h
   ·cases h
  ·rename_i h0
   rw [h0]
   obtain ⟨rfl,h1,h2⟩:=bA h
   exact ⟨_,rfl,mD h1,h2⟩
  ·cases h
 ·rename_i t p
  unfold pop
  dsimp only
  cases hp:ρ p with
  | none=>rw [hp] at h;cases h
  | some x=>rw [hp] at h;exact Qd h
 ·unfold pop
  dsimp only
  split at h
  ·rename_i h0
   rw [h0]
   exact NZ h
  ·rename_i vx hn h0
   rw [h0]
   split
   ·rename_i e;cases e;exact (hn _ _ _ _ rfl).elim
   ·rename_i e;cases e;exact LD h
   ·rename_i e;cases e
  ·cases h
 ·rename_i s x i
  unfold pop
  dsimp only
  cases hp:ρ x with
  | none=>rw [hp] at h;cases h
  | some x=>rw [hp] at h;exact XH h
 ·unfold pop
  dsimp only
  split at h
  ·rename_i h0 h1
   rw [h0,h1]
   exact Ol h
  ·rename_i vx vi hn h0 h1
   rw [h0,h1]
   split
   ·rename_i e1 e2;cases e1;exact (hn _ _ _ _ rfl).elim
   ·rename_i e1 e2;cases e1;cases e2;exact Lg h
   ·rename_i hm;exact (hm _ _ rfl rfl).elim
  ·cases h
 ·unfold pop
  dsimp only
  split at h
  ·rename_i h0 h1
   rw [h0,h1]
   exact Yq h
  ·cases h
 ·unfold pop
  dsimp only
  split at h
  ·rename_i h0
   rw [h0]
   dsimp only
   split at h
   ·rename_i h1
    rw [h1]
    exact nk h
   ·cases h
  ·cases h
 ·unfold pop
  dsimp only
  split at h
  ·rename_i h0;rw [h0];exact nk h
  ·rename_i h0;rw [h0];exact nk h
  ·rename_i h0
   rw [h0]
   dsimp only
   split at h
   ·rename_i h1
    rw [h1]
    exact l6 h
   ·cases h
  ·rename_i h0;rw [h0];exact nk h
  ·rename_i h0;rw [h0];exact nk h
  ·cases h
 ·unfold pop
  dsimp only
  split at h
  ·rename_i h0 h1 h2;rw [h0,h1,h2];exact zP h
  ·rename_i h0 h1 h2;rw [h0,h1,h2];exact zP h
  ·rename_i h0 h1 h2;rw [h0,h1,h2];exact zP h
  ·rename_i h0 h1 h2;rw [h0,h1,h2];exact zP h
  ·cases h
 ·unfold pop
  dsimp only
  split at h
  ·rename_i h0 h1
   rw [h0,h1]
   dsimp only
   split at h
   ·rename_i h2
    rw [h2]
    exact UT h
   ·rename_i vx hn h2
    rw [h2]
    split
    ·rename_i e;cases e;exact (hn _ _ _ _ rfl).elim
    ·rename_i e;cases e;exact abC h
    ·rename_i e;cases e
   ·cases h
  ·cases h
 ·unfold pop
  dsimp only
  split at h
  ·rename_i h0
   rw [h0]
   exact nk h
  ·cases h
 ·unfold pop
  dsimp only
  split at h
  ·rename_i h0
   rw [h0]
   exact nk h
  ·cases h
 ·rename_i t parts
  unfold pop
  dsimp only
  split at h
  ·rename_i zs h0
   rw [h0]
   dsimp only
   cases hb:IU ti t zs (parts.toList.map fun p=>(p.1,ρ p.2)) with
   | none=>rw [hb] at h;cases h
   | some r =>
    rw [hb] at h
    obtain ⟨rfl,h1⟩:=bA h
    obtain ⟨φ,h2,h3⟩:=Ny hb
    rw [h2]
    exact ⟨_,rfl,h1,h3⟩
  ·cases h
 ·unfold pop
  dsimp only
  split at h
  ·rename_i h0 h1
   rw [h0,h1]
   exact nk h
  ·cases h
 ·cases h
def JS (ρ:Operand->Option AV):List (Nat × Operand)->Nat->Option (List (List SV))
 | [],_=>some []
 | (i,x)::ps,j=>match decide (i=j),(ρ x).bind AV.cells,JS ρ ps (j+1) with
  | true,some p,some es=>some (p::es)
  | _,_,_=>none
section
variable {P:Program} {ti:TI} {B:Nat->Prop} {R:PH} {γ:List Gh} {L:List Ob} {w:World} {ρ:Operand->Option AV}
theorem JA {ev:Operand->Value} : ∀ (ps:List (Nat × Operand)) (hρ : ∀ p∈ps, ∀ v,ρ p.2=some v->v.rep R γ L (ev p.2)) (j:Nat) (es:List (List SV)),JS ρ ps j=some es ->
  ∃ vs:List Value,(ps.map fun p=>(p.1,ev p.2))=(vs.zipIdx j).map (fun x=>(x.2,x.1))/\vs.length=es.length /\
   (∀ (i:Nat) v e,vs[i]?=some v->es[i]?=some e->LQ R γ L e v.cells)
 | [],hρ,j,es,h=>by injection h with h;subst h;exact ⟨[],rfl,rfl,fun i v e hv=>by simp at hv⟩
 | (i,x)::ps,hρ,j,es,h=>by
  unfold JS at h
  split at h
  ·rename_i p es' hij hp hes
   obtain rfl:=ahm hij
   injection h with h;subst h
   obtain ⟨vs,h1,h2,h3⟩:=JA ps (fun p hp=>hρ p (ahh _ hp)) (i+1) es' hes
   cases hx:ρ x with
   | none=>simp [hx] at hp
   | some vx =>
    simp only [hx,agU] at hp
    have hr:=cells_rep (hρ (i,x) (ahG ..) _ hx) hp
    refine ⟨ev x::vs,by simp [List.zipIdx_cons,h1],by simp [h2],fun q v e hv he=>?_⟩
    cases q with
    | zero=>simp at hv he;subst hv he;exact hr
    | succ q=>exact h3 q v e (by simpa using hv) (by simpa using he)
  ·cases h
theorem TN (hti:TIok P ti) {t:TypeId} {E k len:Nat} {parts:Array (Nat × Operand)} {es:List (List SV)} (ht:ti.elem t=some E) (hE:E<65536) (hk:ti.size E=some k) (hzk:ti.zok E=true) (hes:JS ρ parts.toList 0=some es) (hlen:es.length=len) (h0:0<len) (hek : ∀ e∈es,e.length=k) (hk0:0<k) (hsm:len*k<=16777216) :
  xQ P ρ L (.buildSlice t len parts) (.one (.sl L.length (E+65536) 0 len)) (L++[.row (E+65536) es k]):=by
 intro B R γ w ev o ho hi hρ hfv
 obtain ⟨dst,op,type,pos,after,guard⟩:=o
 simp only at ho;subst ho
 have hk:=hti.size _ _ hk
 have hu:=qA hti ht
 obtain ⟨vs,e1,e2,e3⟩:=JA (ev:=ev) parts.toList (fun p hp v hv=>hρ p.2 (by simp only [Op.operands,List.mem_toArray,aht];exact ⟨p,hp,rfl⟩) v hv) _ _ hes
 have hparts:(parts.map fun p=>(p.1,ev p.2)).toList=(vs.zipIdx 0).map fun x=>(x.2,x.1):=by rw [Array.toList_map,e1]
 obtain ⟨i,z,hi1,hi2,hi3,hi4⟩:=hti.zok _ hzk _ hk
 have hcs : ∀ v∈vs,v.cells.size=k:=by
  intro v hv
  obtain ⟨q,hq⟩:=List.mem_iff_getElem?.1 hv
  have hlt:q<es.length:=by rw [<- e2];exact (agV.1 hq).1
  have he:es[q]?=some es[q]:=ag4 hlt
  rw [(e3 q v _ hq he).1]
  exact hek _ (List.getElem_mem hlt)
 have hne : ¬ len*i.size=0:=by
  rw [hi3]
  intro e
  rcases Nat.mul_eq_zero.1 e with e|e<;>omega
 have hrun:=run_buildSlice (P:=P) w t E len (parts.map fun p=>(p.1,ev p.2)) (vs.flatMap fun v=>v.cells.toList).toArray i z hu hi1 hi2 (by rw [hi3];omega) hne (by
  rw [hparts,hi3]
  exact Go.Great.fill_whole hk0 vs _ hcs (by simp;rw [e2,hlen]))
 have hm:Mv R R γ (γ++[.arr w.heap.size len]) L (L++[.row (E+65536) es k]):=Mv.push _ _ hi.len
 refine ⟨_,R,_, .inl ⟨.slice (some ⟨w.heap.size,0,none⟩) len len,by simp only [execOp,Sem.run_bind];rw [hrun];rfl,⟨rfl,rfl⟩,by simp,fun ver2 es2 k2 e2'=>?_⟩,?_,⟨Kept.alloc hi.bsz _,PH.sub_refl _,fun _ _ _=>rfl⟩,hm⟩
 ·rw [ag2 (by omega)] at e2'
  simp at e2'
  obtain ⟨q1,q2,q3⟩:=e2'
  subst q1 q2 q3
  exact ⟨ag' _,fun _=>⟨by omega, .arr w.heap.size len,by rw [<- hi.len];simp, .inl (by simp)⟩⟩
 ·have hsz:(vs.flatMap fun v=>v.cells.toList).toArray.size=len*k:=by rw [List.size_toArray,Ju k vs hcs,e2,hlen]
  refine hi.push _ _ _ rfl ⟨⟨_,E,⟨ib w _,by show (E:Nat)=(E+65536)%65536;omega,by omega⟩,hsz,fun q e j u x he hu hx=>?_⟩,by omega,hk0,hek,fun o=>hi.none_at o⟩
  have hqlt:q<vs.length:=by rw [e2];exact (agV.1 he).1
  have hv:vs[q]?=some vs[q]:=ag4 hqlt
  have hjk:j<k:=by rw [<- hek e (ag1 he)];exact (agV.1 hx).1
  have h3:=e3 q _ e hv he
  rw [List.getElem?_toArray,flat_get k vs hcs q _ hv j hjk] at hu
  exact SV.mv hm (h3.2 j u x hu hx)
end
section
variable {P:Program} {ti:TI} {ρ:Operand->Option AV} {L:List Ob}
theorem Lm (z:Array Value) (n i:Nat) (h:i<n):(madeCells z n)[i]?=some z[i%z.size]! := by
 simp [madeCells,h]
theorem FB (hti:TIok P ti) {l c:Operand} {t:TypeId} {E k by_:Nat} {m:Int} {kl kc:IntKind} {zs:List SV} {zv:AV} (hl:ρ l=some (.one (.c (.int kl m)))) (hc:ρ c=some (.one (.c (.int kc m)))) (ht:ti.elem t=some E) (hE:E<65536) (hsz:ti.size E=some k) (hzo:ti.zok E=true) (hzv:ti.zero E=some zv) (hcz:zv.cells=some zs) (hby:ti.bytes E=some by_)
  (hk:0<k) (h0:0<=m) (hb1:(by_:Int)*m<=281474976710656) (hb2:m<=9223372036854775807) :
  xQ P ρ L (.makeSlice t l c) (.one (.sl L.length (E+65536) 0 m.toNat)) (L++[.row (E+65536) (List.replicate m.toNat zs) k]):=by
 intro B R γ w ev o ho hi hρ hfv
 obtain ⟨dst,op,type,pos,after,guard⟩:=o
 simp only at ho;subst ho
 obtain ⟨inf,z,hinf,hzz,hisz,hzc⟩:=hti.zok _ hzo _ (hti.size _ _ hsz)
 have hbytes:inf.bytes=by_:=by have hby':=hti.bytes _ _ hby;unfold uf at hby';rw [hinf] at hby';simpa using hby'
 have hzo':AV.ofVal z=some zv:=by have:=hti.zero _ _ hzv;unfold zeroOf at this;rw [hinf] at this;simpa [hzz] using this
 have hlv:=(hρ _ (by simp [Op.operands,Call.operands]) _ hl)
 have hcv:=(hρ _ (by simp [Op.operands,Call.operands]) _ hc)
 generalize hle:ev l=lv at hlv
 generalize hce:ev c=cv at hcv
 cases hlv;cases hcv
 have hrun:=run_make (P:=P) w t E inf z (qA hti ht) hinf hzz kl kc m m h0 (Int.le_refl _) (by rw [hbytes];exact hb1) hb2
 have hm:Mv R R γ (γ++[.arr w.heap.size m.toNat]) L (L++[.row (E+65536) (List.replicate m.toNat zs) k]):=Mv.push _ _ hi.len
 have hcr:=cells_rep (R:=R) (γ:=γ++[.arr w.heap.size m.toNat]) (L:=L++[.row (E+65536) (List.replicate m.toNat zs) k]) (AV.ofVal_rep hzo') hcz
 have hzl:zs.length=k:=by have:=hcr.1;rw [hzc] at this;omega
 refine ⟨w.alloc (.cells (madeCells z.cells (m.toNat*inf.size)) E),R,_, .inl ⟨.slice (some ⟨w.heap.size,0,none⟩) m.toNat m.toNat,by simp [execOp,hle,hce,hrun],⟨rfl,rfl⟩,by simp,fun ver2 es2 k2 e2=>?_⟩,?_,⟨Kept.alloc hi.bsz _,PH.sub_refl _,fun _ _ _=>rfl⟩,hm⟩
 ·rw [ag2 (by omega)] at e2
  simp at e2
  obtain ⟨q1,q2,q3⟩:=e2
  subst q1 q2 q3
  refine ⟨ag' _,fun _=>⟨by simp, .arr w.heap.size m.toNat,by rw [<- hi.len];simp, .inl ?_⟩⟩
  simp
 ·refine hi.push _ _ _ rfl ⟨⟨_,E,⟨ib w _,by show (E:Nat)=(E+65536)%65536;omega,by show 65536<=(E:Nat)+65536;omega⟩,by rw [size_madeCells,hisz],fun i e j u x he hu hx=>?_⟩,by simp,hk,fun e he=>?_,fun o=>hi.none_at o⟩
  ·rw [List.getElem?_replicate] at he
   split at he
   ·rename_i him
    obtain rfl:=ahq he
    have hj:j<k:=by rw [<- hzl];exact (agV.1 hx).1
    have hlt:i*k+j<m.toNat*inf.size:=by rw [hisz];exact xE him hj
    rw [Lm _ _ _ hlt,hzc,Nat.add_comm,Nat.add_mul_mod_self_right,Nat.mod_eq_of_lt hj] at hu
    have hj2:j<z.cells.size:=by rw [hzc];exact hj
    refine hcr.2 j u x ?_ hx
    rw [<- hu,ahi hj2,getElem!_pos z.cells j hj2]
   ·cases he
  ·rw [List.eq_of_mem_replicate he];exact hzl
end
def ab_ (ti:TI) (ρ:Operand->Option AV):Op->Option AV
 | .buildSlice t len parts=>match tC ρ parts.toList 0,ti.elem t with
  | some es,some E=>match ti.size E with
   | some k=>match len with
    | 0=>ck (.one .emp) (es.isEmpty=true)
    | n+1=>ck (.one (.c (.lst es))) (es.length=n+1/\Gd k es=true/\0<k/\(n+1)*k<=16777216/\ti.zok E=true)
   | none=>none
  | _,_=>none
 | _=>none
theorem U4 {ti:TI} {ρ:Operand->Option AV} {op:Op} {v:AV} (h:ab_ ti ρ op=some v):Lu (AQ ti ρ op) v:=by
 unfold ab_ at h
 split at h
 ·rename_i t len parts
  show Lu (Fj ti ρ t len parts.toList) v
  unfold Fj
  split at h
  ·rename_i h0 h1
   rw [h0,h1]
   dsimp only
   split at h
   ·rename_i h2
    rw [h2]
    dsimp only
    split at h
    ·obtain ⟨rfl,h3⟩:=bA h
     rw [if_pos rfl]
     exact ⟨_,rfl,List.isEmpty_iff.1 h3⟩
    ·obtain ⟨rfl,h3,h4,h5,h6,h7⟩:=bA h
     rw [if_neg (Nat.succ_ne_zero _)]
     exact ⟨_,rfl,h3,uY h4,h5,h6,h7⟩
   ·cases h
  ·cases h
 ·cases h
def adC (ti:TI) (L:List Ob) (t tx:TypeId) (s x:AV):Option (AV × List Ob) :=
 match fZ x,ti.elem t with
 | some xs,some E=>match ti.size E,ti.bytes E with
  | some k,some by_=>match s with
   | .one .emp=>ck (.one (.own xs L.length),L++[.spare xs.length k]) ((ti.elem tx).isSome=true/\0<k/\ti.zok E=true/\Gd k xs=true/\xs.length*by_<=140737488355328/\xs.length<=140737488355328)
   | .one (.own es i)=>match L[i]? with
    | some (.spare n k')=>ck (.one (.own (es++xs) i),L.set i (.spare (n+xs.length) k)) ((ti.elem tx).isSome=true/\k'=k/\es.length=n/\(ti.zok E=true/\0<k)/\Gd k xs=true/\(n+xs.length)*by_<=140737488355328/\n+xs.length<=140737488355328)
    | _=>none
   | _=>none
  | _,_=>none
 | _,_=>none
def afO {α β:Type} (f:Option (α × β × Prop)) (a:α) (b:β):Prop := ∃ φ,f=some (a,b,φ)/\φ
theorem acO {ti:TI} {L L':List Ob} {t tx:TypeId} {s x v:AV} (h:adC ti L t tx s x=some (v,L')):afO (Bw ti L t tx s x) v L':=by
 unfold adC at h
 unfold Bw
 split at h
 ·rename_i h0 h1
  rw [h0,h1]
  dsimp only
  split at h
  ·rename_i h2 h3
   rw [h2,h3]
   dsimp only
   split at h
   ·obtain ⟨e,h4,h5,h6,h7,h8⟩:=bA h
    cases e
    exact ⟨_,rfl,h4,h5,h6,uY h7,h8⟩
   ·dsimp only
    split at h
    ·rename_i h4
     rw [h4]
     obtain ⟨e,h5,h6,h7,h8,h9,h10⟩:=bA h
     cases e
     exact ⟨_,rfl,h5,h6,h7,h8,uY h9,h10⟩
    ·cases h
   ·cases h
  ·cases h
 ·cases h
def acK (ti:TI) (ρ:Operand->Option AV) (L:List Ob):Op->Option (AV × List Ob)
 | .alloc E=>match (ti.zero E).bind AV.cells with
  | some zs=>some (.one (.ptr L.length 0),L++[.box zs])
  | none=>none
 | .box _ x=>match (ρ x).bind AV.cells with
  | some xs=>some (.one (.ptr L.length 0),L++[.box xs])
  | none=>none
 | .store t p x=>match ρ p,(ρ x).bind AV.cells with
  | some (.one (.ptr id off)),some xs=>match L[id]? with
   | some (.box cs)=>ck (.undef,L.set id (.box (splice cs off xs))) (off+xs.length<=cs.length/\ti.size t=some xs.length)
   | _=>none
  | some (.one (.ep id ver i o)),some xs=>match L[id]? with
   | some (.row ver' es k)=>match es[i]? with
    | some e=>ck (.undef,L.set id (.row ver' (es.set i (splice e o xs)) k)) (ver=ver'/\o+xs.length<=e.length/\ti.size t=some xs.length)
    | none=>none
   | _=>none
  | _,_=>none
 | .call { callee := .builtin .append,args,argTypes } => match args.toList,argTypes.toList with
  | [s,x],[t,tx]=>match ρ s,ρ x with
   | some vs,some vx=>adC ti L t tx vs vx
   | _,_=>none
  | _,_=>none
 | _=>none
theorem V_ {ti:TI} {ρ:Operand->Option AV} {L L':List Ob} {op:Op} {v:AV} (h:acK ti ρ L op=some (v,L')):afO (He ti ρ L op) v L':=by
 unfold acK at h
 split at h
 ·unfold He
  dsimp only
  split at h
  ·rename_i h0
   rw [h0];cases h;exact ⟨_,rfl,trivial⟩
  ·cases h
 ·unfold He
  dsimp only
  split at h
  ·rename_i h0
   rw [h0];cases h;exact ⟨_,rfl,trivial⟩
  ·cases h
 ·unfold He
  dsimp only
  split at h
  ·rename_i h0 h1
   rw [h0,h1]
   dsimp only
   split at h
   ·rename_i h2
    rw [h2]
    obtain ⟨e,h3⟩:=bA h
    cases e
    exact ⟨_,rfl,h3⟩
   ·cases h
  ·rename_i h0 h1
   rw [h0,h1]
   dsimp only
   split at h
   ·rename_i h2
    rw [h2]
    dsimp only
    split at h
    ·rename_i h3
     rw [h3]
     obtain ⟨e,h4⟩:=bA h
     cases e
     exact ⟨_,rfl,h4⟩
    ·cases h
   ·cases h
  ·cases h
 ·unfold He
  dsimp only
  split at h
  ·rename_i h0 h1
   rw [h0,h1]
   dsimp only
   split at h
   ·rename_i h2 h3
    rw [h2,h3]
    exact acO h
   ·cases h
  ·cases h
 ·cases h
def rf:List (AC × AV)->Bool
 | []=>true
 | p::kvs=>match p.1 with
  | .str _=>rf kvs
  | _=>false
theorem oV : ∀ {kvs:List (AC × AV)}, rf kvs=true->strKeys kvs
 | [],_,p,hp=>by cases hp
 | q::kvs,h,p,hp=>by
  unfold rf at h
  split at h
  ·rename_i s hs
   rcases aha.1 hp with rfl|hp
   ·exact ⟨s,hs⟩
   ·exact oV h p hp
  ·cases h
def Zk:Option TypeDesc->Option (TypeId × TypeId)
 | some (.map k e)=>some (k,e)
 | _=>none
theorem OY {d:Option TypeDesc} {k e:TypeId} (h:Zk d=some (k,e)):d=some (.map k e):=by
 unfold Zk at h
 split at h
 ·cases h;rfl
 ·cases h
def QL:Option TypeDesc->Option TypeId
 | some (.pointer e)=>some e
 | _=>none
theorem z_ {d:Option TypeDesc} {e:TypeId} (h:QL d=some e):d=some (.pointer e):=by
 unfold QL at h
 split at h
 ·cases h;rfl
 ·cases h
def adW:Option TypeDesc->Option TypeId
 | some (.slice e)=>some e
 | _=>none
theorem acs {d:Option TypeDesc} {e:TypeId} (h:adW d=some e):d=some (.slice e):=by
 unfold adW at h
 split at h
 ·cases h;rfl
 ·cases h
def Vr:Option TypeDesc->Bool
 | some .unsafePointer=>true
 | _=>false
theorem RB {d:Option TypeDesc} (h:Vr d=true):d=some .unsafePointer:=by
 unfold Vr at h
 split at h
 ·rfl
 ·cases h
def acr (ti:TI) (L:List Ob) (k:Nat) (tx:TypeId):AV->Bool
 | .one (.c (.str _))=>decide (k=1)&&isStr (ti.kind tx)
 | .one (.sl id ver lo n)=>(ti.elem tx).isSome&&(match L[id]? with
  | some (.row ver' es k')=>decide (ver=ver')&&(decide (k=k')&&decide (lo+n<=es.length))
  | _=>false)
 | x=>(ti.elem tx).isSome&&(match fZ x with
  | some es=>Gd k es
  | none=>false)
theorem V4 {ti:TI} {L:List Ob} {k:Nat} {tx:TypeId} {x:AV} (h:acr ti L k tx x=true):KP ti L k tx x:=by
 unfold acr at h
 split at h
 ·rw [ahb] at h
  exact ⟨ahm h.1,mD h.2⟩
 ·rw [ahb] at h
  obtain ⟨h1,h2⟩:=h
  split at h2
  ·rename_i h3
   rw [ahb,ahb] at h2
   obtain ⟨h4,h5,h6⟩:=h2
   obtain rfl:=ahm h4
   obtain rfl:=ahm h5
   exact ⟨h1,_,h3,ahm h6⟩
  ·cases h2
 ·rename_i n1 n2
  rw [ahb] at h
  obtain ⟨h1,h2⟩:=h
  unfold KP
  split
  ·rename_i s;exact absurd rfl (n1 s)
  ·rename_i a b c d;exact absurd rfl (n2 a b c d)
  ·split at h2
   ·rename_i h3;exact ⟨h1,_,h3,uY h2⟩
   ·cases h2
def bytesOf:List (List SV)->Option (List UInt8)
 | []=>some []
 | [.c (.int .u8 n)]::es=>match bytesOf es with
  | some bs=>if n=(UInt8.ofNat n.toNat).toNat then some (UInt8.ofNat n.toNat::bs) else none
  | none=>none
 | _=>none
theorem JC : ∀ {es:List (List SV)} {bs:List UInt8}, bytesOf es=some bs->es=bs.map fun b=>[.c (.int .u8 b.toNat)]
 | [],bs,h=>by cases h;rfl
 | e::es,bs,h=>by
  unfold bytesOf at h
  split at h
  ·rename_i e1;cases e1
  ·rename_i n es' e1
   cases e1
   split at h
   ·rename_i bs' h1
    split at h
    ·rename_i h2
     cases h
     rw [ag6, <- JC h1, <- h2]
    ·cases h
   ·cases h
  ·cases h
def PP (k:Nat):List (List SV)->Bool
 | []=>true
 | e::es=>Nat.beq e.length k&&PP k es
theorem M7 {k:Nat} : ∀ {es:List (List SV)}, PP k es=true -> ∀ e∈es,e.length=k
 | [],_,e,he=>by cases he
 | x::es,h,e,he=>by
  rw [PP,ahb] at h
  rcases aha.1 he with rfl|he
  ·exact Nat.eq_of_beq_eq_true h.1
  ·exact M7 h.2 e he
def xS (a b:ByteArray):Int:=Extern.BytealgCompare.cmp a b
theorem Tk {P : Program} {ρ : Operand -> Option AV} {L : List Ob} {f : FuncId} {fn : Func} {x y : Operand} {ts : Array TypeId} {a b : ByteArray} (hx : ρ x = some (.one (.c (.str a)))) (hy : ρ y = some (.one (.c (.str b)))) (hf : P.funcs[f]? = some fn) (hname : (fn.name == "runtime.NumGoroutine") = false)
  (hb:fn.body.isNone=true) (hn:Extern.findNext fn=none) (he:Extern.find fn=some Extern.BytealgCompare.compare) :
  xQ P ρ L (.call { callee := .value (.func f),args := #[x,y],argTypes:=ts }) (.one (.c (.int .i64 (xS a b)))) L:=by
 intro B R γ w ev o ho hi hρ hfv
 obtain ⟨dst,op,type,pos,after,guard⟩:=o
 simp only at ho;subst ho
 have h1:=hρ x (by simp [Op.operands,Call.operands]) _ hx
 have h2:=hρ y (by simp [Op.operands,Call.operands]) _ hy
 generalize hex:ev x=ux at h1
 generalize hey:ev y=uy at h2
 cases h1;cases h2
 refine ⟨w,R,γ, .inl ⟨.int .i64 (xS a b),?_, .int _ _⟩,hi,Ext.refl _ _ _,Mv.refl⟩
 have:=run_callFunc_extern hf hname hb hn he #[.string a, .string b] w
 have h3:(Extern.BytealgCompare.compare #[.string a, .string b]).run P w = .ok (.int .i64 (xS a b)) w:=rfl
 rw [h3] at this
 simp [execOp,resolve,Deferred.ofValue,hfv.1,hex,hey,invoke,this,Result.andThen]
structure SN where
 noEsc:FuncId
 cmpS:FuncId
def R9 (P:Program) (ti:TI) (xs:SN) (rowB:Bool) (ρ:Operand->Option AV) (L:List Ob):Op->Option (AV × List Ob)
 | .makeMap _ none=>some (.one (.mp L.length),L++[.map []])
 | .buildSlice t len parts=>match JS ρ parts.toList 0,ti.elem t with
  | some es,some E=>match ti.size E with
   | some k=>ck (.one (.sl L.length (E+65536) 0 len),L++[.row (E+65536) es k]) (rowB=true/\E<65536/\ti.zok E=true/\es.length=len/\0<len/\PP k es=true/\0<k/\len*k<=16777216)
   | none=>none
  | _,_=>none
 | .lookup t x k ok=>match ρ x,ρ k,Zk (ti.kind t) with
  | some (.one (.mp id)),some (.one (.c (.str s))),some (kt,et)=>match L[id]?,ti.zero et with
   | some (.map kvs),some z=>match ok with
    | false=>ck (vK kvs s z,L) (rf kvs=true/\isStr (ti.kind kt)=true)
    | true=>match (vK kvs s z).norm with
     | some p=>ck (.tup [p, .one (.bool (AA s kvs).isSome)],L) (rf kvs=true/\isStr (ti.kind kt)=true)
     | none=>none
   | _,_=>none
  | _,_,_=>none
 | .mapUpdate t x k y=>match ρ x,ρ k,ρ y,Zk (ti.kind t) with
  | some (.one (.mp id)),some (.one (.c (.str s))),some v,some (kt,_)=>match L[id]? with
   | some (.map kvs)=>ck (.undef,L.set id (.map (La kvs s v))) (rf kvs=true/\isStr (ti.kind kt)=true)
   | _=>none
  | _,_,_,_=>none
 | .mapEntry t x k=>match ρ x,ρ k,Zk (ti.kind t) with
  | some (.one (.mp id)),some (.one (.c (.str s))),some (kt,et)=>match L[id]?,ti.zero et with
   | some (.map kvs),some z=>match (vK kvs s z).norm with
    | some p=>ck (.tup [p, .one (.int .i64 (Pb kvs s))],L.set id (.map (La kvs s (vK kvs s z)))) (rf kvs=true/\isStr (ti.kind kt)=true)
    | none=>none
   | _,_=>none
  | _,_,_=>none
 | .entryStore _ x k y=>match ρ x,ρ k,ρ y with
  | some (.one (.mp id)),some (.one (.c (.int .i64 i))),some v=>match L[id]? with
   | some (.map kvs)=>match kvs[i.toNat]? with
    | some q=>ck (.undef,L.set id (.map (kvs.set i.toNat (q.1,v)))) (0<=i)
    | none=>none
   | _=>none
  | _,_,_=>none
 | .makeFunc (.func f) first captured=>match first.toList,Ed ρ captured.toList with
  | [],some caps=>some (.one (.clo f caps),L)
  | _,_=>none
 | .call { callee := .builtin .append,args,argTypes } => match args.toList,argTypes.toList with
  | [s,x],[t,tx]=>match ρ s,ρ x,ti.elem t with
   | some (.one (.sl id ver 0 n)),some vx,some E=>match L[id]?,Qp L vx,ti.size E,ti.bytes E with
    | some (.row ver' es k'),some xs,some k,some by_=>ck (.one (.sl id (ver+65536) 0 (n+xs.length)),L.set id (.row (ver+65536) (es++xs) k)) ((ver'=ver/\k'=k/\acr ti L k tx vx=true/\ver%65536=E)/\ti.zok E=true/\0<k/\es.length=n/\(n+xs.length)*by_<=140737488355328/\n+xs.length<=140737488355328)
    | _,_,_,_=>none
   | some (.one .emp),some vx,some E=>match Qp L vx,ti.size E,ti.bytes E with
    | some xs,some k,some by_=>ck (.one (.sl L.length (E+65536) 0 xs.length),L++[.row (E+65536) xs k]) ((rowB=true/\acr ti L k tx vx=true/\E<65536)/\ti.zok E=true/\0<k/\0<xs.length/\xs.length*by_<=140737488355328/\xs.length<=140737488355328)
    | _,_,_=>none
   | _,_,_=>none
  | _,_=>none
 | .makeSlice t l c=>match ρ l,ρ c,ti.elem t with
  | some (.one (.c (.int _ l))),some (.one (.c (.int _ m))),some E=>match ti.size E,ti.bytes E with
   | some k,some by_=>match rowB with
    | true=>match decide (l=0),(ti.zero E).bind AV.cells with
     | true,_=>ck (.one (.sl L.length (E+65536) 0 0),L++[.row (E+65536) [] k]) ((l=0/\E<65536)/\ti.zok E=true/\0<k/\0<=m/\(by_:Int)*m<=281474976710656/\m<=9223372036854775807)
     | false,some zs=>ck (.one (.sl L.length (E+65536) 0 m.toNat),L++[.row (E+65536) (List.replicate m.toNat zs) k]) ((l=m/\E<65536)/\ti.zok E=true/\0<k/\0<=m/\(by_:Int)*m<=281474976710656/\m<=9223372036854775807)
     | false,none=>none
    | false=>ck (.one (.own [] L.length),L++[.spare 0 k]) (l=0/\ti.zok E=true/\0<k/\0<=m/\(by_:Int)*m<=281474976710656/\m<=9223372036854775807)
   | _,_=>none
  | _,_,_=>none
 | .alloc E=>match P.info? E,ti.field E 1 with
  | some inf,some (1,ts)=>match inf.zero,ti.elem ts with
   | some (.agg vs),some Eb=>match vs.toList,ti.size Eb with
    | [.pointer none, .slice none 0 0],some k=>ck (.one (.ep L.length (E+65536) 0 0),L++[.row (E+65536) [[.c (.nul .ptr), .sl (L.length+1) Eb 0 0]] 2, .row Eb [] k]) (rowB=true/\E<65536/\Eb<65536/\0<k)
    | _,_=>none
   | _,_=>none
  | _,_=>none
 | .convert s d x=>match ρ x with
  | some (.one (.ep id ver 0 0))=>match L[id]? with
   | some (.row ver' es k)=>match QL (ti.kind s),Vr (ti.kind d),QL (ti.kind d),Vr (ti.kind s) with
    | some t,true,_,_=>match ti.size t with
     | some (_+1)=>ck (.one (.ep id ver 0 0),L) (ver'=ver)
     | _=>none
    | _,_,some t,true=>ck (.one (.ep id ver 0 0),L) (ver'=ver/\(ti.size t).isSome=true/\P.cellsOf t=k/\ver%65536=t)
    | _,_,_,_=>none
   | _=>none
  | _=>none
 | .binOp op t x y _=>match op,ρ x with
  | .eql,some (.one (.c (.nul .ptr)))=>match ρ y,QL (ti.kind t) with
   | some (.one (.c (.nul .ptr))),some _=>some (.one (.c (.bool true)),L)
   | _,_=>none
  | .eql,some (.one (.ep id ver i off))=>match ρ y,QL (ti.kind t),L[id]? with
   | some (.one (.c (.nul .ptr))),some _,some (.row ver' es k)=>ck (.one (.c (.bool false)),L) (ver'=ver)
   | _,_,_=>none
  | .neq,some (.one (.ep id ver i off))=>match ρ y,QL (ti.kind t),L[id]? with
   | some (.one (.ep id2 ver2 i2 off2)),some te,some (.row ver' es k)=>ck (.one (.c (.bool false)),L) (ver'=ver/\id2=id/\ver2=ver/\i2=i/\off2=off/\(ti.size te).isSome=true)
   | _,_,_=>none
  | .eql,some vx=>match fZ vx,y,adW (ti.kind t) with
   | some (_::_), .const (.slice none 0 0),some _=>some (.one (.c (.bool false)),L)
   | _,_,_=>none
  | _,_=>none
 | .call { callee := .builtin .unsafeSliceData,args, .. } => match args.toList with
  | [x]=>match ρ x with
   | some (.one (.sl id ver 0 (n+1)))=>match L[id]? with
    | some (.row ver' _ _)=>ck (.one (.ep id ver 0 0),L) (ver'=ver)
    | _=>none
   | some (.one (.sl id ver 0 0))=>match L[id]? with
    | some (.row ver' [] _)=>ck (.one (.c (.nul .ptr)),L) (ver'=ver/\ver<65536)
    | _=>none
   | _=>none
  | _=>none
 | .call { callee := .builtin .unsafeString,args,argTypes } => match args.toList,argTypes.toList with
  | [x,y],[pt,_]=>match ρ x,ρ y with
   | some (.one (.c (.nul .ptr))),some (.one (.c (.int .i64 n)))=>ck (.one (.c (.str .empty)),L) (n=0)
   | some (.one (.ep id ver 0 0)),some (.one (.c (.int .i64 n)))=>match L[id]?,QL (ti.kind pt) with
    | some (.row ver' es 1),some E=>match bytesOf es with
     | some bs=>ck (.one (.c (.str ⟨bs.toArray⟩)),L.set id .dead) ((ver'=ver/\n=bs.length)/\ver%65536=E/\P.cellsOf E=1/\0<bs.length/\bs.length<=9223372036854775807)
     | none=>none
    | _,_=>none
   | _,_=>none
  | _,_=>none
 | .call { callee := .value (.func f),args, .. } => match args.toList with
  | [x]=>match ρ x with
   | some v=>ck (v,L) (f=xs.noEsc)
   | none=>none
  | [x,y]=>match ρ x,ρ y with
   | some (.one (.c (.str a))),some (.one (.c (.str b)))=>ck (.one (.c (.int .i64 (xS a b))),L) (f=xs.cmpS)
   | _,_=>none
  | _=>none
 | _=>none
def ZN (P : Program) (f : FuncId) : Prop := ∃ fn, P.funcs[f]? = some fn /\ (fn.name == "runtime.NumGoroutine") = false /\ fn.body.isNone = true /\ Extern.findNext fn = none /\ Extern.find fn = some Extern.AbiNoEscape.same
def adu (P : Program) (f : FuncId) : Prop := ∃ fn, P.funcs[f]? = some fn /\ (fn.name == "runtime.NumGoroutine") = false /\ fn.body.isNone = true /\ Extern.findNext fn = none /\ Extern.find fn = some Extern.BytealgCompare.compare
structure ET (P:Program) (xs:SN):Prop where
 noEsc:ZN P xs.noEsc
 cmpS:adu P xs.cmpS
theorem BN {P:Program} {t:TypeId} {n:Nat} (h:jc P t=some n) : ∃ j,P.info? t=some j/\j.size=n:=by
 unfold jc at h
 exact map_some h
theorem ZW {P:Program} {ti:TI} {xs:SN} {rowB:Bool} {ρ:Operand->Option AV} {L L':List Ob} {op:Op} {v:AV} (hti:TIok P ti) (hne:ET P xs) (h:R9 P ti xs rowB ρ L op=some (v,L')):xQ P ρ L op v L':=by
 unfold R9 at h
 split at h
 ·cases h;exact Gq
 ·split at h
  ·rename_i es E hes hE
   split at h
   ·rename_i k hk
    obtain ⟨e,h1,h2,h3,h4,h5,h6,h7,h8⟩:=bA h
    cases e
    exact TN hti hE h2 hk h3 hes h4 h5 (M7 h6) h7 h8
   ·cases h
  ·cases h
 ·split at h
  ·rename_i id s kt et hx hk hm
   have ht:=hti.kind _ _ (OY hm)
   split at h
   ·rename_i kvs z hL hz
    have hz:=hti.zero _ _ hz
    split at h
    ·obtain ⟨e,h1,h2⟩:=bA h
     cases e
     exact TM hx hk hL (oV h1) ht (hti.kind _ _ (mD h2)) hz
    ·split at h
     ·rename_i p hp
      obtain ⟨e,h1,h2⟩:=bA h
      cases e
      exact tJ hx hk hL (oV h1) ht (hti.kind _ _ (mD h2)) hz hp
     ·cases h
   ·cases h
  ·cases h
 ·split at h
  ·rename_i id s v' kt et hx hk hy hm
   have ht:=hti.kind _ _ (OY hm)
   split at h
   ·rename_i kvs hL
    obtain ⟨e,h1,h2⟩:=bA h
    cases e
    exact Ba hx hk hy hL (oV h1) ht (hti.kind _ _ (mD h2))
   ·cases h
  ·cases h
 ·split at h
  ·rename_i id s kt et hx hk hm
   have ht:=hti.kind _ _ (OY hm)
   split at h
   ·rename_i kvs z hL hz
    have hz:=hti.zero _ _ hz
    split at h
    ·rename_i p hp
     obtain ⟨e,h1,h2⟩:=bA h
     cases e
     exact Ot hx hk hL (oV h1) ht (hti.kind _ _ (mD h2)) hz hp
    ·cases h
   ·cases h
  ·cases h
 ·split at h
  ·rename_i id i v' hx hk hy
   split at h
   ·rename_i kvs hL
    split at h
    ·rename_i q hq
     obtain ⟨e,h1⟩:=bA h
     cases e
     exact Ka hx (by rw [hk,Int.toNat_of_nonneg h1]) hy hL hq
    ·cases h
   ·cases h
  ·cases h
 ·rename_i f first captured
  split at h
  ·rename_i caps h1 h2
   cases h
   obtain rfl:first = #[]:=by cases first;simp at h1;subst h1;rfl
   exact Og h2
  ·cases h
 ·rename_i args ts
  split at h
  ·rename_i s x t tx ha hts
   obtain rfl:args = #[s,x]:=by cases args;simp at ha;subst ha;rfl
   obtain rfl:ts = #[t,tx]:=by cases ts;simp at hts;subst hts;rfl
   split at h
   ·rename_i id ver n vx E hs hx hE
    split at h
    ·rename_i ver' es k' xs k by_ hL hsrc hk hby
     obtain ⟨e,⟨h1,h2,h3,h4⟩,h5,h6,h7,h8,h9⟩:=bA h
     cases e;subst h1;subst h2
     exact zJ hti hs hx hL hsrc (V4 h3) hE h4 hk h5 hby h6 h7 h8 h9
    ·cases h
   ·rename_i vx E hs hx hE
    split at h
    ·rename_i xs k by_ hsrc hk hby
     obtain ⟨e,⟨h1,h2,h3⟩,h5,h6,h7,h8,h9⟩:=bA h
     cases e
     exact QT hti hs hx hsrc (V4 h2) hE h3 hk h5 hby h6 h7 h8 h9
    ·cases h
   ·cases h
  ·cases h
 ·split at h
  ·rename_i l m E hl hc hE
   split at h
   ·rename_i k by_ hk hby
    split at h
    ·split at h
     ·obtain ⟨e,⟨h1,h2⟩,h3,h4,h5,h6,h7⟩:=bA h
      cases e;subst h1
      exact Qo hti hl hc hE h2 hk h3 hby h4 h5 h6 h7
     ·rename_i zs _ hz
      obtain ⟨e,⟨h1,h2⟩,h3,h4,h5,h6,h7⟩:=bA h
      cases e;subst h1
      obtain ⟨zv,hzv,hcz⟩:=Option.bind_eq_some_iff.1 hz
      exact FB hti hl hc hE h2 hk h3 hzv hcz hby h4 h5 h6 h7
     ·cases h
    ·obtain ⟨e,h1,h3,h4,h5,h6,h7⟩:=bA h
     cases e;subst h1
     exact sO hti hl hc hE hk h3 hby h4 h5 h6 h7
   ·cases h
  ·cases h
 ·split at h
  ·rename_i inf ts hi hf
   split at h
   ·rename_i vs Eb hz hEb
    split at h
    ·rename_i k hv hk
     obtain ⟨e,h1,h2,h3,h4⟩:=bA h
     cases e
     exact vH hi (by rw [hz];cases vs;simp at hv;subst hv;rfl) h2 h3 h4
    ·cases h
   ·cases h
  ·cases h
 ·split at h
  ·rename_i id ver hx
   split at h
   ·rename_i ver' es k hL
    split at h
    ·rename_i t _ h1 h2
     split at h
     ·rename_i n hn
      obtain ⟨e,h4⟩:=bA h
      cases e;subst h4
      obtain ⟨j,hj,hs⟩:=BN (hti.size _ _ hn)
      exact rG hx hL (hti.kind _ _ (z_ h1)) (hti.kind _ _ (RB h2)) hj (by rw [hs];exact Nat.succ_ne_zero _)
     ·cases h
    ·rename_i t h1 h2 _
     obtain ⟨e,h4,h5,h6,h7⟩:=bA h
     cases e;subst h4
     obtain ⟨n,hn⟩:=ahA.1 h5
     obtain ⟨j,hj,hs⟩:=BN (hti.size _ _ hn)
     exact wh hx hL (hti.kind _ _ (RB h2)) (hti.kind _ _ (z_ h1)) hj h6 h7
    ·cases h
   ·cases h
  ·cases h
 ·split at h
  ·rename_i hx
   split at h
   ·rename_i te hy hm
    cases h
    exact E_ hx hy (hti.kind _ _ (z_ hm))
   ·cases h
  ·rename_i hx
   split at h
   ·rename_i te ver' es k hy hm hL
    obtain ⟨e,h4⟩:=bA h
    cases e;subst h4
    exact yx hx hL hy (hti.kind _ _ (z_ hm))
   ·cases h
  ·rename_i hx
   split at h
   ·rename_i te ver' es k hy hm hL
    obtain ⟨e,h4,h5,h6,h7,h8,h9⟩:=bA h
    cases e;subst h4;subst h5;subst h6;subst h7;subst h8
    obtain ⟨n,hn⟩:=ahA.1 h9
    obtain ⟨j,hj,hs⟩:=BN (hti.size _ _ hn)
    exact x9 hx hL hy (hti.kind _ _ (z_ hm)) hj
   ·cases h
  ·rename_i vx hx
   split at h
   ·rename_i hl hm
    cases h
    exact Uq hx hl (hti.kind _ _ (acs hm))
   ·cases h
  ·cases h
 ·rename_i args ts
  split at h
  ·rename_i x ha
   obtain rfl:args = #[x]:=by cases args;simp at ha;subst ha;rfl
   split at h
   ·rename_i id ver n hx
    split at h
    ·rename_i ver' es k hL
     obtain ⟨e,h4⟩:=bA h
     cases e;subst h4
     exact AR hx hL (Nat.succ_pos _)
    ·cases h
   ·rename_i id ver hx
    split at h
    ·rename_i ver' k hL
     obtain ⟨e,h4,h5⟩:=bA h
     cases e;subst h4
     exact yX hx hL h5
    ·cases h
   ·cases h
  ·cases h
 ·rename_i args ts
  split at h
  ·rename_i x y pt it ha hts
   obtain rfl:args = #[x,y]:=by cases args;simp at ha;subst ha;rfl
   obtain rfl:ts = #[pt,it]:=by cases ts;simp at hts;subst hts;rfl
   split at h
   ·rename_i n hx hy
    obtain ⟨e,h4⟩:=bA h
    cases e;subst h4
    exact su hx hy
   ·rename_i id ver n hx hy
    split at h
    ·rename_i ver' es E hL hm
     split at h
     ·rename_i bs hb
      obtain ⟨e,⟨h4,h5⟩,h6,h7,h8,h9⟩:=bA h
      cases e;subst h4;subst h5
      refine uV hx hy ?_ h6 (hti.kind _ _ (z_ hm)) h7 h8 h9
      rw [hL,JC hb];rfl
     ·cases h
    ·cases h
   ·cases h
  ·cases h
 ·rename_i f args ts
  split at h
  ·rename_i x ha
   obtain rfl:args = #[x]:=by cases args;simp at ha;subst ha;rfl
   split at h
   ·rename_i v' hx
    obtain ⟨e,h4⟩:=bA h
    cases e;subst h4
    obtain ⟨fn,h1,h2,h3,h5,h6⟩:=hne.noEsc
    exact wo hx h1 h2 h3 h5 h6
   ·cases h
  ·rename_i x y ha
   obtain rfl:args = #[x,y]:=by cases args;simp at ha;subst ha;rfl
   split at h
   ·rename_i a b hx hy
    obtain ⟨e,h4⟩:=bA h
    cases e;subst h4
    obtain ⟨fn,h1,h2,h3,h5,h6⟩:=hne.cmpS
    exact Tk hx hy h1 h2 h3 h5 h6
   ·cases h
  ·cases h
 ·cases h
end Go.Proofs.YtcehmafobkhdbaaGreatDoor
