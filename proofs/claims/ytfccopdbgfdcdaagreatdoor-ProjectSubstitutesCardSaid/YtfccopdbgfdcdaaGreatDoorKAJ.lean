/- Parts of the proof, joined. No condition. -/
import Derived.Test.YtfccopdbgfdcdaaGreatDoorKAA
import Derived.Test.YtfccopdbgfdcdaaGreatDoorKAI
set_option linter.unusedSimpArgs false
set_option linter.unusedVariables false
namespace Go.Proofs.YtfccopdbgfdcdaaGreatDoor
open Go.RowKit Go.MapKept
def ck {α:Type} (v:α) (φ:Prop) [Decidable φ]:Option α:=if φ then some v else none
theorem bf {α:Type} {v r:α} {φ:Prop} [Decidable φ] (h:ck v φ=some r):v=r/\φ:=by
 unfold ck at h
 split at h
 ·exact ⟨aee h,by assumption⟩
 ·cases h
def JD {α:Type} (f:Option (α × Prop)) (r:α):Prop := ∃ φ,f=some (r,φ)/\φ
theorem kQ {α:Type} {v r:α} (h:some v=some r):JD (some (v,True)) r:=by
 cases h;exact ⟨_,rfl,trivial⟩
theorem kP {α:Type} {v r:α} {φ:Prop} [Decidable φ] (h:ck v φ=some r):JD (some (v,φ)) r:=by
 obtain ⟨rfl,hφ⟩:=bf h
 exact ⟨_,rfl,hφ⟩
def isStr:Option TypeDesc->Bool
 | some .string=>true
 | _=>false
theorem kE {d:Option TypeDesc} (h:isStr d=true):d=some .string:=by
 unfold isStr at h;split at h
 ·rfl
 ·cases h
def FB:Option TypeDesc->Bool
 | some .bool=>true
 | _=>false
theorem Ka {d:Option TypeDesc} (h:FB d=true):d=some .bool:=by
 unfold FB at h;split at h
 ·rfl
 ·cases h
def Ep (k:Nat):List (List AC)->Bool
 | []=>true
 | e::es=>Nat.beq e.length k&&Ep k es
theorem sO {k:Nat} : ∀ {es:List (List AC)}, Ep k es=true -> ∀ e∈es,e.length=k
 | [],_,e,he=>by cases he
 | x::es,h,e,he=>by
  rw [Ep,ad1] at h
  rcases adZ.1 he with rfl|he
  ·exact Nat.eq_of_beq_eq_true h.1
  ·exact sO h.2 e he
def abU (op:BinOp) (k:IntKind) (a b:Int):Option AC :=
 match op with
 | .add=>some (.int k (k.wrap (a+b)))
 | .sub=>some (.int k (k.wrap (a-b)))
 | .mul=>some (.int k (k.wrap (a*b)))
 | .quo=>ck (.int k (k.wrap (a.tdiv b))) (b≠0)
 | .rem=>ck (.int k (a.tmod b)) (b≠0)
 | .eql=>some (.bool (decide (a=b)))
 | .neq=>some (.bool (decide (a≠b)))
 | .lss=>some (.bool (decide (a<b)))
 | .leq=>some (.bool (decide (a<=b)))
 | .gtr=>some (.bool (decide (b<a)))
 | .geq=>some (.bool (decide (b<=a)))
 | .and=>some (.int k (k.wrap (BitVec.ofInt k.bits a &&& BitVec.ofInt k.bits b).toNat))
 | .or=>some (.int k (k.wrap (BitVec.ofInt k.bits a ||| BitVec.ofInt k.bits b).toNat))
 | _=>none
theorem Z0 {op:BinOp} {k:IntKind} {a b:Int} {r:AC} (h:abU op k a b=some r):JD (Xi op k a b) r:=by
 cases op<;>first|exact kQ h|exact kP h|cases h
def shB (op:BinOp) (k:IntKind) (a b:Int):Option (Option AC) :=
 match op with
 | .shl=>some (ck (.int k (k.wrap (a*2 ^ (min b.toNat k.bits)))) (0<=b))
 | .shr=>some (ck (.int k (a.fdiv (2 ^ (min b.toNat k.bits)))) (0<=b))
 | _=>none
def ab3 (op:BinOp) (a b:ByteArray):Option AC :=
 match op with
 | .add=>ck (.str (a++b)) (a.size+b.size<=9223372036854775807)
 | .eql=>some (.bool (a.toList==b.toList))
 | .neq=>some (.bool (!(a.toList==b.toList)))
 | .lss=>some (.bool (Op.bytesLess a.toList b.toList))
 | .leq=>some (.bool (Op.bytesLess a.toList b.toList||a.toList==b.toList))
 | .gtr=>some (.bool (!(Op.bytesLess a.toList b.toList||a.toList==b.toList)))
 | .geq=>some (.bool (!Op.bytesLess a.toList b.toList))
 | _=>none
theorem ZR {op:BinOp} {a b:ByteArray} {r:AC} (h:ab3 op a b=some r):JD (Wq op a b) r:=by
 cases op<;>first|exact kQ h|exact kP h|cases h
def aax (ti:TI) (op:BinOp) (t:TypeId):AV->AV->Option AV
 | .one (.c (.int k a)), .one (.c (.int k' b))=>match shB op k a b with
  | some r=>r.map fun r => .one (.c r)
  | none=>match decide (k=k') with
   | true=>(abU op k a b).map fun r => .one (.c r)
   | false=>none
 | .one (.c (.str a)), .one (.c (.str b))=>(ab3 op a b).map fun r => .one (.c r)
 | .one (.c (.bool a)), .one (.c (.bool b))=>match op with
  | .eql=>ck (.one (.c (.bool (a==b)))) (FB (ti.kind t)=true)
  | .neq=>ck (.one (.c (.bool (!(a==b))))) (FB (ti.kind t)=true)
  | _=>none
 | .agg xs, .agg ys=>match ti.eqs t with
  | some sh=>match op with
   | .eql=>ck (.one (.c (.bool (dw xs ys)))) (gy sh xs=true/\gy sh ys=true)
   | .neq=>ck (.one (.c (.bool (!dw xs ys)))) (gy sh xs=true/\gy sh ys=true)
   | _=>none
  | none=>none
 | _,_=>none
theorem map_some {α β:Type} {o:Option α} {f:α->β} {r:β} (h:o.map f=some r) : ∃ a,o=some a/\f a=r:=by
 cases o with
 | none=>cases h
 | some a=>exact ⟨a,rfl,aee h⟩
theorem Zg {ti:TI} {op:BinOp} {t:TypeId} {x y v:AV} (h:aax ti op t x y=some v):JD (AY ti op t x y) v:=by
 unfold aax at h
 split at h
 ·rename_i k a k' b
  unfold AY
  cases op
  case shl=>obtain ⟨r,h1,rfl⟩:=map_some h;obtain ⟨rfl,hφ⟩:=bf h1;exact ⟨_,rfl,hφ⟩
  case shr=>obtain ⟨r,h1,rfl⟩:=map_some h;obtain ⟨rfl,hφ⟩:=bf h1;exact ⟨_,rfl,hφ⟩
  all_goals
   simp only [shB,aa'] at h ⊢
   split at h
   ·rename_i hk
    obtain ⟨r,h1,rfl⟩:=map_some h
    obtain ⟨φ,h2,hφ⟩:=Z0 h1
    rw [hk,h2]
    exact ⟨_,rfl,hφ⟩
   ·cases h
 ·obtain ⟨r,h1,rfl⟩:=map_some h
  obtain ⟨φ,h2,hφ⟩:=ZR h1
  unfold AY
  dsimp only
  rw [h2]
  exact ⟨_,rfl,hφ⟩
 ·split at h
  ·obtain ⟨rfl,hφ⟩:=bf h;exact ⟨_,rfl,Ka hφ⟩
  ·obtain ⟨rfl,hφ⟩:=bf h;exact ⟨_,rfl,Ka hφ⟩
  ·cases h
 ·unfold AY
  dsimp only
  split at h
  ·rename_i sh hs
   rw [hs]
   split at h
   ·exact kP h
   ·exact kP h
   ·cases h
  ·cases h
 ·cases h
def Ty (ti:TI) (L:List Ob) (t:TypeId):AV->Option AV
 | .one (.c (.ref cs))=>match ti.agg t,ti.size t with
  | some false,_=>match cs with
   | x::_=>some (.one (.c x))
   | []=>none
  | some true,some n=>ck (.agg ((cs.take n).map .c)) (n<=cs.length)
  | _,_=>none
 | .one (.ptr id off)=>match L[id]? with
  | some (.box cs)=>match ti.agg t,ti.size t with
   | some false,_=>match cs[off]? with
    | some x=>some (.one x)
    | none=>none
   | some true,some n=>ck (.agg ((cs.drop off).take n)) (off+n<=cs.length)
   | _,_=>none
  | _=>none
 | .one (.ep id ver i o)=>match L[id]? with
  | some (.row ver' es _)=>match es[i]?,ti.agg t,ti.size t with
   | some e,some false,_=>match e[o]? with
    | some x=>ck (.one x) (ver=ver')
    | none=>none
   | some e,some true,some n=>ck (.agg ((e.drop o).take n)) (ver=ver'/\o+n<=e.length)
   | _,_,_=>none
  | _=>none
 | _=>none
theorem OY {ti:TI} {L:List Ob} {t:TypeId} {x v:AV} (h:Ty ti L t x=some v):JD (kg ti L t x) v:=by
 unfold Ty at h
 unfold kg
 split at h
 ·dsimp only
  split at h
  ·rename_i h1
   rw [h1]
   split at h
   ·exact kQ h
   ·cases h
  ·rename_i h1 h2
   rw [h1,h2]
   exact kP h
  ·cases h
 ·dsimp only
  split at h
  ·rename_i h0
   rw [h0]
   dsimp only
   split at h
   ·rename_i h1
    rw [h1]
    dsimp only
    split at h
    ·rename_i h2
     rw [h2]
     exact kQ h
    ·cases h
   ·rename_i h1 h2
    rw [h1,h2]
    exact kP h
   ·cases h
  ·cases h
 ·dsimp only
  split at h
  ·rename_i h0
   rw [h0]
   dsimp only
   split at h
   ·rename_i h1 h2
    rw [h1,h2]
    dsimp only
    split at h
    ·rename_i h3
     rw [h3]
     exact kP h
    ·cases h
   ·rename_i h1 h2 h3
    rw [h1,h2,h3]
    exact kP h
   ·cases h
  ·cases h
 ·cases h
def z_ (ti:TI) (s:TypeId) (i0:Nat):AV->Option AV
 | .one (.c (.ref cs))=>match ti.field s i0 with
  | some (o,t)=>match ti.size t with
   | some (_+1)=>ck (.one (.c (.ref (cs.drop o)))) (o<=cs.length)
   | _=>none
  | none=>none
 | .one (.ptr id off)=>match ti.field s i0 with
  | some (o,t)=>match ti.size t with
   | some (_+1)=>some (.one (.ptr id (off+o)))
   | _=>none
  | none=>none
 | _=>none
theorem Jn {ti:TI} {s:TypeId} {i0:Nat} {x v:AV} (h:z_ ti s i0 x=some v):JD (kD ti s i0 x) v:=by
 unfold z_ at h
 unfold kD
 split at h
 ·dsimp only
  split at h
  ·rename_i h0
   rw [h0]
   dsimp only
   split at h
   ·rename_i h1
    rw [h1]
    exact kP h
   ·cases h
  ·cases h
 ·dsimp only
  split at h
  ·rename_i h0
   rw [h0]
   dsimp only
   split at h
   ·rename_i h1
    rw [h1]
    exact kQ h
   ·cases h
  ·cases h
 ·cases h
def Rj (ti:TI) (s:TypeId) (i:Nat):AV->Option AV
 | .agg xs=>match ti.field s i with
  | some (o,t)=>match ti.agg t,ti.size t with
   | some false,_=>match xs[o]? with
    | some x=>some (.one x)
    | none=>none
   | some true,some n=>ck (.agg ((xs.drop o).take n)) (o+n<=xs.length)
   | _,_=>none
  | none=>none
 | _=>none
theorem Vn {ti:TI} {s:TypeId} {i:Nat} {x v:AV} (h:Rj ti s i x=some v):JD (wN ti s i x) v:=by
 unfold Rj at h
 unfold wN
 split at h
 ·dsimp only
  split at h
  ·rename_i h0
   rw [h0]
   dsimp only
   split at h
   ·rename_i h1
    rw [h1]
    dsimp only
    split at h
    ·rename_i h2
     rw [h2]
     exact kQ h
    ·cases h
   ·rename_i h1 h2
    rw [h1,h2]
    exact kP h
   ·cases h
  ·cases h
 ·cases h
def DC (ti:TI) (L:List Ob) (s:TypeId) (i0 id ver i off:Nat):Option AV :=
 match L[id]?,ti.field s i0 with
 | some (.row ver' _ _),some (o,t)=>match ti.size t with
  | some (_+1)=>ck (.one (.ep id ver i (off+o))) (ver=ver')
  | _=>none
 | _,_=>none
theorem MN {ti:TI} {L:List Ob} {s:TypeId} {i0 id ver i off:Nat} {v:AV} (h:DC ti L s i0 id ver i off=some v):JD (gB ti L s i0 id ver i off) v:=by
 unfold DC at h
 unfold gB
 split at h
 ·rename_i h0 h1
  rw [h0,h1]
  dsimp only
  split at h
  ·rename_i h2
   rw [h2]
   exact kP h
  ·cases h
 ·cases h
def Nq (ti:TI) (L:List Ob) (t:TypeId) (id ver n:Nat):Option AV :=
 match L[id]? with
 | some (.row ver' _ _)=>ck (.one (.c (.int .i64 n))) (ver=ver'/\(ti.elem t).isSome=true)
 | _=>none
theorem Rw {ti:TI} {L:List Ob} {t:TypeId} {id ver n:Nat} {v:AV} (h:Nq ti L t id ver n=some v):JD (jO ti L t id ver n) v:=by
 unfold Nq at h
 unfold jO
 split at h
 ·rename_i h0
  rw [h0]
  exact kP h
 ·cases h
def Dp (ti:TI) (L:List Ob) (t:TypeId) (id ver lo n:Nat) (ix:AV):Option AV :=
 match L[id]?,ix,(ti.elem t).bind ti.size with
 | some (.row ver' _ k'), .one (.c (.int _ i)),some k=>ck (.one (.ep id ver (lo+i.toNat) 0)) ((ver=ver'/\k=k')/\0<=i/\i<n)
 | _,_,_=>none
theorem Ni {ti:TI} {L:List Ob} {t:TypeId} {id ver lo n:Nat} {ix v:AV} (h:Dp ti L t id ver lo n ix=some v):JD (gu ti L t id ver lo n ix) v:=by
 unfold Dp at h
 unfold gu
 split at h
 ·rename_i h0 h1
  rw [h0,h1]
  exact kP h
 ·cases h
def Bc (ti:TI) (t:TypeId) (x ix:AV):Option AV :=
 match eU x,ix,(ti.elem t).bind ti.size with
 | some es, .one (.c (.int _ i)),some k=>match es[i.toNat]? with
  | some e=>ck (.one (.c (.ref e))) (0<=i/\e.length=k)
  | none=>none
 | _,_,_=>none
theorem JA {ti:TI} {t:TypeId} {x ix v:AV} (h:Bc ti t x ix=some v):JD (iW ti t x ix) v:=by
 unfold Bc at h
 unfold iW
 split at h
 ·rename_i h0 h1
  rw [h0,h1]
  dsimp only
  split at h
  ·rename_i h2
   rw [h2]
   exact kP h
  ·cases h
 ·cases h
def indexB (ti:TI) (t:TypeId) (x ix:AV):Option AV :=
 match x,ix with
 | .one (.c (.str s)), .one (.c (.int _ i))=>match s[i.toNat]? with
  | some b=>ck (.one (.c (.int .u8 b.toNat))) (0<=i/\isStr (ti.kind t)=true)
  | none=>none
 | _,_=>none
theorem UH {ti:TI} {t:TypeId} {x ix v:AV} (h:indexB ti t x ix=some v):JD (tX ti t x ix) v:=by
 unfold indexB at h
 unfold tX
 split at h
 ·dsimp only
  split at h
  ·rename_i h2
   rw [h2]
   obtain ⟨rfl,h3,h4⟩:=bf h
   exact ⟨_,rfl,h3,kE h4⟩
  ·cases h
 ·cases h
def sliceB (ti:TI) (L:List Ob) (t:TypeId) (x:AV) (lo hi:Option AV):Option AV :=
 match x with
 | .one (.c (.str s))=>match ny 0 lo,ny s.size hi with
  | some l,some h=>ck (.one (.c (.str (s.extract l.toNat h.toNat)))) (0<=l/\l<=h/\h<=s.size/\isStr (ti.kind t)=true)
  | _,_=>none
 | .one (.sl id ver lo0 n)=>match L[id]?,(ti.elem t).bind ti.size with
  | some (.row ver' _ k'),some k=>match ny 0 lo,ny n hi with
   | some l,some h=>ck (.one (.sl id ver (lo0+l.toNat) (h.toNat-l.toNat))) (ver=ver'/\k=k'/\0<=l/\l<=h/\h<=n)
   | _,_=>none
  | _,_=>none
 | _=>match eU x,(ti.elem t).bind ti.size with
  | some es,some k=>match ny 0 lo,ny es.length hi with
   | some l,some h=>ck (.one (.c (.lst ((es.take h.toNat).drop l.toNat)))) (0<=l/\l<=h/\h<=es.length/\Ep k es=true)
   | _,_=>none
  | _,_=>none
theorem yM {ti:TI} {L:List Ob} {t:TypeId} {x v:AV} {lo hi:Option AV} (h:sliceB ti L t x lo hi=some v):JD (gp ti L t x lo hi) v:=by
 unfold sliceB at h
 split at h
 ·unfold gp
  dsimp only
  split at h
  ·rename_i h0 h1
   rw [h0,h1]
   obtain ⟨rfl,h3,h4,h5,h6⟩:=bf h
   exact ⟨_,rfl,h3,h4,h5,kE h6⟩
  ·cases h
 ·unfold gp
  dsimp only
  split at h
  ·rename_i h0 h1
   rw [h0,h1]
   dsimp only
   split at h
   ·rename_i h2 h3
    rw [h2,h3]
    exact kP h
   ·cases h
  ·cases h
 ·rename_i n1 n2
  unfold gp
  split
  ·rename_i s;exact absurd rfl (n1 s)
  ·rename_i a b c d;exact absurd rfl (n2 a b c d)
  ·split at h
   ·rename_i h0 h1
    rw [h0,h1]
    dsimp only
    split at h
    ·rename_i h2 h3
     rw [h2,h3]
     obtain ⟨rfl,h3,h4,h5,h6⟩:=bf h
     exact ⟨_,rfl,h3,h4,h5,sO h6⟩
    ·cases h
   ·cases h
def abl (ti:TI) (t:TypeId) (x:AV):Option AV :=
 match x with
 | .one (.c (.str s))=>ck (.one (.c (.int .i64 s.size))) (isStr (ti.kind t)=true)
 | _=>match eU x with
  | some es=>ck (.one (.c (.int .i64 es.length))) ((ti.elem t).isSome=true)
  | none=>none
theorem YY {ti:TI} {t:TypeId} {x v:AV} (h:abl ti t x=some v):JD (GA ti t x) v:=by
 unfold abl at h
 split at h
 ·obtain ⟨rfl,h1⟩:=bf h
  exact ⟨_,rfl,kE h1⟩
 ·rename_i n1
  unfold GA
  split
  ·rename_i s;exact absurd rfl (n1 s)
  ·split at h
   ·rename_i h0
    rw [h0]
    exact kP h
   ·cases h
def Gv (ti:TI) (t:TypeId):List SV->List (Nat × Option AV)->Option (List SV)
 | zs,[]=>some zs
 | zs,(i,v)::ps=>match v.bind AV.cells,ti.field t i with
  | some xs,some (o,ty)=>match Gv ti t (splice zs o xs) ps with
   | some r=>ck r (ti.size ty=some xs.length/\o+xs.length<=zs.length)
   | none=>none
  | _,_=>none
theorem J8 {ti:TI} {t:TypeId} : ∀ {ps:List (Nat × Option AV)} {zs r:List SV}, Gv ti t zs ps=some r->JD (oK ti t zs ps) r
 | [],zs,r,h=>kQ h
 | (i,v)::ps,zs,r,h=>by
  unfold Gv at h
  unfold oK
  split at h
  ·rename_i h0 h1
   rw [h0,h1]
   dsimp only
   split at h
   ·rename_i r' h2
    obtain ⟨φ,h3,h4⟩:=J8 h2
    rw [h3]
    obtain ⟨rfl,h5⟩:=bf h
    exact ⟨_,rfl,h5,h4⟩
   ·cases h
  ·cases h
def X5 (ti:TI) (ρ:Operand->Option AV) (L:List Ob):Op->Option AV
 | .move x=>ρ x
 | .assign x=>ρ x
 | .pick c a b=>match ρ c,ρ a,ρ b with
  | some (.one (.c (.bool t))),some va,some vb=>some (if t=true then va else vb)
  | _,_,_=>none
 | .binOp op t x y _=>match ρ x,ρ y with
  | some va,some vb=>aax ti op t va vb
  | _,_=>none
 | .unOp op _ x=>match op,ρ x with
  | .not,some (.one (.c (.bool b)))=>some (.one (.c (.bool !b)))
  | .neg,some (.one (.c (.int k n)))=>some (.one (.c (.int k (k.wrap (0-n)))))
  | _,_=>none
 | .convert src dst x=>match ρ x with
  | some (.one (.c (.int _ n)))=>match ti.kind dst with
   | some (.int k)=>ck (.one (.c (.int k (k.wrap n)))) ((ti.kind src).isSome=true)
   | _=>none
  | some (.one (.c (.str s)))=>ck (.one (.c (.str s))) (isStr (ti.kind dst)=true/\(ti.kind src).isSome=true)
  | _=>none
 | .load t p=>(ρ p).bind (Ty ti L t)
 | .fieldAddr s x i=>match ρ x with
  | some (.one (.ep id ver i0 off))=>DC ti L s i id ver i0 off
  | some vx=>z_ ti s i vx
  | none=>none
 | .field s x i=>(ρ x).bind (Rj ti s i)
 | .indexAddr t x ix=>match ρ x,ρ ix with
  | some (.one (.sl id ver lo n)),some vi=>Dp ti L t id ver lo n vi
  | some vx,some vi=>Bc ti t vx vi
  | _,_=>none
 | .index t x ix=>match ρ x,ρ ix with
  | some vx,some vi=>indexB ti t vx vi
  | _,_=>none
 | .extract t i=>match ρ t with
  | some (.tup ps)=>match ps[i]? with
   | some p=>some p.av
   | none=>none
  | _=>none
 | .nilCheck x=>match ρ x with
  | some (.one (.c (.ref cs)))=>some (.one (.c (.ref cs)))
  | some (.one (.ptr id off))=>some (.one (.ptr id off))
  | some (.one (.ep id ver i o))=>match L[id]? with
   | some (.row ver' _ _)=>ck (.one (.ep id ver i o)) (ver=ver')
   | _=>none
  | some (.one (.clo f cs))=>some (.one (.clo f cs))
  | some (.one (.c (.fn f cs)))=>some (.one (.c (.fn f cs)))
  | _=>none
 | .slice t x lo hi none=>match ρ x,lo.map ρ,hi.map ρ with
  | some v,none,none=>sliceB ti L t v none none
  | some v,some (some l),none=>sliceB ti L t v (some l) none
  | some v,none,some (some h)=>sliceB ti L t v none (some h)
  | some v,some (some l),some (some h)=>sliceB ti L t v (some l) (some h)
  | _,_,_=>none
 | .call { callee := .builtin .len,args,argTypes } => match args.toList,argTypes.toList with
  | [x],[t]=>match ρ x with
   | some (.one (.sl id ver _ n))=>Nq ti L t id ver n
   | some vx=>abl ti t vx
   | none=>none
  | _,_=>none
 | .call { callee := .builtin .min,args, .. } => match args.toList.map ρ with
  | [some (.one (.c (.int k a))),some (.one (.c (.int _ b)))]=>some (.one (.c (.int k (if b<a then b else a))))
  | _=>none
 | .call { callee := .builtin .max,args, .. } => match args.toList.map ρ with
  | [some (.one (.c (.int k a))),some (.one (.c (.int _ b)))]=>some (.one (.c (.int k (if b > a then b else a))))
  | _=>none
 | .build t parts=>match ti.zero t with
  | some (.agg zs)=>((Gv ti t zs (parts.toList.map fun p=>(p.1,ρ p.2))).bind fun r=>ck (AV.agg r) (ti.struct t=true))
  | _=>none
 | .makeFunc (.func f) first captured=>match first.toList,F_ (captured.toList.map ρ) with
  | [],some cs=>some (.one (.c (.fn f cs)))
  | _,_=>none
 | _=>none
theorem Yx {ti:TI} {ρ:Operand->Option AV} {L:List Ob} {op:Op} {v:AV} (h:X5 ti ρ L op=some v):JD (pop ti ρ L op) v:=by
 unfold X5 at h
 split at h
 ·unfold pop;dsimp only;rw [h];exact ⟨_,rfl,trivial⟩
 ·unfold pop;dsimp only;rw [h];exact ⟨_,rfl,trivial⟩
 ·unfold pop
  dsimp only
  split at h
  ·rename_i h0 h1 h2
   rw [h0,h1,h2]
   exact kQ h
  ·cases h
 ·unfold pop
  dsimp only
  split at h
  ·rename_i h0 h1
   rw [h0,h1]
   exact Zg h
  ·cases h
 ·unfold pop
  dsimp only
  split at h
  ·rename_i h0
   rw [h0]
   exact kQ h
  ·rename_i h0
   rw [h0]
   exact kQ h
  ·cases h
 ·unfold pop
  dsimp only
  split at h
  ·rename_i h0
   rw [h0]
   dsimp only
   split at h
   ·rename_i h1
    rw [h1]
    exact kP h
   ·cases h
  ·rename_i h0
   rw [h0]
   obtain ⟨rfl,h1,h2⟩:=bf h
   exact ⟨_,rfl,kE h1,h2⟩
  ·cases h
 ·rename_i t p
  unfold pop
  dsimp only
  cases hp:ρ p with
  | none=>rw [hp] at h;cases h
  | some x=>rw [hp] at h;exact OY h
 ·unfold pop
  dsimp only
  split at h
  ·rename_i h0
   rw [h0]
   exact MN h
  ·rename_i vx hn h0
   rw [h0]
   split
   ·rename_i e;cases e;exact (hn _ _ _ _ rfl).elim
   ·rename_i e;cases e;exact Jn h
   ·rename_i e;cases e
  ·cases h
 ·rename_i s x i
  unfold pop
  dsimp only
  cases hp:ρ x with
  | none=>rw [hp] at h;cases h
  | some x=>rw [hp] at h;exact Vn h
 ·unfold pop
  dsimp only
  split at h
  ·rename_i h0 h1
   rw [h0,h1]
   exact Ni h
  ·rename_i vx vi hn h0 h1
   rw [h0,h1]
   split
   ·rename_i e1 e2;cases e1;exact (hn _ _ _ _ rfl).elim
   ·rename_i e1 e2;cases e1;cases e2;exact JA h
   ·rename_i hm;exact (hm _ _ rfl rfl).elim
  ·cases h
 ·unfold pop
  dsimp only
  split at h
  ·rename_i h0 h1
   rw [h0,h1]
   exact UH h
  ·cases h
 ·unfold pop
  dsimp only
  split at h
  ·rename_i h0
   rw [h0]
   dsimp only
   split at h
   ·rename_i h1
    rw [h1]
    exact kQ h
   ·cases h
  ·cases h
 ·unfold pop
  dsimp only
  split at h
  ·rename_i h0;rw [h0];exact kQ h
  ·rename_i h0;rw [h0];exact kQ h
  ·rename_i h0
   rw [h0]
   dsimp only
   split at h
   ·rename_i h1
    rw [h1]
    exact kP h
   ·cases h
  ·rename_i h0;rw [h0];exact kQ h
  ·rename_i h0;rw [h0];exact kQ h
  ·cases h
 ·unfold pop
  dsimp only
  split at h
  ·rename_i h0 h1 h2;rw [h0,h1,h2];exact yM h
  ·rename_i h0 h1 h2;rw [h0,h1,h2];exact yM h
  ·rename_i h0 h1 h2;rw [h0,h1,h2];exact yM h
  ·rename_i h0 h1 h2;rw [h0,h1,h2];exact yM h
  ·cases h
 ·unfold pop
  dsimp only
  split at h
  ·rename_i h0 h1
   rw [h0,h1]
   dsimp only
   split at h
   ·rename_i h2
    rw [h2]
    exact Rw h
   ·rename_i vx hn h2
    rw [h2]
    split
    ·rename_i e;cases e;exact (hn _ _ _ _ rfl).elim
    ·rename_i e;cases e;exact YY h
    ·rename_i e;cases e
   ·cases h
  ·cases h
 ·unfold pop
  dsimp only
  split at h
  ·rename_i h0
   rw [h0]
   exact kQ h
  ·cases h
 ·unfold pop
  dsimp only
  split at h
  ·rename_i h0
   rw [h0]
   exact kQ h
  ·cases h
 ·rename_i t parts
  unfold pop
  dsimp only
  split at h
  ·rename_i zs h0
   rw [h0]
   dsimp only
   cases hb:Gv ti t zs (parts.toList.map fun p=>(p.1,ρ p.2)) with
   | none=>rw [hb] at h;cases h
   | some r =>
    rw [hb] at h
    obtain ⟨rfl,h1⟩:=bf h
    obtain ⟨φ,h2,h3⟩:=J8 hb
    rw [h2]
    exact ⟨_,rfl,h1,h3⟩
  ·cases h
 ·unfold pop
  dsimp only
  split at h
  ·rename_i h0 h1
   rw [h0,h1]
   exact kQ h
  ·cases h
 ·cases h
def Gl (ρ:Operand->Option AV):List (Nat × Operand)->Nat->Option (List (List SV))
 | [],_=>some []
 | (i,x)::ps,j=>match decide (i=j),(ρ x).bind AV.cells,Gl ρ ps (j+1) with
  | true,some p,some es=>some (p::es)
  | _,_,_=>none
section
variable {P:Program} {ti:TI} {B:Nat->Prop} {R:PH} {γ:List Gh} {L:List Ob} {w:World} {ρ:Operand->Option AV}
theorem H7 {ev:Operand->Value} : ∀ (ps:List (Nat × Operand)) (hρ : ∀ p∈ps, ∀ v,ρ p.2=some v->v.rep R γ L (ev p.2)) (j:Nat) (es:List (List SV)),Gl ρ ps j=some es ->
  ∃ vs:List Value,(ps.map fun p=>(p.1,ev p.2))=(vs.zipIdx j).map (fun x=>(x.2,x.1))/\vs.length=es.length /\
   (∀ (i:Nat) v e,vs[i]?=some v->es[i]?=some e->JW R γ L e v.cells)
 | [],hρ,j,es,h=>by injection h with h;subst h;exact ⟨[],rfl,rfl,fun i v e hv=>by simp at hv⟩
 | (i,x)::ps,hρ,j,es,h=>by
  unfold Gl at h
  split at h
  ·rename_i p es' hij hp hes
   obtain rfl:=aea hij
   injection h with h;subst h
   obtain ⟨vs,h1,h2,h3⟩:=H7 ps (fun p hp=>hρ p (ad7 _ hp)) (i+1) es' hes
   cases hx:ρ x with
   | none=>simp [hx] at hp
   | some vx =>
    simp only [hx,adH] at hp
    have hr:=cells_rep (hρ (i,x) (aet ..) _ hx) hp
    refine ⟨ev x::vs,by simp [List.zipIdx_cons,h1],by simp [h2],fun q v e hv he=>?_⟩
    cases q with
    | zero=>simp at hv he;subst hv he;exact hr
    | succ q=>exact h3 q v e (by simpa using hv) (by simpa using he)
  ·cases h
theorem Ry (hti:TIok P ti) {t:TypeId} {E k len:Nat} {parts:Array (Nat × Operand)} {es:List (List SV)} (ht:ti.elem t=some E) (hE:E<65536) (hk:ti.size E=some k) (hzk:ti.zok E=true) (hes:Gl ρ parts.toList 0=some es) (hlen:es.length=len) (h0:0<len) (hek : ∀ e∈es,e.length=k) (hk0:0<k) (hsm:len*k<=16777216) :
  wu P ρ L (.buildSlice t len parts) (.one (.sl L.length (E+65536) 0 len)) (L++[.row (E+65536) es k]):=by
 intro B R γ w ev o ho hi hρ hfv
 obtain ⟨dst,op,type,pos,after,guard⟩:=o
 simp only at ho;subst ho
 have hk:=hti.size _ _ hk
 have hu:=pM hti ht
 obtain ⟨vs,e1,e2,e3⟩:=H7 (ev:=ev) parts.toList (fun p hp v hv=>hρ p.2 (by simp only [Op.operands,List.mem_toArray,aeh];exact ⟨p,hp,rfl⟩) v hv) _ _ hes
 have hparts:(parts.map fun p=>(p.1,ev p.2)).toList=(vs.zipIdx 0).map fun x=>(x.2,x.1):=by rw [Array.toList_map,e1]
 obtain ⟨i,z,hi1,hi2,hi3,hi4⟩:=hti.zok _ hzk _ hk
 have hcs : ∀ v∈vs,v.cells.size=k:=by
  intro v hv
  obtain ⟨q,hq⟩:=List.mem_iff_getElem?.1 hv
  have hlt:q<es.length:=by rw [<- e2];exact (adI.1 hq).1
  have he:es[q]?=some es[q]:=adR hlt
  rw [(e3 q v _ hq he).1]
  exact hek _ (List.getElem_mem hlt)
 have hne : ¬ len*i.size=0:=by
  rw [hi3]
  intro e
  rcases Nat.mul_eq_zero.1 e with e|e<;>omega
 have hrun:=run_buildSlice (P:=P) w t E len (parts.map fun p=>(p.1,ev p.2)) (vs.flatMap fun v=>v.cells.toList).toArray i z hu hi1 hi2 (by rw [hi3];omega) hne (by
  rw [hparts,hi3]
  exact Go.Great.fill_whole hk0 vs _ hcs (by simp;rw [e2,hlen]))
 have hm:Mv R R γ (γ++[.arr w.heap.size len]) L (L++[.row (E+65536) es k]):=Mv.push _ _ hi.len
 refine ⟨_,R,_, .inl ⟨.slice (some ⟨w.heap.size,0,none⟩) len len,by simp only [execOp,Sem.run_bind];rw [hrun];rfl,⟨rfl,rfl⟩,by simp,fun ver2 es2 k2 e2'=>?_⟩,?_,⟨Kept.alloc hi.bsz _,PH.sub_refl _,fun _ _ _=>rfl⟩,hm⟩
 ·rw [adP (by omega)] at e2'
  simp at e2'
  obtain ⟨q1,q2,q3⟩:=e2'
  subst q1 q2 q3
  exact ⟨adY _,fun _=>⟨by omega, .arr w.heap.size len,by rw [<- hi.len];simp, .inl (by simp)⟩⟩
 ·have hsz:(vs.flatMap fun v=>v.cells.toList).toArray.size=len*k:=by rw [List.size_toArray,F5 k vs hcs,e2,hlen]
  refine hi.push _ _ _ rfl ⟨⟨_,E,⟨gq w _,by show (E:Nat)=(E+65536)%65536;omega,by omega⟩,hsz,fun q e j u x he hu hx=>?_⟩,by omega,hk0,hek,fun o=>hi.none_at o⟩
  have hqlt:q<vs.length:=by rw [e2];exact (adI.1 he).1
  have hv:vs[q]?=some vs[q]:=adR hqlt
  have hjk:j<k:=by rw [<- hek e (adO he)];exact (adI.1 hx).1
  have h3:=e3 q _ e hv he
  rw [List.getElem?_toArray,flat_get k vs hcs q _ hv j hjk] at hu
  exact SV.mv hm (h3.2 j u x hu hx)
end
section
variable {P:Program} {ti:TI} {ρ:Operand->Option AV} {L:List Ob}
theorem JP (z:Array Value) (n i:Nat) (h:i<n):(madeCells z n)[i]?=some z[i%z.size]! := by
 simp [madeCells,h]
theorem Dy (hti:TIok P ti) {l c:Operand} {t:TypeId} {E k by_:Nat} {m:Int} {kl kc:IntKind} {zs:List SV} {zv:AV} (hl:ρ l=some (.one (.c (.int kl m)))) (hc:ρ c=some (.one (.c (.int kc m)))) (ht:ti.elem t=some E) (hE:E<65536) (hsz:ti.size E=some k) (hzo:ti.zok E=true) (hzv:ti.zero E=some zv) (hcz:zv.cells=some zs) (hby:ti.bytes E=some by_)
  (hk:0<k) (h0:0<=m) (hb1:(by_:Int)*m<=281474976710656) (hb2:m<=9223372036854775807) :
  wu P ρ L (.makeSlice t l c) (.one (.sl L.length (E+65536) 0 m.toNat)) (L++[.row (E+65536) (List.replicate m.toNat zs) k]):=by
 intro B R γ w ev o ho hi hρ hfv
 obtain ⟨dst,op,type,pos,after,guard⟩:=o
 simp only at ho;subst ho
 obtain ⟨inf,z,hinf,hzz,hisz,hzc⟩:=hti.zok _ hzo _ (hti.size _ _ hsz)
 have hbytes:inf.bytes=by_:=by have hby':=hti.bytes _ _ hby;unfold rA at hby';rw [hinf] at hby';simpa using hby'
 have hzo':AV.ofVal z=some zv:=by have:=hti.zero _ _ hzv;unfold zeroOf at this;rw [hinf] at this;simpa [hzz] using this
 have hlv:=(hρ _ (by simp [Op.operands,Call.operands]) _ hl)
 have hcv:=(hρ _ (by simp [Op.operands,Call.operands]) _ hc)
 generalize hle:ev l=lv at hlv
 generalize hce:ev c=cv at hcv
 cases hlv;cases hcv
 have hrun:=run_make (P:=P) w t E inf z (pM hti ht) hinf hzz kl kc m m h0 (Int.le_refl _) (by rw [hbytes];exact hb1) hb2
 have hm:Mv R R γ (γ++[.arr w.heap.size m.toNat]) L (L++[.row (E+65536) (List.replicate m.toNat zs) k]):=Mv.push _ _ hi.len
 have hcr:=cells_rep (R:=R) (γ:=γ++[.arr w.heap.size m.toNat]) (L:=L++[.row (E+65536) (List.replicate m.toNat zs) k]) (AV.ofVal_rep hzo') hcz
 have hzl:zs.length=k:=by have:=hcr.1;rw [hzc] at this;omega
 refine ⟨w.alloc (.cells (madeCells z.cells (m.toNat*inf.size)) E),R,_, .inl ⟨.slice (some ⟨w.heap.size,0,none⟩) m.toNat m.toNat,by simp [execOp,hle,hce,hrun],⟨rfl,rfl⟩,by simp,fun ver2 es2 k2 e2=>?_⟩,?_,⟨Kept.alloc hi.bsz _,PH.sub_refl _,fun _ _ _=>rfl⟩,hm⟩
 ·rw [adP (by omega)] at e2
  simp at e2
  obtain ⟨q1,q2,q3⟩:=e2
  subst q1 q2 q3
  refine ⟨adY _,fun _=>⟨by simp, .arr w.heap.size m.toNat,by rw [<- hi.len];simp, .inl ?_⟩⟩
  simp
 ·refine hi.push _ _ _ rfl ⟨⟨_,E,⟨gq w _,by show (E:Nat)=(E+65536)%65536;omega,by show 65536<=(E:Nat)+65536;omega⟩,by rw [size_madeCells,hisz],fun i e j u x he hu hx=>?_⟩,by simp,hk,fun e he=>?_,fun o=>hi.none_at o⟩
  ·rw [List.getElem?_replicate] at he
   split at he
   ·rename_i him
    obtain rfl:=aee he
    have hj:j<k:=by rw [<- hzl];exact (adI.1 hx).1
    have hlt:i*k+j<m.toNat*inf.size:=by rw [hisz];exact vv him hj
    rw [JP _ _ _ hlt,hzc,Nat.add_comm,Nat.add_mul_mod_self_right,Nat.mod_eq_of_lt hj] at hu
    have hj2:j<z.cells.size:=by rw [hzc];exact hj
    refine hcr.2 j u x ?_ hx
    rw [<- hu,ad8 hj2,getElem!_pos z.cells j hj2]
   ·cases he
  ·rw [List.eq_of_mem_replicate he];exact hzl
end
end Go.Proofs.YtfccopdbgfdcdaaGreatDoor
