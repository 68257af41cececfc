/- Parts. No condition. -/
import Derived.Test.YtnbnpnmkgemdeaaGreatDoorKAD
import Derived.Laws.StructEq
import Derived.Test.YtnbnpnmkgemdeaaGreatDoorProg
set_option maxHeartbeats 8000000
set_option maxRecDepth 100000
set_option linter.unusedSimpArgs false
set_option linter.unusedVariables false
namespace Go.Proofs.YtnbnpnmkgemdeaaGreatDoor
open Go.RowKit Go.MapKept Tryz
def ck {α:Type}(v:α)(φ:Prop)[Decidable φ]:Option α:=if φ then some v else none
theorem aY {α:Type}{v r:α}{φ:Prop}[Decidable φ](h:ck v φ=some r):v=r/\φ:=by
 unfold ck at h;split at h
 .exact⟨aim h,by assumption⟩
 .cases h
def BN {α:Type}(f:Option (α×Prop))(r:α):Prop :=∃ φ,f=some (r,φ)/\φ
theorem g6 {α:Type}{v r:α}(h:some v=some r):BN (some (v,True)) r:=by
 cases h;exact⟨_,rfl,t7⟩
theorem gG {α:Type}{v r:α}{φ:Prop}[Decidable φ](h:ck v φ=some r):BN (some (v,φ)) r:=by
 obtain⟨rfl,hφ⟩:=aY h;exact⟨_,rfl,hφ⟩
def isStr:Option TypeDesc->Bool
 |some .string=>true
 |_=>false
theorem g7 {d:Option TypeDesc}(h:isStr d=true):d=some .string:=by
 unfold isStr at h;split at h
 .rfl
 .cases h
def xU:Option TypeDesc->Bool
 |some .bool=>true
 |_=>false
theorem Eh {d:Option TypeDesc}(h:xU d=true):d=some .bool:=by
 unfold xU at h;split at h
 .rfl
 .cases h
def xE (k:Nat):List (List AC)->Bool
 |[]=>true
 |e::es=>Nat.beq e.length k&&xE k es
theorem mB {k:Nat}:∀ {es:List (List AC)},xE k es=true ->∀ e∈es,e.length=k
 |[],_,e,he=>by cases he
 |x::es,h,e,he=>by
  rw[xE,ah9]at h;obtain rfl|he:=ah8.1 he
  .exact Nat.eq_of_beq_eq_true h.1
  .exact mB h.2 e he
def af1 (op:BinOp)(k:IntKind)(a b:Int):Option AC :=
 match op with
 |.add=>some (.int k (k.wrap (a+b)))
 |.sub=>some (.int k (k.wrap (a-b)))
 |.mul=>some (.int k (k.wrap (a*b)))
 |.quo=>ck (.int k (k.wrap (a.tdiv b))) (b≠0)
 |.rem=>ck (.int k (a.tmod b)) (b≠0)
 |.eql=>some (.bool (decide (a=b)))
 |.neq=>some (.bool (decide (a≠b)))
 |.lss=>some (.bool (decide (a<b)))
 |.leq=>some (.bool (decide (a<=b)))
 |.gtr=>some (.bool (decide (b<a)))
 |.geq=>some (.bool (decide (b<=a)))
 |.and=>some (.int k (k.wrap (BitVec.ofInt k.bits a &&& BitVec.ofInt k.bits b).toNat))
 |.or=>some (.int k (k.wrap (BitVec.ofInt k.bits a |||BitVec.ofInt k.bits b).toNat))
 |_=>none
theorem adK {op:BinOp}{k:IntKind}{a b:Int}{r:AC}(h:af1 op k a b=some r):BN (acf op k a b) r:=by
 cases op<;>first|exact g6 h|exact gG h|cases h
def shB (op:BinOp)(k:IntKind)(a b:Int):Option (Option AC) :=
 match op with
 |.shl=>some (ck (.int k (k.wrap (a*2 ^ (min b.toNat k.bits)))) (0<=b))
 |.shr=>some (ck (.int k (a.fdiv (2 ^ (min b.toNat k.bits)))) (0<=b))
 |_=>none
def agi (op:BinOp)(a b:ByteArray):Option AC :=
 match op with
 |.add=>ck (.str (a++b)) (a.size+b.size<=9223372036854775807)
 |.eql=>some (.bool (a.toList==b.toList))
 |.neq=>some (.bool (!(a.toList==b.toList)))
 |.lss=>some (.bool (Op.bytesLess a.toList b.toList))
 |.leq=>some (.bool (Op.bytesLess a.toList b.toList||a.toList==b.toList))
 |.gtr=>some (.bool (!(Op.bytesLess a.toList b.toList||a.toList==b.toList)))
 |.geq=>some (.bool (!Op.bytesLess a.toList b.toList))
 |_=>none
theorem ada {op:BinOp}{a b:ByteArray}{r:AC}(h:agi op a b=some r):BN (acb op a b) r:=by
 cases op<;>first|exact g6 h|exact gG h|cases h
def aed (ti:TI)(op:BinOp)(t:TypeId):AV->AV->Option AV
 |.one (.c (.int k a)),.one (.c (.int k' b))=>match shB op k a b with
  |some r=>r.map λr => .one (.c r)
  |none=>match decide (k=k')with
   |true=>(af1 op k a b).map λr => .one (.c r)
   |false=>none
 |.one (.c (.str a)),.one (.c (.str b))=>(agi op a b).map λr => .one (.c r)
 |.one (.c (.bool a)),.one (.c (.bool b))=>match op with
  |.eql=>ck (.one (.c (.bool (a==b)))) (xU (ti.kind t)=true)
  |.neq=>ck (.one (.c (.bool (!(a==b))))) (xU (ti.kind t)=true)
  |_=>none
 |.agg xs,.agg ys=>match ti.eqs t with
  |some sh=>match op with
   |.eql=>ck (.one (.c (.bool (cF xs ys)))) (dY sh xs=true/\dY sh ys=true)
   |.neq=>ck (.one (.c (.bool (!cF xs ys)))) (dY sh xs=true/\dY sh ys=true)
   |_=>none
  |none=>none
 |_,_=>none
theorem map_some {α β:Type}{o:Option α}{f:α->β}{r:β}(h:o.map f=some r):∃ a,o=some a/\f a=r:=by
 cases o with
 |none=>cases h
 |some a=>exact⟨a,rfl,aim h⟩
theorem ac8 {ti:TI}{op:BinOp}{t:TypeId}{x y v:AV}(h:aed ti op t x y=some v):BN (sR ti op t x y) v:=by
 unfold aed at h;split at h
 .rename_i k a k' b
  unfold sR
  cases op
  case shl=>obtain⟨r,h1,rfl⟩:=map_some h;obtain⟨rfl,hφ⟩:=aY h1;exact⟨_,rfl,hφ⟩
  case shr=>obtain⟨r,h1,rfl⟩:=map_some h;obtain⟨rfl,hφ⟩:=aY h1;exact⟨_,rfl,hφ⟩
  all_goals
   simp only[shB,aeZ]at h ⊢;split at h
   .rename_i hk
    obtain⟨r,h1,rfl⟩:=map_some h;obtain⟨φ,h2,hφ⟩:=adK h1;rw[hk,h2];exact⟨_,rfl,hφ⟩
   .cases h
 .obtain⟨r,h1,rfl⟩:=map_some h
  obtain⟨φ,h2,hφ⟩:=ada h1;unfold sR;dsimp only;rw[h2];exact⟨_,rfl,hφ⟩
 .split at h
  .obtain⟨rfl,hφ⟩:=aY h;exact⟨_,rfl,Eh hφ⟩
  .obtain⟨rfl,hφ⟩:=aY h;exact⟨_,rfl,Eh hφ⟩
  .cases h
 .unfold sR
  dsimp only;split at h
  .rename_i sh hs
   rw[hs];split at h
   .exact gG h
   .exact gG h
   .cases h
  .cases h
 .cases h
def L6 (ti:TI)(L:List Ob)(t:TypeId):AV->Option AV
 |.one (.c (.ref cs))=>match ti.agg t,ti.size t with
  |some false,_=>match cs with
   |x::_=>some (.one (.c x))
   |[]=>none
  |some true,some n=>ck (.agg ((cs.take n).map .c)) (n<=cs.length)
  |_,_=>none
 |.one (.ptr id off)=>match L[id]? with
  |some (.box cs)=>match ti.agg t,ti.size t with
   |some false,_=>match cs[off]? with
    |some x=>some (.one x)
    |none=>none
   |some true,some n=>ck (.agg ((cs.drop off).take n)) (off+n<=cs.length)
   |_,_=>none
  |_=>none
 |.one (.ep id O9 i o)=>match L[id]? with
  |some (.row Pn es _)=>match es[i]?,ti.agg t,ti.size t with
   |some e,some false,_=>match e[o]? with
    |some x=>ck (.one x) (O9=Pn)
    |none=>none
   |some e,some true,some n=>ck (.agg ((e.drop o).take n)) (O9=Pn/\o+n<=e.length)
   |_,_,_=>none
  |_=>none
 |_=>none
theorem G7 {ti:TI}{L:List Ob}{t:TypeId}{x v:AV}(h:L6 ti L t x=some v):BN (fZ ti L t x) v:=by
 unfold L6 at h;unfold fZ;split at h
 .dsimp only
  split at h
  .rename_i h1
   rw[h1];split at h
   .exact g6 h
   .cases h
  .rename_i h1 h2
   rw[h1,h2];exact gG h
  .cases h
 .dsimp only
  split at h
  .rename_i h0
   rw[h0];dsimp only;split at h
   .rename_i h1
    rw[h1];dsimp only;split at h
    .rename_i h2
     rw[h2];exact g6 h
    .cases h
   .rename_i h1 h2
    rw[h1,h2];exact gG h
   .cases h
  .cases h
 .dsimp only
  split at h
  .rename_i h0
   rw[h0];dsimp only;split at h
   .rename_i h1 h2
    rw[h1,h2];dsimp only;split at h
    .rename_i h3
     rw[h3];exact gG h
    .cases h
   .rename_i h1 h2 h3
    rw[h1,h2,h3];exact gG h
   .cases h
  .cases h
 .cases h
def tm (ti:TI)(s:TypeId)(i0:Nat):AV->Option AV
 |.one (.c (.ref cs))=>match ti.field s i0 with
  |some (o,t)=>match ti.size t with
   |some (_+1)=>ck (.one (.c (.ref (cs.drop o)))) (o<=cs.length)
   |_=>none
  |none=>none
 |.one (.ptr id off)=>match ti.field s i0 with
  |some (o,t)=>match ti.size t with
   |some (_+1)=>some (.one (.ptr id (off+o)))
   |_=>none
  |none=>none
 |_=>none
theorem B7 {ti:TI}{s:TypeId}{i0:Nat}{x v:AV}(h:tm ti s i0 x=some v):BN (ib ti s i0 x) v:=by
 unfold tm at h;unfold ib;split at h
 .dsimp only
  split at h
  .rename_i h0
   rw[h0];dsimp only;split at h
   .rename_i h1
    rw[h1];exact gG h
   .cases h
  .cases h
 .dsimp only
  split at h
  .rename_i h0
   rw[h0];dsimp only;split at h
   .rename_i h1
    rw[h1];exact g6 h
   .cases h
  .cases h
 .cases h
def KB (ti:TI)(s:TypeId)(i:Nat):AV->Option AV
 |.agg xs=>match ti.field s i with
  |some (o,t)=>match ti.agg t,ti.size t with
   |some false,_=>match xs[o]? with
    |some x=>some (.one x)
    |none=>none
   |some true,some n=>ck (.agg ((xs.drop o).take n)) (o+n<=xs.length)
   |_,_=>none
  |none=>none
 |_=>none
theorem M3 {ti:TI}{s:TypeId}{i:Nat}{x v:AV}(h:KB ti s i x=some v):BN (qM ti s i x) v:=by
 unfold KB at h;unfold qM;split at h
 .dsimp only
  split at h
  .rename_i h0
   rw[h0];dsimp only;split at h
   .rename_i h1
    rw[h1];dsimp only;split at h
    .rename_i h2
     rw[h2];exact g6 h
    .cases h
   .rename_i h1 h2
    rw[h1,h2];exact gG h
   .cases h
  .cases h
 .cases h
def v_ (ti:TI)(L:List Ob)(s:TypeId)(i0 id O9 i off:Nat):Option AV :=
 match L[id]?,ti.field s i0 with
 |some (.row Pn _ _),some (o,t)=>match ti.size t with
  |some (_+1)=>ck (.one (.ep id O9 i (off+o))) (O9=Pn)
  |_=>none
 |_,_=>none
theorem FO {ti:TI}{L:List Ob}{s:TypeId}{i0 id O9 i off:Nat}{v:AV}(h:v_ ti L s i0 id O9 i off=some v):BN (dX ti L s i0 id O9 i off) v:=by
 unfold v_ at h;unfold dX;split at h
 .rename_i h0 h1
  rw[h0,h1];dsimp only;split at h
  .rename_i h2
   rw[h2];exact gG h
  .cases h
 .cases h
def FZ (ti:TI)(L:List Ob)(t:TypeId)(id O9 n:Nat):Option AV :=
 match L[id]? with
 |some (.row Pn _ _)=>ck (.one (.c (.int .i64 n))) (O9=Pn/\(ti.elem t).isSome=true)
 |_=>none
theorem KL {ti:TI}{L:List Ob}{t:TypeId}{id O9 n:Nat}{v:AV}(h:FZ ti L t id O9 n=some v):BN (gU ti L t id O9 n) v:=by
 unfold FZ at h;unfold gU;split at h
 .rename_i h0
  rw[h0];exact gG h
 .cases h
def wx (ti:TI)(L:List Ob)(t:TypeId)(id O9 lo n:Nat)(ix:AV):Option AV :=
 match L[id]?,ix,(ti.elem t).bind ti.size with
 |some (.row Pn _ k'),.one (.c (.int _ i)),some k=>ck (.one (.ep id O9 (lo+i.toNat) 0)) ((O9=Pn/\k=k')/\0<=i/\i<n)
 |_,_,_=>none
theorem E7 {ti:TI}{L:List Ob}{t:TypeId}{id O9 lo n:Nat}{ix v:AV}(h:wx ti L t id O9 lo n ix=some v):BN (ec ti L t id O9 lo n ix) v:=by
 unfold wx at h;unfold ec;split at h
 .rename_i h0 h1
  rw[h0,h1];exact gG h
 .cases h
def sM (ti:TI)(t:TypeId)(x ix:AV):Option AV :=
 match cX x,ix,(ti.elem t).bind ti.size with
 |some es,.one (.c (.int _ i)),some k=>match es[i.toNat]? with
  |some e=>ck (.one (.c (.ref e))) (0<=i/\e.length=k)
  |none=>none
 |_,_,_=>none
theorem CG {ti:TI}{t:TypeId}{x ix v:AV}(h:sM ti t x ix=some v):BN (fC ti t x ix) v:=by
 unfold sM at h;unfold fC;split at h
 .rename_i h0 h1
  rw[h0,h1];dsimp only;split at h
  .rename_i h2
   rw[h2];exact gG h
  .cases h
 .cases h
def indexB (ti:TI)(t:TypeId)(x ix:AV):Option AV :=
 match x,ix with
 |.one (.c (.str s)),.one (.c (.int _ i))=>match s[i.toNat]? with
  |some b=>ck (.one (.c (.int .u8 b.toNat))) (0<=i/\isStr (ti.kind t)=true)
  |none=>none
 |.agg zs,.one (.c (.int _ i))=>match ti.kind t with
  |some (.array n e)=>match ti.agg e,ti.size e with
   |some false,some k=>match zs[i.toNat*k]? with
    |some x=>ck (.one x) (0<=i/\i<(n:Int))
    |none=>none
   |some true,some k=>ck (.agg ((zs.drop (i.toNat*k)).take k)) ((0<=i/\i<(n:Int))/\i.toNat*k+k<=zs.length)
   |_,_=>none
  |_=>none
 |_,_=>none
theorem NU {ti:TI}{t:TypeId}{x ix v:AV}(h:indexB ti t x ix=some v):BN (nr ti t x ix) v:=by
 unfold indexB at h;unfold nr;split at h
 .dsimp only
  split at h
  .rename_i h2
   rw[h2];obtain⟨rfl,h3,h4⟩:=aY h;exact⟨_,rfl,h3,g7 h4⟩
  .cases h
 .dsimp only
  split at h
  .rename_i hk
   rw[hk];dsimp only;split at h
   .rename_i ha hs
    rw[ha,hs];dsimp only;split at h
    .rename_i hx
     rw[hx];exact gG h
    .cases h
   .rename_i ha hs
    rw[ha,hs];exact gG h
   .cases h
  .cases h
 .cases h
def sliceB (ti:TI)(L:List Ob)(t:TypeId)(x:AV)(lo hi:Option AV):Option AV :=
 match x with
 |.one (.c (.str s))=>match jM 0 lo,jM s.size hi with
  |some l,some h=>ck (.one (.c (.str (s.extract l.toNat h.toNat)))) (0<=l/\l<=h/\h<=s.size/\isStr (ti.kind t)=true)
  |_,_=>none
 |.one (.sl id O9 Xi n)=>match L[id]?,(ti.elem t).bind ti.size with
  |some (.row Pn _ k'),some k=>match jM 0 lo,jM n hi with
   |some l,some h=>ck (.one (.sl id O9 (Xi+l.toNat) (h.toNat-l.toNat))) (O9=Pn/\k=k'/\0<=l/\l<=h/\h<=n)
   |_,_=>none
  |_,_=>none
 |_=>match cX x,(ti.elem t).bind ti.size with
  |some es,some k=>match jM 0 lo,jM es.length hi with
   |some l,some h=>ck (.one (.c (.lst ((es.take h.toNat).drop l.toNat)))) (0<=l/\l<=h/\h<=es.length/\xE k es=true)
   |_,_=>none
  |_,_=>none
theorem qY {ti:TI}{L:List Ob}{t:TypeId}{x v:AV}{lo hi:Option AV}(h:sliceB ti L t x lo hi=some v):BN (dJ ti L t x lo hi) v:=by
 unfold sliceB at h;split at h
 .unfold dJ
  dsimp only;split at h
  .rename_i h0 h1
   rw[h0,h1];obtain⟨rfl,h3,h4,h5,h6⟩:=aY h;exact⟨_,rfl,h3,h4,h5,g7 h6⟩
  .cases h
 .unfold dJ
  dsimp only;split at h
  .rename_i h0 h1
   rw[h0,h1];dsimp only;split at h
   .rename_i h2 h3
    rw[h2,h3];exact gG h
   .cases h
  .cases h
 .rename_i n1 n2
  unfold dJ;split
  .rename_i s;exact absurd rfl (n1 s)
  .rename_i a b c d;exact absurd rfl (n2 a b c d)
  .split at h
   .rename_i h0 h1
    rw[h0,h1];dsimp only;split at h
    .rename_i h2 h3
     rw[h2,h3];obtain⟨rfl,h3,h4,h5,h6⟩:=aY h;exact⟨_,rfl,h3,h4,h5,mB h6⟩
    .cases h
   .cases h
def aey (ti:TI)(t:TypeId)(x:AV):Option AV :=
 match x with
 |.one (.c (.str s))=>ck (.one (.c (.int .i64 s.size))) (isStr (ti.kind t)=true)
 |_=>match cX x with
  |some es=>ck (.one (.c (.int .i64 es.length))) ((ti.elem t).isSome=true)
  |none=>none
theorem acN {ti:TI}{t:TypeId}{x v:AV}(h:aey ti t x=some v):BN (zZ ti t x) v:=by
 unfold aey at h;split at h
 .obtain⟨rfl,h1⟩:=aY h
  exact⟨_,rfl,g7 h1⟩
 .rename_i n1
  unfold zZ;split
  .rename_i s;exact absurd rfl (n1 s)
  .split at h
   .rename_i h0
    rw[h0];exact gG h
   .cases h
def zG (ti:TI)(t:TypeId):List SV->List (Nat×Option AV)->Option (List SV)
 |zs,[]=>some zs
 |zs,(i,v)::ps=>match v.bind AV.cells,wu ti t i with
  |some xs,some (o,ty)=>match zG ti t (splice zs o xs) ps with
   |some r=>ck r (ti.size ty=some xs.length/\o+xs.length<=zs.length)
   |none=>none
  |_,_=>none
theorem Di {ti:TI}{t:TypeId}:∀ {ps:List (Nat×Option AV)} {zs r:List SV},zG ti t zs ps=some r->BN (lk ti t zs ps) r
 |[],zs,r,h=>g6 h
 |(i,v)::ps,zs,r,h=>by
  unfold zG at h;unfold lk;split at h
  .rename_i h0 h1
   rw[h0,h1];dsimp only;split at h
   .rename_i r' h2
    obtain⟨φ,h3,h4⟩:=Di h2;rw[h3];obtain⟨rfl,h5⟩:=aY h;exact⟨_,rfl,h5,h4⟩
   .cases h
  .cases h
def aa1 (ti:TI)(ρ:Operand->Option AV)(L:List Ob):Op->Option AV
 |.move x=>ρ x
 |.assign x=>ρ x
 |.pick c a b=>match ρ c,ρ a,ρ b with
  |some (.one (.c (.bool t))),some va,some vb=>some (if t=true then va else vb)
  |_,_,_=>none
 |.binOp op t x y _=>match ρ x,ρ y with
  |some va,some vb=>aed ti op t va vb
  |_,_=>none
 |.unOp op _ x=>match op,ρ x with
  |.not,some (.one (.c (.bool b)))=>some (.one (.c (.bool !b)))
  |.neg,some (.one (.c (.int k n)))=>some (.one (.c (.int k (k.wrap (0-n)))))
  |_,_=>none
 |.convert src dst x=>match ρ x with
  |some (.one (.c (.int _ n)))=>match ti.kind dst with
   |some (.int k)=>ck (.one (.c (.int k (k.wrap n)))) ((ti.kind src).isSome=true)
   |_=>none
  |some (.one (.c (.str s)))=>ck (.one (.c (.str s))) (isStr (ti.kind dst)=true/\(ti.kind src).isSome=true)
  |_=>none
 |.load t p=>(ρ p).bind (L6 ti L t)
 |.fieldAddr s x i=>match ρ x with
  |some (.one (.ep id O9 i0 off))=>v_ ti L s i id O9 i0 off
  |some vx=>tm ti s i vx
  |none=>none
 |.field s x i=>(ρ x).bind (KB ti s i)
 |.indexAddr t x ix=>match ρ x,ρ ix with
  |some (.one (.sl id O9 lo n)),some vi=>wx ti L t id O9 lo n vi
  |some vx,some vi=>sM ti t vx vi
  |_,_=>none
 |.index t x ix=>match ρ x,ρ ix with
  |some vx,some vi=>indexB ti t vx vi
  |_,_=>none
 |.extract t i=>match ρ t with
  |some (.tup ps)=>match ps[i]? with
   |some p=>some p.av
   |none=>none
  |some (.tupS xs)=>match xs[i]? with
   |some x=>some (.one x)
   |none=>none
  |_=>none
 |.nilCheck x=>match ρ x with
  |some (.one (.c (.ref cs)))=>some (.one (.c (.ref cs)))
  |some (.one (.ptr id off))=>some (.one (.ptr id off))
  |some (.one (.ep id O9 i o))=>match L[id]? with
   |some (.row Pn _ _)=>ck (.one (.ep id O9 i o)) (O9=Pn)
   |_=>none
  |some (.one (.clo f cs))=>some (.one (.clo f cs))
  |some (.one (.c (.fn f cs)))=>some (.one (.c (.fn f cs)))
  |_=>none
 |.slice t x lo hi none=>match ρ x,lo.map ρ,hi.map ρ with
  |some v,none,none=>sliceB ti L t v none none
  |some v,some (some l),none=>sliceB ti L t v (some l) none
  |some v,none,some (some h)=>sliceB ti L t v none (some h)
  |some v,some (some l),some (some h)=>sliceB ti L t v (some l) (some h)
  |_,_,_=>none
 |.call { callee := .builtin .len,args,argTypes } =>match args.toList,argTypes.toList with
  |[x],[t]=>match ρ x with
   |some (.one (.sl id O9 _ n))=>FZ ti L t id O9 n
   |some vx=>aey ti t vx
   |none=>none
  |_,_=>none
 |.call { callee := .builtin .min,args,.. } =>match args.toList.map ρ with
  |[some (.one (.c (.int k a))),some (.one (.c (.int _ b)))]=>some (.one (.c (.int k (if b<a then b else a))))
  |_=>none
 |.call { callee := .builtin .max,args,.. } =>match args.toList.map ρ with
  |[some (.one (.c (.int k a))),some (.one (.c (.int _ b)))]=>some (.one (.c (.int k (if b>a then b else a))))
  |_=>none
 |.build t parts=>match ti.zero t with
  |some (.agg zs)=>((zG ti t zs (parts.toList.map λp=>(p.1,ρ p.2))).bind λr=>ck (AV.agg r) (bok ti t=true))
  |_=>none
 |.makeFunc (.func f) first captured=>match first.toList,yE (captured.toList.map ρ)with
  |[],some cs=>some (.one (.c (.fn f cs)))
  |_,_=>none
 |_=>none
theorem abW {ti:TI}{ρ:Operand->Option AV}{L:List Ob}{op:Op}{v:AV}(h:aa1 ti ρ L op=some v):BN (pop ti ρ L op) v:=by
 unfold aa1 at h;split at h
 .unfold pop;dsimp only;rw[h];exact⟨_,rfl,t7⟩
 .unfold pop;dsimp only;rw[h];exact⟨_,rfl,t7⟩
 .unfold pop
  dsimp only;split at h
  .rename_i h0 h1 h2
   rw[h0,h1,h2];exact g6 h
  .cases h
 .unfold pop
  dsimp only;split at h
  .rename_i h0 h1
   rw[h0,h1];exact ac8 h
  .cases h
 .unfold pop
  dsimp only;split at h
  .rename_i h0
   rw[h0];exact g6 h
  .rename_i h0
   rw[h0];exact g6 h
  .cases h
 .unfold pop
  dsimp only;split at h
  .rename_i h0
   rw[h0];dsimp only;split at h
   .rename_i h1
    rw[h1];exact gG h
   .cases h
  .rename_i h0
   rw[h0];obtain⟨rfl,h1,h2⟩:=aY h;exact⟨_,rfl,g7 h1,h2⟩
  .cases h
 .rename_i t p
  unfold pop;dsimp only
  cases hp:ρ p with
  |none=>rw[hp]at h;cases h
  |some x=>rw[hp]at h;exact G7 h
 .unfold pop
  dsimp only;split at h
  .rename_i h0
   rw[h0];exact FO h
  .rename_i vx hn h0
   rw[h0];split
   .rename_i e;cases e;exact(hn _ _ _ _ rfl).elim
   .rename_i e;cases e;exact B7 h
   .rename_i e;cases e
  .cases h
 .rename_i s x i
  unfold pop;dsimp only
  cases hp:ρ x with
  |none=>rw[hp]at h;cases h
  |some x=>rw[hp]at h;exact M3 h
 .unfold pop
  dsimp only;split at h
  .rename_i h0 h1
   rw[h0,h1];exact E7 h
  .rename_i vx vi hn h0 h1
   rw[h0,h1];split
   .rename_i e1 e2;cases e1;exact(hn _ _ _ _ rfl).elim
   .rename_i e1 e2;cases e1;cases e2;exact CG h
   .rename_i hm;exact(hm _ _ rfl rfl).elim
  .cases h
 .unfold pop
  dsimp only;split at h
  .rename_i h0 h1
   rw[h0,h1];exact NU h
  .cases h
 .unfold pop
  dsimp only;split at h
  .rename_i h0
   rw[h0];dsimp only;split at h
   .rename_i h1
    rw[h1];exact g6 h
   .cases h
  .rename_i h0
   rw[h0];dsimp only;split at h
   .rename_i h1
    rw[h1];exact g6 h
   .cases h
  .cases h
 .unfold pop
  dsimp only;split at h
  .rename_i h0;rw[h0];exact g6 h
  .rename_i h0;rw[h0];exact g6 h
  .rename_i h0
   rw[h0];dsimp only;split at h
   .rename_i h1
    rw[h1];exact gG h
   .cases h
  .rename_i h0;rw[h0];exact g6 h
  .rename_i h0;rw[h0];exact g6 h
  .cases h
 .unfold pop
  dsimp only;split at h
  .rename_i h0 h1 h2;rw[h0,h1,h2];exact qY h
  .rename_i h0 h1 h2;rw[h0,h1,h2];exact qY h
  .rename_i h0 h1 h2;rw[h0,h1,h2];exact qY h
  .rename_i h0 h1 h2;rw[h0,h1,h2];exact qY h
  .cases h
 .unfold pop
  dsimp only;split at h
  .rename_i h0 h1
   rw[h0,h1];dsimp only;split at h
   .rename_i h2
    rw[h2];exact KL h
   .rename_i vx hn h2
    rw[h2];split
    .rename_i e;cases e;exact(hn _ _ _ _ rfl).elim
    .rename_i e;cases e;exact acN h
    .rename_i e;cases e
   .cases h
  .cases h
 .unfold pop
  dsimp only;split at h
  .rename_i h0
   rw[h0];exact g6 h
  .cases h
 .unfold pop
  dsimp only;split at h
  .rename_i h0
   rw[h0];exact g6 h
  .cases h
 .rename_i t parts
  unfold pop;dsimp only;split at h
  .rename_i zs h0
   rw[h0];dsimp only
   cases hb:zG ti t zs (parts.toList.map λp=>(p.1,ρ p.2))with
   |none=>rw[hb]at h;cases h
   |some r =>
    rw[hb]at h;obtain⟨rfl,h1⟩:=aY h;obtain⟨φ,h2,h3⟩:=Di hb;rw[h2];exact⟨_,rfl,h1,h3⟩
  .cases h
 .unfold pop
  dsimp only;split at h
  .rename_i h0 h1
   rw[h0,h1];exact g6 h
  .cases h
 .cases h
def zI (ρ:Operand->Option AV):List (Nat×Operand)->Nat->Option (List (List SV))
 |[],_=>some []
 |(i,x)::ps,j=>match decide (i=j),(ρ x).bind AV.cells,zI ρ ps (j+1)with
  |true,some p,some es=>some (p::es)
  |_,_,_=>none
section
variable {P:Program} {ti:TI} {B:Nat->Prop} {R:PH} {γ:List Gh} {L:List Ob} {w:World} {ρ:Operand->Option AV}
theorem yX {ev:Operand->Value}:∀ (ps:List (Nat×Operand)) (hρ:∀ p∈ps,∀ v,ρ p.2=some v->v.rep R γ L (ev p.2)) (j:Nat) (es:List (List SV)),zI ρ ps j=some es ->
  ∃ vs:List Value,(ps.map λp=>(p.1,ev p.2))=(vs.zipIdx j).map (λx=>(x.2,x.1))/\vs.length=es.length /\
   (∀ (i:Nat) v e,vs[i]?=some v->es[i]?=some e->B0 R γ L e v.cells)
 |[],hρ,j,es,h=>by injection h with h;subst h;exact⟨[],rfl,rfl,λi v e hv=>by simp at hv⟩
 |(i,x)::ps,hρ,j,es,h=>by
  unfold zI at h;split at h
  .rename_i p Ql Wu hp Xl
   obtain rfl:=aii Wu;injection h with h;subst h
   obtain⟨vs,h1,h2,h3⟩:=yX ps (λp hp=>hρ p (aid _ hp)) (i+1) Ql Xl
   cases hx:ρ x with
   |none=>simp[hx]at hp
   |some vx =>
    simp only[hx,ahQ]at hp;have hr:=cells_rep (hρ (i,x) (List.mem_cons_self ..) _ hx) hp;refine⟨ev x::vs,by simp[List.zipIdx_cons,h1],by simp[h2],λq v e hv he=>?_⟩
    cases q with
    |zero=>simp at hv he;subst hv he;exact hr
    |succ q=>exact h3 q v e (by simpa using hv) (by simpa using he)
  .cases h
theorem Je (Pm:TIok P ti){t:TypeId}{E k len:Nat}{parts:Array (Nat×Operand)}{es:List (List SV)}(ht:ti.elem t=some E)(hE:E<65536)(hk:ti.size E=some k)(Zw:ti.zok E=true)(Xl:zI ρ parts.toList 0=some es)(hlen:es.length=len)(h0:0<len)(US:∀ e∈es,e.length=k)(UD:0<k)(hsm:len*k<=16777216) :
  nA P ρ L (.buildSlice t len parts) (.one (.sl L.length (E+65536) 0 len)) (L++[.row (E+65536) es k]):=by
 intro B R γ w ev o ho hi hρ RN;obtain⟨dst,op,type,pos,after,guard⟩:=o;simp only at ho;subst ho;have hk:=Pm.size _ _ hk;have hu:=lm Pm ht;obtain⟨vs,e1,e2,e3⟩:=yX (ev:=ev) parts.toList (λp hp v hv=>hρ p.2 (by simp only[Op.operands,List.mem_toArray,aip];exact⟨p,hp,rfl⟩) v hv) _ _ Xl;have Vv:(parts.map λp=>(p.1,ev p.2)).toList=(vs.zipIdx 0).map λx=>(x.2,x.1):=by rw[Array.toList_map,e1]
 obtain⟨i,z,Tn,U2,Ys,hi4⟩:=Pm.zok _ Zw _ hk;have Vl:∀ v∈vs,v.cells.size=k:=by
  intro v hv;obtain⟨q,hq⟩:=List.mem_iff_getElem?.1 hv;have O8:q<es.length:=by rw[<- e2];exact(ahR.1 hq).1
  have he:es[q]?=some es[q]:=ah0 O8;rw[(e3 q v _ hq he).1];exact US _ (List.getElem_mem O8)
 have PE:¬ len*i.size=0:=by
  rw[Ys];intro e;rcases Nat.mul_eq_zero.1 e with e|e<;>omega
 have P4:=run_buildSlice (P:=P) w t E len (parts.map λp=>(p.1,ev p.2)) (vs.flatMap λv=>v.cells.toList).toArray i z hu Tn U2 (by rw[Ys];omega) PE (by
  rw[Vv,Ys];exact Go.Great.fill_whole UD vs _ Vl (by simp;rw[e2,hlen]))
 have hm:Mv R R γ (γ++[.arr w.heap.size len]) L (L++[.row (E+65536) es k]):=Mv.push _ _ hi.len;refine⟨_,R,_,.inl ⟨.slice (some ⟨w.heap.size,0,none⟩) len len,by simp only[execOp,Sem.run_bind];rw[P4];rfl,⟨rfl,rfl⟩,m5,λRl UC k2 ZV=>?_⟩,?_,⟨Kept.alloc hi.bsz _,PH.sub_refl _,λ_ _ _=>rfl⟩,hm⟩
 .rw[ahY m0]at ZV
  simp at ZV;obtain⟨q1,q2,q3⟩:=ZV;subst q1 q2 q3;exact⟨ah7 _,λ_=>⟨m0,.arr w.heap.size len,by rw[<- hi.len];simp,.inl m5⟩⟩
 .have Qf:(vs.flatMap λv=>v.cells.toList).toArray.size=len*k:=by rw[List.size_toArray,AW k vs Vl,e2,hlen]
  refine hi.push _ _ _ rfl ⟨⟨_,E,⟨di w _,by show(E:Nat)=(E+65536)%65536;omega,m0⟩,Qf,λq e j u x he hu hx=>?_⟩,m0,UD,US,λo=>hi.none_at o⟩;have Yt:q<vs.length:=by rw[e2];exact(ahR.1 he).1
  have hv:vs[q]?=some vs[q]:=ah0 Yt;have UU:j<k:=by rw[<- US e (ahX he)];exact(ahR.1 hx).1
  have h3:=e3 q _ e hv he;rw[List.getElem?_toArray,flat_get k vs Vl q _ hv j UU]at hu;exact SV.mv hm (h3.2 j u x hu hx)
end
section
variable {P:Program} {ti:TI} {ρ:Operand->Option AV} {L:List Ob}
theorem CL (z:Array Value)(n i:Nat)(h:i<n):(madeCells z n)[i]?=some z[i%z.size]! :=by
 simp[madeCells,h]
theorem rh (Pm:TIok P ti){l c:Operand}{t:TypeId}{E k by_:Nat}{m:Int}{kl kc:IntKind}{zs:List SV}{zv:AV}(hl:ρ l=some (.one (.c (.int kl m))))(hc:ρ c=some (.one (.c (.int kc m))))(ht:ti.elem t=some E)(hE:E<65536)(Qf:ti.size E=some k)(Xa:ti.zok E=true)(hzv:ti.zero E=some zv)(hcz:zv.cells=some zs)(Su:ti.bytes E=some by_)
  (hk:0<k) (h0:0<=m) (OZ:(by_:Int)*m<=281474976710656) (Pe:m<=9223372036854775807) :
  nA P ρ L (.makeSlice t l c) (.one (.sl L.length (E+65536) 0 m.toNat)) (L++[.row (E+65536) (List.replicate m.toNat zs) k]):=by
 intro B R γ w ev o ho hi hρ RN;obtain⟨dst,op,type,pos,after,guard⟩:=o;simp only at ho;subst ho;obtain⟨inf,z,Qa,Tc,RA,VS⟩:=Pm.zok _ Xa _ (Pm.size _ _ Qf);have QO:inf.bytes=by_:=by have SA:=Pm.bytes _ _ Su;unfold kH at SA;rw[Qa]at SA;simpa using SA
 have hzo':AV.ofVal z=some zv:=by have:=Pm.zero _ _ hzv;unfold zeroOf at this;rw[Qa]at this;simpa[Tc]using this
 have Yb:=(hρ _ (by simp[Op.operands,Call.operands]) _ hl);have Sl:=(hρ _ (by simp[Op.operands,Call.operands]) _ hc);generalize hle:ev l=lv at Yb;generalize ZR:ev c=cv at Sl
 cases Yb;cases Sl;have P4:=run_make (P:=P) w t E inf z (lm Pm ht) Qa Tc kl kc m m h0 (Int.le_refl _) (by rw[QO];exact OZ) Pe;have hm:Mv R R γ (γ++[.arr w.heap.size m.toNat]) L (L++[.row (E+65536) (List.replicate m.toNat zs) k]):=Mv.push _ _ hi.len;have T9:=cells_rep (R:=R) (γ:=γ++[.arr w.heap.size m.toNat]) (L:=L++[.row (E+65536) (List.replicate m.toNat zs) k]) (AV.ofVal_rep hzo') hcz;have hzl:zs.length=k:=by have:=T9.1;rw[VS]at this;omega
 refine⟨w.alloc (.cells (madeCells z.cells (m.toNat*inf.size)) E),R,_,.inl ⟨.slice (some ⟨w.heap.size,0,none⟩) m.toNat m.toNat,by simp[execOp,hle,ZR,P4],⟨rfl,rfl⟩,m5,λRl UC k2 e2=>?_⟩,?_,⟨Kept.alloc hi.bsz _,PH.sub_refl _,λ_ _ _=>rfl⟩,hm⟩
 .rw[ahY m0]at e2
  simp at e2;obtain⟨q1,q2,q3⟩:=e2;subst q1 q2 q3;refine⟨ah7 _,λ_=>⟨m5,.arr w.heap.size m.toNat,by rw[<- hi.len];simp,.inl ?_⟩⟩;simp
 .refine hi.push _ _ _ rfl ⟨⟨_,E,⟨di w _,by show(E:Nat)=(E+65536)%65536;omega,by show 65536<=(E:Nat)+65536;omega⟩,by rw[size_madeCells,RA],λi e j u x he hu hx=>?_⟩,m5,hk,λe he=>?_,λo=>hi.none_at o⟩
  .rw[List.getElem?_replicate]at he
   split at he
   .rename_i him
    obtain rfl:=aim he;have hj:j<k:=by rw[<- hzl];exact(ahR.1 hx).1
    have O8:i*k+j<m.toNat*inf.size:=by rw[RA];exact oD him hj
    rw[CL _ _ _ O8,VS,Nat.add_comm,Nat.add_mul_mod_self_right,Nat.mod_eq_of_lt hj]at hu;have Xq:j<z.cells.size:=by rw[VS];exact hj
    refine T9.2 j u x ?_ hx;rw[<- hu,aie Xq,getElem!_pos z.cells j Xq]
   .cases he
  .rw[List.eq_of_mem_replicate he];exact hzl
end
def adw (ti:TI)(ρ:Operand->Option AV):Op->Option AV
 |.buildSlice t len parts=>match lY ρ parts.toList 0,ti.elem t with
  |some es,some E=>match ti.size E with
   |some k=>match len with
    |0=>ck (.one .emp) (es.isEmpty=true)
    |n+1=>ck (.one (.c (.lst es))) (es.length=n+1/\xE k es=true/\0<k/\(n+1)*k<=16777216/\ti.zok E=true)
   |none=>none
  |_,_=>none
 |_=>none
theorem MG {ti:TI}{ρ:Operand->Option AV}{op:Op}{v:AV}(h:adw ti ρ op=some v):BN (sD ti ρ op) v:=by
 unfold adw at h;split at h
 .rename_i t len parts
  show BN (wl ti ρ t len parts.toList) v;unfold wl;split at h
  .rename_i h0 h1
   rw[h0,h1];dsimp only;split at h
   .rename_i h2
    rw[h2];dsimp only;split at h
    .obtain⟨rfl,h3⟩:=aY h
     rw[if_pos rfl];exact⟨_,rfl,List.isEmpty_iff.1 h3⟩
    .obtain⟨rfl,h3,h4,h5,h6,h7⟩:=aY h
     rw[if_neg (Nat.succ_ne_zero _)];exact⟨_,rfl,h3,mB h4,h5,h6,h7⟩
   .cases h
  .cases h
 .cases h
def aeU (ti:TI)(L:List Ob)(t tx:TypeId)(s x:AV):Option (AV×List Ob) :=
 match cX x,ti.elem t with
 |some xs,some E=>match ti.size E,ti.bytes E with
  |some k,some by_=>match s with
   |.one .emp=>ck (.one (.own xs L.length),L++[.spare xs.length k]) ((ti.elem tx).isSome=true/\0<k/\ti.zok E=true/\xE k xs=true/\xs.length*by_<=140737488355328/\xs.length<=140737488355328)
   |.one (.own es i)=>match L[i]? with
    |some (.spare n k')=>ck (.one (.own (es++xs) i),L.set i (.spare (n+xs.length) k)) ((ti.elem tx).isSome=true/\k'=k/\es.length=n/\(ti.zok E=true/\0<k)/\xE k xs=true/\(n+xs.length)*by_<=140737488355328/\n+xs.length<=140737488355328)
    |_=>none
   |_=>none
  |_,_=>none
 |_,_=>none
def afV {α β:Type}(f:Option (α×β×Prop))(a:α)(b:β):Prop :=∃ φ,f=some (a,b,φ)/\φ
theorem adf {ti:TI}{L L':List Ob}{t tx:TypeId}{s x v:AV}(h:aeU ti L t tx s x=some (v,L')):afV (tq ti L t tx s x) v L':=by
 unfold aeU at h;unfold tq;split at h
 .rename_i h0 h1
  rw[h0,h1];dsimp only;split at h
  .rename_i h2 h3
   rw[h2,h3];dsimp only;split at h
   .obtain⟨e,h4,h5,h6,h7,h8⟩:=aY h
    cases e;exact⟨_,rfl,h4,h5,h6,mB h7,h8⟩
   .dsimp only
    split at h
    .rename_i h4
     rw[h4];obtain⟨e,h5,h6,h7,h8,h9,YC⟩:=aY h
     cases e;exact⟨_,rfl,h5,h6,h7,h8,mB h9,YC⟩
    .cases h
   .cases h
  .cases h
 .cases h
def ac7 (ti:TI)(ρ:Operand->Option AV)(L:List Ob):Op->Option (AV×List Ob)
 |.alloc E=>match (ti.zero E).bind AV.cells with
  |some zs=>some (.one (.ptr L.length 0),L++[.box zs])
  |none=>none
 |.box _ x=>match (ρ x).bind AV.cells with
  |some xs=>some (.one (.ptr L.length 0),L++[.box xs])
  |none=>none
 |.store t p x=>match ρ p,(ρ x).bind AV.cells with
  |some (.one (.ptr id off)),some xs=>match L[id]? with
   |some (.box cs)=>ck (.undef,L.set id (.box (splice cs off xs))) (off+xs.length<=cs.length/\ti.size t=some xs.length)
   |_=>none
  |some (.one (.ep id O9 i o)),some xs=>match L[id]? with
   |some (.row Pn es k)=>match es[i]? with
    |some e=>ck (.undef,L.set id (.row Pn (es.set i (splice e o xs)) k)) (O9=Pn/\o+xs.length<=e.length/\ti.size t=some xs.length)
    |none=>none
   |_=>none
  |_,_=>none
 |.call { callee := .builtin .append,args,argTypes } =>match args.toList,argTypes.toList with
  |[s,x],[t,tx]=>match ρ s,ρ x with
   |some vs,some vx=>aeU ti L t tx vs vx
   |_,_=>none
  |_,_=>none
 |_=>none
theorem LC {ti:TI}{ρ:Operand->Option AV}{L L':List Ob}{op:Op}{v:AV}(h:ac7 ti ρ L op=some (v,L')):afV (yb ti ρ L op) v L':=by
 unfold ac7 at h;split at h
 .unfold yb
  dsimp only;split at h
  .rename_i h0
   rw[h0];cases h;exact⟨_,rfl,t7⟩
  .cases h
 .unfold yb
  dsimp only;split at h
  .rename_i h0
   rw[h0];cases h;exact⟨_,rfl,t7⟩
  .cases h
 .unfold yb
  dsimp only;split at h
  .rename_i h0 h1
   rw[h0,h1];dsimp only;split at h
   .rename_i h2
    rw[h2];obtain⟨e,h3⟩:=aY h
    cases e;exact⟨_,rfl,h3⟩
   .cases h
  .rename_i h0 h1
   rw[h0,h1];dsimp only;split at h
   .rename_i h2
    rw[h2];dsimp only;split at h
    .rename_i h3
     rw[h3];obtain⟨e,h4⟩:=aY h
     cases e;exact⟨_,rfl,h4⟩
    .cases h
   .cases h
  .cases h
 .unfold yb
  dsimp only;split at h
  .rename_i h0 h1
   rw[h0,h1];dsimp only;split at h
   .rename_i h2 h3
    rw[h2,h3];exact adf h
   .cases h
  .cases h
 .cases h
def kX:List (AC×AV)->Bool
 |[]=>true
 |p::PQ=>match p.1 with
  |.str _=>kX PQ
  |_=>false
theorem jA:∀ {PQ:List (AC×AV)},kX PQ=true->strKeys PQ
 |[],_,p,hp=>by cases hp
 |q::PQ,h,p,hp=>by
  unfold kX at h;split at h
  .rename_i s hs
   obtain rfl|hp:=ah8.1 hp
   .exact⟨s,hs⟩
   .exact jA h p hp
  .cases h
def abQ:Option TypeDesc->Option (TypeId×TypeId)
 |some (.map k e)=>some (k,e)
 |_=>none
theorem FR {d:Option TypeDesc}{k e:TypeId}(h:abQ d=some (k,e)):d=some (.map k e):=by
 unfold abQ at h;split at h
 .cases h;rfl
 .cases h
def HM:Option TypeDesc->Option TypeId
 |some (.pointer e)=>some e
 |_=>none
theorem rI {d:Option TypeDesc}{e:TypeId}(h:HM d=some e):d=some (.pointer e):=by
 unfold HM at h;split at h
 .cases h;rfl
 .cases h
def aeO:Option TypeDesc->Option TypeId
 |some (.slice e)=>some e
 |_=>none
theorem adG {d:Option TypeDesc}{e:TypeId}(h:aeO d=some e):d=some (.slice e):=by
 unfold aeO at h;split at h
 .cases h;rfl
 .cases h
def K_:Option TypeDesc->Bool
 |some .unsafePointer=>true
 |_=>false
theorem Gu {d:Option TypeDesc}(h:K_ d=true):d=some .unsafePointer:=by
 unfold K_ at h;split at h
 .rfl
 .cases h
def acz (ti:TI)(L:List Ob)(k:Nat)(tx:TypeId):AV->Bool
 |.one (.c (.str _))=>decide (k=1)&&isStr (ti.kind tx)
 |.one (.sl id O9 lo n)=>(ti.elem tx).isSome&&(match L[id]? with
  |some (.row Pn es k')=>decide (O9=Pn)&&(decide (k=k')&&decide (lo+n<=es.length))
  |_=>false)
 |x=>(ti.elem tx).isSome&&(match cX x with
  |some es=>xE k es
  |none=>false)
theorem KU {ti:TI}{L:List Ob}{k:Nat}{tx:TypeId}{x:AV}(h:acz ti L k tx x=true):yS ti L k tx x:=by
 unfold acz at h;split at h
 .rw[ah9]at h
  exact⟨aii h.1,g7 h.2⟩
 .rw[ah9]at h
  obtain⟨h1,h2⟩:=h;split at h2
  .rename_i h3
   rw[ah9,ah9]at h2;obtain⟨h4,h5,h6⟩:=h2;obtain rfl:=aii h4;obtain rfl:=aii h5;exact⟨h1,_,h3,aii h6⟩
  .cases h2
 .rename_i n1 n2
  rw[ah9]at h;obtain⟨h1,h2⟩:=h;unfold yS;split
  .rename_i s;exact absurd rfl (n1 s)
  .rename_i a b c d;exact absurd rfl (n2 a b c d)
  .split at h2
   .rename_i h3;exact⟨h1,_,h3,mB h2⟩
   .cases h2
def bytesOf:List (List SV)->Option (List UInt8)
 |[]=>some []
 |[.c (.int .u8 n)]::es=>match bytesOf es with
  |some bs=>if n=(UInt8.ofNat n.toNat).toNat then some (UInt8.ofNat n.toNat::bs)else none
  |none=>none
 |_=>none
theorem BF:∀ {es:List (List SV)} {bs:List UInt8},bytesOf es=some bs->es=bs.map λb=>[.c (.int .u8 b.toNat)]
 |[],bs,h=>by cases h;rfl
 |e::es,bs,h=>by
  unfold bytesOf at h;split at h
  .rename_i e1;cases e1
  .rename_i n Ql e1
   cases e1;split at h
   .rename_i bs' h1
    split at h
    .rename_i h2
     cases h;rw[ah2,<- BF h1,<- h2]
    .cases h
   .cases h
  .cases h
def EO (k:Nat):List (List SV)->Bool
 |[]=>true
 |e::es=>Nat.beq e.length k&&EO k es
theorem DO {k:Nat}:∀ {es:List (List SV)},EO k es=true ->∀ e∈es,e.length=k
 |[],_,e,he=>by cases he
 |x::es,h,e,he=>by
  rw[EO,ah9]at h;obtain rfl|he:=ah8.1 he
  .exact Nat.eq_of_beq_eq_true h.1
  .exact DO h.2 e he
def pd (a b:ByteArray):Int:=Extern.BytealgCompare.cmp a b
theorem JU {P : Program} {ρ : Operand -> Option AV} {L : List Ob} {f : FuncId} {fn : Func} {x y : Operand} {ts : Array TypeId} {a b : ByteArray} (hx : ρ x = some (.one (.c (.str a)))) (hy : ρ y = some (.one (.c (.str b)))) (hf : P.funcs[f]? = some fn) (Qy : (fn.name == "runtime.NumGoroutine") = false)
  (hb:fn.body.isNone=true) (hn:Extern.findNext fn=none) (he:Extern.find fn=some Extern.BytealgCompare.compare) :
  nA P ρ L (.call { callee := .value (.func f),args :=#[x,y],argTypes:=ts }) (.one (.c (.int .i64 (pd a b)))) L:=by
 intro B R γ w ev o ho hi hρ RN;obtain⟨dst,op,type,pos,after,guard⟩:=o;simp only at ho;subst ho;have h1:=hρ x (by simp[Op.operands,Call.operands]) _ hx;have h2:=hρ y (by simp[Op.operands,Call.operands]) _ hy;generalize hex:ev x=ux at h1;generalize Xz:ev y=uy at h2
 cases h1;cases h2;refine⟨w,R,γ,.inl ⟨.int .i64 (pd a b),?_,.int _ _⟩,hi,Ext.refl _ _ _,Mv.refl⟩;have:=run_callFunc_extern hf Qy hb hn he #[.string a,.string b] w;have h3:(Extern.BytealgCompare.compare #[.string a,.string b]).run P w = .ok (.int .i64 (pd a b)) w:=rfl;rw[h3]at this;simp[execOp,resolve,Deferred.ofValue,RN.1,hex,Xz,invoke,this,Result.andThen]
structure J5 where
 noEsc:FuncId
 cmpS:FuncId
def Hm (P:Program)(ti:TI)(xs:J5)(Ro:Bool)(ρ:Operand->Option AV)(L:List Ob):Op->Option (AV×List Ob)
 |.makeMap _ none=>some (.one (.mp L.length),L++[.map []])
 |.buildSlice t len parts=>match zI ρ parts.toList 0,ti.elem t with
  |some es,some E=>match ti.size E with
   |some k=>ck (.one (.sl L.length (E+65536) 0 len),L++[.row (E+65536) es k]) (Ro=true/\E<65536/\ti.zok E=true/\es.length=len/\0<len/\EO k es=true/\0<k/\len*k<=16777216)
   |none=>none
  |_,_=>none
 |.lookup t x k ok=>match ρ x,ρ k,abQ (ti.kind t)with
  |some (.one (.mp id)),some (.one (.c (.str s))),some (kt,et)=>match L[id]?,ti.zero et with
   |some (.map PQ),some z=>match ok with
    |false=>ck (mO PQ s z,L) (kX PQ=true/\isStr (ti.kind kt)=true)
    |true=>match (mO PQ s z).norm with
     |some p=>ck (.tup [p,.one (.bool (fF s PQ).isSome)],L) (kX PQ=true/\isStr (ti.kind kt)=true)
     |none=>none
   |_,_=>none
  |_,_,_=>none
 |.mapUpdate t x k y=>match ρ x,ρ k,ρ y,abQ (ti.kind t)with
  |some (.one (.mp id)),some (.one (.c (.str s))),some v,some (kt,_)=>match L[id]? with
   |some (.map PQ)=>ck (.undef,L.set id (.map (xL PQ s v))) (kX PQ=true/\isStr (ti.kind kt)=true)
   |_=>none
  |_,_,_,_=>none
 |.mapEntry t x k=>match ρ x,ρ k,abQ (ti.kind t)with
  |some (.one (.mp id)),some (.one (.c (.str s))),some (kt,et)=>match L[id]?,ti.zero et with
   |some (.map PQ),some z=>match (mO PQ s z).norm with
    |some p=>ck (.tup [p,.one (.int .i64 (FM PQ s))],L.set id (.map (xL PQ s (mO PQ s z)))) (kX PQ=true/\isStr (ti.kind kt)=true)
    |none=>none
   |_,_=>none
  |_,_,_=>none
 |.entryStore _ x k y=>match ρ x,ρ k,ρ y with
  |some (.one (.mp id)),some (.one (.c (.int .i64 i))),some v=>match L[id]? with
   |some (.map PQ)=>match PQ[i.toNat]? with
    |some q=>ck (.undef,L.set id (.map (PQ.set i.toNat (q.1,v)))) (0<=i)
    |none=>none
   |_=>none
  |_,_,_=>none
 |.makeFunc (.func f) first captured=>match first.toList,uU ρ captured.toList with
  |[],some Pz=>some (.one (.clo f Pz),L)
  |_,_=>none
 |.call { callee := .builtin .append,args,argTypes } =>match args.toList,argTypes.toList with
  |[s,x],[t,tx]=>match ρ s,ρ x,ti.elem t with
   |some (.one (.sl id O9 0 n)),some vx,some E=>match L[id]?,IW L vx,ti.size E,ti.bytes E with
    |some (.row Pn es k'),some xs,some k,some by_=>ck (.one (.sl id (O9+65536) 0 (n+xs.length)),L.set id (.row (O9+65536) (es++xs) k)) ((Pn=O9/\k'=k/\acz ti L k tx vx=true/\O9%65536=E)/\ti.zok E=true/\0<k/\es.length=n/\(n+xs.length)*by_<=140737488355328/\n+xs.length<=140737488355328)
    |_,_,_,_=>none
   |some (.one .emp),some vx,some E=>match IW L vx,ti.size E,ti.bytes E with
    |some xs,some k,some by_=>ck (.one (.sl L.length (E+65536) 0 xs.length),L++[.row (E+65536) xs k]) ((Ro=true/\acz ti L k tx vx=true/\E<65536)/\ti.zok E=true/\0<k/\0<xs.length/\xs.length*by_<=140737488355328/\xs.length<=140737488355328)
    |_,_,_=>none
   |_,_,_=>none
  |_,_=>none
 |.makeSlice t l c=>match ρ l,ρ c,ti.elem t with
  |some (.one (.c (.int _ l))),some (.one (.c (.int _ m))),some E=>match ti.size E,ti.bytes E with
   |some k,some by_=>match Ro with
    |true=>match decide (l=0),(ti.zero E).bind AV.cells with
     |true,_=>ck (.one (.sl L.length (E+65536) 0 0),L++[.row (E+65536) [] k]) ((l=0/\E<65536)/\ti.zok E=true/\0<k/\0<=m/\(by_:Int)*m<=281474976710656/\m<=9223372036854775807)
     |false,some zs=>ck (.one (.sl L.length (E+65536) 0 m.toNat),L++[.row (E+65536) (List.replicate m.toNat zs) k]) ((l=m/\E<65536)/\ti.zok E=true/\0<k/\0<=m/\(by_:Int)*m<=281474976710656/\m<=9223372036854775807)
     |false,none=>none
    |false=>ck (.one (.own [] L.length),L++[.spare 0 k]) (l=0/\ti.zok E=true/\0<k/\0<=m/\(by_:Int)*m<=281474976710656/\m<=9223372036854775807)
   |_,_=>none
  |_,_,_=>none
 |.alloc E=>match P.info? E,ti.field E 1 with
  |some inf,some (1,ts)=>match inf.zero,ti.elem ts with
   |some (.agg vs),some Eb=>match vs.toList,ti.size Eb with
    |[.pointer none,.slice none 0 0],some k=>ck (.one (.ep L.length (E+65536) 0 0),L++[.row (E+65536) [[.c (.nul .ptr),.sl (L.length+1) Eb 0 0]] 2,.row Eb [] k]) (Ro=true/\E<65536/\Eb<65536/\0<k)
    |_,_=>none
   |_,_=>none
  |_,_=>none
 |.convert s d x=>match ρ x with
  |some (.one (.ep id O9 0 0))=>match L[id]? with
   |some (.row Pn es k)=>match HM (ti.kind s),K_ (ti.kind d),HM (ti.kind d),K_ (ti.kind s)with
    |some t,true,_,_=>match ti.size t with
     |some (_+1)=>ck (.one (.ep id O9 0 0),L) (Pn=O9)
     |_=>none
    |_,_,some t,true=>ck (.one (.ep id O9 0 0),L) (Pn=O9/\(ti.size t).isSome=true/\P.cellsOf t=k/\O9%65536=t)
    |_,_,_,_=>none
   |_=>none
  |_=>none
 |.binOp op t x y _=>match op,ρ x with
  |.eql,some (.one (.c (.nul .ptr)))=>match ρ y,HM (ti.kind t)with
   |some (.one (.c (.nul .ptr))),some _=>some (.one (.c (.bool true)),L)
   |_,_=>none
  |.eql,some (.one (.ep id O9 i off))=>match ρ y,HM (ti.kind t),L[id]? with
   |some (.one (.c (.nul .ptr))),some _,some (.row Pn es k)=>ck (.one (.c (.bool false)),L) (Pn=O9)
   |_,_,_=>none
  |.neq,some (.one (.ep id O9 i off))=>match ρ y,HM (ti.kind t),L[id]? with
   |some (.one (.ep id2 Rl i2 off2)),some te,some (.row Pn es k)=>ck (.one (.c (.bool false)),L) (Pn=O9/\id2=id/\Rl=O9/\i2=i/\off2=off/\(ti.size te).isSome=true)
   |_,_,_=>none
  |.eql,some vx=>match cX vx,y,aeO (ti.kind t)with
   |some (_::_),.const (.slice none 0 0),some _=>some (.one (.c (.bool false)),L)
   |_,_,_=>none
  |_,_=>none
 |.call { callee := .builtin .unsafeSliceData,args,.. } =>match args.toList with
  |[x]=>match ρ x with
   |some (.one (.sl id O9 0 (n+1)))=>match L[id]? with
    |some (.row Pn _ _)=>ck (.one (.ep id O9 0 0),L) (Pn=O9)
    |_=>none
   |some (.one (.sl id O9 0 0))=>match L[id]? with
    |some (.row Pn [] _)=>ck (.one (.c (.nul .ptr)),L) (Pn=O9/\O9<65536)
    |_=>none
   |_=>none
  |_=>none
 |.call { callee := .builtin .unsafeString,args,argTypes } =>match args.toList,argTypes.toList with
  |[x,y],[pt,_]=>match ρ x,ρ y with
   |some (.one (.c (.nul .ptr))),some (.one (.c (.int .i64 n)))=>ck (.one (.c (.str .empty)),L) (n=0)
   |some (.one (.ep id O9 0 0)),some (.one (.c (.int .i64 n)))=>match L[id]?,HM (ti.kind pt)with
    |some (.row Pn es 1),some E=>match bytesOf es with
     |some bs=>ck (.one (.c (.str ⟨bs.toArray⟩)),L.set id .dead) ((Pn=O9/\n=bs.length)/\O9%65536=E/\P.cellsOf E=1/\0<bs.length/\bs.length<=9223372036854775807)
     |none=>none
    |_,_=>none
   |_,_=>none
  |_,_=>none
 |.call { callee := .value (.func f),args,.. } =>match args.toList with
  |[x]=>match ρ x with
   |some v=>ck (v,L) (f=xs.noEsc)
   |none=>none
  |[x,y]=>match ρ x,ρ y with
   |some (.one (.c (.str a))),some (.one (.c (.str b)))=>ck (.one (.c (.int .i64 (pd a b))),L) (f=xs.cmpS)
   |_,_=>none
  |_=>none
 |_=>none
def adR (P : Program) (f : FuncId) : Prop := ∃ fn, P.funcs[f]? = some fn /\ (fn.name == "runtime.NumGoroutine") = false /\ fn.body.isNone = true /\ Extern.findNext fn = none /\ Extern.find fn = some Extern.AbiNoEscape.same
def agh (P : Program) (f : FuncId) : Prop := ∃ fn, P.funcs[f]? = some fn /\ (fn.name == "runtime.NumGoroutine") = false /\ fn.body.isNone = true /\ Extern.findNext fn = none /\ Extern.find fn = some Extern.BytealgCompare.compare
structure wK (P:Program)(xs:J5):Prop where
 noEsc:adR P xs.noEsc
 cmpS:agh P xs.cmpS
theorem tC {P:Program}{t:TypeId}{n:Nat}(h:dZ P t=some n):∃ j,P.info? t=some j/\j.size=n:=by
 unfold dZ at h;exact map_some h
theorem aca {P:Program}{ti:TI}{xs:J5}{Ro:Bool}{ρ:Operand->Option AV}{L L':List Ob}{op:Op}{v:AV}(Pm:TIok P ti)(PE:wK P xs)(h:Hm P ti xs Ro ρ L op=some (v,L')):nA P ρ L op v L':=by
 unfold Hm at h;split at h
 .cases h;exact gR
 .split at h
  .rename_i es E Xl hE
   split at h
   .rename_i k hk
    obtain⟨e,h1,h2,h3,h4,h5,h6,h7,h8⟩:=aY h
    cases e;exact Je Pm hE h2 hk h3 Xl h4 h5 (DO h6) h7 h8
   .cases h
  .cases h
 .split at h
  .rename_i id s kt et hx hk hm
   have ht:=Pm.kind _ _ (FR hm);split at h
   .rename_i PQ z hL hz
    have hz:=Pm.zero _ _ hz;split at h
    .obtain⟨e,h1,h2⟩:=aY h
     cases e;exact tM hx hk hL (jA h1) ht (Pm.kind _ _ (g7 h2)) hz
    .split at h
     .rename_i p hp
      obtain⟨e,h1,h2⟩:=aY h
      cases e;exact sn hx hk hL (jA h1) ht (Pm.kind _ _ (g7 h2)) hz hp
     .cases h
   .cases h
  .cases h
 .split at h
  .rename_i id s v' kt et hx hk hy hm
   have ht:=Pm.kind _ _ (FR hm);split at h
   .rename_i PQ hL
    obtain⟨e,h1,h2⟩:=aY h
    cases e;exact mf hx hk hy hL (jA h1) ht (Pm.kind _ _ (g7 h2))
   .cases h
  .cases h
 .split at h
  .rename_i id s kt et hx hk hm
   have ht:=Pm.kind _ _ (FR hm);split at h
   .rename_i PQ z hL hz
    have hz:=Pm.zero _ _ hz;split at h
    .rename_i p hp
     obtain⟨e,h1,h2⟩:=aY h
     cases e;exact Fg hx hk hL (jA h1) ht (Pm.kind _ _ (g7 h2)) hz hp
    .cases h
   .cases h
  .cases h
 .split at h
  .rename_i id i v' hx hk hy
   split at h
   .rename_i PQ hL
    split at h
    .rename_i q hq
     obtain⟨e,h1⟩:=aY h
     cases e;exact zL hx (by rw[hk,Int.toNat_of_nonneg h1]) hy hL hq
    .cases h
   .cases h
  .cases h
 .rename_i f first captured
  split at h
  .rename_i Pz h1 h2
   cases h;obtain rfl:first=#[]:=by cases first;simp at h1;subst h1;rfl
   exact oz h2
  .cases h
 .rename_i args ts
  split at h
  .rename_i s x t tx ha Xk
   obtain rfl:args=#[s,x]:=by cases args;simp at ha;subst ha;rfl
   obtain rfl:ts=#[t,tx]:=by cases ts;simp at Xk;subst Xk;rfl
   split at h
   .rename_i id O9 n vx E hs hx hE
    split at h
    .rename_i Pn es k' xs k by_ hL S5 hk Su
     obtain⟨e,⟨h1,h2,h3,h4⟩,h5,h6,h7,h8,h9⟩:=aY h
     cases e;subst h1;subst h2;exact jf Pm hs hx hL S5 (KU h3) hE h4 hk h5 Su h6 h7 h8 h9
    .cases h
   .rename_i vx E hs hx hE
    split at h
    .rename_i xs k by_ S5 hk Su
     obtain⟨e,⟨h1,h2,h3⟩,h5,h6,h7,h8,h9⟩:=aY h
     cases e;exact pq Pm hs hx S5 (KU h2) hE h3 hk h5 Su h6 h7 h8 h9
    .cases h
   .cases h
  .cases h
 .split at h
  .rename_i l m E hl hc hE
   split at h
   .rename_i k by_ hk Su
    split at h
    .split at h
     .obtain⟨e,⟨h1,h2⟩,h3,h4,h5,h6,h7⟩:=aY h
      cases e;subst h1;exact xe Pm hl hc hE h2 hk h3 Su h4 h5 h6 h7
     .rename_i zs _ hz
      obtain⟨e,⟨h1,h2⟩,h3,h4,h5,h6,h7⟩:=aY h
      cases e;subst h1;obtain⟨zv,hzv,hcz⟩:=Option.bind_eq_some_iff.1 hz;exact rh Pm hl hc hE h2 hk h3 hzv hcz Su h4 h5 h6 h7
     .cases h
    .obtain⟨e,h1,h3,h4,h5,h6,h7⟩:=aY h
     cases e;subst h1;exact ju Pm hl hc hE hk h3 Su h4 h5 h6 h7
   .cases h
  .cases h
 .split at h
  .rename_i inf ts hi hf
   split at h
   .rename_i vs Eb hz hEb
    split at h
    .rename_i k hv hk
     obtain⟨e,h1,h2,h3,h4⟩:=aY h
     cases e;exact nq hi (by rw[hz];cases vs;simp at hv;subst hv;rfl) h2 h3 h4
    .cases h
   .cases h
  .cases h
 .split at h
  .rename_i id O9 hx
   split at h
   .rename_i Pn es k hL
    split at h
    .rename_i t _ h1 h2
     split at h
     .rename_i n hn
      obtain⟨e,h4⟩:=aY h
      cases e;subst h4;obtain⟨j,hj,hs⟩:=tC (Pm.size _ _ hn);exact kS hx hL (Pm.kind _ _ (rI h1)) (Pm.kind _ _ (Gu h2)) hj (by rw[hs];exact Nat.succ_ne_zero _)
     .cases h
    .rename_i t h1 h2 _
     obtain⟨e,h4,h5,h6,h7⟩:=aY h
     cases e;subst h4;obtain⟨n,hn⟩:=aiv.1 h5;obtain⟨j,hj,hs⟩:=tC (Pm.size _ _ hn);exact oM hx hL (Pm.kind _ _ (Gu h2)) (Pm.kind _ _ (rI h1)) hj h6 h7
    .cases h
   .cases h
  .cases h
 .split at h
  .rename_i hx
   split at h
   .rename_i te hy hm
    cases h;exact ww hx hy (Pm.kind _ _ (rI hm))
   .cases h
  .rename_i hx
   split at h
   .rename_i te Pn es k hy hm hL
    obtain⟨e,h4⟩:=aY h
    cases e;subst h4;exact pH hx hL hy (Pm.kind _ _ (rI hm))
   .cases h
  .rename_i hx
   split at h
   .rename_i te Pn es k hy hm hL
    obtain⟨e,h4,h5,h6,h7,h8,h9⟩:=aY h
    cases e;subst h4;subst h5;subst h6;subst h7;subst h8;obtain⟨n,hn⟩:=aiv.1 h9;obtain⟨j,hj,hs⟩:=tC (Pm.size _ _ hn);exact pz hx hL hy (Pm.kind _ _ (rI hm)) hj
   .cases h
  .rename_i vx hx
   split at h
   .rename_i hl hm
    cases h;exact tJ hx hl (Pm.kind _ _ (adG hm))
   .cases h
  .cases h
 .rename_i args ts
  split at h
  .rename_i x ha
   obtain rfl:args=#[x]:=by cases args;simp at ha;subst ha;rfl
   split at h
   .rename_i id O9 n hx
    split at h
    .rename_i Pn es k hL
     obtain⟨e,h4⟩:=aY h
     cases e;subst h4;exact sJ hx hL (Nat.succ_pos _)
    .cases h
   .rename_i id O9 hx
    split at h
    .rename_i Pn k hL
     obtain⟨e,h4,h5⟩:=aY h
     cases e;subst h4;exact qI hx hL h5
    .cases h
   .cases h
  .cases h
 .rename_i args ts
  split at h
  .rename_i x y pt it ha Xk
   obtain rfl:args=#[x,y]:=by cases args;simp at ha;subst ha;rfl
   obtain rfl:ts=#[pt,it]:=by cases ts;simp at Xk;subst Xk;rfl
   split at h
   .rename_i n hx hy
    obtain⟨e,h4⟩:=aY h
    cases e;subst h4;exact lM hx hy
   .rename_i id O9 n hx hy
    split at h
    .rename_i Pn es E hL hm
     split at h
     .rename_i bs hb
      obtain⟨e,⟨h4,h5⟩,h6,h7,h8,h9⟩:=aY h
      cases e;subst h4;subst h5;refine ny hx hy ?_ h6 (Pm.kind _ _ (rI hm)) h7 h8 h9;rw[hL,BF hb];rfl
     .cases h
    .cases h
   .cases h
  .cases h
 .rename_i f args ts
  split at h
  .rename_i x ha
   obtain rfl:args=#[x]:=by cases args;simp at ha;subst ha;rfl
   split at h
   .rename_i v' hx
    obtain⟨e,h4⟩:=aY h
    cases e;subst h4;obtain⟨fn,h1,h2,h3,h5,h6⟩:=PE.noEsc;exact nW hx h1 h2 h3 h5 h6
   .cases h
  .rename_i x y ha
   obtain rfl:args=#[x,y]:=by cases args;simp at ha;subst ha;rfl
   split at h
   .rename_i a b hx hy
    obtain⟨e,h4⟩:=aY h
    cases e;subst h4;obtain⟨fn,h1,h2,h3,h5,h6⟩:=PE.cmpS;exact JU hx hy h1 h2 h3 h5 h6
   .cases h
  .cases h
 .cases h
theorem TIok.flags {P:Program}{ti:TI}(h:TIok P ti)(d s:Bool):TIok P { ti with dyn:=d,soft:=s } :=⟨h.size,h.agg,h.elem,h.field,h.zero,h.bytes,h.kind,h.struct,h.zok,h.eqs⟩
structure Cx where
 P:Program
 ti:TI
 xs:J5
 row:FuncId->Nat->Bool
 frz:FuncId->Nat->List Nat
 flg:FuncId->Nat->Bool×Bool
 orc:FuncId->List PV->Option CV
 bad:FuncId->Bool
 fz:FuncId->Nat->List Nat:=λ_ _=>[]
def adW (n:Nat):Cap->Bool
 |.ptr id _=>Nat.blt id n
 |.c _=>true
def ER (n:Nat):List Cap->Bool
 |[]=>true
 |x::xs=>adW n x&&ER n xs
def aet (n:Nat):SV->Bool
 |.own _ t=>Nat.blt t n
 |.ptr id _=>Nat.blt id n
 |.sl id _ _ _=>Nat.blt id n
 |.ep id _ _ _=>Nat.blt id n
 |.mp id=>Nat.blt id n
 |.clo _ Pz=>ER n Pz
 |.c _=>true
 |.emp=>true
def AH (n:Nat):List SV->Bool
 |[]=>true
 |x::xs=>aet n x&&AH n xs
def Fb (n:Nat):List (List SV)->Bool
 |[]=>true
 |x::xs=>AH n x&&Fb n xs
def aaX (n:Nat):AV->Bool
 |.one x=>aet n x
 |.agg xs=>AH n xs
 |.tup _=>true
 |.tupS xs=>AH n xs
 |.undef=>true
def Gz (n:Nat):List AV->Bool
 |[]=>true
 |x::xs=>aaX n x&&Gz n xs
def LO (n:Nat):List (AC×AV)->Bool
 |[]=>true
 |x::xs=>aaX n x.2&&LO n xs
def af0 (n:Nat):Ob->Bool
 |.box cs=>AH n cs
 |.row _ es _=>Fb n es
 |.map PQ=>LO n PQ
 |.spare _ _=>true
 |.dead=>true
def DX (n:Nat):List Ob->Bool
 |[]=>true
 |x::xs=>af0 n x&&DX n xs
theorem aai {n:Nat}{x:Cap}(h:adW n x=true):x.below n:=by
 cases x with
 |c _=>trivial
 |ptr id _=>exact ah1 h
theorem CW {n:Nat}:∀ {xs:List Cap},ER n xs=true ->∀ x∈xs,x.below n
 |[],_,x,hx=>by cases hx
 |y::xs,h,x,hx=>by
  rw[ER,ah9]at h;obtain rfl|hx:=ah8.1 hx
  .exact aai h.1
  .exact CW h.2 x hx
theorem L9 {n:Nat}{x:SV}(h:aet n x=true):x.below n:=by
 cases x with
 |c _=>trivial
 |emp=>trivial
 |own _ t=>exact ah1 h
 |ptr id _=>exact ah1 h
 |sl id _ _ _=>exact ah1 h
 |ep id _ _ _=>exact ah1 h
 |mp id=>exact ah1 h
 |clo f Pz=>exact CW h
theorem pp {n:Nat}:∀ {xs:List SV},AH n xs=true ->∀ x∈xs,x.below n
 |[],_,x,hx=>by cases hx
 |y::xs,h,x,hx=>by
  rw[AH,ah9]at h;obtain rfl|hx:=ah8.1 hx
  .exact L9 h.1
  .exact pp h.2 x hx
theorem Da {n:Nat}:∀ {xs:List (List SV)},Fb n xs=true ->∀ e∈xs,∀ x∈e,x.below n
 |[],_,x,hx=>by cases hx
 |y::xs,h,x,hx=>by
  rw[Fb,ah9]at h;obtain rfl|hx:=ah8.1 hx
  .exact pp h.1
  .exact Da h.2 x hx
theorem yc {n:Nat}{x:AV}(h:aaX n x=true):x.below n:=by
 cases x with
 |one x=>exact L9 h
 |agg xs=>exact pp h
 |tup _=>trivial
 |tupS xs=>exact pp h
 |undef=>trivial
theorem zE {n:Nat}:∀ {xs:List AV},Gz n xs=true ->∀ x∈xs,x.below n
 |[],_,x,hx=>by cases hx
 |y::xs,h,x,hx=>by
  rw[Gz,ah9]at h;obtain rfl|hx:=ah8.1 hx
  .exact yc h.1
  .exact zE h.2 x hx
theorem Hn {n:Nat}:∀ {xs:List (AC×AV)},LO n xs=true ->∀ p∈xs,p.2.below n
 |[],_,x,hx=>by cases hx
 |y::xs,h,x,hx=>by
  rw[LO,ah9]at h;obtain rfl|hx:=ah8.1 hx
  .exact yc h.1
  .exact Hn h.2 x hx
theorem acw {n:Nat}{x:Ob}(h:af0 n x=true):x.below n:=by
 cases x with
 |box cs=>exact pp h
 |row _ es _=>exact Da h
 |map PQ=>exact Hn h
 |spare _ _=>trivial
 |dead=>trivial
theorem vu {n:Nat}:∀ {xs:List Ob},DX n xs=true ->∀ x∈xs,x.below n
 |[],_,x,hx=>by cases hx
 |y::xs,h,x,hx=>by
  rw[DX,ah9]at h;obtain rfl|hx:=ah8.1 hx
  .exact acw h.1
  .exact vu h.2 x hx
theorem iL {n i:Nat}(h:i<n):jB (List.range n) i=i:=by
 unfold jB;rw[aiE,List.getElem?_range h];rfl
theorem Cap.ren_range {n:Nat}{x:Cap}(h:x.below n):x.ren (List.range n)=x:=by
 cases x with
 |c _=>rfl
 |ptr id off=>show Cap.ptr (jB _ id) off=_;rw[iL h]
theorem fX {α:Type}{f:α->α}:∀ {l:List α},(∀ x∈l,f x=x)->l.map f=l
 |[],_=>rfl
 |x::l,h=>by rw[ah2,h x (List.mem_cons_self ..),fX λy hy=>h y (aid _ hy)]
theorem SV.ren_range {n:Nat}{x:SV}(h:x.below n):x.ren (List.range n)=x:=by
 cases x with
 |c _=>rfl
 |emp=>rfl
 |own es t=>show SV.own es (jB _ t)=_;rw[iL h]
 |ptr id off=>show SV.ptr (jB _ id) off=_;rw[iL h]
 |sl id v l m=>show SV.sl (jB _ id) v l m=_;rw[iL h]
 |ep id v i o=>show SV.ep (jB _ id) v i o=_;rw[iL h]
 |mp id=>show SV.mp (jB _ id)=_;rw[iL h]
 |clo f Pz=>show SV.clo f (Pz.map _)=_;rw[fX λx hx=>Cap.ren_range (h x hx)]
theorem AV.ren_range {n:Nat}{x:AV}(h:x.below n):x.ren (List.range n)=x:=by
 cases x with
 |one x=>show AV.one (x.ren _)=_;rw[SV.ren_range h]
 |agg xs=>show AV.agg (xs.map _)=_;rw[fX λx hx=>SV.ren_range (h x hx)]
 |tup _=>rfl
 |tupS xs=>show AV.tupS (xs.map _)=_;rw[fX λx hx=>SV.ren_range (h x hx)]
 |undef=>rfl
theorem Ob.ren_range {n:Nat}{x:Ob}(h:x.below n):x.ren (List.range n)=x:=by
 cases x with
 |box cs=>show Ob.box (cs.map _)=_;rw[fX λx hx=>SV.ren_range (h x hx)]
 |row v es k=>show Ob.row v (es.map (List.map _)) k=_;rw[fX λe he=>fX λx hx=>SV.ren_range (h e he x hx)]
 |map PQ=>show Ob.map (PQ.map λp=>(p.1,p.2.ren (List.range n)))=_;rw[fX (f:=λp:AC×AV=>(p.1,p.2.ren (List.range n))) λp hp=>by show(p.1,p.2.ren _)=p;rw[AV.ren_range (h p hp)]]
 |spare _ _=>rfl
 |dead=>rfl
theorem uV {n m:Nat}(h:n<=m):dx (List.range n) n m=List.range m:=by
 unfold dx tB;rw[List.length_range,<- List.range_add,Nat.add_sub_cancel' h]
theorem Ih {L L1:List Ob}(h:L.length<=L1.length)(hb:∀ x∈L1,x.below L1.length):joinL (List.range L.length) L L1=L1:=by
 unfold joinL join;rw[uV h,fX λx hx=>Ob.ren_range (hb x hx),List.length_range];have:iI L (List.range L.length) L1=L1.take L.length:=by
  apply List.ext_getElem?;intro i;by_cases hi:i<L.length
  .rw[ws _ L L1 i i List.nodup_range (λk hk=>List.mem_range.1 hk) (List.getElem?_range hi) m0,aij,if_pos hi]
  .rw[List.getElem?_eq_none (by rw[dC];omega),List.getElem?_eq_none (by rw[aiD];omega)]
 rw[this,aiz]
structure lp (P:Program)(g:FuncId)(L:List Ob)(QB:List AV)(L1:List Ob)(r:AV):Prop where
 run:Run P g L QB L1 r
 obb:∀ x∈L,x.below L.length
 argb:∀ x∈QB,x.below L.length
 le:L.length<=L1.length
 ob1:∀ x∈L1,x.below L1.length
 val:r.below L1.length
theorem lp.fits {P:Program}{g:FuncId}{L:List Ob}{QB:List AV}{L1:List Ob}{r:AV}(h:lp P g L QB L1 r):ig (List.range L.length) L QB L:=by
 refine⟨List.length_range,List.nodup_range,λi x hx=>?_,h.obb,h.argb⟩;have hi:i<L.length:=(ahR.1 hx).1;rw[iL hi,hx,Ob.ren_range (h.obb x (ahX hx))]
abbrev CP:=FuncId->List PV->Option CV
abbrev CR:=FuncId->List Ob->List AV->Option (List Ob×AV)
def AP:Op->Option (Operand×List Operand)
 |.call { callee := .value f,args,.. } =>some (f,args.toList)
 |_=>none
def aby (ti:TI)(cp:CP)(cr:CR)(ρ:Operand->Option AV)(L:List Ob)(f:Operand)(args:List Operand):Option (AV×List Ob) :=
 match ρ f with
 |some (.one (.c (.fn g cs)))=>match ti.owns g with
  |false=>match dt ρ args with
   |some ps=>match cp g (ps++cs.map .one)with
    |some r=>some (r.av,L)
    |none=>none
   |none=>none
  |true=>match Me ti f,OM ρ args with
   |true,some vs=>match cr g L (vs++cs.map λx => .one (.c x))with
    |some (L1,r)=>some (r,L1)
    |none=>none
   |_,_=>none
 |some (.one (.clo g Pz))=>match Me ti f,OM ρ args with
  |true,some vs=>match cr g L (vs++Pz.map Cap.av)with
   |some (L1,r)=>some (r,L1)
   |none=>none
  |_,_=>none
 |_=>none
def ab4 (P:Program)(ti:TI)(xs:J5)(Ro:Bool)(ρ:Operand->Option AV)(L:List Ob)(op:Op):Option (AV×List Ob) :=
 match bT ti op&&(!ti.soft||(Nat.beq (sk op) 0||Nat.beq (sk op) 4))with
 |true=>Hm P ti xs Ro ρ L op
 |false=>none
def aeM (cx:Cx)(ti:TI)(cp:CP)(cr:CR)(Ro:Bool)(ρ:Operand->Option AV)(L:List Ob)(op:Op):Option (AV×List Ob) :=
 match aa1 ti ρ L op with
 |some v=>some (v,L)
 |none=>match AP op with
  |some (f,args)=>match aby ti cp cr ρ L f args with
   |some r=>some r
   |none=>ab4 cx.P ti cx.xs Ro ρ L op
  |none=>match (match Ro with|true=>none|false=>adw ti ρ op)with
   |some v=>some (v,L)
   |none=>match Ro with
    |true=>match ab4 cx.P ti cx.xs Ro ρ L op with
     |some r=>some r
     |none=>match adw ti ρ op with
      |some v=>some (v,L)
      |none=>ac7 ti ρ L op
    |false=>match ac7 ti ρ L op with
     |some r=>some r
     |none=>ab4 cx.P ti cx.xs Ro ρ L op
theorem Jo {P:Program}{ti:TI}{xs:J5}{Ro:Bool}{ρ:Operand->Option AV}{L L':List Ob}{op:Op}{v:AV}(hk:sk op=4)(h:Hm P ti xs Ro ρ L op=some (v,L')):L'=L:=by
 unfold Hm at h;split at h
 all_goals first|(exfalso;cases hk;done)|skip
 all_goals repeat' (first|(cases h;done)|(cases h;rfl)|(obtain⟨e,_⟩:=aY h;cases e;rfl)|split at h)
theorem NB {op:Op}{f:Operand}{args:List Operand}(h:AP op=some (f,args)):∃ QB ts,op = .call { callee := .value f,args:=QB,argTypes:=ts } /\ args=QB.toList:=by
 unfold AP at h;split at h
 .cases h;exact⟨_,_,rfl,rfl⟩
 .cases h
theorem FC {P:Program}{ti:TI}{xs:J5}{Ro:Bool}{ρ:Operand->Option AV}{L L':List Ob}{op:Op}{v:AV}{K:AV->List Ob->Prop}(Pm:TIok P ti)(PE:wK P xs)(h:ab4 P ti xs Ro ρ L op=some (v,L'))(hK:K v L'):iE P ti ρ L K op:=by
 unfold ab4 at h;split at h
 .rename_i h1
  rw[ah9]at h1;refine .inr (.inr (.inr (.inr (.inr (.inr (.inr ⟨v,L',⟨h1.1,λhs=>?_⟩,aca Pm PE h,hK⟩))))));have h2:=h1.2;rw[hs,Bool.not_true,Bool.false_or,Bool.or_eq_true]at h2;obtain h2|h2:=h2
  .exact .inl (Nat.eq_of_beq_eq_true h2)
  .exact .inr ⟨Nat.eq_of_beq_eq_true h2,Jo (Nat.eq_of_beq_eq_true h2) h⟩
 .cases h
theorem DT {P:Program}{ti:TI}{ρ:Operand->Option AV}{L L1:List Ob}{op:Op}{g:FuncId}{QB:List AV}{r:AV}{K:AV->List Ob->Prop}(hp:dp ti ρ op=some (g,QB))(h:lp P g L QB L1 r)(hK:K r L1):iE P ti ρ L K op:=by
 refine .inr (.inr (.inr (.inr (.inr (.inr (.inl ⟨List.range L.length,g,L,QB,L1,r,?_,h.fits,h.run,?_⟩))))))
 .rw[hp,fX λx hx=>AV.ren_range (h.argb x hx)]
 .rw[uV h.le,AV.ren_range h.val,Ih h.le h.ob1];exact hK
theorem adb {cx:Cx}{ti:TI}{cp:CP}{cr:CR}{Ro:Bool}{ρ:Operand->Option AV}{L L':List Ob}{op:Op}{v:AV}{K:AV->List Ob->Prop}(Pm:TIok cx.P ti)(PE:wK cx.P cx.xs)
  (V1:∀ g ps r,cp g ps=some r->Pure cx.P g ps r) (T9:∀ g L QB L1 r,cr g L QB=some (L1,r)->lp cx.P g L QB L1 r)
  (h:aeM cx ti cp cr Ro ρ L op=some (v,L')) (hK:K v L'):iE cx.P ti ρ L K op:=by
 unfold aeM at h;split at h
 .rename_i v' h1
  cases h;obtain⟨φ,h2,h3⟩:=abW h1;exact .inl ⟨_,φ,h2,h3,hK⟩
 .split at h
  .rename_i f args hc
   obtain⟨QB,ts,rfl,rfl⟩:=NB hc;split at h
   .rename_i r h1
    cases h;unfold aby at h1;split at h1
    .rename_i g cs hf
     split at h1
     .split at h1
      .rename_i ps U5
       split at h1
       .rename_i r hr
        cases h1;exact .inr (.inr (.inr (.inl ⟨g,_,r,by simp only[oL,hf,U5,Option.map_some],V1 _ _ _ hr,hK⟩)))
       .cases h1
      .cases h1
     .split at h1
      .rename_i vs hR Zv
       split at h1
       .rename_i L1 r hr
        cases h1;exact DT (by simp only[dp,hf,Zv,hR]) (T9 _ _ _ _ _ hr) hK
       .cases h1
      .cases h1
    .rename_i g Pz hf
     split at h1
     .rename_i vs hR Zv
      split at h1
      .rename_i L1 r hr
       cases h1;exact DT (by simp only[dp,hf,Zv,hR]) (T9 _ _ _ _ _ hr) hK
      .cases h1
     .cases h1
    .cases h1
   .exact FC Pm PE h hK
  .split at h
   .rename_i v' h1
    cases h
    cases Ro with
    |true=>cases h1
    |false =>
     obtain⟨φ,h2,h3⟩:=MG h1;exact .inr (.inl ⟨_,φ,h2,h3,hK⟩)
   .split at h
    .split at h
     .rename_i r h1
      cases h;exact FC Pm PE h1 hK
     .split at h
      .rename_i v' h1
       cases h;obtain⟨φ,h2,h3⟩:=MG h1;exact .inr (.inl ⟨_,φ,h2,h3,hK⟩)
      .obtain⟨φ,h2,h3⟩:=LC h
       exact .inr (.inr (.inl ⟨_,_,φ,h2,h3,hK⟩))
    .split at h
     .rename_i r h1
      cases h;obtain⟨φ,h2,h3⟩:=LC h1;exact .inr (.inr (.inl ⟨_,_,φ,h2,h3,hK⟩))
     .exact FC Pm PE h hK
def rowOf (cx:Cx)(f:FuncId):Option Tmp->Bool
 |some d=>cx.row f d
 |none=>false
def afN (N:Nat):Option Tmp->Bool
 |some d=>Nat.blt d N
 |none=>true
theorem K2 {N:Nat}{d:Option Tmp}(h:afN N d=true):dOK N d:=by
 cases d with
 |none=>trivial
 |some d=>exact ah1 h
def H9 (cx:Cx)(ti:TI)(cp:CP)(cr:CR)(f:FuncId)(N:Nat)(ds:List (Option Tmp)):List Oper->Tm->List Ob->Option (Tm×List Ob)
 |[],T,L=>some (T,L)
 |o::rest,T,L=>match afN N o.dst,fN ds T o.guard with
  |true,some true=>match aeM cx ti cp cr (rowOf cx f o.dst) (look T) L o.op with
   |some (v,L')=>H9 cx ti cp cr f N ds rest (uJ T o.dst v) L'
   |none=>none
  |true,some false=>H9 cx ti cp cr f N ds rest (uJ T o.dst .undef) L
  |_,_=>none
theorem uC {cx:Cx}{ti:TI}{cp:CP}{cr:CR}{f:FuncId}{N:Nat}{ds:List (Option Tmp)}(Pm:TIok cx.P ti)(PE:wK cx.P cx.xs)
  (V1:∀ g ps r,cp g ps=some r->Pure cx.P g ps r) (T9:∀ g L QB L1 r,cr g L QB=some (L1,r)->lp cx.P g L QB L1 r) {K:Tm->List Ob->Prop} :
  ∀ {l:List Oper} {T T':Tm} {L L':List Ob},H9 cx ti cp cr f N ds l T L=some (T',L')->K T' L'->aK cx.P ti N ds K l T L
 |[],T,T',L,L',h,hK=>by cases h;exact hK
 |o::rest,T,T',L,L',h,hK=>by
  unfold H9 at h;split at h
  .rename_i hd hg
   split at h
   .rename_i v L1 h1
    exact⟨K2 hd,ei hg (adb Pm PE V1 T9 h1 (uC Pm PE V1 T9 h hK))⟩
   .cases h
  .rename_i hd hg
   exact⟨K2 hd,zy hg (uC Pm PE V1 T9 h hK)⟩
  .cases h
def aeK:List Cap->List Nat
 |[]=>[]
 |.ptr id _::l=>id::aeK l
 |.c _::l=>aeK l
def afT:SV->List Nat
 |.ptr id _=>[id]
 |.sl id _ _ _=>[id]
 |.clo _ Pz=>aeK Pz
 |_=>[]
def adU:List SV->List Nat
 |[]=>[]
 |x::l=>afT x++adU l
def ag3:AV->List Nat
 |.one x=>afT x
 |.agg xs=>adU xs
 |_=>[]
def LB (T:Tm)(L:List Ob)(id:Nat):Tm×List Ob :=
 match L[id]? with
 |some (.row O9 es _)=>match jk es with
  |some cs=>(T.map (λp=>(p.1,thA id O9 cs p.2)),L.set id .dead)
  |none=>(T,L)
 |some (.box cs)=>match jh cs with
  |some ts=>(T.map (λp=>(p.1,unA id ts p.2)),L.set id .dead)
  |none=>(T,L)
 |_=>(T,L)
def Fp:List Nat->Tm->List Ob->Tm×List Ob
 |[],T,L=>(T,L)
 |id::l,T,L=>match LB T L id with
  |(T',L')=>Fp l T' L'
def agv (T:Tm)(L:List Ob)(t:Nat):Tm×List Ob :=
 match T.lookup t with
 |some v=>Fp (ag3 v) T L
 |none=>(T,L)
def aay:List Nat->Tm->List Ob->Option (Tm×List Ob)
 |[],T,L=>some (T,L)
 |t::ts,T,L=>match agv T L t with
  |(T',L')=>aay ts T' L'
section
variable {P:Program} {N n0:Nat} {Q:AX->Tm->List Ob->Prop} {c:Code}
theorem abV {T:Tm}{L:List Ob}{id:Nat}(k:Aw P N n0 c Q (LB T L id).1 (LB T L id).2):Aw P N n0 c Q T L:=by
 unfold LB at k;split at k
 .rename_i hL
  split at k
  .rename_i hn;exact tW _ hL hn k
  .exact k
 .rename_i hL
  split at k
  .rename_i hn;exact EJ _ hL hn k
  .exact k
 .exact k
theorem CU:∀ {l:List Nat} {T:Tm} {L:List Ob},Aw P N n0 c Q (Fp l T L).1 (Fp l T L).2->Aw P N n0 c Q T L
 |[],_,_,k=>k
 |id::l,T,L,k=>abV (CU (l:=l) k)
theorem EB:∀ {ts:List Nat} {T T':Tm} {L L':List Ob},aay ts T L=some (T',L')->Aw P N n0 c Q T' L'->Aw P N n0 c Q T L
 |[],_,_,_,_,h,k=>by cases h;exact k
 |t::ts,T,T',L,L',h,k=>by
  unfold aay at h;have h2:=EB (ts:=ts) h k;unfold agv at h2;split at h2
  .exact CU h2
  .exact h2
end
def clean (N:Nat)(T:Tm):Tm:=(List.range N).filterMap λt=>(T.lookup t).map λx=>(t,x)
theorem Dw {N:Nat}{T:Tm}{t:Nat}{x:AV}(h:(clean N T).lookup t=some x):T.lookup t=some x:=by
 have h1:=sN h;unfold clean at h1;rw[List.mem_filterMap]at h1;obtain⟨i,_,h2⟩:=h1;obtain⟨y,h3,h4⟩:=map_some h2
 cases h4;exact h3
def GQ (body:Tm->List Ob->Option (AX×Tm×List Ob))(N:Nat):Nat->Tm->List Ob->Option (AX×Tm×List Ob)
 |0,_,_=>none
 |n+1,T,L=>match body (clean N T) L with
  |some (.normal,T',L')=>GQ body N n T' L'
  |r=>r
def ad3 (cx:Cx)(f:FuncId)(id:Nat):Bool->TI
 |false =>{ cx.ti with dyn:=true,soft:=false }
 |true =>{ cx.ti with dyn:=(cx.flg f id).1,soft:=(cx.flg f id).2 }
def I0 (cx:Cx)(cp:CP)(cr:CR)(f:FuncId)(N:Nat)(rs:List Nat):Code->Tm->List Ob->Option (AX×Tm×List Ob)
 |.skip,T,L=>some (.normal,T,L)
 |.label _,T,L=>some (.normal,T,L)
 |.ret,T,L=>match aay rs T L with
  |some (T',L')=>some (.ret,T',L')
  |none=>none
 |.exit id,T,L=>some (.exit id,T,L)
 |.seq x y,T,L=>match I0 cx cp cr f N rs x T L with
  |some (.normal,T',L')=>I0 cx cp cr f N rs y T' L'
  |r=>r
 |.cond c x y,T,L=>match look T c with
  |some (.one (.c (.bool b)))=>match b with
   |true=>I0 cx cp cr f N rs x T L
   |false=>I0 cx cp cr f N rs y T L
  |_=>none
 |.block id c,T,L=>match I0 cx cp cr f N rs c T L with
  |some (.exit j,T',L')=>match decide (j=id)with
   |true=>some (.normal,T',L')
   |false=>some (.exit j,T',L')
  |r=>r
 |.region id ops d,T,L=>match aay (cx.frz f id) T L with
  |some (T1,L1)=>match fzB (cx.fz f id) T1 with
   |true=>match H9 cx (ad3 cx f id d) cp cr f N (ops.toList.map (·.dst)) ops.toList T1 L1 with
    |some (T2,L2)=>some (.normal,T2,L2)
    |none=>none
   |false=>none
  |none=>none
 |.loop c,T,L=>GQ (I0 cx cp cr f N rs c) N 1048576 T L
 |_,_,_=>none
def jG (cx:Cx)(f:FuncId):Code->Bool
 |.seq x y=>jG cx f x&&jG cx f y
 |.cond _ x y=>jG cx f x&&jG cx f y
 |.block _ c=>jG cx f c
 |.loop c=>jG cx f c
 |.region id ops true=>tZ (cx.fz f id) (ad3 cx f id true) ops.toList
 |_=>true
structure FG (cx:Cx):Prop where
 ti:TIok cx.P cx.ti
 ne:wK cx.P cx.xs
 mix:cx.P.follows .mixedOrders=true
 name : ∀ (f : FuncId) fn, cx.P.funcs[f]? = some fn -> (fn.name == "runtime.NumGoroutine") = false
 code:∀ (f:FuncId) fn c,cx.P.funcs[f]?=some fn->fn.body=some c->cx.bad f=false->jG cx f c=true
 orc:∀ g ps r,cx.orc g ps=some r->Pure cx.P g ps r
def wM (cx:Cx):List Func->Nat->Bool
 |[],_=>true
 |fn::fs,i=>(match fn.body with
  |some c=>cx.bad i||jG cx i c
  |none=>true)&&wM cx fs (i+1)
theorem Ek {cx:Cx}:∀ {fs:List Func} {i:Nat},wM cx fs i=true ->∀ (j:Nat) fn c,fs[j]?=some fn->fn.body=some c->cx.bad (i+j)=false->jG cx (i+j) c=true
 |[],i,h,j,fn,c,hj,_,_=>by simp at hj
 |f0::fs,i,h,0,fn,c,hj,hb,UG=>by
  rw[wM,ah9]at h;simp at hj;subst hj;have h1:=h.1;rw[hb]at h1;rw[Nat.add_zero]at UG ⊢;simp only[UG,Bool.false_or]at h1;exact h1
 |f0::fs,i,h,j+1,fn,c,hj,hb,UG=>by
  rw[wM,ah9]at h;have:=Ek h.2 j fn c (by simpa using hj) hb (by rwa[show i+1+j=i+(j+1)by omega]);rwa[show i+1+j=i+(j+1)by omega]at this
def vY:List Func->Bool
 |[]=>true
 | fn :: fs => !(fn.name == "runtime.NumGoroutine") && vY fs
theorem D8 : ∀ {fs : List Func}, vY fs = true -> ∀ (j : Nat) fn, fs[j]? = some fn -> (fn.name == "runtime.NumGoroutine") = false
 |[],h,j,fn,hj=>by simp at hj
 |f0::fs,h,0,fn,hj=>by
  rw[vY,ah9]at h;simp at hj;subst hj;simpa using h.1
 |f0::fs,h,j+1,fn,hj=>by
  rw[vY,ah9]at h;exact D8 h.2 j fn (by simpa using hj)
theorem FG.of {cx:Cx}(ti:TIok cx.P cx.ti)(ne:wK cx.P cx.xs)(mix:cx.P.follows .mixedOrders=true)(name:vY cx.P.funcs.toList=true)(code:wM cx cx.P.funcs.toList 0=true)(orc:∀ g ps r,cx.orc g ps=some r->Pure cx.P g ps r):FG cx :=
 ⟨ti,ne,mix,λf fn h=>D8 name f fn (by simpa using h),λf fn c h hb UG=>by have:=Ek code f fn c (by simpa using h) hb (by rwa[aiw]);rwa[aiw]at this,orc⟩
theorem yj {cx:Cx}(h:FG cx)(f:FuncId)(id:Nat)(d:Bool):TIok cx.P (ad3 cx f id d):=by
 cases d
 .exact h.ti.flags _ _
 .exact h.ti.flags _ _
section
variable {cx:Cx} {cp:CP} {cr:CR} {f:FuncId} {N n0:Nat} {rs:List Nat}
def AtE (x:AX)(T':Tm)(L':List Ob):AX->Tm->List Ob->Prop:=λy S M=>y=x/\S=T'/\M=L'
theorem aaM {c:Code}{body:Tm->List Ob->Option (AX×Tm×List Ob)}(hb:∀ T L x T' L',body T L=some (x,T',L')->Aw cx.P N n0 c (AtE x T' L') T L) :
  ∀ {n:Nat} {T:Tm} {L:List Ob} {x:AX} {T':Tm} {L':List Ob},GQ body N n T L=some (x,T',L')->Aw cx.P N n0 (.loop c) (AtE x T' L') T L:=by
 intro n0' T L x T' L' h;intro hn B R0 γ0 w0 a0 hi hT;have key:∀ n T L0 R γ a w,n0<=L0.length->GQ body N n T L0=some (x,T',L')->Inv B R γ L0 w->gv N R γ L0 T a->Ext B R0 R w0 w->uK n0 R0 R γ0 γ L L0->Code.rounds cx.P c (wQ N n0 B (AtE x T' L') R0 w0 γ0 L) n a w:=by
  intro n
  induction n with
  |zero=>intro T L0 R γ a w _ hl;cases hl
  |succ n ih =>
   intro T L0 R γ a w PU hl hI ht he Tf;rw[rounds_succ];unfold GQ at hl;have htc:gv N R γ L0 (clean N T) a:=⟨ht.size,ht.defers,λt x hx=>ht.slot t x (Dw hx)⟩;split at hl
   .rename_i T1 L1 OZ
    refine wp_mono (hb _ _ _ _ _ OZ PU B R γ w a hI htc) ?_;rintro e a1 w1 ⟨y,T2,L2,R1,γ2,rfl,⟨rfl,rfl,rfl⟩,j1,k1,e1,m1⟩;exact ih _ _ R1 _ a1 w1 m1.lo' hl j1 k1 (he.trans e1) (Tf.trans hi.len m1)
   .rename_i PE
    refine wp_mono (hb _ _ _ _ _ hl PU B R γ w a hI htc) ?_;rintro e a1 w1 ⟨y,T2,L2,R1,γ2,rfl,⟨rfl,rfl,rfl⟩,j1,k1,e1,m1⟩
    cases y with
    |normal=>exact absurd hl (PE _ _)
    |exit id=>exact⟨.exit id,_,_,R1,γ2,rfl,⟨rfl,rfl,rfl⟩,j1,k1,he.trans e1,Tf.trans hi.len m1⟩
    |ret=>exact⟨.ret,_,_,R1,γ2,rfl,⟨rfl,rfl,rfl⟩,j1,k1,he.trans e1,Tf.trans hi.len m1⟩
 exact wp_loop_rounds n0' (key n0' T L R0 γ0 a0 w0 hn h hi hT (Ext.refl _ _ _) (uK.of hn Mv.refl))
theorem JJ (hx:FG cx)(V1:∀ g ps r,cp g ps=some r->Pure cx.P g ps r)(T9:∀ g L QB L1 r,cr g L QB=some (L1,r)->lp cx.P g L QB L1 r) :
  ∀ {c:Code} {T:Tm} {L:List Ob} {x:AX} {T':Tm} {L':List Ob},jG cx f c=true->I0 cx cp cr f N rs c T L=some (x,T',L')->Aw cx.P N n0 c (AtE x T' L') T L:=by
 intro c
 induction c with
 |skip=>intro T L x T' L' _ h;cases h;exact aw_skip ⟨rfl,rfl,rfl⟩
 |label l=>intro T L x T' L' _ h;cases h;exact aam ⟨rfl,rfl,rfl⟩
 |ret =>
  intro T L x T' L' _ h;unfold I0 at h;split at h
  .rename_i h1
   cases h;exact EB h1 (aw_ret ⟨rfl,rfl,rfl⟩)
  .cases h
 |exit id=>intro T L x T' L' _ h;cases h;exact aw_exit ⟨rfl,rfl,rfl⟩
 |seq a b iha ihb =>
  intro T L x T' L' hc h;rw[jG,ah9]at hc;unfold I0 at h;refine aw_seq ?_;split at h
  .rename_i T1 L1 h1
   refine Aw.mono (iha hc.1 h1) ?_;rintro y S M ⟨rfl,rfl,rfl⟩;exact ihb hc.2 h
  .rename_i PE
   refine Aw.mono (iha hc.1 h) ?_;rintro y S M ⟨rfl,rfl,rfl⟩
   cases y with
   |normal=>exact absurd h (PE _ _)
   |exit id=>exact⟨rfl,rfl,rfl⟩
   |ret=>exact⟨rfl,rfl,rfl⟩
 |cond c a b iha ihb =>
  intro T L x T' L' hc h;rw[jG,ah9]at hc;unfold I0 at h;split at h
  .rename_i b' hl
   refine aw_cond hl (λe=>?_) (λe=>?_)
   .subst e;exact iha hc.1 h
   .subst e;exact ihb hc.2 h
  .cases h
 |block id c ih =>
  intro T L x T' L' hc h;unfold I0 at h;refine aw_block ?_;split at h
  .rename_i j T1 L1 h1
   refine Aw.mono (ih hc h1) ?_;rintro y S M ⟨rfl,rfl,rfl⟩;show if j=id then _ else _
   split at h
   .rename_i e;rw[if_pos (aii e)];cases h;exact⟨rfl,rfl,rfl⟩
   .rename_i e;rw[if_neg (of_decide_eq_false e)];cases h;exact⟨rfl,rfl,rfl⟩
  .rename_i PE
   refine Aw.mono (ih hc h) ?_;rintro y S M ⟨rfl,rfl,rfl⟩
   cases y with
   |normal=>exact⟨rfl,rfl,rfl⟩
   |exit id=>exact absurd h (PE _ _ _)
   |ret=>exact⟨rfl,rfl,rfl⟩
 |region id ops d =>
  intro T L x T' L' hc h;unfold I0 at h;split at h
  .rename_i T1 L1 h1
   refine EB h1 ?_;split at h
   .rename_i hz
    split at h
    .rename_i T2 L2 h2
     cases h;have hr:ops=ops.toList.toArray:=rfl;rw[hr]
     cases d with
     |false=>exact aw_region (yj hx f id false) _ rfl (uC (yj hx f id false) hx.ne V1 T9 h2 ⟨rfl,rfl,rfl⟩)
     |true=>exact C3 _ (yj hx f id true) _ rfl hx.mix hc hz (uC (yj hx f id true) hx.ne V1 T9 h2 ⟨rfl,rfl,rfl⟩)
    .cases h
   .cases h
  .cases h
 |loop c ih =>
  intro T L x T' L' hc h;unfold I0 at h;exact aaM (λT L x T' L' hb=>ih hc hb) h
 |_=>intro T L x T' L' _ h;unfold I0 at h;cases h
end
def E5 (ti:TI)(T:Tm)(L:List Ob):ResultVar->Option PV
 |.tmp t=>(T.lookup t).bind AV.norm
 |.cell a t=>match T.lookup a with
  |some (.one (.ptr id off))=>match L6 ti L t (.one (.ptr id off))with
   |some v=>v.norm
   |none=>none
  |_=>none
def uQ (ti:TI)(T:Tm)(L:List Ob):List ResultVar->Option (List PV)
 |[]=>some []
 |r::rs=>match E5 ti T L r,uQ ti T L rs with
  |some p,some ps=>some (p::ps)
  |_,_=>none
theorem Kw {ti:TI}{T:Tm}{L:List Ob}{r:ResultVar}{p:PV}(h:E5 ti T L r=some p):BN (wJ ti T L r) p:=by
 unfold E5 at h;split at h
 .rename_i t
  exact⟨True,by show(Option.map _ _)=_;rw[h];rfl,t7⟩
 .unfold wJ
  dsimp only;split at h
  .rename_i h1
   rw[h1];dsimp only;split at h
   .rename_i v h2
    obtain⟨φ,h3,h4⟩:=G7 h2;rw[h3];exact⟨φ,by dsimp only;rw[h];rfl,h4⟩
   .cases h
  .cases h
theorem td {ti:TI}{T:Tm}{L:List Ob}:∀ {rs:List ResultVar} {ps:List PV},uQ ti T L rs=some ps->BN (pZ ti T L rs) ps
 |[],ps,h=>by cases h;exact⟨_,rfl,t7⟩
 |r::rs,ps,h=>by
  unfold uQ at h;split at h
  .rename_i h1 h2
   cases h;obtain⟨φ,h3,h4⟩:=Kw h1;obtain⟨ψ,h5,h6⟩:=td h2;exact⟨φ/\ψ,by unfold pZ;rw[h3,h5],h4,h6⟩
  .cases h
def yQ:List ResultVar->List Nat
 |[]=>[]
 |.tmp t::rs=>t::yQ rs
 |.cell _ _::rs=>yQ rs
def ab_:AX->Bool
 |.exit _=>false
 |_=>true
theorem za {x:AX}(h:ab_ x=true):x = .normal\/x = .ret:=by
 cases x with
 |normal=>exact .inl rfl
 |ret=>exact .inr rfl
 |exit _=>cases h
def aag (cx:Cx)(cp:CP)(cr:CR):CP:=λg ps =>
 match cx.orc g ps with
 |some r=>some r
 |none=>match cx.P.funcs[g]? with
  |some fn=>match fn.body,cx.bad g,Nat.ble ps.length fn.ntmps with
   |some c,false,true=>match I0 cx cp cr g fn.ntmps (yQ fn.results.toList) c (argT 0 ps) []with
    |some (x,T,L)=>match ab_ x,uQ cx.ti T L fn.results.toList with
     |true,some rs=>some (aaT rs)
     |_,_=>none
    |none=>none
   |_,_,_=>none
  |none=>none
def ET (T:Tm):List ResultVar->Option AV
 |[.tmp s,.tmp t]=>match T.lookup s,T.lookup t with
  |some (.one x),some (.one y)=>some (.tupS [x,y])
  |_,_=>none
 |_=>none
theorem KA {T:Tm}{rs:List ResultVar}{r:AV}(h:ET T rs=some r):ry rs T r:=by
 unfold ET at h;split at h
 .split at h
  .rename_i h1 h2
   cases h;exact⟨_,_,_,_,rfl,h1,h2,rfl⟩
  .cases h
 .cases h
def FL (ti:TI)(T:Tm)(L:List Ob):List ResultVar->Option AV
 |[.tmp t]=>T.lookup t
 |rs=>match uQ ti T L rs with
  |some ps=>some (aaT ps).av
  |none=>none
theorem J2 {ti:TI}{T:Tm}{L:List Ob}{rs:List ResultVar}{r:AV}(h:FL ti T L rs=some r):vI ti rs T L r:=by
 unfold FL at h;split at h
 .exact .inl ⟨_,rfl,h⟩
 .split at h
  .rename_i ps h1
   cases h;obtain⟨φ,h2,h3⟩:=td h1;exact .inr ⟨aaT ps,aE h2 h3 rfl,rfl⟩
  .cases h
def JG (ti:TI)(T:Tm)(L:List Ob)(rs:List ResultVar):Option AV :=
 match ET T rs with
 |some r=>some r
 |none=>FL ti T L rs
theorem NF {ti:TI}{T:Tm}{L:List Ob}{rs:List ResultVar}{r:AV}(h:JG ti T L rs=some r):vI ti rs T L r\/ry rs T r:=by
 unfold JG at h;split at h
 .rename_i h1
  cases h;exact .inr (KA h1)
 .exact .inl (J2 h)
def ae9 (cx:Cx)(cp:CP)(cr:CR):CR:=λg L QB =>
 match cx.P.funcs[g]? with
 |some fn=>match fn.body,cx.bad g,Nat.ble QB.length fn.ntmps,(DX L.length L&&Gz L.length QB)with
  |some c,false,true,true=>match I0 cx cp cr g fn.ntmps [] c (gp 0 QB) L with
   |some (x,T,L1)=>match ab_ x,JG cx.ti T L1 fn.results.toList,Nat.ble L.length L1.length with
    |true,some r,true=>match aaX L.length r&&DX L.length (L1.take L.length)with
     |true=>some (L1.take L.length,r)
     |false=>match aaX L1.length r&&DX L1.length L1 with
      |true=>some (L1,r)
      |false=>none
    |_,_,_=>none
   |none=>none
  |_,_,_,_=>none
 |none=>none
theorem abl {cx:Cx}{cp:CP}{cr:CR}(hx:FG cx)(V1:∀ g ps r,cp g ps=some r->Pure cx.P g ps r)(T9:∀ g L QB L1 r,cr g L QB=some (L1,r)->lp cx.P g L QB L1 r)
  {g:FuncId} {ps:List PV} {r:CV} (h:aag cx cp cr g ps=some r):Pure cx.P g ps r:=by
 unfold aag at h;split at h
 .rename_i r' h1
  cases h;exact hx.orc _ _ _ h1
 .split at h
  .rename_i fn hf
   split at h
   .rename_i c hb UG hle
    split at h
    .rename_i x T L he
     split at h
     .rename_i rs XA Sv
      cases h;obtain⟨φ,h2,h3⟩:=td Sv;refine pa_ hx.ti hf hb (hx.name _ _ hf) rfl (ah1 hle) ?_;refine Aw.mono (JJ hx V1 T9 (hx.code _ _ _ hf hb UG) he) ?_;rintro y S M ⟨rfl,rfl,rfl⟩;exact⟨za XA,aE h2 h3 rfl⟩
     .cases h
    .cases h
   .cases h
  .cases h
theorem acS {cx:Cx}{cp:CP}{cr:CR}(hx:FG cx)(V1:∀ g ps r,cp g ps=some r->Pure cx.P g ps r)(T9:∀ g L QB L1 r,cr g L QB=some (L1,r)->lp cx.P g L QB L1 r)
  {g:FuncId} {L:List Ob} {QB:List AV} {L1:List Ob} {r:AV} (h:ae9 cx cp cr g L QB=some (L1,r)):lp cx.P g L QB L1 r:=by
 unfold ae9 at h;split at h
 .rename_i fn hf
  split at h
  .rename_i c hb UG hle YG
   rw[ah9]at YG;split at h
   .rename_i x T L2 he
    split at h
    .rename_i r' XA hval hlen
     have hlen:=ah1 hlen;have main:∀ m,L.length<=m->m<=L2.length->(∀ x∈L2.take m,x.below m)->r'.below m->lp cx.P g L QB (L2.take m) r':=by
      intro m X5 hm2 Sj hr;have hl:(L2.take m).length=m:=by rw[aiD];omega
      refine⟨?_,vu YG.1,zE YG.2,m0,by rw[hl];exact Sj,by rw[hl];exact hr⟩;obtain hv|hv:=NF hval
      .refine bB hx.ti hf hb (hx.name _ _ hf) rfl (ah1 hle) ?_
       refine Aw.mono (JJ hx V1 T9 (hx.code _ _ _ hf hb UG) he) ?_;rintro y S M ⟨rfl,rfl,rfl⟩;exact⟨za XA,⟨hv,⟨_,(aiz m _).symm⟩,by rw[hl];exact X5,by rw[hl];exact Sj,by rw[hl];exact hr⟩⟩
      .refine JX hx.ti hf hb (hx.name _ _ hf) rfl (ah1 hle) ?_
       refine Aw.mono (JJ hx V1 T9 (hx.code _ _ _ hf hb UG) he) ?_;rintro y S M ⟨rfl,rfl,rfl⟩;exact⟨za XA,⟨hv,⟨_,(aiz m _).symm⟩,by rw[hl];exact X5,by rw[hl];exact Sj,by rw[hl];exact hr⟩⟩
     split at h
     .rename_i hc
      rw[ah9]at hc
      cases h;exact main _ (ah7 _) hlen (vu hc.2) (yc hc.1)
     .split at h
      .rename_i hc
       rw[ah9]at hc
       cases h;have:=main _ hlen (ah7 _) (by rw[List.take_length];exact vu hc.2) (yc hc.1);rw[List.take_length]at this;exact this
      .cases h
    .cases h
   .cases h
  .cases h
 .cases h
def evF (cx:Cx):Nat->CP×CR
 |0=>(λ_ _=>none,λ_ _ _=>none)
 |n+1=>(aag cx (evF cx n).1 (evF cx n).2,ae9 cx (evF cx n).1 (evF cx n).2)
theorem wd {cx:Cx}(hx:FG cx):∀ n,(∀ g ps r,(evF cx n).1 g ps=some r->Pure cx.P g ps r)/\(∀ g L QB L1 r,(evF cx n).2 g L QB=some (L1,r)->lp cx.P g L QB L1 r)
 |0=>⟨λg ps r h=>(by cases h),λg L QB L1 r h=>(by cases h)⟩
 |n+1=>⟨λg ps r h=>abl hx (wd hx n).1 (wd hx n).2 h,λg L QB L1 r h=>acS hx (wd hx n).1 (wd hx n).2 h⟩
theorem kh {P:Program}{w:World}{t:TypeId}{d:TypeDesc}(ht:P.underlying t=some d)(hd:(match d with |.struct _=>true |.array _ _=>true|_=>false)=false){xs:Array Value}{i:Nat}{v:Value}(hx:xs[i]?=some v):(part t xs i).run P w = .ok v w:=by
 cases d<;>first|(cases hd;done)|simp[part,isAgg,run_underlying ht,hx]
def ad4:TypeDesc->Option Sc
 |.int k=>some (.int k)
 |.bool=>some .bool
 |.string=>some .str
 |_=>none
def ad6 (s:Sc):Option TypeDesc->Bool
 |some d=>match ad4 d with
  |some s'=>decide (s'=s)
  |none=>false
 |none=>false
def acp (d:Option TypeDesc):Sc->Prop
 |.int k=>d=some (.int k)
 |.bool=>d=some .bool
 |.str=>d=some .string
theorem acJ {s:Sc}{d:Option TypeDesc}(h:ad6 s d=true):acp d s:=by
 unfold ad6 at h
 cases d with
 |none=>cases h
 |some d =>
  dsimp only at h
  cases hs:ad4 d with
  |none=>rw[hs]at h;cases h
  |some s' =>
   rw[hs]at h;obtain rfl:s'=s:=aii h;unfold ad4 at hs;split at hs<;>first|(cases hs;rfl)|(cases hs;done)
def LW (P:Program):List Field->List Sc->Nat->Bool
 |[],[],_=>true
 | f :: fs, s :: sh, i => (!(f.name == "_")) && (Nat.beq f.offset i && (ad6 s (P.underlying f.type) && LW P fs sh (i + 1)))
 |_,_,_=>false
theorem Ai {x:SV}{xs:List SV}{vs:List Value}(h:fh (x::xs)=some vs):∃ c v r,x = .c c/\BM c=some v/\fh xs=some r/\vs=v::r:=by
 unfold fh at h;split at h
 .rename_i e;cases e
 .rename_i y ys e
  cases e;split at h
  .rename_i v r h1 h2;cases h;exact⟨_,v,r,rfl,h1,h2,rfl⟩
  .cases h
 .cases h
theorem B5 {P:Program}{w:World}(d:Nat){A B:Array Value}:∀ (fs:List Field) (sh:List Sc) (i:Nat) (xs ys:List SV) (vs us:List Value),LW P fs sh i=true->dY sh xs=true->dY sh ys=true->fh xs=some vs->fh ys=some us ->
  (∀ (j:Nat) v,vs[j]?=some v->A[i+j]?=some v)->(∀ (j:Nat) v,us[j]?=some v->B[i+j]?=some v)->(Op.eqFields (d+1) A B fs).run P w = .ok (cF xs ys) w:=by
 intro fs
 induction fs with
 |nil =>
  intro sh i xs ys vs us hf hx hy _ _ _ _
  cases sh with
  |nil =>
   cases xs with
   |nil=>cases ys with
    |nil=>rfl
    |cons _ _=>cases hy
   |cons _ _=>cases hx
  |cons _ _=>cases hf
 |cons f fs ih =>
  intro sh i xs ys vs us hf hx hy hv hu hA hB
  cases sh with
  |nil=>cases hf
  |cons s sh =>
   rw[LW,ah9,ah9,ah9]at hf;obtain⟨h1,h2,h3,h4⟩:=hf;have h2:=Nat.eq_of_beq_eq_true h2
   have h1 : f.name ≠ "_" := by simpa using h1
   have h3:=acJ h3
   cases xs with
   |nil=>cases s<;>cases hx
   |cons x xs =>
    cases ys with
    |nil=>cases s<;>cases hy
    |cons y ys =>
     obtain⟨cx,v,vr,rfl,Yq,Vt,rfl⟩:=Ai hv;obtain⟨cy,u,ur,rfl,VR,Yo,rfl⟩:=Ai hu;have a0:=hA 0 v rfl;have b0:=hB 0 u rfl;rw[Nat.add_zero]at a0 b0;have rest:∀ (RF:dY sh xs=true) (hy':dY sh ys=true),(Op.eqFields (d+1) A B fs).run P w = .ok (cF xs ys) w:=λRF hy' =>
      ih sh (i+1) xs ys vr ur h4 RF hy' Vt Yo (λj v hj=>by have:=hA (j+1) v (by simpa using hj);rwa[show i+1+j=i+(j+1)by omega]) (λj v hj=>by have:=hB (j+1) v (by simpa using hj);rwa[show i+1+j=i+(j+1)by omega])
     cases s with
     |int k =>
      unfold acp at h3
      cases cx<;>first|(cases hx;done)|skip
      cases cy<;>first|(cases hy;done)|skip
      rename_i k1 a k2 b;simp only[dY,ah9,decide_eq_true_eq]at hx hy;obtain⟨rfl,RF⟩:=hx;obtain⟨rfl,hy'⟩:=hy
      cases Yq;cases VR;have p1:=kh (P:=P) (w:=w) h3 rfl a0;have p2:=kh (P:=P) (w:=w) h3 rfl b0;simp only[Op.eqFields,h1,h2,ne_eq,not_false_eq_true,if_true,Sem.run_bind,p1,p2,Result.andThen_ok,run_equalIn_int (P:=P) w d _ k k a b h3,Sem.run_ite,Sem.run_pure,rest RF hy']
      cases e:(a==b)
      .have:a≠b:=by simpa using e
       simp[cF,this]
      .have:a=b:=by simpa using e
       simp[cF,this]
     |bool =>
      unfold acp at h3
      cases cx<;>first|(cases hx;done)|skip
      cases cy<;>first|(cases hy;done)|skip
      rename_i a b;simp only[dY]at hx hy
      cases Yq;cases VR;have p1:=kh (P:=P) (w:=w) h3 rfl a0;have p2:=kh (P:=P) (w:=w) h3 rfl b0;simp only[Op.eqFields,h1,h2,ne_eq,not_false_eq_true,if_true,Sem.run_bind,p1,p2,Result.andThen_ok,run_equalIn_bool (P:=P) w d _ a b h3,Sem.run_ite,Sem.run_pure,rest hx hy]
      cases e:(a==b)<;>simp[cF,e]
     |str =>
      unfold acp at h3
      cases cx<;>first|(cases hx;done)|skip
      cases cy<;>first|(cases hy;done)|skip
      rename_i a b;simp only[dY]at hx hy
      cases Yq;cases VR;have p1:=kh (P:=P) (w:=w) h3 rfl a0;have p2:=kh (P:=P) (w:=w) h3 rfl b0;simp only[Op.eqFields,h1,h2,ne_eq,not_false_eq_true,if_true,Sem.run_bind,p1,p2,Result.andThen_ok,run_equalIn_string (P:=P) w d _ a b h3,Sem.run_ite,Sem.run_pure,rest hx hy]
      cases e:(a.toList==b.toList)<;>simp[cF,e]
def MN (P:Program)(t:TypeId)(sh:List Sc):Bool :=
 (match P.underlying t with
 |some (.struct fs)=>LW P fs.toList sh 0
 |_=>false)&&(!P.stoodInHeld t && !P.eqGuardType P.depth t)
theorem NG {P:Program}{t:TypeId}{sh:List Sc}(h:MN P t sh=true):P.eqGuardType P.depth t=false /\ ∀ xs ys,dY sh xs=true->dY sh ys=true->KJ P t xs ys:=by
 rw[MN,ah9,ah9]at h;obtain⟨h1,h2,h3⟩:=h;refine⟨by simpa using h3,λxs ys hx hy vs us hv hu w=>?_⟩;split at h1
 .rename_i fs ht
  have hfs:P.fieldsOf t=fs:=by unfold Program.fieldsOf;rw[ht]
  have hm:Op.equal t (.agg vs.toArray) (.agg us.toArray)=Op.equalIn (9999+1) t (.agg vs.toArray) (.agg us.toArray):=rfl;rw[hm,run_equalIn_struct w 9999 t _ _ (by rw[hfs];exact ht) (by simpa using h2),hfs];exact B5 9998 _ sh 0 xs ys vs us h1 hx hy hv hu (λj v hj=>by simpa using hj) (λj v hj=>by simpa using hj)
 .cases h1
open Go.RowKit
def zeL:List (Nat×AV):=[(2,.one (.c (.int .i64 0))),(3,.one (.c (.int .i64 0))),(4,.one (.c (.bool false))),(5,.one (.c (.int .u8 0))),(9,.one (.c (.str ⟨#[]⟩))),(22,.one (.emp)),(24,.agg [.c (.int .i64 0),.c (.int .i64 0),.c (.int .i64 0)]),(30,.one (.emp)),(34,.one (.emp)),(37,.one (.emp)),(39,.agg [.emp,.emp]),(43,.one (.emp)),(45,.agg [.c (.int .i64 0),.c (.int .i64 0)]),(47,.agg [.c (.int .i64 0),.c (.int .i64 0),.emp,.c (.int .i64 0),.c (.int .i64 0),.c (.int .i64 0),.c (.int .i64 0),.c (.int .i64 0),.c (.int .i64 0)]),(55,.one (.c (.nul .func))),(57,.agg [.c (.int .i64 0),.c (.int .i64 0),.c (.str ⟨#[]⟩)]),(58,.one (.emp)),(60,.agg [.c (.int .i64 0),.c (.int .i64 0),.c (.int .i64 0),.c (.int .i64 0),.c (.str ⟨#[]⟩),.c (.str ⟨#[]⟩),.emp]),(63,.one (.emp)),(64,.one (.emp)),(66,.agg [.c (.int .i64 0),.c (.int .i64 0),.emp,.emp,.c (.int .i64 0),.c (.int .i64 0),.c (.int .i64 0),.c (.int .i64 0),.c (.str ⟨#[]⟩),.c (.str ⟨#[]⟩),.emp,.emp,.emp,.emp,.emp]),(67,.one (.emp)),(69,.one (.c (.int .i64 0))),(73,.agg [.emp,.emp]),(74,.one (.emp)),(80,.agg [.emp,.c (.int .i64 0),.c (.int .i64 0)]),(82,.one (.c (.nul .func))),(84,.agg [.c (.nul .func)]),(87,.one (.c (.nul .func))),(95,.one (.emp)),(98,.one (.emp)),(100,.agg [.emp,.emp]),(101,.one (.emp)),(106,.one (.emp)),(110,.agg [.c (.int .i64 0),.c (.int .i64 0)]),(111,.one (.c (.nul .func))),(114,.one (.c (.nul .func))),(119,.one (.emp)),(126,.one (.emp)),(133,.one (.emp)),(136,.agg [.emp,.emp]),(137,.one (.emp)),(139,.agg [.c (.int .i64 0),.c (.int .i64 0)]),(143,.agg [.c (.int .i64 0),.c (.int .i64 0)]),(147,.one (.c (.nul .func))),(148,.one (.emp)),(150,.agg [.c (.int .i64 0),.c (.int .i64 0),.c (.int .i64 0)]),(159,.one (.c (.nul .func))),(170,.one (.c (.nul .map))),(173,.one (.c (.nul .func))),(176,.one (.c (.int .u64 0))),(178,.one (.c (.nul .func))),(185,.agg [.c (.int .i64 0),.c (.bool false)]),(194,.one (.c (.nul .map))),(195,.one (.emp)),(198,.agg [.c (.int .i64 0),.c (.int .i64 0)]),(207,.one (.emp)),(209,.agg [.emp,.emp]),(216,.one (.c (.nul .ptr))),(217,.one (.emp)),(219,.agg [.c (.nul .ptr),.emp]),(229,.one (.c (.int .i64 0))),(236,.one (.c (.int .u32 0))),(238,.one (.c (.int .u64 0))),(254,.one (.c (.nul .ptr))),(257,.one (.c (.int .u64 0))),(261,.one (.c (.nul .ptr))),(278,.one (.c (.nul .ptr)))]
def kiL:List (Nat×TypeDesc):=[(2,.int .i64),(3,.int .i64),(4,.bool),(5,.int .u8),(9,.string),(22,.slice 47),(30,.slice 80),(34,.slice 3),(37,.slice 43),(43,.slice 57),(58,.slice 60),(63,.slice 198),(64,.slice 66),(67,.slice 73),(69,.int .i64),(74,.slice 110),(95,.slice 100),(98,.slice 143),(101,.slice 45),(106,.slice 39),(119,.slice 185),(126,.slice 34),(133,.slice 136),(137,.slice 139),(148,.slice 150),(170,.map 9 3),(176,.int .u64),(194,.map 9 4),(195,.slice 37),(207,.slice 209),(216,.pointer 219),(217,.slice 5),(229,.int .i64),(236,.int .u32),(238,.int .u64),(254,.pointer 5),(257,.int .u64),(261,.pointer 3),(278,.unsafePointer)]
def eqL:List (Nat×List Sc):=[(24,[.int .i64,.int .i64,.int .i64]),(45,[.int .i64,.int .i64]),(57,[.int .i64,.int .i64,.str]),(110,[.int .i64,.int .i64]),(139,[.int .i64,.int .i64]),(143,[.int .i64,.int .i64]),(185,[.int .i64,.bool]),(198,[.int .i64,.int .i64])]
def tab:TI:=TI.of [(2,1),(3,1),(4,1),(5,1),(9,1),(22,1),(24,3),(30,1),(34,1),(37,1),(39,2),(43,1),(45,2),(47,9),(55,1),(57,3),(58,1),(60,7),(63,1),(64,1),(66,15),(67,1),(69,1),(73,2),(74,1),(80,3),(82,1),(84,1),(87,1),(95,1),(98,1),(100,2),(101,1),(106,1),(110,2),(111,1),(114,1),(119,1),(126,1),(133,1),(136,2),(137,1),(139,2),(143,2),(147,1),(148,1),(150,3),(159,1),(170,1),(173,1),(176,1),(178,1),(185,2),(194,1),(195,1),(198,2),(207,1),(209,2),(216,1),(217,1),(219,2),(229,1),(236,1),(238,1),(254,1),(257,1),(261,1),(278,1)] [(2,false),(3,false),(4,false),(5,false),(9,false),(22,false),(24,true),(30,false),(34,false),(37,false),(39,true),(43,false),(45,true),(47,true),(55,false),(57,true),(58,false),(60,true),(63,false),(64,false),(66,true),(67,false),(69,false),(73,true),(74,false),(80,true),(82,false),(84,true),(87,false),(95,false),(98,false),(100,true),(101,false),(106,false),(110,true),(111,false),(114,false),(119,false),(126,false),(133,false),(136,true),(137,false),(139,true),(143,true),(147,false),(148,false),(150,true),(159,false),(170,false),(173,false),(176,false),(178,false),(185,true),(194,false),(195,false),(198,true),(207,false),(209,true),(216,false),(217,false),(219,true),(229,false),(236,false),(238,false),(254,false),(257,false),(261,false),(278,false)] [(22,47),(30,80),(34,3),(37,43),(43,57),(58,60),(63,198),(64,66),(67,73),(74,110),(95,100),(98,143),(101,45),(106,39),(119,185),(126,34),(133,136),(137,139),(148,150),(195,37),(207,209),(217,5)] [(24,[(0,3),(1,3),(2,3)]),(39,[(0,34),(1,37)]),(45,[(0,3),(1,3)]),(47,[(0,3),(1,3),(2,43),(3,45),(5,45),(7,3),(8,3)]),(57,[(0,3),(1,3),(2,9)]),(60,[(0,3),(1,3),(2,57),(5,9),(6,58)]),(66,[(0,3),(1,3),(2,34),(3,37),(4,60),(11,58),(12,34),(13,63),(14,64)]),(73,[(0,34),(1,22)]),(80,[(0,43),(1,45)]),(84,[(0,82)]),(100,[(0,43),(1,98)]),(110,[(0,3),(1,3)]),(136,[(0,43),(1,101)]),(139,[(0,3),(1,3)]),(143,[(0,3),(1,3)]),(150,[(0,45),(2,3)]),(185,[(0,3),(1,4)]),(198,[(0,3),(1,3)]),(209,[(0,43),(1,43)]),(219,[(0,216),(1,217)])] zeL [(2,8),(3,8),(4,1),(5,1),(9,16),(22,24),(24,24),(30,24),(34,24),(37,24),(39,48),(43,24),(45,16),(47,88),(55,8),(57,32),(58,24),(60,88),(63,24),(64,24),(66,248),(67,24),(69,8),(73,48),(74,24),(80,40),(82,8),(84,8),(87,8),(95,24),(98,24),(100,48),(101,24),(106,24),(110,16),(111,8),(114,8),(119,24),(126,24),(133,24),(136,48),(137,24),(139,16),(143,16),(147,8),(148,24),(150,24),(159,8),(170,8),(173,8),(176,8),(178,8),(185,16),(194,8),(195,24),(198,16),(207,24),(209,48),(216,8),(217,24),(219,32),(229,8),(236,4),(238,8),(254,8),(257,8),(261,8),(278,8)] kiL [24,39,45,47,57,60,66,73,80,84,100,110,136,139,143,150,185,198,209,219] [2,3,4,5,9,22,24,30,34,37,39,43,45,47,55,57,58,60,63,64,66,67,69,73,74,80,82,84,87,95,98,100,101,106,110,111,114,119,126,133,136,137,139,143,147,148,150,159,170,173,176,178,185,194,195,198,207,209,216,217,219,229,236,238,254,257,261,278] eqL [0]
theorem tab_ok:TIok prog tab:=by
 refine TI.of_ok k7 k7 k7 k7 ?_ k7 ?_ k7 k7 ?_
 .intro p hp
  simp only[zeL,ah8,List.not_mem_nil,or_false]at hp;rcases hp with rfl|rfl|rfl|rfl|rfl|rfl|rfl|rfl|rfl|rfl|rfl|rfl|rfl|rfl|rfl|rfl|rfl|rfl|rfl|rfl|rfl|rfl|rfl|rfl|rfl|rfl|rfl|rfl|rfl|rfl|rfl|rfl|rfl|rfl|rfl|rfl|rfl|rfl|rfl|rfl|rfl|rfl|rfl|rfl|rfl|rfl|rfl|rfl|rfl|rfl|rfl|rfl|rfl|rfl|rfl|rfl|rfl|rfl|rfl|rfl|rfl|rfl|rfl|rfl|rfl|rfl|rfl|rfl<;>kernel_rfl
 .intro p hp
  simp only[kiL,ah8,List.not_mem_nil,or_false]at hp;rcases hp with rfl|rfl|rfl|rfl|rfl|rfl|rfl|rfl|rfl|rfl|rfl|rfl|rfl|rfl|rfl|rfl|rfl|rfl|rfl|rfl|rfl|rfl|rfl|rfl|rfl|rfl|rfl|rfl|rfl|rfl|rfl|rfl|rfl|rfl|rfl|rfl|rfl|rfl|rfl<;>kernel_rfl
 .intro p hp
  simp only[eqL,ah8,List.not_mem_nil,or_false]at hp;rcases hp with rfl|rfl|rfl|rfl|rfl|rfl|rfl|rfl<;>exact NG k7
def ahs:TI :={ tab with soft:=true }
theorem tabS_ok:TIok prog ahs:=⟨tab_ok.size,tab_ok.agg,tab_ok.elem,tab_ok.field,tab_ok.zero,tab_ok.bytes,tab_ok.kind,tab_ok.struct,tab_ok.zok,tab_ok.eqs⟩
theorem mixed:prog.follows .mixedOrders=true:=k7
abbrev PTz:=Pure prog
abbrev RTz:=Run prog
theorem sl9:(∀(h:Decidable False),@decide False h=false)/\(∀(h:Decidable True),@decide True h=true)/\(∀{α:Type}(a b:α),(bif true then a else b)=a)/\(∀{α:Type}(a b:α),(bif false then a else b)=b):=⟨λh=>decide_false h,λh=>decide_true h,λ_ _=>rfl,λ_ _=>rfl⟩
