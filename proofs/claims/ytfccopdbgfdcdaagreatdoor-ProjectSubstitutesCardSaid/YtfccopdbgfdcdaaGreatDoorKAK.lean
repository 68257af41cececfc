/- Parts of the proof, joined. No condition. -/
import Derived.Test.YtfccopdbgfdcdaaGreatDoorKAA
import Derived.Test.YtfccopdbgfdcdaaGreatDoorKAJ
set_option linter.unusedSimpArgs false
set_option linter.unusedVariables false
namespace Go.Proofs.YtfccopdbgfdcdaaGreatDoor
open Go.RowKit Go.MapKept
def Zi (ti:TI) (ρ:Operand->Option AV):Op->Option AV
 | .buildSlice t len parts=>match qN ρ parts.toList 0,ti.elem t with
  | some es,some E=>match ti.size E with
   | some k=>match len with
    | 0=>ck (.one .emp) (es.isEmpty=true)
    | n+1=>ck (.one (.c (.lst es))) (es.length=n+1/\Ep k es=true/\0<k/\(n+1)*k<=16777216/\ti.zok E=true)
   | none=>none
  | _,_=>none
 | _=>none
theorem SF {ti:TI} {ρ:Operand->Option AV} {op:Op} {v:AV} (h:Zi ti ρ op=some v):JD (zM ti ρ op) v:=by
 unfold Zi at h
 split at h
 ·rename_i t len parts
  show JD (DJ ti ρ t len parts.toList) v
  unfold DJ
  split at h
  ·rename_i h0 h1
   rw [h0,h1]
   dsimp only
   split at h
   ·rename_i h2
    rw [h2]
    dsimp only
    split at h
    ·obtain ⟨rfl,h3⟩:=bf h
     rw [if_pos rfl]
     exact ⟨_,rfl,List.isEmpty_iff.1 h3⟩
    ·obtain ⟨rfl,h3,h4,h5,h6,h7⟩:=bf h
     rw [if_neg (Nat.succ_ne_zero _)]
     exact ⟨_,rfl,h3,sO h4,h5,h6,h7⟩
   ·cases h
  ·cases h
 ·cases h
def abo (ti:TI) (L:List Ob) (t tx:TypeId) (s x:AV):Option (AV × List Ob) :=
 match eU x,ti.elem t with
 | some xs,some E=>match ti.size E,ti.bytes E with
  | some k,some by_=>match s with
   | .one .emp=>ck (.one (.own xs L.length),L++[.spare xs.length k]) ((ti.elem tx).isSome=true/\0<k/\ti.zok E=true/\Ep k xs=true/\xs.length*by_<=140737488355328/\xs.length<=140737488355328)
   | .one (.own es i)=>match L[i]? with
    | some (.spare n k')=>ck (.one (.own (es++xs) i),L.set i (.spare (n+xs.length) k)) ((ti.elem tx).isSome=true/\k'=k/\es.length=n/\(ti.zok E=true/\0<k)/\Ep k xs=true/\(n+xs.length)*by_<=140737488355328/\n+xs.length<=140737488355328)
    | _=>none
   | _=>none
  | _,_=>none
 | _,_=>none
def acg {α β:Type} (f:Option (α × β × Prop)) (a:α) (b:β):Prop := ∃ φ,f=some (a,b,φ)/\φ
theorem Zd {ti:TI} {L L':List Ob} {t tx:TypeId} {s x v:AV} (h:abo ti L t tx s x=some (v,L')):acg (Bl ti L t tx s x) v L':=by
 unfold abo at h
 unfold Bl
 split at h
 ·rename_i h0 h1
  rw [h0,h1]
  dsimp only
  split at h
  ·rename_i h2 h3
   rw [h2,h3]
   dsimp only
   split at h
   ·obtain ⟨e,h4,h5,h6,h7,h8⟩:=bf h
    cases e
    exact ⟨_,rfl,h4,h5,h6,sO h7,h8⟩
   ·dsimp only
    split at h
    ·rename_i h4
     rw [h4]
     obtain ⟨e,h5,h6,h7,h8,h9,h10⟩:=bf h
     cases e
     exact ⟨_,rfl,h5,h6,h7,h8,sO h9,h10⟩
    ·cases h
   ·cases h
  ·cases h
 ·cases h
def ZE (ti:TI) (ρ:Operand->Option AV) (L:List Ob):Op->Option (AV × List Ob)
 | .alloc E=>match (ti.zero E).bind AV.cells with
  | some zs=>some (.one (.ptr L.length 0),L++[.box zs])
  | none=>none
 | .box _ x=>match (ρ x).bind AV.cells with
  | some xs=>some (.one (.ptr L.length 0),L++[.box xs])
  | none=>none
 | .store t p x=>match ρ p,(ρ x).bind AV.cells with
  | some (.one (.ptr id off)),some xs=>match L[id]? with
   | some (.box cs)=>ck (.undef,L.set id (.box (splice cs off xs))) (off+xs.length<=cs.length/\ti.size t=some xs.length)
   | _=>none
  | some (.one (.ep id ver i o)),some xs=>match L[id]? with
   | some (.row ver' es k)=>match es[i]? with
    | some e=>ck (.undef,L.set id (.row ver' (es.set i (splice e o xs)) k)) (ver=ver'/\o+xs.length<=e.length/\ti.size t=some xs.length)
    | none=>none
   | _=>none
  | _,_=>none
 | .call { callee := .builtin .append,args,argTypes } => match args.toList,argTypes.toList with
  | [s,x],[t,tx]=>match ρ s,ρ x with
   | some vs,some vx=>abo ti L t tx vs vx
   | _,_=>none
  | _,_=>none
 | _=>none
theorem Td {ti:TI} {ρ:Operand->Option AV} {L L':List Ob} {op:Op} {v:AV} (h:ZE ti ρ L op=some (v,L')):acg (FE ti ρ L op) v L':=by
 unfold ZE at h
 split at h
 ·unfold FE
  dsimp only
  split at h
  ·rename_i h0
   rw [h0];cases h;exact ⟨_,rfl,trivial⟩
  ·cases h
 ·unfold FE
  dsimp only
  split at h
  ·rename_i h0
   rw [h0];cases h;exact ⟨_,rfl,trivial⟩
  ·cases h
 ·unfold FE
  dsimp only
  split at h
  ·rename_i h0 h1
   rw [h0,h1]
   dsimp only
   split at h
   ·rename_i h2
    rw [h2]
    obtain ⟨e,h3⟩:=bf h
    cases e
    exact ⟨_,rfl,h3⟩
   ·cases h
  ·rename_i h0 h1
   rw [h0,h1]
   dsimp only
   split at h
   ·rename_i h2
    rw [h2]
    dsimp only
    split at h
    ·rename_i h3
     rw [h3]
     obtain ⟨e,h4⟩:=bf h
     cases e
     exact ⟨_,rfl,h4⟩
    ·cases h
   ·cases h
  ·cases h
 ·unfold FE
  dsimp only
  split at h
  ·rename_i h0 h1
   rw [h0,h1]
   dsimp only
   split at h
   ·rename_i h2 h3
    rw [h2,h3]
    exact Zd h
   ·cases h
  ·cases h
 ·cases h
def pW:List (AC × AV)->Bool
 | []=>true
 | p::kvs=>match p.1 with
  | .str _=>pW kvs
  | _=>false
theorem mJ : ∀ {kvs:List (AC × AV)}, pW kvs=true->strKeys kvs
 | [],_,p,hp=>by cases hp
 | q::kvs,h,p,hp=>by
  unfold pW at h
  split at h
  ·rename_i s hs
   rcases adZ.1 hp with rfl|hp
   ·exact ⟨s,hs⟩
   ·exact mJ h p hp
  ·cases h
def XK:Option TypeDesc->Option (TypeId × TypeId)
 | some (.map k e)=>some (k,e)
 | _=>none
theorem MV {d:Option TypeDesc} {k e:TypeId} (h:XK d=some (k,e)):d=some (.map k e):=by
 unfold XK at h
 split at h
 ·cases h;rfl
 ·cases h
def Pn:Option TypeDesc->Option TypeId
 | some (.pointer e)=>some e
 | _=>none
theorem yS {d:Option TypeDesc} {e:TypeId} (h:Pn d=some e):d=some (.pointer e):=by
 unfold Pn at h
 split at h
 ·cases h;rfl
 ·cases h
def aaT:Option TypeDesc->Option TypeId
 | some (.slice e)=>some e
 | _=>none
theorem Zn {d:Option TypeDesc} {e:TypeId} (h:aaT d=some e):d=some (.slice e):=by
 unfold aaT at h
 split at h
 ·cases h;rfl
 ·cases h
def SC:Option TypeDesc->Bool
 | some .unsafePointer=>true
 | _=>false
theorem Qd {d:Option TypeDesc} (h:SC d=true):d=some .unsafePointer:=by
 unfold SC at h
 split at h
 ·rfl
 ·cases h
def ZO (ti:TI) (L:List Ob) (k:Nat) (tx:TypeId):AV->Bool
 | .one (.c (.str _))=>decide (k=1)&&isStr (ti.kind tx)
 | .one (.sl id ver lo n)=>(ti.elem tx).isSome&&(match L[id]? with
  | some (.row ver' es k')=>decide (ver=ver')&&(decide (k=k')&&decide (lo+n<=es.length))
  | _=>false)
 | x=>(ti.elem tx).isSome&&(match eU x with
  | some es=>Ep k es
  | none=>false)
theorem Tq {ti:TI} {L:List Ob} {k:Nat} {tx:TypeId} {x:AV} (h:ZO ti L k tx x=true):G8 ti L k tx x:=by
 unfold ZO at h
 split at h
 ·rw [ad1] at h
  exact ⟨aea h.1,kE h.2⟩
 ·rw [ad1] at h
  obtain ⟨h1,h2⟩:=h
  split at h2
  ·rename_i h3
   rw [ad1,ad1] at h2
   obtain ⟨h4,h5,h6⟩:=h2
   obtain rfl:=aea h4
   obtain rfl:=aea h5
   exact ⟨h1,_,h3,aea h6⟩
  ·cases h2
 ·rename_i n1 n2
  rw [ad1] at h
  obtain ⟨h1,h2⟩:=h
  unfold G8
  split
  ·rename_i s;exact absurd rfl (n1 s)
  ·rename_i a b c d;exact absurd rfl (n2 a b c d)
  ·split at h2
   ·rename_i h3;exact ⟨h1,_,h3,sO h2⟩
   ·cases h2
def bytesOf:List (List SV)->Option (List UInt8)
 | []=>some []
 | [.c (.int .u8 n)]::es=>match bytesOf es with
  | some bs=>if n=(UInt8.ofNat n.toNat).toNat then some (UInt8.ofNat n.toNat::bs) else none
  | none=>none
 | _=>none
theorem H_ : ∀ {es:List (List SV)} {bs:List UInt8}, bytesOf es=some bs->es=bs.map fun b=>[.c (.int .u8 b.toNat)]
 | [],bs,h=>by cases h;rfl
 | e::es,bs,h=>by
  unfold bytesOf at h
  split at h
  ·rename_i e1;cases e1
  ·rename_i n es' e1
   cases e1
   split at h
   ·rename_i bs' h1
    split at h
    ·rename_i h2
     cases h
     rw [adT, <- H_ h1, <- h2]
    ·cases h
   ·cases h
  ·cases h
def MO (k:Nat):List (List SV)->Bool
 | []=>true
 | e::es=>Nat.beq e.length k&&MO k es
theorem LF {k:Nat} : ∀ {es:List (List SV)}, MO k es=true -> ∀ e∈es,e.length=k
 | [],_,e,he=>by cases he
 | x::es,h,e,he=>by
  rw [MO,ad1] at h
  rcases adZ.1 he with rfl|he
  ·exact Nat.eq_of_beq_eq_true h.1
  ·exact LF h.2 e he
def wH (a b:ByteArray):Int:=Extern.BytealgCompare.cmp a b
theorem Q9 {P : Program} {ρ : Operand -> Option AV} {L : List Ob} {f : FuncId} {fn : Func} {x y : Operand} {ts : Array TypeId} {a b : ByteArray} (hx : ρ x = some (.one (.c (.str a)))) (hy : ρ y = some (.one (.c (.str b)))) (hf : P.funcs[f]? = some fn) (hname : (fn.name == "runtime.NumGoroutine") = false)
  (hb:fn.body.isNone=true) (hn:Extern.findNext fn=none) (he:Extern.find fn=some Extern.BytealgCompare.compare) :
  wu P ρ L (.call { callee := .value (.func f),args := #[x,y],argTypes:=ts }) (.one (.c (.int .i64 (wH a b)))) L:=by
 intro B R γ w ev o ho hi hρ hfv
 obtain ⟨dst,op,type,pos,after,guard⟩:=o
 simp only at ho;subst ho
 have h1:=hρ x (by simp [Op.operands,Call.operands]) _ hx
 have h2:=hρ y (by simp [Op.operands,Call.operands]) _ hy
 generalize hex:ev x=ux at h1
 generalize hey:ev y=uy at h2
 cases h1;cases h2
 refine ⟨w,R,γ, .inl ⟨.int .i64 (wH a b),?_, .int _ _⟩,hi,Ext.refl _ _ _,Mv.refl⟩
 have:=run_callFunc_extern hf hname hb hn he #[.string a, .string b] w
 have h3:(Extern.BytealgCompare.compare #[.string a, .string b]).run P w = .ok (.int .i64 (wH a b)) w:=rfl
 rw [h3] at this
 simp [execOp,resolve,Deferred.ofValue,hfv.1,hex,hey,invoke,this,Result.andThen]
structure Qv where
 noEsc:FuncId
 cmpS:FuncId
def P9 (P:Program) (ti:TI) (xs:Qv) (rowB:Bool) (ρ:Operand->Option AV) (L:List Ob):Op->Option (AV × List Ob)
 | .makeMap _ none=>some (.one (.mp L.length),L++[.map []])
 | .buildSlice t len parts=>match Gl ρ parts.toList 0,ti.elem t with
  | some es,some E=>match ti.size E with
   | some k=>ck (.one (.sl L.length (E+65536) 0 len),L++[.row (E+65536) es k]) (rowB=true/\E<65536/\ti.zok E=true/\es.length=len/\0<len/\MO k es=true/\0<k/\len*k<=16777216)
   | none=>none
  | _,_=>none
 | .lookup t x k ok=>match ρ x,ρ k,XK (ti.kind t) with
  | some (.one (.mp id)),some (.one (.c (.str s))),some (kt,et)=>match L[id]?,ti.zero et with
   | some (.map kvs),some z=>match ok with
    | false=>ck (sW kvs s z,L) (pW kvs=true/\isStr (ti.kind kt)=true)
    | true=>match (sW kvs s z).norm with
     | some p=>ck (.tup [p, .one (.bool (zk s kvs).isSome)],L) (pW kvs=true/\isStr (ti.kind kt)=true)
     | none=>none
   | _,_=>none
  | _,_,_=>none
 | .mapUpdate t x k y=>match ρ x,ρ k,ρ y,XK (ti.kind t) with
  | some (.one (.mp id)),some (.one (.c (.str s))),some v,some (kt,_)=>match L[id]? with
   | some (.map kvs)=>ck (.undef,L.set id (.map (JU kvs s v))) (pW kvs=true/\isStr (ti.kind kt)=true)
   | _=>none
  | _,_,_,_=>none
 | .mapEntry t x k=>match ρ x,ρ k,XK (ti.kind t) with
  | some (.one (.mp id)),some (.one (.c (.str s))),some (kt,et)=>match L[id]?,ti.zero et with
   | some (.map kvs),some z=>match (sW kvs s z).norm with
    | some p=>ck (.tup [p, .one (.int .i64 (MX kvs s))],L.set id (.map (JU kvs s (sW kvs s z)))) (pW kvs=true/\isStr (ti.kind kt)=true)
    | none=>none
   | _,_=>none
  | _,_,_=>none
 | .entryStore _ x k y=>match ρ x,ρ k,ρ y with
  | some (.one (.mp id)),some (.one (.c (.int .i64 i))),some v=>match L[id]? with
   | some (.map kvs)=>match kvs[i.toNat]? with
    | some q=>ck (.undef,L.set id (.map (kvs.set i.toNat (q.1,v)))) (0<=i)
    | none=>none
   | _=>none
  | _,_,_=>none
 | .makeFunc (.func f) first captured=>match first.toList,Cn ρ captured.toList with
  | [],some caps=>some (.one (.clo f caps),L)
  | _,_=>none
 | .call { callee := .builtin .append,args,argTypes } => match args.toList,argTypes.toList with
  | [s,x],[t,tx]=>match ρ s,ρ x,ti.elem t with
   | some (.one (.sl id ver 0 n)),some vx,some E=>match L[id]?,O0 L vx,ti.size E,ti.bytes E with
    | some (.row ver' es k'),some xs,some k,some by_=>ck (.one (.sl id (ver+65536) 0 (n+xs.length)),L.set id (.row (ver+65536) (es++xs) k)) ((ver'=ver/\k'=k/\ZO ti L k tx vx=true/\ver%65536=E)/\ti.zok E=true/\0<k/\es.length=n/\(n+xs.length)*by_<=140737488355328/\n+xs.length<=140737488355328)
    | _,_,_,_=>none
   | some (.one .emp),some vx,some E=>match O0 L vx,ti.size E,ti.bytes E with
    | some xs,some k,some by_=>ck (.one (.sl L.length (E+65536) 0 xs.length),L++[.row (E+65536) xs k]) ((rowB=true/\ZO ti L k tx vx=true/\E<65536)/\ti.zok E=true/\0<k/\0<xs.length/\xs.length*by_<=140737488355328/\xs.length<=140737488355328)
    | _,_,_=>none
   | _,_,_=>none
  | _,_=>none
 | .makeSlice t l c=>match ρ l,ρ c,ti.elem t with
  | some (.one (.c (.int _ l))),some (.one (.c (.int _ m))),some E=>match ti.size E,ti.bytes E with
   | some k,some by_=>match rowB with
    | true=>match decide (l=0),(ti.zero E).bind AV.cells with
     | true,_=>ck (.one (.sl L.length (E+65536) 0 0),L++[.row (E+65536) [] k]) ((l=0/\E<65536)/\ti.zok E=true/\0<k/\0<=m/\(by_:Int)*m<=281474976710656/\m<=9223372036854775807)
     | false,some zs=>ck (.one (.sl L.length (E+65536) 0 m.toNat),L++[.row (E+65536) (List.replicate m.toNat zs) k]) ((l=m/\E<65536)/\ti.zok E=true/\0<k/\0<=m/\(by_:Int)*m<=281474976710656/\m<=9223372036854775807)
     | false,none=>none
    | false=>ck (.one (.own [] L.length),L++[.spare 0 k]) (l=0/\ti.zok E=true/\0<k/\0<=m/\(by_:Int)*m<=281474976710656/\m<=9223372036854775807)
   | _,_=>none
  | _,_,_=>none
 | .alloc E=>match P.info? E,ti.field E 1 with
  | some inf,some (1,ts)=>match inf.zero,ti.elem ts with
   | some (.agg vs),some Eb=>match vs.toList,ti.size Eb with
    | [.pointer none, .slice none 0 0],some k=>ck (.one (.ep L.length (E+65536) 0 0),L++[.row (E+65536) [[.c (.nul .ptr), .sl (L.length+1) Eb 0 0]] 2, .row Eb [] k]) (rowB=true/\E<65536/\Eb<65536/\0<k)
    | _,_=>none
   | _,_=>none
  | _,_=>none
 | .convert s d x=>match ρ x with
  | some (.one (.ep id ver 0 0))=>match L[id]? with
   | some (.row ver' es k)=>match Pn (ti.kind s),SC (ti.kind d),Pn (ti.kind d),SC (ti.kind s) with
    | some t,true,_,_=>match ti.size t with
     | some (_+1)=>ck (.one (.ep id ver 0 0),L) (ver'=ver)
     | _=>none
    | _,_,some t,true=>ck (.one (.ep id ver 0 0),L) (ver'=ver/\(ti.size t).isSome=true/\P.cellsOf t=k/\ver%65536=t)
    | _,_,_,_=>none
   | _=>none
  | _=>none
 | .binOp op t x y _=>match op,ρ x with
  | .eql,some (.one (.c (.nul .ptr)))=>match ρ y,Pn (ti.kind t) with
   | some (.one (.c (.nul .ptr))),some _=>some (.one (.c (.bool true)),L)
   | _,_=>none
  | .eql,some (.one (.ep id ver i off))=>match ρ y,Pn (ti.kind t),L[id]? with
   | some (.one (.c (.nul .ptr))),some _,some (.row ver' es k)=>ck (.one (.c (.bool false)),L) (ver'=ver)
   | _,_,_=>none
  | .neq,some (.one (.ep id ver i off))=>match ρ y,Pn (ti.kind t),L[id]? with
   | some (.one (.ep id2 ver2 i2 off2)),some te,some (.row ver' es k)=>ck (.one (.c (.bool false)),L) (ver'=ver/\id2=id/\ver2=ver/\i2=i/\off2=off/\(ti.size te).isSome=true)
   | _,_,_=>none
  | .eql,some vx=>match eU vx,y,aaT (ti.kind t) with
   | some (_::_), .const (.slice none 0 0),some _=>some (.one (.c (.bool false)),L)
   | _,_,_=>none
  | _,_=>none
 | .call { callee := .builtin .unsafeSliceData,args, .. } => match args.toList with
  | [x]=>match ρ x with
   | some (.one (.sl id ver 0 (n+1)))=>match L[id]? with
    | some (.row ver' _ _)=>ck (.one (.ep id ver 0 0),L) (ver'=ver)
    | _=>none
   | some (.one (.sl id ver 0 0))=>match L[id]? with
    | some (.row ver' [] _)=>ck (.one (.c (.nul .ptr)),L) (ver'=ver/\ver<65536)
    | _=>none
   | _=>none
  | _=>none
 | .call { callee := .builtin .unsafeString,args,argTypes } => match args.toList,argTypes.toList with
  | [x,y],[pt,_]=>match ρ x,ρ y with
   | some (.one (.c (.nul .ptr))),some (.one (.c (.int .i64 n)))=>ck (.one (.c (.str .empty)),L) (n=0)
   | some (.one (.ep id ver 0 0)),some (.one (.c (.int .i64 n)))=>match L[id]?,Pn (ti.kind pt) with
    | some (.row ver' es 1),some E=>match bytesOf es with
     | some bs=>ck (.one (.c (.str ⟨bs.toArray⟩)),L.set id .dead) ((ver'=ver/\n=bs.length)/\ver%65536=E/\P.cellsOf E=1/\0<bs.length/\bs.length<=9223372036854775807)
     | none=>none
    | _,_=>none
   | _,_=>none
  | _,_=>none
 | .call { callee := .value (.func f),args, .. } => match args.toList with
  | [x]=>match ρ x with
   | some v=>ck (v,L) (f=xs.noEsc)
   | none=>none
  | [x,y]=>match ρ x,ρ y with
   | some (.one (.c (.str a))),some (.one (.c (.str b)))=>ck (.one (.c (.int .i64 (wH a b))),L) (f=xs.cmpS)
   | _,_=>none
  | _=>none
 | _=>none
def Xg (P : Program) (f : FuncId) : Prop := ∃ fn, P.funcs[f]? = some fn /\ (fn.name == "runtime.NumGoroutine") = false /\ fn.body.isNone = true /\ Extern.findNext fn = none /\ Extern.find fn = some Extern.AbiNoEscape.same
def aa3 (P : Program) (f : FuncId) : Prop := ∃ fn, P.funcs[f]? = some fn /\ (fn.name == "runtime.NumGoroutine") = false /\ fn.body.isNone = true /\ Extern.findNext fn = none /\ Extern.find fn = some Extern.BytealgCompare.compare
structure Di (P:Program) (xs:Qv):Prop where
 noEsc:Xg P xs.noEsc
 cmpS:aa3 P xs.cmpS
theorem zQ {P:Program} {t:TypeId} {n:Nat} (h:gT P t=some n) : ∃ j,P.info? t=some j/\j.size=n:=by
 unfold gT at h
 exact map_some h
theorem Xx {P:Program} {ti:TI} {xs:Qv} {rowB:Bool} {ρ:Operand->Option AV} {L L':List Ob} {op:Op} {v:AV} (hti:TIok P ti) (hne:Di P xs) (h:P9 P ti xs rowB ρ L op=some (v,L')):wu P ρ L op v L':=by
 unfold P9 at h
 split at h
 ·cases h;exact Es
 ·split at h
  ·rename_i es E hes hE
   split at h
   ·rename_i k hk
    obtain ⟨e,h1,h2,h3,h4,h5,h6,h7,h8⟩:=bf h
    cases e
    exact Ry hti hE h2 hk h3 hes h4 h5 (LF h6) h7 h8
   ·cases h
  ·cases h
 ·split at h
  ·rename_i id s kt et hx hk hm
   have ht:=hti.kind _ _ (MV hm)
   split at h
   ·rename_i kvs z hL hz
    have hz:=hti.zero _ _ hz
    split at h
    ·obtain ⟨e,h1,h2⟩:=bf h
     cases e
     exact RH hx hk hL (mJ h1) ht (hti.kind _ _ (kE h2)) hz
    ·split at h
     ·rename_i p hp
      obtain ⟨e,h1,h2⟩:=bf h
      cases e
      exact rF hx hk hL (mJ h1) ht (hti.kind _ _ (kE h2)) hz hp
     ·cases h
   ·cases h
  ·cases h
 ·split at h
  ·rename_i id s v' kt et hx hk hy hm
   have ht:=hti.kind _ _ (MV hm)
   split at h
   ·rename_i kvs hL
    obtain ⟨e,h1,h2⟩:=bf h
    cases e
    exact zt hx hk hy hL (mJ h1) ht (hti.kind _ _ (kE h2))
   ·cases h
  ·cases h
 ·split at h
  ·rename_i id s kt et hx hk hm
   have ht:=hti.kind _ _ (MV hm)
   split at h
   ·rename_i kvs z hL hz
    have hz:=hti.zero _ _ hz
    split at h
    ·rename_i p hp
     obtain ⟨e,h1,h2⟩:=bf h
     cases e
     exact M9 hx hk hL (mJ h1) ht (hti.kind _ _ (kE h2)) hz hp
    ·cases h
   ·cases h
  ·cases h
 ·split at h
  ·rename_i id i v' hx hk hy
   split at h
   ·rename_i kvs hL
    split at h
    ·rename_i q hq
     obtain ⟨e,h1⟩:=bf h
     cases e
     exact FY hx (by rw [hk,Int.toNat_of_nonneg h1]) hy hL hq
    ·cases h
   ·cases h
  ·cases h
 ·rename_i f first captured
  split at h
  ·rename_i caps h1 h2
   cases h
   obtain rfl:first = #[]:=by cases first;simp at h1;subst h1;rfl
   exact Nf h2
  ·cases h
 ·rename_i args ts
  split at h
  ·rename_i s x t tx ha hts
   obtain rfl:args = #[s,x]:=by cases args;simp at ha;subst ha;rfl
   obtain rfl:ts = #[t,tx]:=by cases ts;simp at hts;subst hts;rfl
   split at h
   ·rename_i id ver n vx E hs hx hE
    split at h
    ·rename_i ver' es k' xs k by_ hL hsrc hk hby
     obtain ⟨e,⟨h1,h2,h3,h4⟩,h5,h6,h7,h8,h9⟩:=bf h
     cases e;subst h1;subst h2
     exact yT hti hs hx hL hsrc (Tq h3) hE h4 hk h5 hby h6 h7 h8 h9
    ·cases h
   ·rename_i vx E hs hx hE
    split at h
    ·rename_i xs k by_ hsrc hk hby
     obtain ⟨e,⟨h1,h2,h3⟩,h5,h6,h7,h8,h9⟩:=bf h
     cases e
     exact OA hti hs hx hsrc (Tq h2) hE h3 hk h5 hby h6 h7 h8 h9
    ·cases h
   ·cases h
  ·cases h
 ·split at h
  ·rename_i l m E hl hc hE
   split at h
   ·rename_i k by_ hk hby
    split at h
    ·split at h
     ·obtain ⟨e,⟨h1,h2⟩,h3,h4,h5,h6,h7⟩:=bf h
      cases e;subst h1
      exact Py hti hl hc hE h2 hk h3 hby h4 h5 h6 h7
     ·rename_i zs _ hz
      obtain ⟨e,⟨h1,h2⟩,h3,h4,h5,h6,h7⟩:=bf h
      cases e;subst h1
      obtain ⟨zv,hzv,hcz⟩:=Option.bind_eq_some_iff.1 hz
      exact Dy hti hl hc hE h2 hk h3 hzv hcz hby h4 h5 h6 h7
     ·cases h
    ·obtain ⟨e,h1,h3,h4,h5,h6,h7⟩:=bf h
     cases e;subst h1
     exact qQ hti hl hc hE hk h3 hby h4 h5 h6 h7
   ·cases h
  ·cases h
 ·split at h
  ·rename_i inf ts hi hf
   split at h
   ·rename_i vs Eb hz hEb
    split at h
    ·rename_i k hv hk
     obtain ⟨e,h1,h2,h3,h4⟩:=bf h
     cases e
     exact rT hi (by rw [hz];cases vs;simp at hv;subst hv;rfl) h2 h3 h4
    ·cases h
   ·cases h
  ·cases h
 ·split at h
  ·rename_i id ver hx
   split at h
   ·rename_i ver' es k hL
    split at h
    ·rename_i t _ h1 h2
     split at h
     ·rename_i n hn
      obtain ⟨e,h4⟩:=bf h
      cases e;subst h4
      obtain ⟨j,hj,hs⟩:=zQ (hti.size _ _ hn)
      exact o_ hx hL (hti.kind _ _ (yS h1)) (hti.kind _ _ (Qd h2)) hj (by rw [hs];exact Nat.succ_ne_zero _)
     ·cases h
    ·rename_i t h1 h2 _
     obtain ⟨e,h4,h5,h6,h7⟩:=bf h
     cases e;subst h4
     obtain ⟨n,hn⟩:=aen.1 h5
     obtain ⟨j,hj,hs⟩:=zQ (hti.size _ _ hn)
     exact uj hx hL (hti.kind _ _ (Qd h2)) (hti.kind _ _ (yS h1)) hj h6 h7
    ·cases h
   ·cases h
  ·cases h
 ·split at h
  ·rename_i hx
   split at h
   ·rename_i te hy hm
    cases h
    exact D_ hx hy (hti.kind _ _ (yS hm))
   ·cases h
  ·rename_i hx
   split at h
   ·rename_i te ver' es k hy hm hL
    obtain ⟨e,h4⟩:=bf h
    cases e;subst h4
    exact wZ hx hL hy (hti.kind _ _ (yS hm))
   ·cases h
  ·rename_i hx
   split at h
   ·rename_i te ver' es k hy hm hL
    obtain ⟨e,h4,h5,h6,h7,h8,h9⟩:=bf h
    cases e;subst h4;subst h5;subst h6;subst h7;subst h8
    obtain ⟨n,hn⟩:=aen.1 h9
    obtain ⟨j,hj,hs⟩:=zQ (hti.size _ _ hn)
    exact wP hx hL hy (hti.kind _ _ (yS hm)) hj
   ·cases h
  ·rename_i vx hx
   split at h
   ·rename_i hl hm
    cases h
    exact Ih hx hl (hti.kind _ _ (Zn hm))
   ·cases h
  ·cases h
 ·rename_i args ts
  split at h
  ·rename_i x ha
   obtain rfl:args = #[x]:=by cases args;simp at ha;subst ha;rfl
   split at h
   ·rename_i id ver n hx
    split at h
    ·rename_i ver' es k hL
     obtain ⟨e,h4⟩:=bf h
     cases e;subst h4
     exact zJ hx hL (Nat.succ_pos _)
    ·cases h
   ·rename_i id ver hx
    split at h
    ·rename_i ver' k hL
     obtain ⟨e,h4,h5⟩:=bf h
     cases e;subst h4
     exact xH hx hL h5
    ·cases h
   ·cases h
  ·cases h
 ·rename_i args ts
  split at h
  ·rename_i x y pt it ha hts
   obtain rfl:args = #[x,y]:=by cases args;simp at ha;subst ha;rfl
   obtain rfl:ts = #[pt,it]:=by cases ts;simp at hts;subst hts;rfl
   split at h
   ·rename_i n hx hy
    obtain ⟨e,h4⟩:=bf h
    cases e;subst h4
    exact qW hx hy
   ·rename_i id ver n hx hy
    split at h
    ·rename_i ver' es E hL hm
     split at h
     ·rename_i bs hb
      obtain ⟨e,⟨h4,h5⟩,h6,h7,h8,h9⟩:=bf h
      cases e;subst h4;subst h5
      refine tJ hx hy ?_ h6 (hti.kind _ _ (yS hm)) h7 h8 h9
      rw [hL,H_ hb];rfl
     ·cases h
    ·cases h
   ·cases h
  ·cases h
 ·rename_i f args ts
  split at h
  ·rename_i x ha
   obtain rfl:args = #[x]:=by cases args;simp at ha;subst ha;rfl
   split at h
   ·rename_i v' hx
    obtain ⟨e,h4⟩:=bf h
    cases e;subst h4
    obtain ⟨fn,h1,h2,h3,h5,h6⟩:=hne.noEsc
    exact uK hx h1 h2 h3 h5 h6
   ·cases h
  ·rename_i x y ha
   obtain rfl:args = #[x,y]:=by cases args;simp at ha;subst ha;rfl
   split at h
   ·rename_i a b hx hy
    obtain ⟨e,h4⟩:=bf h
    cases e;subst h4
    obtain ⟨fn,h1,h2,h3,h5,h6⟩:=hne.cmpS
    exact Q9 hx hy h1 h2 h3 h5 h6
   ·cases h
  ·cases h
 ·cases h
end Go.Proofs.YtfccopdbgfdcdaaGreatDoor
