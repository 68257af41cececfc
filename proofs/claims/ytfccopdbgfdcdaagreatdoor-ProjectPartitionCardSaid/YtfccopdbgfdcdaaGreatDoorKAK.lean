/- Parts of the proof, joined. No condition. -/
import Derived.Test.YtfccopdbgfdcdaaGreatDoorKAJ
set_option linter.unusedSimpArgs false
set_option linter.unusedVariables false
namespace Go.Proofs.YtfccopdbgfdcdaaGreatDoor
open Go.RowKit Go.MapKept
def litB (ti:TI) (ρ:Operand→Option AV):Op→Option AV
 | .buildSlice t len parts=>match elemsOf ρ parts.toList 0,ti.elem t with
  | some es,some E=>match ti.size E with
   | some k=>match len with
    | 0=>ck (.one .emp) (es.isEmpty=true)
    | n+1=>ck (.one (.c (.lst es))) (es.length=n+1∧wideB k es=true∧0<k∧(n+1)*k≤16777216∧ti.zok E=true)
   | none=>none
  | _,_=>none
 | _=>none
theorem litB_ok {ti:TI} {ρ:Operand→Option AV} {op:Op} {v:AV} (h:litB ti ρ op=some v):Yes (litOp ti ρ op) v:=by
 unfold litB at h
 split at h
 ·rename_i t len parts
  show Yes (popLit ti ρ t len parts.toList) v
  unfold popLit
  split at h
  ·rename_i h0 h1
   rw [h0,h1]
   dsimp only
   split at h
   ·rename_i h2
    rw [h2]
    dsimp only
    split at h
    ·obtain ⟨rfl,h3⟩:=ck_some h
     rw [if_pos rfl]
     exact ⟨_,rfl,List.isEmpty_iff.1 h3⟩
    ·obtain ⟨rfl,h3,h4,h5,h6,h7⟩:=ck_some h
     rw [if_neg (Nat.succ_ne_zero _)]
     exact ⟨_,rfl,h3,wideB_of h4,h5,h6,h7⟩
   ·cases h
  ·cases h
 ·cases h
def appB (ti:TI) (L:List Ob) (t tx:TypeId) (s x:AV):Option (AV × List Ob) :=
 match listOf x,ti.elem t with
 | some xs,some E=>match ti.size E,ti.bytes E with
  | some k,some by_=>match s with
   | .one .emp=>ck (.one (.own xs L.length),L++[.spare xs.length k]) ((ti.elem tx).isSome=true∧0<k∧ti.zok E=true∧wideB k xs=true∧xs.length*by_≤140737488355328∧xs.length≤140737488355328)
   | .one (.own es i)=>match L[i]? with
    | some (.spare n k')=>ck (.one (.own (es++xs) i),L.set i (.spare (n+xs.length) k)) ((ti.elem tx).isSome=true∧k'=k∧es.length=n∧(ti.zok E=true∧0<k)∧wideB k xs=true∧(n+xs.length)*by_≤140737488355328∧n+xs.length≤140737488355328)
    | _=>none
   | _=>none
  | _,_=>none
 | _,_=>none
def Yes3 {α β:Type} (f:Option (α × β × Prop)) (a:α) (b:β):Prop := ∃ φ,f=some (a,b,φ)∧φ
theorem appB_ok {ti:TI} {L L':List Ob} {t tx:TypeId} {s x v:AV} (h:appB ti L t tx s x=some (v,L')):Yes3 (lopApp ti L t tx s x) v L':=by
 unfold appB at h
 unfold lopApp
 split at h
 ·rename_i h0 h1
  rw [h0,h1]
  dsimp only
  split at h
  ·rename_i h2 h3
   rw [h2,h3]
   dsimp only
   split at h
   ·obtain ⟨e,h4,h5,h6,h7,h8⟩:=ck_some h
    cases e
    exact ⟨_,rfl,h4,h5,h6,wideB_of h7,h8⟩
   ·dsimp only
    split at h
    ·rename_i h4
     rw [h4]
     obtain ⟨e,h5,h6,h7,h8,h9,h10⟩:=ck_some h
     cases e
     exact ⟨_,rfl,h5,h6,h7,h8,wideB_of h9,h10⟩
    ·cases h
   ·cases h
  ·cases h
 ·cases h
def lopB (ti:TI) (ρ:Operand→Option AV) (L:List Ob):Op→Option (AV × List Ob)
 | .alloc E=>match (ti.zero E).bind AV.cells with
  | some zs=>some (.one (.ptr L.length 0),L++[.box zs])
  | none=>none
 | .box _ x=>match (ρ x).bind AV.cells with
  | some xs=>some (.one (.ptr L.length 0),L++[.box xs])
  | none=>none
 | .store t p x=>match ρ p,(ρ x).bind AV.cells with
  | some (.one (.ptr id off)),some xs=>match L[id]? with
   | some (.box cs)=>ck (.undef,L.set id (.box (splice cs off xs))) (off+xs.length≤cs.length∧ti.size t=some xs.length)
   | _=>none
  | some (.one (.ep id ver i o)),some xs=>match L[id]? with
   | some (.row ver' es k)=>match es[i]? with
    | some e=>ck (.undef,L.set id (.row ver' (es.set i (splice e o xs)) k)) (ver=ver'∧o+xs.length≤e.length∧ti.size t=some xs.length)
    | none=>none
   | _=>none
  | _,_=>none
 | .call { callee := .builtin .append,args,argTypes } => match args.toList,argTypes.toList with
  | [s,x],[t,tx]=>match ρ s,ρ x with
   | some vs,some vx=>appB ti L t tx vs vx
   | _,_=>none
  | _,_=>none
 | _=>none
theorem lopB_ok {ti:TI} {ρ:Operand→Option AV} {L L':List Ob} {op:Op} {v:AV} (h:lopB ti ρ L op=some (v,L')):Yes3 (lop ti ρ L op) v L':=by
 unfold lopB at h
 split at h
 ·unfold lop
  dsimp only
  split at h
  ·rename_i h0
   rw [h0];cases h;exact ⟨_,rfl,trivial⟩
  ·cases h
 ·unfold lop
  dsimp only
  split at h
  ·rename_i h0
   rw [h0];cases h;exact ⟨_,rfl,trivial⟩
  ·cases h
 ·unfold lop
  dsimp only
  split at h
  ·rename_i h0 h1
   rw [h0,h1]
   dsimp only
   split at h
   ·rename_i h2
    rw [h2]
    obtain ⟨e,h3⟩:=ck_some h
    cases e
    exact ⟨_,rfl,h3⟩
   ·cases h
  ·rename_i h0 h1
   rw [h0,h1]
   dsimp only
   split at h
   ·rename_i h2
    rw [h2]
    dsimp only
    split at h
    ·rename_i h3
     rw [h3]
     obtain ⟨e,h4⟩:=ck_some h
     cases e
     exact ⟨_,rfl,h4⟩
    ·cases h
   ·cases h
  ·cases h
 ·unfold lop
  dsimp only
  split at h
  ·rename_i h0 h1
   rw [h0,h1]
   dsimp only
   split at h
   ·rename_i h2 h3
    rw [h2,h3]
    exact appB_ok h
   ·cases h
  ·cases h
 ·cases h
def strKeysB:List (AC × AV)→Bool
 | []=>true
 | p::kvs=>match p.1 with
  | .str _=>strKeysB kvs
  | _=>false
theorem strKeysB_of : ∀ {kvs:List (AC × AV)}, strKeysB kvs=true→strKeys kvs
 | [],_,p,hp=>by cases hp
 | q::kvs,h,p,hp=>by
  unfold strKeysB at h
  split at h
  ·rename_i s hs
   rcases List.mem_cons.1 hp with rfl|hp
   ·exact ⟨s,hs⟩
   ·exact strKeysB_of h p hp
  ·cases h
def mapT:Option TypeDesc→Option (TypeId × TypeId)
 | some (.map k e)=>some (k,e)
 | _=>none
theorem mapT_of {d:Option TypeDesc} {k e:TypeId} (h:mapT d=some (k,e)):d=some (.map k e):=by
 unfold mapT at h
 split at h
 ·cases h;rfl
 ·cases h
def ptrT:Option TypeDesc→Option TypeId
 | some (.pointer e)=>some e
 | _=>none
theorem ptrT_of {d:Option TypeDesc} {e:TypeId} (h:ptrT d=some e):d=some (.pointer e):=by
 unfold ptrT at h
 split at h
 ·cases h;rfl
 ·cases h
def slcT:Option TypeDesc→Option TypeId
 | some (.slice e)=>some e
 | _=>none
theorem slcT_of {d:Option TypeDesc} {e:TypeId} (h:slcT d=some e):d=some (.slice e):=by
 unfold slcT at h
 split at h
 ·cases h;rfl
 ·cases h
def isUns:Option TypeDesc→Bool
 | some .unsafePointer=>true
 | _=>false
theorem isUns_of {d:Option TypeDesc} (h:isUns d=true):d=some .unsafePointer:=by
 unfold isUns at h
 split at h
 ·rfl
 ·cases h
def srcB (ti:TI) (L:List Ob) (k:Nat) (tx:TypeId):AV→Bool
 | .one (.c (.str _))=>decide (k=1)&&isStr (ti.kind tx)
 | .one (.sl id ver lo n)=>(ti.elem tx).isSome&&(match L[id]? with
  | some (.row ver' es k')=>decide (ver=ver')&&(decide (k=k')&&decide (lo+n≤es.length))
  | _=>false)
 | x=>(ti.elem tx).isSome&&(match listOf x with
  | some es=>wideB k es
  | none=>false)
theorem srcB_ok {ti:TI} {L:List Ob} {k:Nat} {tx:TypeId} {x:AV} (h:srcB ti L k tx x=true):srcOK ti L k tx x:=by
 unfold srcB at h
 split at h
 ·rw [Bool.and_eq_true] at h
  exact ⟨of_decide_eq_true h.1,isStr_of h.2⟩
 ·rw [Bool.and_eq_true] at h
  obtain ⟨h1,h2⟩:=h
  split at h2
  ·rename_i h3
   rw [Bool.and_eq_true,Bool.and_eq_true] at h2
   obtain ⟨h4,h5,h6⟩:=h2
   obtain rfl:=of_decide_eq_true h4
   obtain rfl:=of_decide_eq_true h5
   exact ⟨h1,_,h3,of_decide_eq_true h6⟩
  ·cases h2
 ·rename_i n1 n2
  rw [Bool.and_eq_true] at h
  obtain ⟨h1,h2⟩:=h
  unfold srcOK
  split
  ·rename_i s;exact absurd rfl (n1 s)
  ·rename_i a b c d;exact absurd rfl (n2 a b c d)
  ·split at h2
   ·rename_i h3;exact ⟨h1,_,h3,wideB_of h2⟩
   ·cases h2
def bytesOf:List (List SV)→Option (List UInt8)
 | []=>some []
 | [.c (.int .u8 n)]::es=>match bytesOf es with
  | some bs=>if n=(UInt8.ofNat n.toNat).toNat then some (UInt8.ofNat n.toNat::bs) else none
  | none=>none
 | _=>none
theorem bytesOf_ok : ∀ {es:List (List SV)} {bs:List UInt8}, bytesOf es=some bs→es=bs.map fun b=>[.c (.int .u8 b.toNat)]
 | [],bs,h=>by cases h;rfl
 | e::es,bs,h=>by
  unfold bytesOf at h
  split at h
  ·rename_i e1;cases e1
  ·rename_i n es' e1
   cases e1
   split at h
   ·rename_i bs' h1
    split at h
    ·rename_i h2
     cases h
     rw [List.map_cons, ← bytesOf_ok h1, ← h2]
    ·cases h
   ·cases h
  ·cases h
def widthB (k:Nat):List (List SV)→Bool
 | []=>true
 | e::es=>Nat.beq e.length k&&widthB k es
theorem widthB_of {k:Nat} : ∀ {es:List (List SV)}, widthB k es=true → ∀ e∈es,e.length=k
 | [],_,e,he=>by cases he
 | x::es,h,e,he=>by
  rw [widthB,Bool.and_eq_true] at h
  rcases List.mem_cons.1 he with rfl|he
  ·exact Nat.eq_of_beq_eq_true h.1
  ·exact widthB_of h.2 e he
def scmp (a b:ByteArray):Int:=Extern.BytealgCompare.cmp a b
theorem sop_cmpstr {P : Program} {ρ : Operand → Option AV} {L : List Ob} {f : FuncId} {fn : Func} {x y : Operand} {ts : Array TypeId} {a b : ByteArray} (hx : ρ x = some (.one (.c (.str a)))) (hy : ρ y = some (.one (.c (.str b)))) (hf : P.funcs[f]? = some fn) (hname : (fn.name == "runtime.NumGoroutine") = false)
  (hb:fn.body.isNone=true) (hn:Extern.findNext fn=none) (he:Extern.find fn=some Extern.BytealgCompare.compare) :
  Sop P ρ L (.call { callee := .value (.func f),args := #[x,y],argTypes:=ts }) (.one (.c (.int .i64 (scmp a b)))) L:=by
 intro B R γ w ev o ho hi hρ hfv
 obtain ⟨dst,op,type,pos,after,guard⟩:=o
 simp only at ho;subst ho
 have h1:=hρ x (by simp [Op.operands,Call.operands]) _ hx
 have h2:=hρ y (by simp [Op.operands,Call.operands]) _ hy
 generalize hex:ev x=ux at h1
 generalize hey:ev y=uy at h2
 cases h1;cases h2
 refine ⟨w,R,γ, .inl ⟨.int .i64 (scmp a b),?_, .int _ _⟩,hi,Ext.refl _ _ _,Mv.refl⟩
 have:=run_callFunc_extern hf hname hb hn he #[.string a, .string b] w
 have h3:(Extern.BytealgCompare.compare #[.string a, .string b]).run P w = .ok (.int .i64 (scmp a b)) w:=rfl
 rw [h3] at this
 simp [execOp,resolve,Deferred.ofValue,hfv.1,hex,hey,invoke,this,Result.andThen]
structure Exts where
 noEsc:FuncId
 cmpS:FuncId
def evSop (P:Program) (ti:TI) (xs:Exts) (rowB:Bool) (ρ:Operand→Option AV) (L:List Ob):Op→Option (AV × List Ob)
 | .makeMap _ none=>some (.one (.mp L.length),L++[.map []])
 | .buildSlice t len parts=>match elemsS ρ parts.toList 0,ti.elem t with
  | some es,some E=>match ti.size E with
   | some k=>ck (.one (.sl L.length (E+65536) 0 len),L++[.row (E+65536) es k]) (rowB=true∧E<65536∧ti.zok E=true∧es.length=len∧0<len∧widthB k es=true∧0<k∧len*k≤16777216)
   | none=>none
  | _,_=>none
 | .lookup t x k ok=>match ρ x,ρ k,mapT (ti.kind t) with
  | some (.one (.mp id)),some (.one (.c (.str s))),some (kt,et)=>match L[id]?,ti.zero et with
   | some (.map kvs),some z=>match ok with
    | false=>ck (mval kvs s z,L) (strKeysB kvs=true∧isStr (ti.kind kt)=true)
    | true=>match (mval kvs s z).norm with
     | some p=>ck (.tup [p, .one (.bool (kidx s kvs).isSome)],L) (strKeysB kvs=true∧isStr (ti.kind kt)=true)
     | none=>none
   | _,_=>none
  | _,_,_=>none
 | .mapUpdate t x k y=>match ρ x,ρ k,ρ y,mapT (ti.kind t) with
  | some (.one (.mp id)),some (.one (.c (.str s))),some v,some (kt,_)=>match L[id]? with
   | some (.map kvs)=>ck (.undef,L.set id (.map (mput kvs s v))) (strKeysB kvs=true∧isStr (ti.kind kt)=true)
   | _=>none
  | _,_,_,_=>none
 | .mapEntry t x k=>match ρ x,ρ k,mapT (ti.kind t) with
  | some (.one (.mp id)),some (.one (.c (.str s))),some (kt,et)=>match L[id]?,ti.zero et with
   | some (.map kvs),some z=>match (mval kvs s z).norm with
    | some p=>ck (.tup [p, .one (.int .i64 (mplace kvs s))],L.set id (.map (mput kvs s (mval kvs s z)))) (strKeysB kvs=true∧isStr (ti.kind kt)=true)
    | none=>none
   | _,_=>none
  | _,_,_=>none
 | .entryStore _ x k y=>match ρ x,ρ k,ρ y with
  | some (.one (.mp id)),some (.one (.c (.int .i64 i))),some v=>match L[id]? with
   | some (.map kvs)=>match kvs[i.toNat]? with
    | some q=>ck (.undef,L.set id (.map (kvs.set i.toNat (q.1,v)))) (0≤i)
    | none=>none
   | _=>none
  | _,_,_=>none
 | .makeFunc (.func f) first captured=>match first.toList,capsOfR ρ captured.toList with
  | [],some caps=>some (.one (.clo f caps),L)
  | _,_=>none
 | .call { callee := .builtin .append,args,argTypes } => match args.toList,argTypes.toList with
  | [s,x],[t,tx]=>match ρ s,ρ x,ti.elem t with
   | some (.one (.sl id ver 0 n)),some vx,some E=>match L[id]?,srcS L vx,ti.size E,ti.bytes E with
    | some (.row ver' es k'),some xs,some k,some by_=>ck (.one (.sl id (ver+65536) 0 (n+xs.length)),L.set id (.row (ver+65536) (es++xs) k)) ((ver'=ver∧k'=k∧srcB ti L k tx vx=true∧ver%65536=E)∧ti.zok E=true∧0<k∧es.length=n∧(n+xs.length)*by_≤140737488355328∧n+xs.length≤140737488355328)
    | _,_,_,_=>none
   | some (.one .emp),some vx,some E=>match srcS L vx,ti.size E,ti.bytes E with
    | some xs,some k,some by_=>ck (.one (.sl L.length (E+65536) 0 xs.length),L++[.row (E+65536) xs k]) ((rowB=true∧srcB ti L k tx vx=true∧E<65536)∧ti.zok E=true∧0<k∧0<xs.length∧xs.length*by_≤140737488355328∧xs.length≤140737488355328)
    | _,_,_=>none
   | _,_,_=>none
  | _,_=>none
 | .makeSlice t l c=>match ρ l,ρ c,ti.elem t with
  | some (.one (.c (.int _ l))),some (.one (.c (.int _ m))),some E=>match ti.size E,ti.bytes E with
   | some k,some by_=>match rowB with
    | true=>match decide (l=0),(ti.zero E).bind AV.cells with
     | true,_=>ck (.one (.sl L.length (E+65536) 0 0),L++[.row (E+65536) [] k]) ((l=0∧E<65536)∧ti.zok E=true∧0<k∧0≤m∧(by_:Int)*m≤281474976710656∧m≤9223372036854775807)
     | false,some zs=>ck (.one (.sl L.length (E+65536) 0 m.toNat),L++[.row (E+65536) (List.replicate m.toNat zs) k]) ((l=m∧E<65536)∧ti.zok E=true∧0<k∧0≤m∧(by_:Int)*m≤281474976710656∧m≤9223372036854775807)
     | false,none=>none
    | false=>ck (.one (.own [] L.length),L++[.spare 0 k]) (l=0∧ti.zok E=true∧0<k∧0≤m∧(by_:Int)*m≤281474976710656∧m≤9223372036854775807)
   | _,_=>none
  | _,_,_=>none
 | .alloc E=>match P.info? E,ti.field E 1 with
  | some inf,some (1,ts)=>match inf.zero,ti.elem ts with
   | some (.agg vs),some Eb=>match vs.toList,ti.size Eb with
    | [.pointer none, .slice none 0 0],some k=>ck (.one (.ep L.length (E+65536) 0 0),L++[.row (E+65536) [[.c (.nul .ptr), .sl (L.length+1) Eb 0 0]] 2, .row Eb [] k]) (rowB=true∧E<65536∧Eb<65536∧0<k)
    | _,_=>none
   | _,_=>none
  | _,_=>none
 | .convert s d x=>match ρ x with
  | some (.one (.ep id ver 0 0))=>match L[id]? with
   | some (.row ver' es k)=>match ptrT (ti.kind s),isUns (ti.kind d),ptrT (ti.kind d),isUns (ti.kind s) with
    | some t,true,_,_=>match ti.size t with
     | some (_+1)=>ck (.one (.ep id ver 0 0),L) (ver'=ver)
     | _=>none
    | _,_,some t,true=>ck (.one (.ep id ver 0 0),L) (ver'=ver∧(ti.size t).isSome=true∧P.cellsOf t=k∧ver%65536=t)
    | _,_,_,_=>none
   | _=>none
  | _=>none
 | .binOp op t x y _=>match op,ρ x with
  | .eql,some (.one (.c (.nul .ptr)))=>match ρ y,ptrT (ti.kind t) with
   | some (.one (.c (.nul .ptr))),some _=>some (.one (.c (.bool true)),L)
   | _,_=>none
  | .eql,some (.one (.ep id ver i off))=>match ρ y,ptrT (ti.kind t),L[id]? with
   | some (.one (.c (.nul .ptr))),some _,some (.row ver' es k)=>ck (.one (.c (.bool false)),L) (ver'=ver)
   | _,_,_=>none
  | .neq,some (.one (.ep id ver i off))=>match ρ y,ptrT (ti.kind t),L[id]? with
   | some (.one (.ep id2 ver2 i2 off2)),some te,some (.row ver' es k)=>ck (.one (.c (.bool false)),L) (ver'=ver∧id2=id∧ver2=ver∧i2=i∧off2=off∧(ti.size te).isSome=true)
   | _,_,_=>none
  | .eql,some vx=>match listOf vx,y,slcT (ti.kind t) with
   | some (_::_), .const (.slice none 0 0),some _=>some (.one (.c (.bool false)),L)
   | _,_,_=>none
  | _,_=>none
 | .call { callee := .builtin .unsafeSliceData,args, .. } => match args.toList with
  | [x]=>match ρ x with
   | some (.one (.sl id ver 0 (n+1)))=>match L[id]? with
    | some (.row ver' _ _)=>ck (.one (.ep id ver 0 0),L) (ver'=ver)
    | _=>none
   | some (.one (.sl id ver 0 0))=>match L[id]? with
    | some (.row ver' [] _)=>ck (.one (.c (.nul .ptr)),L) (ver'=ver∧ver<65536)
    | _=>none
   | _=>none
  | _=>none
 | .call { callee := .builtin .unsafeString,args,argTypes } => match args.toList,argTypes.toList with
  | [x,y],[pt,_]=>match ρ x,ρ y with
   | some (.one (.c (.nul .ptr))),some (.one (.c (.int .i64 n)))=>ck (.one (.c (.str .empty)),L) (n=0)
   | some (.one (.ep id ver 0 0)),some (.one (.c (.int .i64 n)))=>match L[id]?,ptrT (ti.kind pt) with
    | some (.row ver' es 1),some E=>match bytesOf es with
     | some bs=>ck (.one (.c (.str ⟨bs.toArray⟩)),L.set id .dead) ((ver'=ver∧n=bs.length)∧ver%65536=E∧P.cellsOf E=1∧0<bs.length∧bs.length≤9223372036854775807)
     | none=>none
    | _,_=>none
   | _,_=>none
  | _,_=>none
 | .call { callee := .value (.func f),args, .. } => match args.toList with
  | [x]=>match ρ x with
   | some v=>ck (v,L) (f=xs.noEsc)
   | none=>none
  | [x,y]=>match ρ x,ρ y with
   | some (.one (.c (.str a))),some (.one (.c (.str b)))=>ck (.one (.c (.int .i64 (scmp a b))),L) (f=xs.cmpS)
   | _,_=>none
  | _=>none
 | _=>none
def NoEsc (P : Program) (f : FuncId) : Prop := ∃ fn, P.funcs[f]? = some fn ∧ (fn.name == "runtime.NumGoroutine") = false ∧ fn.body.isNone = true ∧ Extern.findNext fn = none ∧ Extern.find fn = some Extern.AbiNoEscape.same
def CmpS (P : Program) (f : FuncId) : Prop := ∃ fn, P.funcs[f]? = some fn ∧ (fn.name == "runtime.NumGoroutine") = false ∧ fn.body.isNone = true ∧ Extern.findNext fn = none ∧ Extern.find fn = some Extern.BytealgCompare.compare
structure ExtsOK (P:Program) (xs:Exts):Prop where
 noEsc:NoEsc P xs.noEsc
 cmpS:CmpS P xs.cmpS
theorem tsize_info {P:Program} {t:TypeId} {n:Nat} (h:tsize P t=some n) : ∃ j,P.info? t=some j∧j.size=n:=by
 unfold tsize at h
 exact map_some h
theorem evSop_ok {P:Program} {ti:TI} {xs:Exts} {rowB:Bool} {ρ:Operand→Option AV} {L L':List Ob} {op:Op} {v:AV} (hti:TIok P ti) (hne:ExtsOK P xs) (h:evSop P ti xs rowB ρ L op=some (v,L')):Sop P ρ L op v L':=by
 unfold evSop at h
 split at h
 ·cases h;exact sop_makeMap
 ·split at h
  ·rename_i es E hes hE
   split at h
   ·rename_i k hk
    obtain ⟨e,h1,h2,h3,h4,h5,h6,h7,h8⟩:=ck_some h
    cases e
    exact sop_litRow hti hE h2 hk h3 hes h4 h5 (widthB_of h6) h7 h8
   ·cases h
  ·cases h
 ·split at h
  ·rename_i id s kt et hx hk hm
   have ht:=hti.kind _ _ (mapT_of hm)
   split at h
   ·rename_i kvs z hL hz
    have hz:=hti.zero _ _ hz
    split at h
    ·obtain ⟨e,h1,h2⟩:=ck_some h
     cases e
     exact sop_lookup hx hk hL (strKeysB_of h1) ht (hti.kind _ _ (isStr_of h2)) hz
    ·split at h
     ·rename_i p hp
      obtain ⟨e,h1,h2⟩:=ck_some h
      cases e
      exact sop_lookup_ok hx hk hL (strKeysB_of h1) ht (hti.kind _ _ (isStr_of h2)) hz hp
     ·cases h
   ·cases h
  ·cases h
 ·split at h
  ·rename_i id s v' kt et hx hk hy hm
   have ht:=hti.kind _ _ (mapT_of hm)
   split at h
   ·rename_i kvs hL
    obtain ⟨e,h1,h2⟩:=ck_some h
    cases e
    exact sop_mapUpdate hx hk hy hL (strKeysB_of h1) ht (hti.kind _ _ (isStr_of h2))
   ·cases h
  ·cases h
 ·split at h
  ·rename_i id s kt et hx hk hm
   have ht:=hti.kind _ _ (mapT_of hm)
   split at h
   ·rename_i kvs z hL hz
    have hz:=hti.zero _ _ hz
    split at h
    ·rename_i p hp
     obtain ⟨e,h1,h2⟩:=ck_some h
     cases e
     exact sop_mapEntry hx hk hL (strKeysB_of h1) ht (hti.kind _ _ (isStr_of h2)) hz hp
    ·cases h
   ·cases h
  ·cases h
 ·split at h
  ·rename_i id i v' hx hk hy
   split at h
   ·rename_i kvs hL
    split at h
    ·rename_i q hq
     obtain ⟨e,h1⟩:=ck_some h
     cases e
     exact sop_entryStore hx (by rw [hk,Int.toNat_of_nonneg h1]) hy hL hq
    ·cases h
   ·cases h
  ·cases h
 ·rename_i f first captured
  split at h
  ·rename_i caps h1 h2
   cases h
   obtain rfl:first = #[]:=by cases first;simp at h1;subst h1;rfl
   exact sop_makeFunc h2
  ·cases h
 ·rename_i args ts
  split at h
  ·rename_i s x t tx ha hts
   obtain rfl:args = #[s,x]:=by cases args;simp at ha;subst ha;rfl
   obtain rfl:ts = #[t,tx]:=by cases ts;simp at hts;subst hts;rfl
   split at h
   ·rename_i id ver n vx E hs hx hE
    split at h
    ·rename_i ver' es k' xs k by_ hL hsrc hk hby
     obtain ⟨e,⟨h1,h2,h3,h4⟩,h5,h6,h7,h8,h9⟩:=ck_some h
     cases e;subst h1;subst h2
     exact sop_app hti hs hx hL hsrc (srcB_ok h3) hE h4 hk h5 hby h6 h7 h8 h9
    ·cases h
   ·rename_i vx E hs hx hE
    split at h
    ·rename_i xs k by_ hsrc hk hby
     obtain ⟨e,⟨h1,h2,h3⟩,h5,h6,h7,h8,h9⟩:=ck_some h
     cases e
     exact sop_app0 hti hs hx hsrc (srcB_ok h2) hE h3 hk h5 hby h6 h7 h8 h9
    ·cases h
   ·cases h
  ·cases h
 ·split at h
  ·rename_i l m E hl hc hE
   split at h
   ·rename_i k by_ hk hby
    split at h
    ·split at h
     ·obtain ⟨e,⟨h1,h2⟩,h3,h4,h5,h6,h7⟩:=ck_some h
      cases e;subst h1
      exact sop_makeRow hti hl hc hE h2 hk h3 hby h4 h5 h6 h7
     ·rename_i zs _ hz
      obtain ⟨e,⟨h1,h2⟩,h3,h4,h5,h6,h7⟩:=ck_some h
      cases e;subst h1
      obtain ⟨zv,hzv,hcz⟩:=Option.bind_eq_some_iff.1 hz
      exact sop_makeN hti hl hc hE h2 hk h3 hzv hcz hby h4 h5 h6 h7
     ·cases h
    ·obtain ⟨e,h1,h3,h4,h5,h6,h7⟩:=ck_some h
     cases e;subst h1
     exact sop_makeOwn hti hl hc hE hk h3 hby h4 h5 h6 h7
   ·cases h
  ·cases h
 ·split at h
  ·rename_i inf ts hi hf
   split at h
   ·rename_i vs Eb hz hEb
    split at h
    ·rename_i k hv hk
     obtain ⟨e,h1,h2,h3,h4⟩:=ck_some h
     cases e
     exact sop_allocBuilder hi (by rw [hz];cases vs;simp at hv;subst hv;rfl) h2 h3 h4
    ·cases h
   ·cases h
  ·cases h
 ·split at h
  ·rename_i id ver hx
   split at h
   ·rename_i ver' es k hL
    split at h
    ·rename_i t _ h1 h2
     split at h
     ·rename_i n hn
      obtain ⟨e,h4⟩:=ck_some h
      cases e;subst h4
      obtain ⟨j,hj,hs⟩:=tsize_info (hti.size _ _ hn)
      exact sop_convUnsafe hx hL (hti.kind _ _ (ptrT_of h1)) (hti.kind _ _ (isUns_of h2)) hj (by rw [hs];exact Nat.succ_ne_zero _)
     ·cases h
    ·rename_i t h1 h2 _
     obtain ⟨e,h4,h5,h6,h7⟩:=ck_some h
     cases e;subst h4
     obtain ⟨n,hn⟩:=Option.isSome_iff_exists.1 h5
     obtain ⟨j,hj,hs⟩:=tsize_info (hti.size _ _ hn)
     exact sop_convBack hx hL (hti.kind _ _ (isUns_of h2)) (hti.kind _ _ (ptrT_of h1)) hj h6 h7
    ·cases h
   ·cases h
  ·cases h
 ·split at h
  ·rename_i hx
   split at h
   ·rename_i te hy hm
    cases h
    exact sop_eqNul hx hy (hti.kind _ _ (ptrT_of hm))
   ·cases h
  ·rename_i hx
   split at h
   ·rename_i te ver' es k hy hm hL
    obtain ⟨e,h4⟩:=ck_some h
    cases e;subst h4
    exact sop_eqEpNul hx hL hy (hti.kind _ _ (ptrT_of hm))
   ·cases h
  ·rename_i hx
   split at h
   ·rename_i te ver' es k hy hm hL
    obtain ⟨e,h4,h5,h6,h7,h8,h9⟩:=ck_some h
    cases e;subst h4;subst h5;subst h6;subst h7;subst h8
    obtain ⟨n,hn⟩:=Option.isSome_iff_exists.1 h9
    obtain ⟨j,hj,hs⟩:=tsize_info (hti.size _ _ hn)
    exact sop_neqSame hx hL hy (hti.kind _ _ (ptrT_of hm)) hj
   ·cases h
  ·rename_i vx hx
   split at h
   ·rename_i hl hm
    cases h
    exact sop_notNil hx hl (hti.kind _ _ (slcT_of hm))
   ·cases h
  ·cases h
 ·rename_i args ts
  split at h
  ·rename_i x ha
   obtain rfl:args = #[x]:=by cases args;simp at ha;subst ha;rfl
   split at h
   ·rename_i id ver n hx
    split at h
    ·rename_i ver' es k hL
     obtain ⟨e,h4⟩:=ck_some h
     cases e;subst h4
     exact sop_sliceData hx hL (Nat.succ_pos _)
    ·cases h
   ·rename_i id ver hx
    split at h
    ·rename_i ver' k hL
     obtain ⟨e,h4,h5⟩:=ck_some h
     cases e;subst h4
     exact sop_sliceData0 hx hL h5
    ·cases h
   ·cases h
  ·cases h
 ·rename_i args ts
  split at h
  ·rename_i x y pt it ha hts
   obtain rfl:args = #[x,y]:=by cases args;simp at ha;subst ha;rfl
   obtain rfl:ts = #[pt,it]:=by cases ts;simp at hts;subst hts;rfl
   split at h
   ·rename_i n hx hy
    obtain ⟨e,h4⟩:=ck_some h
    cases e;subst h4
    exact sop_unsafeString0 hx hy
   ·rename_i id ver n hx hy
    split at h
    ·rename_i ver' es E hL hm
     split at h
     ·rename_i bs hb
      obtain ⟨e,⟨h4,h5⟩,h6,h7,h8,h9⟩:=ck_some h
      cases e;subst h4;subst h5
      refine sop_unsafeString hx hy ?_ h6 (hti.kind _ _ (ptrT_of hm)) h7 h8 h9
      rw [hL,bytesOf_ok hb];rfl
     ·cases h
    ·cases h
   ·cases h
  ·cases h
 ·rename_i f args ts
  split at h
  ·rename_i x ha
   obtain rfl:args = #[x]:=by cases args;simp at ha;subst ha;rfl
   split at h
   ·rename_i v' hx
    obtain ⟨e,h4⟩:=ck_some h
    cases e;subst h4
    obtain ⟨fn,h1,h2,h3,h5,h6⟩:=hne.noEsc
    exact sop_noEscape hx h1 h2 h3 h5 h6
   ·cases h
  ·rename_i x y ha
   obtain rfl:args = #[x,y]:=by cases args;simp at ha;subst ha;rfl
   split at h
   ·rename_i a b hx hy
    obtain ⟨e,h4⟩:=ck_some h
    cases e;subst h4
    obtain ⟨fn,h1,h2,h3,h5,h6⟩:=hne.cmpS
    exact sop_cmpstr hx hy h1 h2 h3 h5 h6
   ·cases h
  ·cases h
 ·cases h
end Go.Proofs.YtfccopdbgfdcdaaGreatDoor
