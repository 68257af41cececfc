/- Parts of the proof, joined. No condition. -/
import Derived.Test.YtlcceppoloaecaaGreatDoorKAA
import Derived.Test.YtlcceppoloaecaaGreatDoorKAG
import Derived.Scope
import Derived.Test.YtlcceppoloaecaaGreatDoorKAF
set_option linter.unusedSimpArgs false
set_option linter.unusedVariables false
namespace Go.Proofs.YtlcceppoloaecaaGreatDoor
open Go.RowKit Go.MapKept
def ak4 (ti:TI) (ρ:Operand->Option AV):Op->Option AV
 | .buildSlice t len parts=>match uI ρ parts.toList 0,ti.elem t with
  | some es,some E=>match ti.size E with
   | some k=>match len with
    | 0=>ck (.one .emp) (es.isEmpty=true)
    | n+1=>ck (.one (.c (.lst es))) (es.length=n+1/\Kl k es=true/\0<k/\(n+1)*k<=16777216/\ti.zok E=true)
   | none=>none
  | _,_=>none
 | _=>none
theorem adj {ti:TI} {ρ:Operand->Option AV} {op:Op} {v:AV} (h:ak4 ti ρ op=some v):QT (DU ti ρ op) v:=by
 unfold ak4 at h
 split at h
 ·rename_i t len parts
  show QT (IL ti ρ t len parts.toList) v
  unfold IL
  split at h
  ·rename_i h0 h1
   rw [h0,h1]
   dsimp only
   split at h
   ·rename_i h2
    rw [h2]
    dsimp only
    split at h
    ·obtain ⟨rfl,h3⟩:=bK h
     rw [if_pos rfl]
     exact ⟨_,rfl,List.isEmpty_iff.1 h3⟩
    ·obtain ⟨rfl,h3,h4,h5,h6,h7⟩:=bK h
     rw [if_neg (Nat.succ_ne_zero _)]
     exact ⟨_,rfl,h3,wW h4,h5,h6,h7⟩
   ·cases h
  ·cases h
 ·cases h
def als (ti:TI) (L:List Ob) (t tx:TypeId) (s x:AV):Option (AV × List Ob) :=
 match gH x,ti.elem t with
 | some xs,some E=>match ti.size E,ti.bytes E with
  | some k,some by_=>match s with
   | .one .emp=>ck (.one (.own xs L.length),L++[.spare xs.length k]) ((ti.elem tx).isSome=true/\0<k/\ti.zok E=true/\Kl k xs=true/\xs.length*by_<=140737488355328/\xs.length<=140737488355328)
   | .one (.own es i)=>match L[i]? with
    | some (.spare n k')=>ck (.one (.own (es++xs) i),L.set i (.spare (n+xs.length) k)) ((ti.elem tx).isSome=true/\k'=k/\es.length=n/\(ti.zok E=true/\0<k)/\Kl k xs=true/\(n+xs.length)*by_<=140737488355328/\n+xs.length<=140737488355328)
    | _=>none
   | _=>none
  | _,_=>none
 | _,_=>none
def anF {α β:Type} (f:Option (α × β × Prop)) (a:α) (b:β):Prop := ∃ φ,f=some (a,b,φ)/\φ
theorem ak7 {ti:TI} {L L':List Ob} {t tx:TypeId} {s x v:AV} (h:als ti L t tx s x=some (v,L')):anF (AZ ti L t tx s x) v L':=by
 unfold als at h
 unfold AZ
 split at h
 ·rename_i h0 h1
  rw [h0,h1]
  dsimp only
  split at h
  ·rename_i h2 h3
   rw [h2,h3]
   dsimp only
   split at h
   ·obtain ⟨e,h4,h5,h6,h7,h8⟩:=bK h
    cases e
    exact ⟨_,rfl,h4,h5,h6,wW h7,h8⟩
   ·dsimp only
    split at h
    ·rename_i h4
     rw [h4]
     obtain ⟨e,h5,h6,h7,h8,h9,h10⟩:=bK h
     cases e
     exact ⟨_,rfl,h5,h6,h7,h8,wW h9,h10⟩
    ·cases h
   ·cases h
  ·cases h
 ·cases h
def aj1 (ti:TI) (ρ:Operand->Option AV) (L:List Ob):Op->Option (AV × List Ob)
 | .alloc E=>match (ti.zero E).bind AV.cells with
  | some zs=>some (.one (.ptr L.length 0),L++[.box zs])
  | none=>none
 | .box _ x=>match (ρ x).bind AV.cells with
  | some xs=>some (.one (.ptr L.length 0),L++[.box xs])
  | none=>none
 | .store t p x=>match ρ p,(ρ x).bind AV.cells with
  | some (.one (.ptr id off)),some xs=>match L[id]? with
   | some (.box cs)=>ck (.undef,L.set id (.box (splice cs off xs))) (off+xs.length<=cs.length/\ti.size t=some xs.length)
   | _=>none
  | some (.one (.ep id ver i o)),some xs=>match L[id]? with
   | some (.row ver' es k)=>match es[i]? with
    | some e=>ck (.undef,L.set id (.row ver' (es.set i (splice e o xs)) k)) (ver=ver'/\o+xs.length<=e.length/\ti.size t=some xs.length)
    | none=>none
   | _=>none
  | _,_=>none
 | .call { callee := .builtin .append,args,argTypes } => match args.toList,argTypes.toList with
  | [s,x],[t,tx]=>match ρ s,ρ x with
   | some vs,some vx=>als ti L t tx vs vx
   | _,_=>none
  | _,_=>none
 | _=>none
theorem ac1 {ti:TI} {ρ:Operand->Option AV} {L L':List Ob} {op:Op} {v:AV} (h:aj1 ti ρ L op=some (v,L')):anF (K9 ti ρ L op) v L':=by
 unfold aj1 at h
 split at h
 ·unfold K9
  dsimp only
  split at h
  ·rename_i h0
   rw [h0];cases h;exact ⟨_,rfl,trivial⟩
  ·cases h
 ·unfold K9
  dsimp only
  split at h
  ·rename_i h0
   rw [h0];cases h;exact ⟨_,rfl,trivial⟩
  ·cases h
 ·unfold K9
  dsimp only
  split at h
  ·rename_i h0 h1
   rw [h0,h1]
   dsimp only
   split at h
   ·rename_i h2
    rw [h2]
    obtain ⟨e,h3⟩:=bK h
    cases e
    exact ⟨_,rfl,h3⟩
   ·cases h
  ·rename_i h0 h1
   rw [h0,h1]
   dsimp only
   split at h
   ·rename_i h2
    rw [h2]
    dsimp only
    split at h
    ·rename_i h3
     rw [h3]
     obtain ⟨e,h4⟩:=bK h
     cases e
     exact ⟨_,rfl,h4⟩
    ·cases h
   ·cases h
  ·cases h
 ·unfold K9
  dsimp only
  split at h
  ·rename_i h0 h1
   rw [h0,h1]
   dsimp only
   split at h
   ·rename_i h2 h3
    rw [h2,h3]
    exact ak7 h
   ·cases h
  ·cases h
 ·cases h
def tH:List (AC × AV)->Bool
 | []=>true
 | p::kvs=>match p.1 with
  | .str _=>tH kvs
  | _=>false
theorem pg : ∀ {kvs:List (AC × AV)}, tH kvs=true->strKeys kvs
 | [],_,p,hp=>by cases hp
 | q::kvs,h,p,hp=>by
  unfold tH at h
  split at h
  ·rename_i s hs
   rcases aqf.1 hp with rfl|hp
   ·exact ⟨s,hs⟩
   ·exact pg h p hp
  ·cases h
def aia:Option TypeDesc->Option (TypeId × TypeId)
 | some (.map k e)=>some (k,e)
 | _=>none
theorem Vi {d:Option TypeDesc} {k e:TypeId} (h:aia d=some (k,e)):d=some (.map k e):=by
 unfold aia at h
 split at h
 ·cases h;rfl
 ·cases h
def WN:Option TypeDesc->Option TypeId
 | some (.pointer e)=>some e
 | _=>none
theorem Dr {d:Option TypeDesc} {e:TypeId} (h:WN d=some e):d=some (.pointer e):=by
 unfold WN at h
 split at h
 ·cases h;rfl
 ·cases h
def al2:Option TypeDesc->Option TypeId
 | some (.slice e)=>some e
 | _=>none
theorem ak3 {d:Option TypeDesc} {e:TypeId} (h:al2 d=some e):d=some (.slice e):=by
 unfold al2 at h
 split at h
 ·cases h;rfl
 ·cases h
def ab_:Option TypeDesc->Bool
 | some .unsafePointer=>true
 | _=>false
theorem XD {d:Option TypeDesc} (h:ab_ d=true):d=some .unsafePointer:=by
 unfold ab_ at h
 split at h
 ·rfl
 ·cases h
def aj2 (ti:TI) (L:List Ob) (k:Nat) (tx:TypeId):AV->Bool
 | .one (.c (.str _))=>decide (k=1)&&isStr (ti.kind tx)
 | .one (.sl id ver lo n)=>(ti.elem tx).isSome&&(match L[id]? with
  | some (.row ver' es k')=>decide (ver=ver')&&(decide (k=k')&&decide (lo+n<=es.length))
  | _=>false)
 | x=>(ti.elem tx).isSome&&(match gH x with
  | some es=>Kl k es
  | none=>false)
theorem aco {ti:TI} {L:List Ob} {k:Nat} {tx:TypeId} {x:AV} (h:aj2 ti L k tx x=true):O1 ti L k tx x:=by
 unfold aj2 at h
 split at h
 ·rw [aqg] at h
  exact ⟨aqs h.1,nG h.2⟩
 ·rw [aqg] at h
  obtain ⟨h1,h2⟩:=h
  split at h2
  ·rename_i h3
   rw [aqg,aqg] at h2
   obtain ⟨h4,h5,h6⟩:=h2
   obtain rfl:=aqs h4
   obtain rfl:=aqs h5
   exact ⟨h1,_,h3,aqs h6⟩
  ·cases h2
 ·rename_i n1 n2
  rw [aqg] at h
  obtain ⟨h1,h2⟩:=h
  unfold O1
  split
  ·rename_i s;exact absurd rfl (n1 s)
  ·rename_i a b c d;exact absurd rfl (n2 a b c d)
  ·split at h2
   ·rename_i h3;exact ⟨h1,_,h3,wW h2⟩
   ·cases h2
def bytesOf:List (List SV)->Option (List UInt8)
 | []=>some []
 | [.c (.int .u8 n)]::es=>match bytesOf es with
  | some bs=>if n=(UInt8.ofNat n.toNat).toNat then some (UInt8.ofNat n.toNat::bs) else none
  | none=>none
 | _=>none
theorem OV : ∀ {es:List (List SV)} {bs:List UInt8}, bytesOf es=some bs->es=bs.map fun b=>[.c (.int .u8 b.toNat)]
 | [],bs,h=>by cases h;rfl
 | e::es,bs,h=>by
  unfold bytesOf at h
  split at h
  ·rename_i e1;cases e1
  ·rename_i n es' e1
   cases e1
   split at h
   ·rename_i bs' h1
    split at h
    ·rename_i h2
     cases h
     rw [ap', <- OV h1, <- h2]
    ·cases h
   ·cases h
  ·cases h
def Vk (k:Nat):List (List SV)->Bool
 | []=>true
 | e::es=>Nat.beq e.length k&&Vk k es
theorem Tq {k:Nat} : ∀ {es:List (List SV)}, Vk k es=true -> ∀ e∈es,e.length=k
 | [],_,e,he=>by cases he
 | x::es,h,e,he=>by
  rw [Vk,aqg] at h
  rcases aqf.1 he with rfl|he
  ·exact Nat.eq_of_beq_eq_true h.1
  ·exact Tq h.2 e he
def Ab (a b:ByteArray):Int:=Extern.BytealgCompare.cmp a b
theorem aaJ {P : Program} {ρ : Operand -> Option AV} {L : List Ob} {f : FuncId} {fn : Func} {x y : Operand} {ts : Array TypeId} {a b : ByteArray} (hx : ρ x = some (.one (.c (.str a)))) (hy : ρ y = some (.one (.c (.str b)))) (hf : P.funcs[f]? = some fn) (hname : (fn.name == "runtime.NumGoroutine") = false)
  (hb:fn.body.isNone=true) (hn:Extern.findNext fn=none) (he:Extern.find fn=some Extern.BytealgCompare.compare) :
  yU P ρ L (.call { callee := .value (.func f),args := #[x,y],argTypes:=ts }) (.one (.c (.int .i64 (Ab a b)))) L:=by
 intro B R γ w ev o ho hi hρ hfv
 obtain ⟨dst,op,type,pos,after,guard⟩:=o
 simp only at ho;subst ho
 have h1:=hρ x (by simp [Op.operands,Call.operands]) _ hx
 have h2:=hρ y (by simp [Op.operands,Call.operands]) _ hy
 generalize hex:ev x=ux at h1
 generalize hey:ev y=uy at h2
 cases h1;cases h2
 refine ⟨w,R,γ, .inl ⟨.int .i64 (Ab a b),?_, .int _ _⟩,hi,Ext.refl _ _ _,Mv.refl⟩
 have:=run_callFunc_extern hf hname hb hn he #[.string a, .string b] w
 have h3:(Extern.BytealgCompare.compare #[.string a, .string b]).run P w = .ok (.int .i64 (Ab a b)) w:=rfl
 rw [h3] at this
 simp [execOp,resolve,Deferred.ofValue,hfv.1,hex,hey,invoke,this,Result.andThen]
structure aae where
 noEsc:FuncId
 cmpS:FuncId
def Xu (P:Program) (ti:TI) (xs:aae) (rowB:Bool) (ρ:Operand->Option AV) (L:List Ob):Op->Option (AV × List Ob)
 | .makeMap _ none=>some (.one (.mp L.length),L++[.map []])
 | .buildSlice t len parts=>match MK ρ parts.toList 0,ti.elem t with
  | some es,some E=>match ti.size E with
   | some k=>ck (.one (.sl L.length (E+65536) 0 len),L++[.row (E+65536) es k]) (rowB=true/\E<65536/\ti.zok E=true/\es.length=len/\0<len/\Vk k es=true/\0<k/\len*k<=16777216)
   | none=>none
  | _,_=>none
 | .lookup t x k ok=>match ρ x,ρ k,aia (ti.kind t) with
  | some (.one (.mp id)),some (.one (.c (.str s))),some (kt,et)=>match L[id]?,ti.zero et with
   | some (.map kvs),some z=>match ok with
    | false=>ck (wy kvs s z,L) (tH kvs=true/\isStr (ti.kind kt)=true)
    | true=>match (wy kvs s z).norm with
     | some p=>ck (.tup [p, .one (.bool (DI s kvs).isSome)],L) (tH kvs=true/\isStr (ti.kind kt)=true)
     | none=>none
   | _,_=>none
  | _,_,_=>none
 | .mapUpdate t x k y=>match ρ x,ρ k,ρ y,aia (ti.kind t) with
  | some (.one (.mp id)),some (.one (.c (.str s))),some v,some (kt,_)=>match L[id]? with
   | some (.map kvs)=>ck (.undef,L.set id (.map (QF kvs s v))) (tH kvs=true/\isStr (ti.kind kt)=true)
   | _=>none
  | _,_,_,_=>none
 | .mapEntry t x k=>match ρ x,ρ k,aia (ti.kind t) with
  | some (.one (.mp id)),some (.one (.c (.str s))),some (kt,et)=>match L[id]?,ti.zero et with
   | some (.map kvs),some z=>match (wy kvs s z).norm with
    | some p=>ck (.tup [p, .one (.int .i64 (VJ kvs s))],L.set id (.map (QF kvs s (wy kvs s z)))) (tH kvs=true/\isStr (ti.kind kt)=true)
    | none=>none
   | _,_=>none
  | _,_,_=>none
 | .entryStore _ x k y=>match ρ x,ρ k,ρ y with
  | some (.one (.mp id)),some (.one (.c (.int .i64 i))),some v=>match L[id]? with
   | some (.map kvs)=>match kvs[i.toNat]? with
    | some q=>ck (.undef,L.set id (.map (kvs.set i.toNat (q.1,v)))) (0<=i)
    | none=>none
   | _=>none
  | _,_,_=>none
 | .makeFunc (.func f) first captured=>match first.toList,FL ρ captured.toList with
  | [],some caps=>some (.one (.clo f caps),L)
  | _,_=>none
 | .call { callee := .builtin .append,args,argTypes } => match args.toList,argTypes.toList with
  | [s,x],[t,tx]=>match ρ s,ρ x,ti.elem t with
   | some (.one (.sl id ver 0 n)),some vx,some E=>match L[id]?,V_ L vx,ti.size E,ti.bytes E with
    | some (.row ver' es k'),some xs,some k,some by_=>ck (.one (.sl id (ver+65536) 0 (n+xs.length)),L.set id (.row (ver+65536) (es++xs) k)) ((ver'=ver/\k'=k/\aj2 ti L k tx vx=true/\ver%65536=E)/\ti.zok E=true/\0<k/\es.length=n/\(n+xs.length)*by_<=140737488355328/\n+xs.length<=140737488355328)
    | _,_,_,_=>none
   | some (.one .emp),some vx,some E=>match V_ L vx,ti.size E,ti.bytes E with
    | some xs,some k,some by_=>ck (.one (.sl L.length (E+65536) 0 xs.length),L++[.row (E+65536) xs k]) ((rowB=true/\aj2 ti L k tx vx=true/\E<65536)/\ti.zok E=true/\0<k/\0<xs.length/\xs.length*by_<=140737488355328/\xs.length<=140737488355328)
    | _,_,_=>none
   | _,_,_=>none
  | _,_=>none
 | .makeSlice t l c=>match ρ l,ρ c,ti.elem t with
  | some (.one (.c (.int _ l))),some (.one (.c (.int _ m))),some E=>match ti.size E,ti.bytes E with
   | some k,some by_=>match rowB with
    | true=>match decide (l=0),(ti.zero E).bind AV.cells with
     | true,_=>ck (.one (.sl L.length (E+65536) 0 0),L++[.row (E+65536) [] k]) ((l=0/\E<65536)/\ti.zok E=true/\0<k/\0<=m/\(by_:Int)*m<=281474976710656/\m<=9223372036854775807)
     | false,some zs=>ck (.one (.sl L.length (E+65536) 0 m.toNat),L++[.row (E+65536) (List.replicate m.toNat zs) k]) ((l=m/\E<65536)/\ti.zok E=true/\0<k/\0<=m/\(by_:Int)*m<=281474976710656/\m<=9223372036854775807)
     | false,none=>none
    | false=>ck (.one (.own [] L.length),L++[.spare 0 k]) (l=0/\ti.zok E=true/\0<k/\0<=m/\(by_:Int)*m<=281474976710656/\m<=9223372036854775807)
   | _,_=>none
  | _,_,_=>none
 | .alloc E=>match P.info? E,ti.field E 1 with
  | some inf,some (1,ts)=>match inf.zero,ti.elem ts with
   | some (.agg vs),some Eb=>match vs.toList,ti.size Eb with
    | [.pointer none, .slice none 0 0],some k=>ck (.one (.ep L.length (E+65536) 0 0),L++[.row (E+65536) [[.c (.nul .ptr), .sl (L.length+1) Eb 0 0]] 2, .row Eb [] k]) (rowB=true/\E<65536/\Eb<65536/\0<k)
    | _,_=>none
   | _,_=>none
  | _,_=>none
 | .convert s d x=>match ρ x with
  | some (.one (.ep id ver 0 0))=>match L[id]? with
   | some (.row ver' es k)=>match WN (ti.kind s),ab_ (ti.kind d),WN (ti.kind d),ab_ (ti.kind s) with
    | some t,true,_,_=>match ti.size t with
     | some (_+1)=>ck (.one (.ep id ver 0 0),L) (ver'=ver)
     | _=>none
    | _,_,some t,true=>ck (.one (.ep id ver 0 0),L) (ver'=ver/\(ti.size t).isSome=true/\P.cellsOf t=k/\ver%65536=t)
    | _,_,_,_=>none
   | _=>none
  | _=>none
 | .binOp op t x y _=>match op,ρ x with
  | .eql,some (.one (.c (.nul .ptr)))=>match ρ y,WN (ti.kind t) with
   | some (.one (.c (.nul .ptr))),some _=>some (.one (.c (.bool true)),L)
   | _,_=>none
  | .eql,some (.one (.ep id ver i off))=>match ρ y,WN (ti.kind t),L[id]? with
   | some (.one (.c (.nul .ptr))),some _,some (.row ver' es k)=>ck (.one (.c (.bool false)),L) (ver'=ver)
   | _,_,_=>none
  | .neq,some (.one (.ep id ver i off))=>match ρ y,WN (ti.kind t),L[id]? with
   | some (.one (.ep id2 ver2 i2 off2)),some te,some (.row ver' es k)=>ck (.one (.c (.bool false)),L) (ver'=ver/\id2=id/\ver2=ver/\i2=i/\off2=off/\(ti.size te).isSome=true)
   | _,_,_=>none
  | .eql,some vx=>match gH vx,y,al2 (ti.kind t) with
   | some (_::_), .const (.slice none 0 0),some _=>some (.one (.c (.bool false)),L)
   | _,_,_=>none
  | _,_=>none
 | .call { callee := .builtin .unsafeSliceData,args, .. } => match args.toList with
  | [x]=>match ρ x with
   | some (.one (.sl id ver 0 (n+1)))=>match L[id]? with
    | some (.row ver' _ _)=>ck (.one (.ep id ver 0 0),L) (ver'=ver)
    | _=>none
   | some (.one (.sl id ver 0 0))=>match L[id]? with
    | some (.row ver' [] _)=>ck (.one (.c (.nul .ptr)),L) (ver'=ver/\ver<65536)
    | _=>none
   | _=>none
  | _=>none
 | .call { callee := .builtin .unsafeString,args,argTypes } => match args.toList,argTypes.toList with
  | [x,y],[pt,_]=>match ρ x,ρ y with
   | some (.one (.c (.nul .ptr))),some (.one (.c (.int .i64 n)))=>ck (.one (.c (.str .empty)),L) (n=0)
   | some (.one (.ep id ver 0 0)),some (.one (.c (.int .i64 n)))=>match L[id]?,WN (ti.kind pt) with
    | some (.row ver' es 1),some E=>match bytesOf es with
     | some bs=>ck (.one (.c (.str ⟨bs.toArray⟩)),L.set id .dead) ((ver'=ver/\n=bs.length)/\ver%65536=E/\P.cellsOf E=1/\0<bs.length/\bs.length<=9223372036854775807)
     | none=>none
    | _,_=>none
   | _,_=>none
  | _,_=>none
 | .call { callee := .value (.func f),args, .. } => match args.toList with
  | [x]=>match ρ x with
   | some v=>ck (v,L) (f=xs.noEsc)
   | none=>none
  | [x,y]=>match ρ x,ρ y with
   | some (.one (.c (.str a))),some (.one (.c (.str b)))=>ck (.one (.c (.int .i64 (Ab a b))),L) (f=xs.cmpS)
   | _,_=>none
  | _=>none
 | _=>none
def agl (P : Program) (f : FuncId) : Prop := ∃ fn, P.funcs[f]? = some fn /\ (fn.name == "runtime.NumGoroutine") = false /\ fn.body.isNone = true /\ Extern.findNext fn = none /\ Extern.find fn = some Extern.AbiNoEscape.same
def amt (P : Program) (f : FuncId) : Prop := ∃ fn, P.funcs[f]? = some fn /\ (fn.name == "runtime.NumGoroutine") = false /\ fn.body.isNone = true /\ Extern.findNext fn = none /\ Extern.find fn = some Extern.BytealgCompare.compare
structure Js (P:Program) (xs:aae):Prop where
 noEsc:agl P xs.noEsc
 cmpS:amt P xs.cmpS
theorem EJ {P:Program} {t:TypeId} {n:Nat} (h:jv P t=some n) : ∃ j,P.info? t=some j/\j.size=n:=by
 unfold jv at h
 exact map_some h
theorem af_ {P:Program} {ti:TI} {xs:aae} {rowB:Bool} {ρ:Operand->Option AV} {L L':List Ob} {op:Op} {v:AV} (hti:TIok P ti) (hne:Js P xs) (h:Xu P ti xs rowB ρ L op=some (v,L')):yU P ρ L op v L':=by
 unfold Xu at h
 split at h
 ·cases h;exact Ko
 ·split at h
  ·rename_i es E hes hE
   split at h
   ·rename_i k hk
    obtain ⟨e,h1,h2,h3,h4,h5,h6,h7,h8⟩:=bK h
    cases e
    exact aa1 hti hE h2 hk h3 hes h4 h5 (Tq h6) h7 h8
   ·cases h
  ·cases h
 ·split at h
  ·rename_i id s kt et hx hk hm
   have ht:=hti.kind _ _ (Vi hm)
   split at h
   ·rename_i kvs z hL hz
    have hz:=hti.zero _ _ hz
    split at h
    ·obtain ⟨e,h1,h2⟩:=bK h
     cases e
     exact Zm hx hk hL (pg h1) ht (hti.kind _ _ (nG h2)) hz
    ·split at h
     ·rename_i p hp
      obtain ⟨e,h1,h2⟩:=bK h
      cases e
      exact vv hx hk hL (pg h1) ht (hti.kind _ _ (nG h2)) hz hp
     ·cases h
   ·cases h
  ·cases h
 ·split at h
  ·rename_i id s v' kt et hx hk hy hm
   have ht:=hti.kind _ _ (Vi hm)
   split at h
   ·rename_i kvs hL
    obtain ⟨e,h1,h2⟩:=bK h
    cases e
    exact D_ hx hk hy hL (pg h1) ht (hti.kind _ _ (nG h2))
   ·cases h
  ·cases h
 ·split at h
  ·rename_i id s kt et hx hk hm
   have ht:=hti.kind _ _ (Vi hm)
   split at h
   ·rename_i kvs z hL hz
    have hz:=hti.zero _ _ hz
    split at h
    ·rename_i p hp
     obtain ⟨e,h1,h2⟩:=bK h
     cases e
     exact Ud hx hk hL (pg h1) ht (hti.kind _ _ (nG h2)) hz hp
    ·cases h
   ·cases h
  ·cases h
 ·split at h
  ·rename_i id i v' hx hk hy
   split at h
   ·rename_i kvs hL
    split at h
    ·rename_i q hq
     obtain ⟨e,h1⟩:=bK h
     cases e
     exact OW hx (by rw [hk,Int.toNat_of_nonneg h1]) hy hL hq
    ·cases h
   ·cases h
  ·cases h
 ·rename_i f first captured
  split at h
  ·rename_i caps h1 h2
   cases h
   obtain rfl:first = #[]:=by cases first;simp at h1;subst h1;rfl
   exact yg h2
  ·cases h
 ·rename_i args ts
  split at h
  ·rename_i s x t tx ha hts
   obtain rfl:args = #[s,x]:=by cases args;simp at ha;subst ha;rfl
   obtain rfl:ts = #[t,tx]:=by cases ts;simp at hts;subst hts;rfl
   split at h
   ·rename_i id ver n vx E hs hx hE
    split at h
    ·rename_i ver' es k' xs k by_ hL hsrc hk hby
     obtain ⟨e,⟨h1,h2,h3,h4⟩,h5,h6,h7,h8,h9⟩:=bK h
     cases e;subst h1;subst h2
     exact iD hti hs hx hL hsrc (aco h3) hE h4 hk h5 hby h6 h7 h8 h9
    ·cases h
   ·rename_i vx E hs hx hE
    split at h
    ·rename_i xs k by_ hsrc hk hby
     obtain ⟨e,⟨h1,h2,h3⟩,h5,h6,h7,h8,h9⟩:=bK h
     cases e
     exact Yt hti hs hx hsrc (aco h2) hE h3 hk h5 hby h6 h7 h8 h9
    ·cases h
   ·cases h
  ·cases h
 ·split at h
  ·rename_i l m E hl hc hE
   split at h
   ·rename_i k by_ hk hby
    split at h
    ·split at h
     ·obtain ⟨e,⟨h1,h2⟩,h3,h4,h5,h6,h7⟩:=bK h
      cases e;subst h1
      exact X5 hti hl hc hE h2 hk h3 hby h4 h5 h6 h7
     ·rename_i zs _ hz
      obtain ⟨e,⟨h1,h2⟩,h3,h4,h5,h6,h7⟩:=bK h
      cases e;subst h1
      obtain ⟨zv,hzv,hcz⟩:=Option.bind_eq_some_iff.1 hz
      exact CS hti hl hc hE h2 hk h3 hzv hcz hby h4 h5 h6 h7
     ·cases h
    ·obtain ⟨e,h1,h3,h4,h5,h6,h7⟩:=bK h
     cases e;subst h1
     exact Bd hti hl hc hE hk h3 hby h4 h5 h6 h7
   ·cases h
  ·cases h
 ·split at h
  ·rename_i inf ts hi hf
   split at h
   ·rename_i vs Eb hz hEb
    split at h
    ·rename_i k hv hk
     obtain ⟨e,h1,h2,h3,h4⟩:=bK h
     cases e
     exact xu hi (by rw [hz];cases vs;simp at hv;subst hv;rfl) h2 h3 h4
    ·cases h
   ·cases h
  ·cases h
 ·split at h
  ·rename_i id ver hx
   split at h
   ·rename_i ver' es k hL
    split at h
    ·rename_i t _ h1 h2
     split at h
     ·rename_i n hn
      obtain ⟨e,h4⟩:=bK h
      cases e;subst h4
      obtain ⟨j,hj,hs⟩:=EJ (hti.size _ _ hn)
      exact rR hx hL (hti.kind _ _ (Dr h1)) (hti.kind _ _ (XD h2)) hj (by rw [hs];exact Nat.succ_ne_zero _)
     ·cases h
    ·rename_i t h1 h2 _
     obtain ⟨e,h4,h5,h6,h7⟩:=bK h
     cases e;subst h4
     obtain ⟨n,hn⟩:=aqG.1 h5
     obtain ⟨j,hj,hs⟩:=EJ (hti.size _ _ hn)
     exact yx hx hL (hti.kind _ _ (XD h2)) (hti.kind _ _ (Dr h1)) hj h6 h7
    ·cases h
   ·cases h
  ·cases h
 ·split at h
  ·rename_i hx
   split at h
   ·rename_i te hy hm
    cases h
    exact IK hx hy (hti.kind _ _ (Dr hm))
   ·cases h
  ·rename_i hx
   split at h
   ·rename_i te ver' es k hy hm hL
    obtain ⟨e,h4⟩:=bK h
    cases e;subst h4
    exact AP hx hL hy (hti.kind _ _ (Dr hm))
   ·cases h
  ·rename_i hx
   split at h
   ·rename_i te ver' es k hy hm hL
    obtain ⟨e,h4,h5,h6,h7,h8,h9⟩:=bK h
    cases e;subst h4;subst h5;subst h6;subst h7;subst h8
    obtain ⟨n,hn⟩:=aqG.1 h9
    obtain ⟨j,hj,hs⟩:=EJ (hti.size _ _ hn)
    exact A8 hx hL hy (hti.kind _ _ (Dr hm)) hj
   ·cases h
  ·rename_i vx hx
   split at h
   ·rename_i hl hm
    cases h
    exact Oi hx hl (hti.kind _ _ (ak3 hm))
   ·cases h
  ·cases h
 ·rename_i args ts
  split at h
  ·rename_i x ha
   obtain rfl:args = #[x]:=by cases args;simp at ha;subst ha;rfl
   split at h
   ·rename_i id ver n hx
    split at h
    ·rename_i ver' es k hL
     obtain ⟨e,h4⟩:=bK h
     cases e;subst h4
     exact DK hx hL (Nat.succ_pos _)
    ·cases h
   ·rename_i id ver hx
    split at h
    ·rename_i ver' k hL
     obtain ⟨e,h4,h5⟩:=bK h
     cases e;subst h4
     exact BQ hx hL h5
    ·cases h
   ·cases h
  ·cases h
 ·rename_i args ts
  split at h
  ·rename_i x y pt it ha hts
   obtain rfl:args = #[x,y]:=by cases args;simp at ha;subst ha;rfl
   obtain rfl:ts = #[pt,it]:=by cases ts;simp at hts;subst hts;rfl
   split at h
   ·rename_i n hx hy
    obtain ⟨e,h4⟩:=bK h
    cases e;subst h4
    exact uu hx hy
   ·rename_i id ver n hx hy
    split at h
    ·rename_i ver' es E hL hm
     split at h
     ·rename_i bs hb
      obtain ⟨e,⟨h4,h5⟩,h6,h7,h8,h9⟩:=bK h
      cases e;subst h4;subst h5
      refine xC hx hy ?_ h6 (hti.kind _ _ (Dr hm)) h7 h8 h9
      rw [hL,OV hb];rfl
     ·cases h
    ·cases h
   ·cases h
  ·cases h
 ·rename_i f args ts
  split at h
  ·rename_i x ha
   obtain rfl:args = #[x]:=by cases args;simp at ha;subst ha;rfl
   split at h
   ·rename_i v' hx
    obtain ⟨e,h4⟩:=bK h
    cases e;subst h4
    obtain ⟨fn,h1,h2,h3,h5,h6⟩:=hne.noEsc
    exact yO hx h1 h2 h3 h5 h6
   ·cases h
  ·rename_i x y ha
   obtain rfl:args = #[x,y]:=by cases args;simp at ha;subst ha;rfl
   split at h
   ·rename_i a b hx hy
    obtain ⟨e,h4⟩:=bK h
    cases e;subst h4
    obtain ⟨fn,h1,h2,h3,h5,h6⟩:=hne.cmpS
    exact aaJ hx hy h1 h2 h3 h5 h6
   ·cases h
  ·cases h
 ·cases h
theorem TIok.flags {P:Program} {ti:TI} (h:TIok P ti) (d s:Bool):TIok P { ti with dyn:=d,soft:=s } := ⟨h.size,h.agg,h.elem,h.field,h.zero,h.bytes,h.kind,h.struct,h.zok,h.eqs⟩
theorem Bf {P:Program} {N n0:Nat} {Q:AX->Tm->List Ob->Prop} {c:Code} {T:Tm} {L:List Ob} (h:Aw P N n0 c Q T L):Aw P N n0 (.scope c) Q T L:=fun hn B R γ w a hi hT =>
 wp_scope_straight (wp_mono (h hn B R γ w a hi hT) fun e a1 w1 hp=>by
  obtain ⟨x,T1,L1,R1,γ1,rfl,q⟩:=hp
  cases x with
  | normal=>exact ⟨.normal,T1,L1,R1,γ1,rfl,q⟩
  | exit id=>exact ⟨.exit id,T1,L1,R1,γ1,rfl,q⟩
  | ret=>exact ⟨.ret,T1,L1,R1,γ1,rfl,q⟩)
structure Cx where
 P:Program
 ti:TI
 xs:aae
 row:FuncId->Nat->Bool
 frz:FuncId->Nat->List Nat
 flg:FuncId->Nat->Bool × Bool
 orc:FuncId->List PV->Option CV
 bad:FuncId->Bool
 fz:FuncId->Nat->List Nat:=fun _ _=>[]
 sw:FuncId->Nat->Option (Nat × List Nat):=fun _ _=>none
def alc (n:Nat):Cap->Bool
 | .ptr id _=>Nat.blt id n
 | .c _=>true
def Uc (n:Nat):List Cap->Bool
 | []=>true
 | x::xs=>alc n x&&Uc n xs
def aln (n:Nat):SV->Bool
 | .own _ t=>Nat.blt t n
 | .ptr id _=>Nat.blt id n
 | .sl id _ _ _=>Nat.blt id n
 | .ep id _ _ _=>Nat.blt id n
 | .mp id=>Nat.blt id n
 | .clo _ caps=>Uc n caps
 | .c _=>true
 | .emp=>true
def OY (n:Nat):List SV->Bool
 | []=>true
 | x::xs=>aln n x&&OY n xs
def Vl (n:Nat):List (List SV)->Bool
 | []=>true
 | x::xs=>OY n x&&Vl n xs
def agd (n:Nat):AV->Bool
 | .one x=>aln n x
 | .agg xs=>OY n xs
 | .tup _=>true
 | .tupS xs=>OY n xs
 | .undef=>true
def O0 (n:Nat):List AV->Bool
 | []=>true
 | x::xs=>agd n x&&O0 n xs
def acr (n:Nat):List (AC × AV)->Bool
 | []=>true
 | x::xs=>agd n x.2&&acr n xs
def am4 (n:Nat):Ob->Bool
 | .box cs=>OY n cs
 | .row _ es _=>Vl n es
 | .map kvs=>acr n kvs
 | .spare _ _=>true
 | .dead=>true
def RX (n:Nat):List Ob->Bool
 | []=>true
 | x::xs=>am4 n x&&RX n xs
theorem aii {n:Nat} {x:Cap} (h:alc n x=true):x.below n:=by
 cases x with
 | c _=>trivial
 | ptr id _=>exact ap_ h
theorem TH {n:Nat} : ∀ {xs:List Cap}, Uc n xs=true -> ∀ x∈xs,x.below n
 | [],_,x,hx=>by cases hx
 | y::xs,h,x,hx=>by
  rw [Uc,aqg] at h
  rcases aqf.1 hx with rfl|hx
  ·exact aii h.1
  ·exact TH h.2 x hx
theorem acB {n:Nat} {x:SV} (h:aln n x=true):x.below n:=by
 cases x with
 | c _=>trivial
 | emp=>trivial
 | own _ t=>exact ap_ h
 | ptr id _=>exact ap_ h
 | sl id _ _ _=>exact ap_ h
 | ep id _ _ _=>exact ap_ h
 | mp id=>exact ap_ h
 | clo f caps=>exact TH h
theorem Bw {n:Nat} : ∀ {xs:List SV}, OY n xs=true -> ∀ x∈xs,x.below n
 | [],_,x,hx=>by cases hx
 | y::xs,h,x,hx=>by
  rw [OY,aqg] at h
  rcases aqf.1 hx with rfl|hx
  ·exact acB h.1
  ·exact Bw h.2 x hx
theorem RG {n:Nat} : ∀ {xs:List (List SV)}, Vl n xs=true -> ∀ e∈xs, ∀ x∈e,x.below n
 | [],_,x,hx=>by cases hx
 | y::xs,h,x,hx=>by
  rw [Vl,aqg] at h
  rcases aqf.1 hx with rfl|hx
  ·exact Bw h.1
  ·exact RG h.2 x hx
theorem lV {n:Nat} {x:AV} (h:agd n x=true):x.below n:=by
 cases x with
 | one x=>exact acB h
 | agg xs=>exact Bw h
 | tup _=>trivial
 | tupS xs=>exact Bw h
 | undef=>trivial
theorem xK {n:Nat} : ∀ {xs:List AV}, O0 n xs=true -> ∀ x∈xs,x.below n
 | [],_,x,hx=>by cases hx
 | y::xs,h,x,hx=>by
  rw [O0,aqg] at h
  rcases aqf.1 hx with rfl|hx
  ·exact lV h.1
  ·exact xK h.2 x hx
theorem X9 {n:Nat} : ∀ {xs:List (AC × AV)}, acr n xs=true -> ∀ p∈xs,p.2.below n
 | [],_,x,hx=>by cases hx
 | y::xs,h,x,hx=>by
  rw [acr,aqg] at h
  rcases aqf.1 hx with rfl|hx
  ·exact lV h.1
  ·exact X9 h.2 x hx
theorem akG {n:Nat} {x:Ob} (h:am4 n x=true):x.below n:=by
 cases x with
 | box cs=>exact Bw h
 | row _ es _=>exact RG h
 | map kvs=>exact X9 h
 | spare _ _=>trivial
 | dead=>trivial
theorem jf {n:Nat} : ∀ {xs:List Ob}, RX n xs=true -> ∀ x∈xs,x.below n
 | [],_,x,hx=>by cases hx
 | y::xs,h,x,hx=>by
  rw [RX,aqg] at h
  rcases aqf.1 hx with rfl|hx
  ·exact akG h.1
  ·exact jf h.2 x hx
theorem mR {n i:Nat} (h:i<n):oF (List.range n) i=i:=by
 unfold oF
 rw [aqR,List.getElem?_range h];rfl
theorem Cap.ren_range {n:Nat} {x:Cap} (h:x.below n):x.ren (List.range n)=x:=by
 cases x with
 | c _=>rfl
 | ptr id off=>show Cap.ptr (oF _ id) off=_;rw [mR h]
theorem iI {α:Type} {f:α->α} : ∀ {l:List α}, (∀ x∈l,f x=x)->l.map f=l
 | [],_=>rfl
 | x::l,h=>by rw [ap',h x (aqM ..),iI fun y hy=>h y (aqm _ hy)]
theorem SV.ren_range {n:Nat} {x:SV} (h:x.below n):x.ren (List.range n)=x:=by
 cases x with
 | c _=>rfl
 | emp=>rfl
 | own es t=>show SV.own es (oF _ t)=_;rw [mR h]
 | ptr id off=>show SV.ptr (oF _ id) off=_;rw [mR h]
 | sl id v l m=>show SV.sl (oF _ id) v l m=_;rw [mR h]
 | ep id v i o=>show SV.ep (oF _ id) v i o=_;rw [mR h]
 | mp id=>show SV.mp (oF _ id)=_;rw [mR h]
 | clo f caps=>show SV.clo f (caps.map _)=_;rw [iI fun x hx=>Cap.ren_range (h x hx)]
theorem AV.ren_range {n:Nat} {x:AV} (h:x.below n):x.ren (List.range n)=x:=by
 cases x with
 | one x=>show AV.one (x.ren _)=_;rw [SV.ren_range h]
 | agg xs=>show AV.agg (xs.map _)=_;rw [iI fun x hx=>SV.ren_range (h x hx)]
 | tup _=>rfl
 | tupS xs=>show AV.tupS (xs.map _)=_;rw [iI fun x hx=>SV.ren_range (h x hx)]
 | undef=>rfl
theorem Ob.ren_range {n:Nat} {x:Ob} (h:x.below n):x.ren (List.range n)=x:=by
 cases x with
 | box cs=>show Ob.box (cs.map _)=_;rw [iI fun x hx=>SV.ren_range (h x hx)]
 | row v es k=>show Ob.row v (es.map (List.map _)) k=_;rw [iI fun e he=>iI fun x hx=>SV.ren_range (h e he x hx)]
 | map kvs=>show Ob.map (kvs.map fun p=>(p.1,p.2.ren (List.range n)))=_;rw [iI (f:=fun p:AC × AV=>(p.1,p.2.ren (List.range n))) fun p hp=>by show (p.1,p.2.ren _)=p;rw [AV.ren_range (h p hp)]]
 | spare _ _=>rfl
 | dead=>rfl
theorem FK {n m:Nat} (h:n<=m):dK (List.range n) n m=List.range m:=by
 unfold dK jF
 rw [List.length_range, <- List.range_add,Nat.add_sub_cancel' h]
theorem YI {L L1:List Ob} (h:L.length<=L1.length) (hb : ∀ x∈L1,x.below L1.length):joinL (List.range L.length) L L1=L1:=by
 unfold joinL join
 rw [FK h,iI fun x hx=>Ob.ren_range (hb x hx),List.length_range]
 have:fJ L (List.range L.length) L1=L1.take L.length:=by
  apply List.ext_getElem?
  intro i
  by_cases hi:i<L.length
  ·rw [IY _ L L1 i i List.nodup_range (fun k hk=>List.mem_range.1 hk) (List.getElem?_range hi) (by omega),aqt,if_pos hi]
  ·rw [aqN (by rw [iA];omega),aqN (by rw [aqQ];omega)]
 rw [this,aqK]
structure sD (P:Program) (g:FuncId) (L:List Ob) (asx:List AV) (L1:List Ob) (r:AV):Prop where
 run:Run P g L asx L1 r
 obb : ∀ x∈L,x.below L.length
 argb : ∀ x∈asx,x.below L.length
 le:L.length<=L1.length
 ob1 : ∀ x∈L1,x.below L1.length
 val:r.below L1.length
theorem sD.fits {P:Program} {g:FuncId} {L:List Ob} {asx:List AV} {L1:List Ob} {r:AV} (h:sD P g L asx L1 r):kW (List.range L.length) L asx L:=by
 refine ⟨List.length_range,List.nodup_range,fun i x hx=>?_,h.obb,h.argb⟩
 have hi:i<L.length:=(ap0.1 hx).1
 rw [mR hi,hx,Ob.ren_range (h.obb x (ap6 hx))]
abbrev CP:=FuncId->List PV->Option CV
abbrev CR:=FuncId->List Ob->List AV->Option (List Ob × AV)
def Mo:Op->Option (Operand × List Operand)
 | .call { callee := .value f,args, .. } => some (f,args.toList)
 | _=>none
def agx (ti:TI) (cp:CP) (cr:CR) (ρ:Operand->Option AV) (L:List Ob) (f:Operand) (args:List Operand):Option (AV × List Ob) :=
 match ρ f with
 | some (.one (.c (.fn g cs)))=>match ti.owns g with
  | false=>match gY ρ args with
   | some ps=>match cp g (ps++cs.map .one) with
    | some r=>some (r.av,L)
    | none=>none
   | none=>none
  | true=>match abX ti f,avs ρ args with
   | true,some vs=>match cr g L (vs++cs.map fun x => .one (.c x)) with
    | some (L1,r)=>some (r,L1)
    | none=>none
   | _,_=>none
 | some (.one (.clo g caps))=>match abX ti f,avs ρ args with
  | true,some vs=>match cr g L (vs++caps.map Cap.av) with
   | some (L1,r)=>some (r,L1)
   | none=>none
  | _,_=>none
 | _=>none
def ah0 (P:Program) (ti:TI) (xs:aae) (rowB:Bool) (ρ:Operand->Option AV) (L:List Ob) (op:Op):Option (AV × List Ob) :=
 match dA ti op&&(!ti.soft||(Nat.beq (sk op) 0||Nat.beq (sk op) 4)) with
 | true=>Xu P ti xs rowB ρ L op
 | false=>none
def alE (cx:Cx) (ti:TI) (cp:CP) (cr:CR) (rowB:Bool) (ρ:Operand->Option AV) (L:List Ob) (op:Op):Option (AV × List Ob) :=
 match agc ti ρ L op with
 | some v=>some (v,L)
 | none=>match Mo op with
  | some (f,args)=>match agx ti cp cr ρ L f args with
   | some r=>some r
   | none=>ah0 cx.P ti cx.xs rowB ρ L op
  | none=>match (match rowB with|true=>none|false=>ak4 ti ρ op) with
   | some v=>some (v,L)
   | none=>match rowB with
    | true=>match ah0 cx.P ti cx.xs rowB ρ L op with
     | some r=>some r
     | none=>match ak4 ti ρ op with
      | some v=>some (v,L)
      | none=>aj1 ti ρ L op
    | false=>match aj1 ti ρ L op with
     | some r=>some r
     | none=>ah0 cx.P ti cx.xs rowB ρ L op
theorem aaA {P:Program} {ti:TI} {xs:aae} {rowB:Bool} {ρ:Operand->Option AV} {L L':List Ob} {op:Op} {v:AV} (hk:sk op=4) (h:Xu P ti xs rowB ρ L op=some (v,L')):L'=L:=by
 unfold Xu at h
 split at h
 all_goals first|(exfalso;cases hk;done)|skip
 all_goals repeat' (first|(cases h;done)|(cases h;rfl)|(obtain ⟨e,_⟩:=bK h;cases e;rfl)|split at h)
theorem adu {op:Op} {f:Operand} {args:List Operand} (h:Mo op=some (f,args)) : ∃ asx ts,op = .call { callee := .value f,args:=asx,argTypes:=ts } /\ args=asx.toList:=by
 unfold Mo at h
 split at h
 ·cases h;exact ⟨_,_,rfl,rfl⟩
 ·cases h
theorem VR {P:Program} {ti:TI} {xs:aae} {rowB:Bool} {ρ:Operand->Option AV} {L L':List Ob} {op:Op} {v:AV} {K:AV->List Ob->Prop} (hti:TIok P ti) (hne:Js P xs) (h:ah0 P ti xs rowB ρ L op=some (v,L')) (hK:K v L'):ll P ti ρ L K op:=by
 unfold ah0 at h
 split at h
 ·rename_i h1
  rw [aqg] at h1
  refine .inr (.inr (.inr (.inr (.inr (.inr (.inr ⟨v,L',⟨h1.1,fun hs=>?_⟩,af_ hti hne h,hK⟩))))))
  have h2:=h1.2
  rw [hs,Bool.not_true,Bool.false_or,Bool.or_eq_true] at h2
  rcases h2 with h2|h2
  ·exact .inl (Nat.eq_of_beq_eq_true h2)
  ·exact .inr ⟨Nat.eq_of_beq_eq_true h2,aaA (Nat.eq_of_beq_eq_true h2) h⟩
 ·cases h
theorem TG {P:Program} {ti:TI} {ρ:Operand->Option AV} {L L1:List Ob} {op:Op} {g:FuncId} {asx:List AV} {r:AV} {K:AV->List Ob->Prop} (hp:fM ti ρ op=some (g,asx)) (h:sD P g L asx L1 r) (hK:K r L1):ll P ti ρ L K op:=by
 refine .inr (.inr (.inr (.inr (.inr (.inr (.inl ⟨List.range L.length,g,L,asx,L1,r,?_,h.fits,h.run,?_⟩))))))
 ·rw [hp,iI fun x hx=>AV.ren_range (h.argb x hx)]
 ·rw [FK h.le,AV.ren_range h.val,YI h.le h.ob1];exact hK
theorem ai9 {cx:Cx} {ti:TI} {cp:CP} {cr:CR} {rowB:Bool} {ρ:Operand->Option AV} {L L':List Ob} {op:Op} {v:AV} {K:AV->List Ob->Prop} (hti:TIok cx.P ti) (hne:Js cx.P cx.xs)
  (hcp : ∀ g ps r,cp g ps=some r->Pure cx.P g ps r) (hcr : ∀ g L asx L1 r,cr g L asx=some (L1,r)->sD cx.P g L asx L1 r)
  (h:alE cx ti cp cr rowB ρ L op=some (v,L')) (hK:K v L'):ll cx.P ti ρ L K op:=by
 unfold alE at h
 split at h
 ·rename_i v' h1
  cases h
  obtain ⟨φ,h2,h3⟩:=ahp h1
  exact .inl ⟨_,φ,h2,h3,hK⟩
 ·split at h
  ·rename_i f args hc
   obtain ⟨asx,ts,rfl,rfl⟩:=adu hc
   split at h
   ·rename_i r h1
    cases h
    unfold agx at h1
    split at h1
    ·rename_i g cs hf
     split at h1
     ·split at h1
      ·rename_i ps hps
       split at h1
       ·rename_i r hr
        cases h1
        exact .inr (.inr (.inr (.inl ⟨g,_,r,by simp only [zA,hf,hps,Option.map_some],hcp _ _ _ hr,hK⟩)))
       ·cases h1
      ·cases h1
     ·split at h1
      ·rename_i vs hR hvs
       split at h1
       ·rename_i L1 r hr
        cases h1
        exact TG (by simp only [fM,hf,hvs,hR]) (hcr _ _ _ _ _ hr) hK
       ·cases h1
      ·cases h1
    ·rename_i g caps hf
     split at h1
     ·rename_i vs hR hvs
      split at h1
      ·rename_i L1 r hr
       cases h1
       exact TG (by simp only [fM,hf,hvs,hR]) (hcr _ _ _ _ _ hr) hK
      ·cases h1
     ·cases h1
    ·cases h1
   ·exact VR hti hne h hK
  ·split at h
   ·rename_i v' h1
    cases h
    cases rowB with
    | true=>cases h1
    | false =>
     obtain ⟨φ,h2,h3⟩:=adj h1
     exact .inr (.inl ⟨_,φ,h2,h3,hK⟩)
   ·split at h
    ·split at h
     ·rename_i r h1
      cases h
      exact VR hti hne h1 hK
     ·split at h
      ·rename_i v' h1
       cases h
       obtain ⟨φ,h2,h3⟩:=adj h1
       exact .inr (.inl ⟨_,φ,h2,h3,hK⟩)
      ·obtain ⟨φ,h2,h3⟩:=ac1 h
       exact .inr (.inr (.inl ⟨_,_,φ,h2,h3,hK⟩))
    ·split at h
     ·rename_i r h1
      cases h
      obtain ⟨φ,h2,h3⟩:=ac1 h1
      exact .inr (.inr (.inl ⟨_,_,φ,h2,h3,hK⟩))
     ·exact VR hti hne h hK
def rowOf (cx:Cx) (f:FuncId):Option Tmp->Bool
 | some d=>cx.row f d
 | none=>false
def anb (N:Nat):Option Tmp->Bool
 | some d=>Nat.blt d N
 | none=>true
theorem acm {N:Nat} {d:Option Tmp} (h:anb N d=true):dOK N d:=by
 cases d with
 | none=>trivial
 | some d=>exact ap_ h
def Nc (cx:Cx) (ti:TI) (cp:CP) (cr:CR) (f:FuncId) (N:Nat) (ds:List (Option Tmp)):List Oper->Tm->List Ob->Option (Tm × List Ob)
 | [],T,L=>some (T,L)
 | o::rest,T,L=>match anb N o.dst,kH ds T o.guard with
  | true,some true=>match alE cx ti cp cr (rowOf cx f o.dst) (look T) L o.op with
   | some (v,L')=>Nc cx ti cp cr f N ds rest (Dz T o.dst v) L'
   | none=>none
  | true,some false=>Nc cx ti cp cr f N ds rest (Dz T o.dst .undef) L
  | _,_=>none
theorem vU {cx:Cx} {ti:TI} {cp:CP} {cr:CR} {f:FuncId} {N:Nat} {ds:List (Option Tmp)} (hti:TIok cx.P ti) (hne:Js cx.P cx.xs)
  (hcp : ∀ g ps r,cp g ps=some r->Pure cx.P g ps r) (hcr : ∀ g L asx L1 r,cr g L asx=some (L1,r)->sD cx.P g L asx L1 r) {K:Tm->List Ob->Prop} :
  ∀ {l:List Oper} {T T':Tm} {L L':List Ob}, Nc cx ti cp cr f N ds l T L=some (T',L')->K T' L'->aX cx.P ti N ds K l T L
 | [],T,T',L,L',h,hK=>by cases h;exact hK
 | o::rest,T,T',L,L',h,hK=>by
  unfold Nc at h
  split at h
  ·rename_i hd hg
   split at h
   ·rename_i v L1 h1
    exact ⟨acm hd,ja hg (ai9 hti hne hcp hcr h1 (vU hti hne hcp hcr h hK))⟩
   ·cases h
  ·rename_i hd hg
   exact ⟨acm hd,Qp hg (vU hti hne hcp hcr h hK)⟩
  ·cases h
def alA:List Cap->List Nat
 | []=>[]
 | .ptr id _::l=>id::alA l
 | .c _::l=>alA l
def anw:SV->List Nat
 | .ptr id _=>[id]
 | .sl id _ _ _=>[id]
 | .clo _ caps=>alA caps
 | _=>[]
def ali:List SV->List Nat
 | []=>[]
 | x::l=>anw x++ali l
def apa:AV->List Nat
 | .one x=>anw x
 | .agg xs=>ali xs
 | _=>[]
def Oa (T:Tm) (L:List Ob) (id:Nat):Tm × List Ob :=
 match L[id]? with
 | some (.row ver es _)=>match iC es with
  | some cs=>(T.map (fun p=>(p.1,thA id ver cs p.2)),L.set id .dead)
  | none=>(T,L)
 | some (.box cs)=>match mV cs with
  | some ts=>(T.map (fun p=>(p.1,unA id ts p.2)),L.set id .dead)
  | none=>(T,L)
 | _=>(T,L)
def J2:List Nat->Tm->List Ob->Tm × List Ob
 | [],T,L=>(T,L)
 | id::l,T,L=>match Oa T L id with
  | (T',L')=>J2 l T' L'
def aiR (T:Tm) (L:List Ob) (t:Nat):Tm × List Ob :=
 match T.lookup t with
 | some v=>J2 (apa v) T L
 | none=>(T,L)
def UY:List Nat->Tm->List Ob->Option (Tm × List Ob)
 | [],T,L=>some (T,L)
 | t::ts,T,L=>match aiR T L t with
  | (T',L')=>UY ts T' L'
section
variable {P:Program} {N n0:Nat} {Q:AX->Tm->List Ob->Prop} {c:Code}
theorem aiL {T:Tm} {L:List Ob} {id:Nat} (k:Aw P N n0 c Q (Oa T L id).1 (Oa T L id).2):Aw P N n0 c Q T L:=by
 unfold Oa at k
 split at k
 ·rename_i hL
  split at k
  ·rename_i hn;exact yL _ hL hn k
  ·exact k
 ·rename_i hL
  split at k
  ·rename_i hn;exact bu _ hL hn k
  ·exact k
 ·exact k
theorem Si : ∀ {l:List Nat} {T:Tm} {L:List Ob}, Aw P N n0 c Q (J2 l T L).1 (J2 l T L).2->Aw P N n0 c Q T L
 | [],_,_,k=>k
 | id::l,T,L,k=>aiL (Si (l:=l) k)
theorem Ur : ∀ {ts:List Nat} {T T':Tm} {L L':List Ob}, UY ts T L=some (T',L')->Aw P N n0 c Q T' L'->Aw P N n0 c Q T L
 | [],_,_,_,_,h,k=>by cases h;exact k
 | t::ts,T,T',L,L',h,k=>by
  unfold UY at h
  have h2:=Ur (ts:=ts) h k
  unfold aiR at h2
  split at h2
  ·exact Si h2
  ·exact h2
end
def clean (N:Nat) (T:Tm):Tm:=(List.range N).filterMap fun t=>(T.lookup t).map fun x=>(t,x)
theorem Cz {N:Nat} {T:Tm} {t:Nat} {x:AV} (h:(clean N T).lookup t=some x):T.lookup t=some x:=by
 have h1:=tQ h
 unfold clean at h1
 rw [List.mem_filterMap] at h1
 obtain ⟨i,_,h2⟩:=h1
 obtain ⟨y,h3,h4⟩:=map_some h2
 cases h4
 exact h3
theorem ah6 {N n0:Nat} (T:Tm) (L:List Ob) (id:Nat):o_ N n0 T L (Oa T L id).1 (Oa T L id).2:=by
 unfold Oa
 split
 ·rename_i hL
  split
  ·rename_i hn;exact o_.row _ hL hn
  ·exact o_.refl
 ·rename_i hL
  split
  ·rename_i hn;exact o_.box _ hL hn
  ·exact o_.refl
 ·exact o_.refl
theorem Tw {N n0:Nat} : ∀ (l:List Nat) (T:Tm) (L:List Ob),o_ N n0 T L (J2 l T L).1 (J2 l T L).2
 | [],_,_=>o_.refl
 | id::l,T,L=>(ah6 T L id).trans (Tw l _ _)
theorem UO {N n0:Nat} : ∀ {ts:List Nat} {T T':Tm} {L L':List Ob}, UY ts T L=some (T',L')->o_ N n0 T L T' L'
 | [],_,_,_,_,h=>by cases h;exact o_.refl
 | t::ts,T,T',L,L',h=>by
  unfold UY at h
  refine o_.trans ?_ (UO (ts:=ts) h)
  show o_ N n0 T L (aiR T L t).1 (aiR T L t).2
  unfold aiR
  split
  ·exact Tw _ _ _
  ·exact o_.refl
def WF (body:Tm->List Ob->Option (AX × Tm × List Ob)) (N:Nat):Nat->Tm->List Ob->Option (AX × Tm × List Ob)
 | 0,_,_=>none
 | n+1,T,L=>match body (clean N T) L with
  | some (.normal,T',L')=>WF body N n T' L'
  | r=>r
def abD (cx:Cx) (f:FuncId) (id:Nat):Bool->TI
 | false => { cx.ti with dyn:=true,soft:=false }
 | true => { cx.ti with dyn:=(cx.flg f id).1,soft:=(cx.flg f id).2 }
def VU (cx:Cx) (cp:CP) (cr:CR) (f:FuncId) (N:Nat) (rs:List Nat):Code->Tm->List Ob->Option (AX × Tm × List Ob)
 | .skip,T,L=>some (.normal,T,L)
 | .label _,T,L=>some (.normal,T,L)
 | .ret,T,L=>match UY rs T L with
  | some (T',L')=>some (.ret,T',L')
  | none=>none
 | .exit id,T,L=>some (.exit id,T,L)
 | .seq x y,T,L=>match VU cx cp cr f N rs x T L with
  | some (.normal,T',L')=>VU cx cp cr f N rs y T' L'
  | r=>r
 | .cond c x y,T,L=>match look T c with
  | some (.one (.c (.bool b)))=>match b with
   | true=>VU cx cp cr f N rs x T L
   | false=>VU cx cp cr f N rs y T L
  | _=>none
 | .block id c,T,L=>match VU cx cp cr f N rs c T L with
  | some (.exit j,T',L')=>match decide (j=id) with
   | true=>some (.normal,T',L')
   | false=>some (.exit j,T',L')
  | r=>r
 | .region id ops d,T,L=>match UY (cx.frz f id) T L with
  | some (T1,L1)=>match fzB (cx.fz f id) T1 with
   | true=>match d,cx.sw f id with
    | true,some (p,post)=>match Nc cx (abD cx f id true) cp cr f N ((ZM p ops.toList).map (·.dst)) (ZM p ops.toList) T1 L1,Nc cx (abD cx f id true) cp cr f N ((l2E p ops.toList).map (·.dst)) (l2E p ops.toList) T1 L1 with
     | some (T2,L2),some (T3,L3)=>match UY post (clean N T2) L2,UY post (clean N T3) L3 with
      | some (T4,L4),some (T5,L5)=>match anE T4 T5&&Ep Q7 L4 L5 with
       | true=>some (.normal,T4,L4)
       | false=>none
      | _,_=>none
     | _,_=>none
    | d,_=>match Nc cx (abD cx f id d) cp cr f N (ops.toList.map (·.dst)) ops.toList T1 L1 with
     | some (T2,L2)=>some (.normal,T2,L2)
     | none=>none
   | false=>none
  | none=>none
 | .loop c,T,L=>WF (VU cx cp cr f N rs c) N 1048576 T L
 | .scope c,T,L=>VU cx cp cr f N rs c T L
 | _,_,_=>none
def mg (cx:Cx) (f:FuncId):Code->Bool
 | .seq x y=>mg cx f x&&mg cx f y
 | .cond _ x y=>mg cx f x&&mg cx f y
 | .block _ c=>mg cx f c
 | .loop c=>mg cx f c
 | .scope c=>mg cx f c
 | .region id ops true=>match cx.sw f id with
  | some (p,_)=>(decide (p+1<ops.toList.length)&&ops.toList.all fun o=>o.guard.isNone)&&(jN (cx.fz f id) (abD cx f id true) (ZM p ops.toList)&&jN (cx.fz f id) (abD cx f id true) (l2E p ops.toList))
  | none=>jN (cx.fz f id) (abD cx f id true) ops.toList
 | _=>true
structure Jo (cx:Cx):Prop where
 ti:TIok cx.P cx.ti
 ne:Js cx.P cx.xs
 mix:cx.P.follows .mixedOrders=true
 name : ∀ (f : FuncId) fn, cx.P.funcs[f]? = some fn -> (fn.name == "runtime.NumGoroutine") = false
 code : ∀ (f:FuncId) fn c,cx.P.funcs[f]?=some fn->fn.body=some c->cx.bad f=false->mg cx f c=true
 orc : ∀ g ps r,cx.orc g ps=some r->Pure cx.P g ps r
def BA (cx:Cx):List Func->Nat->Bool
 | [],_=>true
 | fn::fs,i=>(match fn.body with
  | some c=>cx.bad i||mg cx i c
  | none=>true)&&BA cx fs (i+1)
theorem Rm {cx:Cx} : ∀ {fs:List Func} {i:Nat}, BA cx fs i=true -> ∀ (j:Nat) fn c,fs[j]?=some fn->fn.body=some c->cx.bad (i+j)=false->mg cx (i+j) c=true
 | [],i,h,j,fn,c,hj,_,_=>by simp at hj
 | f0::fs,i,h,0,fn,c,hj,hb,hbad=>by
  rw [BA,aqg] at h
  simp at hj;subst hj
  have h1:=h.1
  rw [hb] at h1
  rw [Nat.add_zero] at hbad ⊢
  simp only [hbad,Bool.false_or] at h1
  exact h1
 | f0::fs,i,h,j+1,fn,c,hj,hb,hbad=>by
  rw [BA,aqg] at h
  have:=Rm h.2 j fn c (by simpa using hj) hb (by rwa [show i+1+j=i+(j+1) by omega])
  rwa [show i+1+j=i+(j+1) by omega] at this
def Ei:List Func->Bool
 | []=>true
 | fn :: fs => !(fn.name == "runtime.NumGoroutine") && Ei fs
theorem Rk : ∀ {fs : List Func}, Ei fs = true -> ∀ (j : Nat) fn, fs[j]? = some fn -> (fn.name == "runtime.NumGoroutine") = false
 | [],h,j,fn,hj=>by simp at hj
 | f0::fs,h,0,fn,hj=>by
  rw [Ei,aqg] at h
  simp at hj;subst hj
  simpa using h.1
 | f0::fs,h,j+1,fn,hj=>by
  rw [Ei,aqg] at h
  exact Rk h.2 j fn (by simpa using hj)
theorem Jo.of {cx:Cx} (ti:TIok cx.P cx.ti) (ne:Js cx.P cx.xs) (mix:cx.P.follows .mixedOrders=true) (name:Ei cx.P.funcs.toList=true) (code:BA cx cx.P.funcs.toList 0=true) (orc : ∀ g ps r,cx.orc g ps=some r->Pure cx.P g ps r):Jo cx :=
 ⟨ti,ne,mix,fun f fn h=>Rk name f fn (by simpa using h),fun f fn c h hb hbad=>by have:=Rm code f fn c (by simpa using h) hb (by rwa [aqH]);rwa [aqH] at this,orc⟩
theorem yD {cx:Cx} (h:Jo cx) (f:FuncId) (id:Nat) (d:Bool):TIok cx.P (abD cx f id d):=by
 cases d
 ·exact h.ti.flags _ _
 ·exact h.ti.flags _ _
section
variable {cx:Cx} {cp:CP} {cr:CR} {f:FuncId} {N n0:Nat} {rs:List Nat}
def AtE (x:AX) (T':Tm) (L':List Ob):AX->Tm->List Ob->Prop:=fun y S M=>y=x/\S=T'/\M=L'
theorem aij {c:Code} {body:Tm->List Ob->Option (AX × Tm × List Ob)} (hb : ∀ T L x T' L',body T L=some (x,T',L')->Aw cx.P N n0 c (AtE x T' L') T L) :
  ∀ {n:Nat} {T:Tm} {L:List Ob} {x:AX} {T':Tm} {L':List Ob}, WF body N n T L=some (x,T',L')->Aw cx.P N n0 (.loop c) (AtE x T' L') T L:=by
 intro n0' T L x T' L' h
 intro hn B R0 γ0 w0 a0 hi hT
 have key : ∀ n T L0 R γ a w,n0<=L0.length->WF body N n T L0=some (x,T',L')->Inv B R γ L0 w->jo N R γ L0 T a->Ext B R0 R w0 w->vR n0 R0 R γ0 γ L L0->Code.rounds cx.P c (Fs N n0 B (AtE x T' L') R0 w0 γ0 L) n a w:=by
  intro n
  induction n with
  | zero=>intro T L0 R γ a w _ hl;cases hl
  | succ n ih =>
   intro T L0 R γ a w hlo hl hI ht he hmv
   rw [rounds_succ]
   unfold WF at hl
   have htc:jo N R γ L0 (clean N T) a:=⟨ht.size,ht.defers,fun t x hx=>ht.slot t x (Cz hx)⟩
   split at hl
   ·rename_i T1 L1 hb1
    refine wp_mono (hb _ _ _ _ _ hb1 hlo B R γ w a hI htc) ?_
    rintro e a1 w1 ⟨y,T2,L2,R1,γ2,rfl,⟨rfl,rfl,rfl⟩,j1,k1,e1,m1⟩
    exact ih _ _ R1 _ a1 w1 m1.lo' hl j1 k1 (he.trans e1) (hmv.trans hi.len m1)
   ·rename_i hne
    refine wp_mono (hb _ _ _ _ _ hl hlo B R γ w a hI htc) ?_
    rintro e a1 w1 ⟨y,T2,L2,R1,γ2,rfl,⟨rfl,rfl,rfl⟩,j1,k1,e1,m1⟩
    cases y with
    | normal=>exact absurd hl (hne _ _)
    | exit id=>exact ⟨.exit id,_,_,R1,γ2,rfl,⟨rfl,rfl,rfl⟩,j1,k1,he.trans e1,hmv.trans hi.len m1⟩
    | ret=>exact ⟨.ret,_,_,R1,γ2,rfl,⟨rfl,rfl,rfl⟩,j1,k1,he.trans e1,hmv.trans hi.len m1⟩
 exact wp_loop_rounds n0' (key n0' T L R0 γ0 a0 w0 hn h hi hT (Ext.refl _ _ _) (vR.of hn Mv.refl))
theorem aab (hx:Jo cx) (hcp : ∀ g ps r,cp g ps=some r->Pure cx.P g ps r) (hcr : ∀ g L asx L1 r,cr g L asx=some (L1,r)->sD cx.P g L asx L1 r) :
  ∀ {c:Code} {T:Tm} {L:List Ob} {x:AX} {T':Tm} {L':List Ob}, mg cx f c=true->VU cx cp cr f N rs c T L=some (x,T',L')->Aw cx.P N n0 c (AtE x T' L') T L:=by
 intro c
 induction c with
 | skip=>intro T L x T' L' _ h;cases h;exact aw_skip ⟨rfl,rfl,rfl⟩
 | label l=>intro T L x T' L' _ h;cases h;exact Be ⟨rfl,rfl,rfl⟩
 | ret =>
  intro T L x T' L' _ h
  unfold VU at h
  split at h
  ·rename_i h1
   cases h
   exact Ur h1 (aw_ret ⟨rfl,rfl,rfl⟩)
  ·cases h
 | exit id=>intro T L x T' L' _ h;cases h;exact aw_exit ⟨rfl,rfl,rfl⟩
 | seq a b iha ihb =>
  intro T L x T' L' hc h
  rw [mg,aqg] at hc
  unfold VU at h
  refine aw_seq ?_
  split at h
  ·rename_i T1 L1 h1
   refine Aw.mono (iha hc.1 h1) ?_
   rintro y S M ⟨rfl,rfl,rfl⟩
   exact ihb hc.2 h
  ·rename_i hne
   refine Aw.mono (iha hc.1 h) ?_
   rintro y S M ⟨rfl,rfl,rfl⟩
   cases y with
   | normal=>exact absurd h (hne _ _)
   | exit id=>exact ⟨rfl,rfl,rfl⟩
   | ret=>exact ⟨rfl,rfl,rfl⟩
 | cond c a b iha ihb =>
  intro T L x T' L' hc h
  rw [mg,aqg] at hc
  unfold VU at h
  split at h
  ·rename_i b' hl
   refine aG hl (fun e=>?_) (fun e=>?_)
   ·subst e;exact iha hc.1 h
   ·subst e;exact ihb hc.2 h
  ·cases h
 | block id c ih =>
  intro T L x T' L' hc h
  unfold VU at h
  refine aw_block ?_
  split at h
  ·rename_i j T1 L1 h1
   refine Aw.mono (ih hc h1) ?_
   rintro y S M ⟨rfl,rfl,rfl⟩
   show if j=id then _ else _
   split at h
   ·rename_i e;rw [if_pos (aqs e)];cases h;exact ⟨rfl,rfl,rfl⟩
   ·rename_i e;rw [if_neg (of_decide_eq_false e)];cases h;exact ⟨rfl,rfl,rfl⟩
  ·rename_i hne
   refine Aw.mono (ih hc h) ?_
   rintro y S M ⟨rfl,rfl,rfl⟩
   cases y with
   | normal=>exact ⟨rfl,rfl,rfl⟩
   | exit id=>exact absurd h (hne _ _ _)
   | ret=>exact ⟨rfl,rfl,rfl⟩
 | region id ops d =>
  intro T L x T' L' hc h
  unfold VU at h
  split at h
  ·rename_i T1 L1 h1
   refine Ur h1 ?_
   split at h
   ·rename_i hz
    have hr:ops=ops.toList.toArray:=rfl
    have hd:d=false\/d=true:=by cases d<;>simp
    rw [hr]
    split at h
    ·rename_i p post hsw
     rw [mg,hsw] at hc
     simp only [aqg,decide_eq_true_eq] at hc
     obtain ⟨⟨hp,hg⟩,hc1,hc2⟩:=hc
     split at h
     ·rename_i T2 L2 T3 L3 h2 h3
      split at h
      ·rename_i T4 L4 T5 L5 h4 h5
       split at h
       ·rename_i he
        cases h
        rw [aqg] at he
        have e1:=akh _ _ he.1
        have e2:=ng ajv _ _ he.2
        subst e1 e2
        refine NQ (II _ (yD hx f id true) p hp hg hx.mix hc1 hc2 hz (vU (yD hx f id true) hx.ne hcp hcr h2 ⟨_,_,(o_.less fun t x h=>Cz h).trans (UO h4),rfl,rfl,rfl⟩) (vU (yD hx f id true) hx.ne hcp hcr h3 ⟨_,_,(o_.less fun t x h=>Cz h).trans (UO h5),rfl,rfl,rfl⟩))
       ·cases h
      ·cases h
     ·cases h
    ·rename_i hno
     split at h
     ·rename_i T2 L2 h2
      cases h
      rcases hd with hd|hd
      ·subst hd
       exact aw_region (yD hx f id false) _ rfl (vU (yD hx f id false) hx.ne hcp hcr h2 ⟨rfl,rfl,rfl⟩)
      ·subst hd
       rw [mg] at hc
       split at hc
       ·rename_i p q hsw
        exact absurd hsw (hno p q rfl)
       ·exact Sr _ (yD hx f id true) _ rfl hx.mix hc hz (vU (yD hx f id true) hx.ne hcp hcr h2 ⟨rfl,rfl,rfl⟩)
     ·cases h
   ·cases h
  ·cases h
 | loop c ih =>
  intro T L x T' L' hc h
  unfold VU at h
  exact aij (fun T L x T' L' hb=>ih hc hb) h
 | scope c ih =>
  intro T L x T' L' hc h
  unfold VU at h
  exact Bf (ih hc h)
 | _=>intro T L x T' L' _ h;unfold VU at h;cases h
end
def Vb (ti:TI) (T:Tm) (L:List Ob):ResultVar->Option PV
 | .tmp t=>(T.lookup t).bind AV.norm
 | .cell a t=>match T.lookup a with
  | some (.one (.ptr id off))=>match WV ti L t (.one (.ptr id off)) with
   | some v=>v.norm
   | none=>none
  | _=>none
def G9 (ti:TI) (T:Tm) (L:List Ob):List ResultVar->Option (List PV)
 | []=>some []
 | r::rs=>match Vb ti T L r,G9 ti T L rs with
  | some p,some ps=>some (p::ps)
  | _,_=>none
theorem abl {ti:TI} {T:Tm} {L:List Ob} {r:ResultVar} {p:PV} (h:Vb ti T L r=some p):QT (JB ti T L r) p:=by
 unfold Vb at h
 split at h
 ·rename_i t
  exact ⟨True,by show (Option.map _ _)=_;rw [h];rfl,trivial⟩
 ·unfold JB
  dsimp only
  split at h
  ·rename_i h1
   rw [h1]
   dsimp only
   split at h
   ·rename_i v h2
    obtain ⟨φ,h3,h4⟩:=OU h2
    rw [h3]
    exact ⟨φ,by dsimp only;rw [h];rfl,h4⟩
   ·cases h
  ·cases h
theorem EU {ti:TI} {T:Tm} {L:List Ob} : ∀ {rs:List ResultVar} {ps:List PV}, G9 ti T L rs=some ps->QT (BM ti T L rs) ps
 | [],ps,h=>by cases h;exact ⟨_,rfl,trivial⟩
 | r::rs,ps,h=>by
  unfold G9 at h
  split at h
  ·rename_i h1 h2
   cases h
   obtain ⟨φ,h3,h4⟩:=abl h1
   obtain ⟨ψ,h5,h6⟩:=EU h2
   exact ⟨φ/\ψ,by unfold BM;rw [h3,h5],h4,h6⟩
  ·cases h
def Pv:List ResultVar->List Nat
 | []=>[]
 | .tmp t::rs=>t::Pv rs
 | .cell _ _::rs=>Pv rs
def ag3:AX->Bool
 | .exit _=>false
 | _=>true
theorem ND {x:AX} (h:ag3 x=true):x = .normal\/x = .ret:=by
 cases x with
 | normal=>exact .inl rfl
 | ret=>exact .inr rfl
 | exit _=>cases h
def agz (cx:Cx) (cp:CP) (cr:CR):CP:=fun g ps =>
 match cx.orc g ps with
 | some r=>some r
 | none=>match cx.P.funcs[g]? with
  | some fn=>match fn.body,cx.bad g,Nat.ble ps.length fn.ntmps with
   | some c,false,true=>match VU cx cp cr g fn.ntmps (Pv fn.results.toList) c (argT 0 ps) [] with
    | some (x,T,L)=>match ag3 x,G9 cx.ti T L fn.results.toList with
     | true,some rs=>some (af0 rs)
     | _,_=>none
    | none=>none
   | _,_,_=>none
  | none=>none
def Uo (T:Tm):List ResultVar->Option AV
 | [.tmp s, .tmp t]=>match T.lookup s,T.lookup t with
  | some (.one x),some (.one y)=>some (.tupS [x,y])
  | _,_=>none
 | _=>none
theorem aav {T:Tm} {rs:List ResultVar} {r:AV} (h:Uo T rs=some r):Cf rs T r:=by
 unfold Uo at h
 split at h
 ·split at h
  ·rename_i h1 h2
   cases h
   exact ⟨_,_,_,_,rfl,h1,h2,rfl⟩
  ·cases h
 ·cases h
def VL (ti:TI) (T:Tm) (L:List Ob):List ResultVar->Option AV
 | [.tmp t]=>T.lookup t
 | [.cell a t]=>match T.lookup a with
  | some (.one (.ptr id off))=>WV ti L t (.one (.ptr id off))
  | _=>none
 | rs=>match G9 ti T L rs with
  | some ps=>some (af0 ps).av
  | none=>none
theorem aap {ti:TI} {T:Tm} {L:List Ob} {rs:List ResultVar} {r:AV} (h:VL ti T L rs=some r):Co ti rs T L r:=by
 unfold VL at h
 split at h
 ·exact .inl (.inl ⟨_,rfl,h⟩)
 ·split at h
  ·rename_i h1
   obtain ⟨φ,h2,h3⟩:=OU h
   exact .inr ⟨_,_,_,_,φ,rfl,h1,h2,h3⟩
  ·cases h
 ·split at h
  ·rename_i ps h1
   cases h
   obtain ⟨φ,h2,h3⟩:=EU h1
   exact .inl (.inr ⟨af0 ps,bR h2 h3 rfl,rfl⟩)
  ·cases h
def aaz (ti:TI) (T:Tm) (L:List Ob) (rs:List ResultVar):Option AV :=
 match Uo T rs with
 | some r=>some r
 | none=>VL ti T L rs
theorem ae0 {ti:TI} {T:Tm} {L:List Ob} {rs:List ResultVar} {r:AV} (h:aaz ti T L rs=some r):Co ti rs T L r\/Cf rs T r:=by
 unfold aaz at h
 split at h
 ·rename_i h1
  cases h
  exact .inr (aav h1)
 ·exact .inl (aap h)
def alr (cx:Cx) (cp:CP) (cr:CR):CR:=fun g L asx =>
 match cx.P.funcs[g]? with
 | some fn=>match fn.body,cx.bad g,Nat.ble asx.length fn.ntmps,(RX L.length L&&O0 L.length asx) with
  | some c,false,true,true=>match VU cx cp cr g fn.ntmps [] c (iH 0 asx) L with
   | some (x,T,L1)=>match ag3 x,aaz cx.ti T L1 fn.results.toList,Nat.ble L.length L1.length with
    | true,some r,true=>match agd L.length r&&RX L.length (L1.take L.length) with
     | true=>some (L1.take L.length,r)
     | false=>match agd L1.length r&&RX L1.length L1 with
      | true=>some (L1,r)
      | false=>none
    | _,_,_=>none
   | none=>none
  | _,_,_,_=>none
 | none=>none
theorem ag' {cx:Cx} {cp:CP} {cr:CR} (hx:Jo cx) (hcp : ∀ g ps r,cp g ps=some r->Pure cx.P g ps r) (hcr : ∀ g L asx L1 r,cr g L asx=some (L1,r)->sD cx.P g L asx L1 r)
  {g:FuncId} {ps:List PV} {r:CV} (h:agz cx cp cr g ps=some r):Pure cx.P g ps r:=by
 unfold agz at h
 split at h
 ·rename_i r' h1
  cases h
  exact hx.orc _ _ _ h1
 ·split at h
  ·rename_i fn hf
   split at h
   ·rename_i c hb hbad hle
    split at h
    ·rename_i x T L he
     split at h
     ·rename_i rs hend hres
      cases h
      obtain ⟨φ,h2,h3⟩:=EU hres
      refine pa_ hx.ti hf hb (hx.name _ _ hf) rfl (ap_ hle) ?_
      refine Aw.mono (aab hx hcp hcr (hx.code _ _ _ hf hb hbad) he) ?_
      rintro y S M ⟨rfl,rfl,rfl⟩
      exact ⟨ND hend,bR h2 h3 rfl⟩
     ·cases h
    ·cases h
   ·cases h
  ·cases h
theorem akP {cx:Cx} {cp:CP} {cr:CR} (hx:Jo cx) (hcp : ∀ g ps r,cp g ps=some r->Pure cx.P g ps r) (hcr : ∀ g L asx L1 r,cr g L asx=some (L1,r)->sD cx.P g L asx L1 r)
  {g:FuncId} {L:List Ob} {asx:List AV} {L1:List Ob} {r:AV} (h:alr cx cp cr g L asx=some (L1,r)):sD cx.P g L asx L1 r:=by
 unfold alr at h
 split at h
 ·rename_i fn hf
  split at h
  ·rename_i c hb hbad hle hbel
   rw [aqg] at hbel
   split at h
   ·rename_i x T L2 he
    split at h
    ·rename_i r' hend hval hlen
     have hlen:=ap_ hlen
     have main : ∀ m,L.length<=m->m<=L2.length->(∀ x∈L2.take m,x.below m)->r'.below m->sD cx.P g L asx (L2.take m) r':=by
      intro m hm1 hm2 hob hr
      have hl:(L2.take m).length=m:=by rw [aqQ];omega
      refine ⟨?_,jf hbel.1,xK hbel.2,by omega,by rw [hl];exact hob,by rw [hl];exact hr⟩
      rcases ae0 hval with hv|hv
      ·refine EO hx.ti hf hb (hx.name _ _ hf) rfl (ap_ hle) ?_
       refine Aw.mono (aab hx hcp hcr (hx.code _ _ _ hf hb hbad) he) ?_
       rintro y S M ⟨rfl,rfl,rfl⟩
       exact ⟨ND hend,⟨hv,⟨_,(aqK m _).symm⟩,by rw [hl];exact hm1,by rw [hl];exact hob,by rw [hl];exact hr⟩⟩
      ·refine Zr hx.ti hf hb (hx.name _ _ hf) rfl (ap_ hle) ?_
       refine Aw.mono (aab hx hcp hcr (hx.code _ _ _ hf hb hbad) he) ?_
       rintro y S M ⟨rfl,rfl,rfl⟩
       exact ⟨ND hend,⟨hv,⟨_,(aqK m _).symm⟩,by rw [hl];exact hm1,by rw [hl];exact hob,by rw [hl];exact hr⟩⟩
     split at h
     ·rename_i hc
      rw [aqg] at hc
      cases h
      exact main _ (aqe _) hlen (jf hc.2) (lV hc.1)
     ·split at h
      ·rename_i hc
       rw [aqg] at hc
       cases h
       have:=main _ hlen (aqe _) (by rw [List.take_length];exact jf hc.2) (lV hc.1)
       rw [List.take_length] at this
       exact this
      ·cases h
    ·cases h
   ·cases h
  ·cases h
 ·cases h
def evF (cx:Cx):Nat->CP × CR
 | 0=>(fun _ _=>none,fun _ _ _=>none)
 | n+1=>(agz cx (evF cx n).1 (evF cx n).2,alr cx (evF cx n).1 (evF cx n).2)
theorem oz {cx:Cx} (hx:Jo cx) : ∀ n,(∀ g ps r,(evF cx n).1 g ps=some r->Pure cx.P g ps r)/\(∀ g L asx L1 r,(evF cx n).2 g L asx=some (L1,r)->sD cx.P g L asx L1 r)
 | 0=>⟨fun g ps r h=>(by cases h),fun g L asx L1 r h=>(by cases h)⟩
 | n+1=>⟨fun g ps r h=>ag' hx (oz hx n).1 (oz hx n).2 h,fun g L asx L1 r h=>akP hx (oz hx n).1 (oz hx n).2 h⟩
theorem FH {α:Type} : ∀ (A A' G:List α) (i:Nat) (pre:List α),A.length=A'.length->pre.length=i->fJ (pre++A++G) ((List.range A.length).map (i + ·)) A'=pre++A'++G
 | [],[],G,i,pre,_,_=>by simp [fJ]
 | [],_::_,_,_,_,h,_=>by simp at h
 | _::_,[],_,_,_,h,_=>by simp at h
 | x::A,y::A',G,i,pre,h,hp=>by
  have hr:(List.range (x::A).length).map (i + ·)=i::(List.range A.length).map (i+1 + ·):=by
   rw [aqk,List.range_succ_eq_map,ap',List.map_map]
   simp only [Nat.add_zero,List.cons.injEq,true_and]
   refine List.map_congr_left fun j _=>?_
   show i+(j+1)=i+1+j;omega
  rw [hr,fJ]
  have e1:(pre++x::A++G).set i y=(pre++[y])++A++G:=by
   subst hp
   rw [aqp,List.set_append_right _ _ (aqe _),Nat.sub_self]
   simp
  rw [e1,FH A A' G (i+1) (pre++[y]) (by simpa using h) (by simp [hp])]
  simp
theorem ZK {A A' G:List Ob} {m:Nat} (hA:A.length=m) (hA':A'.length=m) (hb : ∀ x∈A',x.below m):joinL (List.range m) (A++G) A'=A'++G:=by
 have ho:dK (List.range m) (A++G).length A'.length=List.range m:=by
  unfold dK jF
  rw [List.length_range,hA',Nat.sub_self];simp
 unfold joinL
 rw [ho,iI fun x hx=>Ob.ren_range (hb x hx)]
 unfold join
 have h1:=FH A A' G 0 [] (by rw [hA,hA']) rfl
 have h2:(List.range A.length).map (0 + ·)=List.range m:=by rw [hA];exact iI fun i _=>aqH i
 rw [h2] at h1
 rw [List.length_range, <- hA',aqU,aqy]
 simpa [hA'] using h1
section
variable {P:Program} {ti:TI} {N n0:Nat} {ds:List (Option Tmp)} {K:Tm->List Ob->Prop} {rest:List Oper} {o:Oper} {T:Tm} {L:List Ob} {ρ:Operand->Option AV}
theorem Jy (m:Nat) (A A' G:List Ob) {g:FuncId} {args:List AV} {d:Nat} (hd:o.dst=some d) (hN:Nat.blt d N=true) (hg:kH ds T o.guard=some true) (hp:fM ti (look T) o.op=some (g,args)) (hL:L=A++G) (hc:Run P g A args A' (.tup [])) (hA:A.length=m) (hA':A'.length=m) (hb : ∀ x∈A,x.below m) (hb' : ∀ x∈A',x.below m) (ha : ∀ x∈args,x.below m)
  (h:aX P ti N ds K rest ((d, .tup [])::T) (A'++G)):aX P ti N ds K (o::rest) T L:=by
 subst hL
 refine eP (List.range m) hd hN hg hp hc (iI fun x hx=>AV.ren_range (ha x hx)).symm ⟨by rw [List.length_range,hA],List.nodup_range,fun i x hx=>?_,fun x hx=>by rw [hA];exact hb x hx,fun x hx=>by rw [hA];exact ha x hx⟩ rfl (ZK hA hA' hb') h
 have hi:i<m:=by rw [<- hA];exact (ap0.1 hx).1
 rw [mR hi,Ob.ren_range (hb x (ap6 hx)),aqc (by rw [hA];exact hi)]
 exact hx
theorem aeJ {K K':AV->List Ob->Prop} {op:Op} (h:ll P ti ρ L K op) (hk : ∀ v L,K v L->K' v L):ll P ti ρ L K' op:=by
 rcases h with ⟨v,φ,h1,h2,h3⟩|⟨v,φ,h1,h2,h3⟩|⟨v,L',φ,h1,h2,h3⟩|⟨g,ps,r,h1,h2,h3⟩|⟨g,es,t,k,ps,es',h1,h2,h3,h4⟩|⟨g,k,ps,es',h1,h2,h3⟩|⟨σ,g,L0,as',L1,r,h1,h2,h3,h4⟩|⟨v,L',h1,h2,h3⟩
 ·exact .inl ⟨v,φ,h1,h2,hk _ _ h3⟩
 ·exact .inr (.inl ⟨v,φ,h1,h2,hk _ _ h3⟩)
 ·exact .inr (.inr (.inl ⟨v,L',φ,h1,h2,hk _ _ h3⟩))
 ·exact .inr (.inr (.inr (.inl ⟨g,ps,r,h1,h2,hk _ _ h3⟩)))
 ·exact .inr (.inr (.inr (.inr (.inl ⟨g,es,t,k,ps,es',h1,h2,h3,hk _ _ h4⟩))))
 ·exact .inr (.inr (.inr (.inr (.inr (.inl ⟨g,k,ps,es',h1,h2,hk _ _ h3⟩)))))
 ·exact .inr (.inr (.inr (.inr (.inr (.inr (.inl ⟨σ,g,L0,as',L1,r,h1,h2,h3,hk _ _ h4⟩))))))
 ·exact .inr (.inr (.inr (.inr (.inr (.inr (.inr ⟨v,L',h1,h2,hk _ _ h3⟩))))))
theorem ai0 {A A' B B':Prop} {g:Option (Nat × Bool)} (h:gd ds T A B g) (ha:A->A') (hb:B->B'):gd ds T A' B' g:=by
 unfold gd at h ⊢
 split
 ·exact ha h
 ·rename_i j want
  dsimp only at h
  split at h
  ·rename_i d hd
   split at h
   ·exact ⟨fun e=>ha (h.1 e),fun e=>hb (h.2 e)⟩
   ·exact hb h
   ·cases h
  ·cases h
theorem nV {K K':Tm->List Ob->Prop} (hk : ∀ T L,K T L->K' T L) : ∀ (l:List Oper) (T:Tm) (L:List Ob),aX P ti N ds K l T L->aX P ti N ds K' l T L
 | [],T,L,h=>hk T L h
 | o::l,T,L,h=>⟨h.1,ai0 h.2 (fun h=>aeJ h fun v L' h=>nV hk l _ _ h) (fun h=>nV hk l _ _ h)⟩
theorem alj (F:List Nat) (hti:TIok P ti) {Q:AX->Tm->List Ob->Prop} {T:Tm} {L:List Ob} {id:Nat} {l:List Oper} {c:Code} (Tc:Tm) (Lc:List Ob) (p:Nat) (hp:p+1<l.length) (hg:l.all (fun o=>o.guard.isNone)=true) (hmix:P.follows .mixedOrders=true) (hc1:jN F ti (ZM p l)=true) (hc2:jN F ti (l2E p l)=true) (hF:fzB F T=true)
  (h1:aX P ti N ((ZM p l).map (·.dst)) (o_ N n0 · · Tc Lc) (ZM p l) T L) (h2:aX P ti N ((l2E p l).map (·.dst)) (o_ N n0 · · Tc Lc) (l2E p l) T L) (h:Aw P N n0 c Q Tc Lc):Aw P N n0 (.seq (.region id l.toArray true) c) Q T L:=by
 refine aw_seq (NQ (II F hti p hp hg hmix hc1 hc2 hF (nV ?_ _ _ _ h1) (nV ?_ _ _ _ h2)))
 ·intro T' L' hG
  exact ⟨Tc,Lc,hG,h⟩
 ·intro T' L' hG
  exact ⟨Tc,Lc,hG,h⟩
theorem Jc {Q:AX->Tm->List Ob->Prop} {c:Code} (k:Nat) : ∀ (m:Nat) (L:List Ob),Aw P N n0 c Q T (L++List.replicate m (.spare 0 k))->Aw P N n0 c Q T L
 | 0,L,h=>by simpa using h
 | m+1,L,h=>by
  intro hn B R γ w a hi hT
  have hm:Mv R R γ (γ++[.none]) L (L++[.spare 0 k]):=Mv.push _ _ hi.len
  have h':Aw P N n0 c Q T ((L++[.spare 0 k])++List.replicate m (.spare 0 k)):=by rw [aqp];exact h
  exact wp_mono (Jc k m _ h' (by simp;omega) B R (γ++[.none]) w a (hi.tok k) (hT.mv hm)) fun _ _ _ hh=>hh.ext (Ext.refl _ _ _) hi.len (vR.of hn hm)
theorem ahh {Q:AX->Tm->List Ob->Prop} {c:Code} (t t':Nat) {n k:Nat} (T1:Tm) (hn0:n0<=t) (htt:t<=t') (hL:L[t']?=some (.spare n k)) (hb : ∀ x∈L.take t,x.below t) (hT1 : ∀ p∈T1,(T.lookup p.1=some p.2/\p.2.below t) \/ ∃ es,T.lookup p.1=some (.one (.own es t'))/\p.2 = .one (.own es t))
  (h:Aw P N n0 c Q T1 (L.take t++[.spare n k])):Aw P N n0 c Q T L:=by
 intro hn B R γ w a hi hT
 have ht':t'<L.length:=(ap0.1 hL).1
 have hlt:(L.take t).length=t:=by rw [aqQ];omega
 have hsplit:L=L.take t++L.drop t:=(aqK t L).symm
 have hfit:Fits ([]:Tm) L [] (L.take t):=⟨fun p hp=>(by cases hp),⟨_,hsplit⟩,fun p hp=>(by cases hp),fun x hx=>by rw [hlt];exact hb x hx⟩
 have hnil:jo N R γ L ([]:Tm) a:=⟨hT.size,hT.defers,fun s x hx=>by simp at hx⟩
 obtain ⟨j1,_⟩:=hfit.sound hi hnil
 rw [hlt] at j1
 obtain ⟨g,hg⟩ : ∃ g,γ[t']?=some g:=⟨γ[t']'(by rw [hi.len];exact ht'),ap9 _⟩
 have hobj:=hi.obj t' _ _ hL hg
 have hgl:(γ.take t).length=t:=by rw [aqQ,hi.len];omega
 have hmp:Mv R R (γ.take t) (γ.take t++[g]) (L.take t) (L.take t++[.spare n k]):=Mv.push _ _ j1.len
 have hm:vR n0 R R γ (γ.take t++[g]) L (L.take t++[.spare n k]):=by
  have h1:=hfit.mvn hi (by rw [hlt];exact hn0)
  rw [hlt] at h1
  exact h1.trans hi.len (vR.of (by rw [hlt];exact hn0) hmp)
 have hgt:(γ.take t++[g])[t]?=some g:=by
  rw [ap7 (by omega)]
  rw [hgl,Nat.sub_self];rfl
 have hlk:(L.take t++[Ob.spare n k])[t]?=some (.spare n k):=by
  rw [ap7 (by omega)]
  rw [hlt,Nat.sub_self];rfl
 have gcase : ∀ j h,(γ.take t++[g])[j]?=some h->(j=t/\h=g)\/(j<t/\(γ.take t)[j]?=some h):=by
  intro j h hh
  by_cases hid:j<t
  ·rw [aqc (by rw [hgl];exact hid)] at hh;exact .inr ⟨hid,hh⟩
  ·have:j=t:=by have:=(ap0.1 hh).1;rw [ap8,hgl] at this;simp at this;omega
   subst this
   rw [hgt] at hh
   injection hh with hh
   exact .inl ⟨rfl,hh.symm⟩
 have hold : ∀ j h,j<t->(γ.take t)[j]?=some h->γ[j]?=some h:=fun j h hj hh=>by rwa [List.getElem?_take_of_lt hj] at hh
 have hI:Inv B R (γ.take t++[g]) (L.take t++[.spare n k]) w:=by
  refine ⟨by rw [ap8,ap8,j1.len];rfl,hi.val,fun j y q hy hq=>?_,fun i j gi gj h1 h2 hne b hb'=>?_,fun i q b hq hb'=>?_,hi.bsz⟩
  ·rcases gcase j q hq with ⟨rfl,rfl⟩|⟨hj,hq'⟩
   ·rw [hlk] at hy
    injection hy with hy;subst hy
    match q,hobj with
    | .arr b c,ho=>exact ho
    | .none,ho=>exact ho
   ·rw [aqc (by rw [hlt];exact hj)] at hy
    exact (j1.obj j y q hy hq').mv hmp (fun _ _=>rfl) (fun _ _ _ h=>h)
  ·rcases gcase i gi h1 with ⟨rfl,rfl⟩|⟨hi1,h1'⟩<;>rcases gcase j gj h2 with ⟨rfl,rfl⟩|⟨hj1,h2'⟩
   ·exact absurd rfl hne
   ·exact hi.inj _ j _ gj hg (hold _ _ hj1 h2') (by omega) b hb'
   ·exact hi.inj i _ gi _ (hold _ _ hi1 h1') hg (by omega) b hb'
   ·exact j1.inj i j gi gj h1' h2' hne b hb'
  ·rcases gcase i q hq with ⟨rfl,rfl⟩|⟨hi1,hq'⟩
   ·exact hi.new _ _ b hg hb'
   ·exact j1.new i q b hq' hb'
 refine wp_mono (h (by simp;omega) B R _ w a hI ⟨hT.size,hT.defers,fun s x hx=>?_⟩) fun _ _ _ hh=>hh.ext (Ext.refl _ _ _) hi.len hm
 rcases hT1 _ (tQ hx) with ⟨h1,h2⟩|⟨es,h1,h2⟩
 ·obtain ⟨u,hu,hr⟩:=hT.slot s x h1
  refine ⟨u,hu,?_⟩
  have hc:=AV.cut (R:=R) (γ:=γ) (L:=L.take t) (G:=L.drop t) (by rw [<- hsplit];exact hi.len) (x:=x) (v:=u) (by rw [<- hsplit];exact hr) (by rw [hlt];exact h2)
  rw [hlt] at hc
  exact AV.mv hmp hc
 ·obtain ⟨u,hu,hr⟩:=hT.slot s _ h1
  dsimp only at h2
  subst h2
  refine ⟨u,hu,?_⟩
  obtain ⟨r1,r2,r3⟩:=hr
  refine ⟨r1,by simp;omega,fun n' k' e=>?_⟩
  rw [hlk] at e
  injection e with e
  injection e with e1 e2
  subst e1 e2
  obtain ⟨q1,q2,q3⟩:=r3 _ _ hL
  refine ⟨q1,q2,fun e=>?_⟩
  obtain ⟨g',hg',hl⟩:=q3 e
  rw [hg] at hg'
  injection hg' with hg';subst hg'
  exact ⟨_,hgt,hl⟩
end
def K7 {σ:Type} (O:Nat->σ->Ob) (s:σ):List Ob:=[O 0 s,O 1 s,O 2 s,O 3 s,O 4 s,O 5 s,O 6 s,O 7 s,O 8 s,O 9 s,O 10 s,O 11 s,O 12 s,O 13 s,O 14 s,O 15 s,O 16 s]
theorem jB {σ:Type} {O:Nat->σ->Ob} {s:σ} {n:Nat} (h : ∀ i,i<17->(O i s).below n) : ∀ x∈K7 O s,x.below n:=by
 intro x hx
 unfold K7 at hx
 simp only [aqf,List.not_mem_nil,or_false] at hx
 rcases hx with h1|h1|h1|h1|h1|h1|h1|h1|h1|h1|h1|h1|h1|h1|h1|h1|h1<;>rw [h1]<;>exact h _ (by omega)
open Go.RowKit
end Go.Proofs.YtlcceppoloaecaaGreatDoor
