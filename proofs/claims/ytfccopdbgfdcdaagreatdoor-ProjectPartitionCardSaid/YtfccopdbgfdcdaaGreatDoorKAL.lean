/- Parts of the proof, joined. No condition. -/
import Derived.Test.YtfccopdbgfdcdaaGreatDoorKAK
import Derived.Test.YtfccopdbgfdcdaaGreatDoorKAI
import Derived.Laws.StructEq
import Derived.Test.YtfccopdbgfdcdaaGreatDoorProg
set_option linter.unusedSimpArgs false
set_option linter.unusedVariables false
namespace Go.Proofs.YtfccopdbgfdcdaaGreatDoor
open Go.RowKit Go.MapKept
theorem TIok.flags {P:Program} {ti:TI} (h:TIok P ti) (d s:Bool):TIok P { ti with dyn:=d,soft:=s } := ⟨h.size,h.agg,h.elem,h.field,h.zero,h.bytes,h.kind,h.struct,h.zok,h.eqs⟩
structure Cx where
 P:Program
 ti:TI
 xs:Exts
 row:FuncId→Nat→Bool
 frz:FuncId→Nat→List Nat
 flg:FuncId→Nat→Bool × Bool
 orc:FuncId→List PV→Option CV
 bad:FuncId→Bool
def capBB (n:Nat):Cap→Bool
 | .ptr id _=>Nat.blt id n
 | .c _=>true
def capsBB (n:Nat):List Cap→Bool
 | []=>true
 | x::xs=>capBB n x&&capsBB n xs
def svBB (n:Nat):SV→Bool
 | .own _ t=>Nat.blt t n
 | .ptr id _=>Nat.blt id n
 | .sl id _ _ _=>Nat.blt id n
 | .ep id _ _ _=>Nat.blt id n
 | .mp id=>Nat.blt id n
 | .clo _ caps=>capsBB n caps
 | .c _=>true
 | .emp=>true
def svsBB (n:Nat):List SV→Bool
 | []=>true
 | x::xs=>svBB n x&&svsBB n xs
def rowsBB (n:Nat):List (List SV)→Bool
 | []=>true
 | x::xs=>svsBB n x&&rowsBB n xs
def avBB (n:Nat):AV→Bool
 | .one x=>svBB n x
 | .agg xs=>svsBB n xs
 | .tup _=>true
 | .undef=>true
def avsBB (n:Nat):List AV→Bool
 | []=>true
 | x::xs=>avBB n x&&avsBB n xs
def kvsBB (n:Nat):List (AC × AV)→Bool
 | []=>true
 | x::xs=>avBB n x.2&&kvsBB n xs
def obBB (n:Nat):Ob→Bool
 | .box cs=>svsBB n cs
 | .row _ es _=>rowsBB n es
 | .map kvs=>kvsBB n kvs
 | .spare _ _=>true
 | .dead=>true
def obsBB (n:Nat):List Ob→Bool
 | []=>true
 | x::xs=>obBB n x&&obsBB n xs
theorem capBB_of {n:Nat} {x:Cap} (h:capBB n x=true):x.below n:=by
 cases x with
 | c _=>trivial
 | ptr id _=>exact Nat.le_of_ble_eq_true h
theorem capsBB_of {n:Nat} : ∀ {xs:List Cap}, capsBB n xs=true → ∀ x∈xs,x.below n
 | [],_,x,hx=>by cases hx
 | y::xs,h,x,hx=>by
  rw [capsBB,Bool.and_eq_true] at h
  rcases List.mem_cons.1 hx with rfl|hx
  ·exact capBB_of h.1
  ·exact capsBB_of h.2 x hx
theorem svBB_of {n:Nat} {x:SV} (h:svBB n x=true):x.below n:=by
 cases x with
 | c _=>trivial
 | emp=>trivial
 | own _ t=>exact Nat.le_of_ble_eq_true h
 | ptr id _=>exact Nat.le_of_ble_eq_true h
 | sl id _ _ _=>exact Nat.le_of_ble_eq_true h
 | ep id _ _ _=>exact Nat.le_of_ble_eq_true h
 | mp id=>exact Nat.le_of_ble_eq_true h
 | clo f caps=>exact capsBB_of h
theorem svsBB_of {n:Nat} : ∀ {xs:List SV}, svsBB n xs=true → ∀ x∈xs,x.below n
 | [],_,x,hx=>by cases hx
 | y::xs,h,x,hx=>by
  rw [svsBB,Bool.and_eq_true] at h
  rcases List.mem_cons.1 hx with rfl|hx
  ·exact svBB_of h.1
  ·exact svsBB_of h.2 x hx
theorem rowsBB_of {n:Nat} : ∀ {xs:List (List SV)}, rowsBB n xs=true → ∀ e∈xs, ∀ x∈e,x.below n
 | [],_,x,hx=>by cases hx
 | y::xs,h,x,hx=>by
  rw [rowsBB,Bool.and_eq_true] at h
  rcases List.mem_cons.1 hx with rfl|hx
  ·exact svsBB_of h.1
  ·exact rowsBB_of h.2 x hx
theorem avBB_of {n:Nat} {x:AV} (h:avBB n x=true):x.below n:=by
 cases x with
 | one x=>exact svBB_of h
 | agg xs=>exact svsBB_of h
 | tup _=>trivial
 | undef=>trivial
theorem avsBB_of {n:Nat} : ∀ {xs:List AV}, avsBB n xs=true → ∀ x∈xs,x.below n
 | [],_,x,hx=>by cases hx
 | y::xs,h,x,hx=>by
  rw [avsBB,Bool.and_eq_true] at h
  rcases List.mem_cons.1 hx with rfl|hx
  ·exact avBB_of h.1
  ·exact avsBB_of h.2 x hx
theorem kvsBB_of {n:Nat} : ∀ {xs:List (AC × AV)}, kvsBB n xs=true → ∀ p∈xs,p.2.below n
 | [],_,x,hx=>by cases hx
 | y::xs,h,x,hx=>by
  rw [kvsBB,Bool.and_eq_true] at h
  rcases List.mem_cons.1 hx with rfl|hx
  ·exact avBB_of h.1
  ·exact kvsBB_of h.2 x hx
theorem obBB_of {n:Nat} {x:Ob} (h:obBB n x=true):x.below n:=by
 cases x with
 | box cs=>exact svsBB_of h
 | row _ es _=>exact rowsBB_of h
 | map kvs=>exact kvsBB_of h
 | spare _ _=>trivial
 | dead=>trivial
theorem obsBB_of {n:Nat} : ∀ {xs:List Ob}, obsBB n xs=true → ∀ x∈xs,x.below n
 | [],_,x,hx=>by cases hx
 | y::xs,h,x,hx=>by
  rw [obsBB,Bool.and_eq_true] at h
  rcases List.mem_cons.1 hx with rfl|hx
  ·exact obBB_of h.1
  ·exact obsBB_of h.2 x hx
theorem rid_range {n i:Nat} (h:i<n):rid (List.range n) i=i:=by
 unfold rid
 rw [List.getD_eq_getElem?_getD,List.getElem?_range h];rfl
theorem Cap.ren_range {n:Nat} {x:Cap} (h:x.below n):x.ren (List.range n)=x:=by
 cases x with
 | c _=>rfl
 | ptr id off=>show Cap.ptr (rid _ id) off=_;rw [rid_range h]
theorem map_same {α:Type} {f:α→α} : ∀ {l:List α}, (∀ x∈l,f x=x)→l.map f=l
 | [],_=>rfl
 | x::l,h=>by rw [List.map_cons,h x (List.mem_cons_self ..),map_same fun y hy=>h y (List.mem_cons_of_mem _ hy)]
theorem SV.ren_range {n:Nat} {x:SV} (h:x.below n):x.ren (List.range n)=x:=by
 cases x with
 | c _=>rfl
 | emp=>rfl
 | own es t=>show SV.own es (rid _ t)=_;rw [rid_range h]
 | ptr id off=>show SV.ptr (rid _ id) off=_;rw [rid_range h]
 | sl id v l m=>show SV.sl (rid _ id) v l m=_;rw [rid_range h]
 | ep id v i o=>show SV.ep (rid _ id) v i o=_;rw [rid_range h]
 | mp id=>show SV.mp (rid _ id)=_;rw [rid_range h]
 | clo f caps=>show SV.clo f (caps.map _)=_;rw [map_same fun x hx=>Cap.ren_range (h x hx)]
theorem AV.ren_range {n:Nat} {x:AV} (h:x.below n):x.ren (List.range n)=x:=by
 cases x with
 | one x=>show AV.one (x.ren _)=_;rw [SV.ren_range h]
 | agg xs=>show AV.agg (xs.map _)=_;rw [map_same fun x hx=>SV.ren_range (h x hx)]
 | tup _=>rfl
 | undef=>rfl
theorem Ob.ren_range {n:Nat} {x:Ob} (h:x.below n):x.ren (List.range n)=x:=by
 cases x with
 | box cs=>show Ob.box (cs.map _)=_;rw [map_same fun x hx=>SV.ren_range (h x hx)]
 | row v es k=>show Ob.row v (es.map (List.map _)) k=_;rw [map_same fun e he=>map_same fun x hx=>SV.ren_range (h e he x hx)]
 | map kvs=>show Ob.map (kvs.map fun p=>(p.1,p.2.ren (List.range n)))=_;rw [map_same (f:=fun p:AC × AV=>(p.1,p.2.ren (List.range n))) fun p hp=>by show (p.1,p.2.ren _)=p;rw [AV.ren_range (h p hp)]]
 | spare _ _=>rfl
 | dead=>rfl
theorem outIds_range {n m:Nat} (h:n≤m):outIds (List.range n) n m=List.range m:=by
 unfold outIds newIds
 rw [List.length_range, ← List.range_add,Nat.add_sub_cancel' h]
theorem joinL_range {L L1:List Ob} (h:L.length≤L1.length) (hb : ∀ x∈L1,x.below L1.length):joinL (List.range L.length) L L1=L1:=by
 unfold joinL join
 rw [outIds_range h,map_same fun x hx=>Ob.ren_range (hb x hx),List.length_range]
 have:setAll L (List.range L.length) L1=L1.take L.length:=by
  apply List.ext_getElem?
  intro i
  by_cases hi:i<L.length
  ·rw [setAll_at _ L L1 i i List.nodup_range (fun k hk=>List.mem_range.1 hk) (List.getElem?_range hi) (by omega),List.getElem?_take,if_pos hi]
  ·rw [List.getElem?_eq_none (by rw [setAll_length];omega),List.getElem?_eq_none (by rw [List.length_take];omega)]
 rw [this,List.take_append_drop]
structure RunAll (P:Program) (g:FuncId) (L:List Ob) (asx:List AV) (L1:List Ob) (r:AV):Prop where
 run:Run P g L asx L1 r
 obb : ∀ x∈L,x.below L.length
 argb : ∀ x∈asx,x.below L.length
 le:L.length≤L1.length
 ob1 : ∀ x∈L1,x.below L1.length
 val:r.below L1.length
theorem RunAll.fits {P:Program} {g:FuncId} {L:List Ob} {asx:List AV} {L1:List Ob} {r:AV} (h:RunAll P g L asx L1 r):RunFits (List.range L.length) L asx L:=by
 refine ⟨List.length_range,List.nodup_range,fun i x hx=>?_,h.obb,h.argb⟩
 have hi:i<L.length:=(List.getElem?_eq_some_iff.1 hx).1
 rw [rid_range hi,hx,Ob.ren_range (h.obb x (List.mem_of_getElem? hx))]
abbrev CP:=FuncId→List PV→Option CV
abbrev CR:=FuncId→List Ob→List AV→Option (List Ob × AV)
def calleeOf:Op→Option (Operand × List Operand)
 | .call { callee := .value f,args, .. } => some (f,args.toList)
 | _=>none
def evCall (ti:TI) (cp:CP) (cr:CR) (ρ:Operand→Option AV) (L:List Ob) (f:Operand) (args:List Operand):Option (AV × List Ob) :=
 match ρ f with
 | some (.one (.c (.fn g cs)))=>match ti.owns g with
  | false=>match normArgs ρ args with
   | some ps=>match cp g (ps++cs.map .one) with
    | some r=>some (r.av,L)
    | none=>none
   | none=>none
  | true=>match callR ti f,avs ρ args with
   | true,some vs=>match cr g L (vs++cs.map fun x => .one (.c x)) with
    | some (L1,r)=>some (r,L1)
    | none=>none
   | _,_=>none
 | some (.one (.clo g caps))=>match callR ti f,avs ρ args with
  | true,some vs=>match cr g L (vs++caps.map Cap.av) with
   | some (L1,r)=>some (r,L1)
   | none=>none
  | _,_=>none
 | _=>none
def sopG (P:Program) (ti:TI) (xs:Exts) (rowB:Bool) (ρ:Operand→Option AV) (L:List Ob) (op:Op):Option (AV × List Ob) :=
 match lKind ti op&&(!ti.soft||(Nat.beq (sk op) 0||Nat.beq (sk op) 4)) with
 | true=>evSop P ti xs rowB ρ L op
 | false=>none
def evOp (cx:Cx) (ti:TI) (cp:CP) (cr:CR) (rowB:Bool) (ρ:Operand→Option AV) (L:List Ob) (op:Op):Option (AV × List Ob) :=
 match evPop ti ρ L op with
 | some v=>some (v,L)
 | none=>match calleeOf op with
  | some (f,args)=>match evCall ti cp cr ρ L f args with
   | some r=>some r
   | none=>sopG cx.P ti cx.xs rowB ρ L op
  | none=>match (match rowB with|true=>none|false=>litB ti ρ op) with
   | some v=>some (v,L)
   | none=>match rowB with
    | true=>match sopG cx.P ti cx.xs rowB ρ L op with
     | some r=>some r
     | none=>match litB ti ρ op with
      | some v=>some (v,L)
      | none=>lopB ti ρ L op
    | false=>match lopB ti ρ L op with
     | some r=>some r
     | none=>sopG cx.P ti cx.xs rowB ρ L op
theorem evSop_look {P:Program} {ti:TI} {xs:Exts} {rowB:Bool} {ρ:Operand→Option AV} {L L':List Ob} {op:Op} {v:AV} (hk:sk op=4) (h:evSop P ti xs rowB ρ L op=some (v,L')):L'=L:=by
 unfold evSop at h
 split at h
 all_goals first|(exfalso;cases hk;done)|skip
 all_goals repeat' (first|(cases h;done)|(cases h;rfl)|(obtain ⟨e,_⟩:=ck_some h;cases e;rfl)|split at h)
theorem callee_of {op:Op} {f:Operand} {args:List Operand} (h:calleeOf op=some (f,args)) : ∃ asx ts,op = .call { callee := .value f,args:=asx,argTypes:=ts } ∧ args=asx.toList:=by
 unfold calleeOf at h
 split at h
 ·cases h;exact ⟨_,_,rfl,rfl⟩
 ·cases h
theorem sopG_ok {P:Program} {ti:TI} {xs:Exts} {rowB:Bool} {ρ:Operand→Option AV} {L L':List Ob} {op:Op} {v:AV} {K:AV→List Ob→Prop} (hti:TIok P ti) (hne:ExtsOK P xs) (h:sopG P ti xs rowB ρ L op=some (v,L')) (hK:K v L'):awOp P ti ρ L K op:=by
 unfold sopG at h
 split at h
 ·rename_i h1
  rw [Bool.and_eq_true] at h1
  refine .inr (.inr (.inr (.inr (.inr (.inr (.inr ⟨v,L',⟨h1.1,fun hs=>?_⟩,evSop_ok hti hne h,hK⟩))))))
  have h2:=h1.2
  rw [hs,Bool.not_true,Bool.false_or,Bool.or_eq_true] at h2
  rcases h2 with h2|h2
  ·exact .inl (Nat.eq_of_beq_eq_true h2)
  ·exact .inr ⟨Nat.eq_of_beq_eq_true h2,evSop_look (Nat.eq_of_beq_eq_true h2) h⟩
 ·cases h
theorem runAll_op {P:Program} {ti:TI} {ρ:Operand→Option AV} {L L1:List Ob} {op:Op} {g:FuncId} {asx:List AV} {r:AV} {K:AV→List Ob→Prop} (hp:callOpR ti ρ op=some (g,asx)) (h:RunAll P g L asx L1 r) (hK:K r L1):awOp P ti ρ L K op:=by
 refine .inr (.inr (.inr (.inr (.inr (.inr (.inl ⟨List.range L.length,g,L,asx,L1,r,?_,h.fits,h.run,?_⟩))))))
 ·rw [hp,map_same fun x hx=>AV.ren_range (h.argb x hx)]
 ·rw [outIds_range h.le,AV.ren_range h.val,joinL_range h.le h.ob1];exact hK
theorem evOp_ok {cx:Cx} {ti:TI} {cp:CP} {cr:CR} {rowB:Bool} {ρ:Operand→Option AV} {L L':List Ob} {op:Op} {v:AV} {K:AV→List Ob→Prop} (hti:TIok cx.P ti) (hne:ExtsOK cx.P cx.xs)
  (hcp : ∀ g ps r,cp g ps=some r→Pure cx.P g ps r) (hcr : ∀ g L asx L1 r,cr g L asx=some (L1,r)→RunAll cx.P g L asx L1 r)
  (h:evOp cx ti cp cr rowB ρ L op=some (v,L')) (hK:K v L'):awOp cx.P ti ρ L K op:=by
 unfold evOp at h
 split at h
 ·rename_i v' h1
  cases h
  obtain ⟨φ,h2,h3⟩:=evPop_ok h1
  exact .inl ⟨_,φ,h2,h3,hK⟩
 ·split at h
  ·rename_i f args hc
   obtain ⟨asx,ts,rfl,rfl⟩:=callee_of hc
   split at h
   ·rename_i r h1
    cases h
    unfold evCall at h1
    split at h1
    ·rename_i g cs hf
     split at h1
     ·split at h1
      ·rename_i ps hps
       split at h1
       ·rename_i r hr
        cases h1
        exact .inr (.inr (.inr (.inl ⟨g,_,r,by simp only [callOp,hf,hps,Option.map_some],hcp _ _ _ hr,hK⟩)))
       ·cases h1
      ·cases h1
     ·split at h1
      ·rename_i vs hR hvs
       split at h1
       ·rename_i L1 r hr
        cases h1
        exact runAll_op (by simp only [callOpR,hf,hvs,hR]) (hcr _ _ _ _ _ hr) hK
       ·cases h1
      ·cases h1
    ·rename_i g caps hf
     split at h1
     ·rename_i vs hR hvs
      split at h1
      ·rename_i L1 r hr
       cases h1
       exact runAll_op (by simp only [callOpR,hf,hvs,hR]) (hcr _ _ _ _ _ hr) hK
      ·cases h1
     ·cases h1
    ·cases h1
   ·exact sopG_ok hti hne h hK
  ·split at h
   ·rename_i v' h1
    cases h
    cases rowB with
    | true=>cases h1
    | false =>
     obtain ⟨φ,h2,h3⟩:=litB_ok h1
     exact .inr (.inl ⟨_,φ,h2,h3,hK⟩)
   ·split at h
    ·split at h
     ·rename_i r h1
      cases h
      exact sopG_ok hti hne h1 hK
     ·split at h
      ·rename_i v' h1
       cases h
       obtain ⟨φ,h2,h3⟩:=litB_ok h1
       exact .inr (.inl ⟨_,φ,h2,h3,hK⟩)
      ·obtain ⟨φ,h2,h3⟩:=lopB_ok h
       exact .inr (.inr (.inl ⟨_,_,φ,h2,h3,hK⟩))
    ·split at h
     ·rename_i r h1
      cases h
      obtain ⟨φ,h2,h3⟩:=lopB_ok h1
      exact .inr (.inr (.inl ⟨_,_,φ,h2,h3,hK⟩))
     ·exact sopG_ok hti hne h hK
def rowOf (cx:Cx) (f:FuncId):Option Tmp→Bool
 | some d=>cx.row f d
 | none=>false
def dOKb (N:Nat):Option Tmp→Bool
 | some d=>Nat.blt d N
 | none=>true
theorem dOKb_of {N:Nat} {d:Option Tmp} (h:dOKb N d=true):dOK N d:=by
 cases d with
 | none=>trivial
 | some d=>exact Nat.le_of_ble_eq_true h
def evOps (cx:Cx) (ti:TI) (cp:CP) (cr:CR) (f:FuncId) (N:Nat) (ds:List (Option Tmp)):List Oper→Tm→List Ob→Option (Tm × List Ob)
 | [],T,L=>some (T,L)
 | o::rest,T,L=>match dOKb N o.dst,gdv ds T o.guard with
  | true,some true=>match evOp cx ti cp cr (rowOf cx f o.dst) (look T) L o.op with
   | some (v,L')=>evOps cx ti cp cr f N ds rest (putT T o.dst v) L'
   | none=>none
  | true,some false=>evOps cx ti cp cr f N ds rest (putT T o.dst .undef) L
  | _,_=>none
theorem evOps_ok {cx:Cx} {ti:TI} {cp:CP} {cr:CR} {f:FuncId} {N:Nat} {ds:List (Option Tmp)} (hti:TIok cx.P ti) (hne:ExtsOK cx.P cx.xs)
  (hcp : ∀ g ps r,cp g ps=some r→Pure cx.P g ps r) (hcr : ∀ g L asx L1 r,cr g L asx=some (L1,r)→RunAll cx.P g L asx L1 r) {K:Tm→List Ob→Prop} :
  ∀ {l:List Oper} {T T':Tm} {L L':List Ob}, evOps cx ti cp cr f N ds l T L=some (T',L')→K T' L'→awOps cx.P ti N ds K l T L
 | [],T,T',L,L',h,hK=>by cases h;exact hK
 | o::rest,T,T',L,L',h,hK=>by
  unfold evOps at h
  split at h
  ·rename_i hd hg
   split at h
   ·rename_i v L1 h1
    exact ⟨dOKb_of hd,gd_true hg (evOp_ok hti hne hcp hcr h1 (evOps_ok hti hne hcp hcr h hK))⟩
   ·cases h
  ·rename_i hd hg
   exact ⟨dOKb_of hd,gd_false hg (evOps_ok hti hne hcp hcr h hK)⟩
  ·cases h
def idsC:List Cap→List Nat
 | []=>[]
 | .ptr id _::l=>id::idsC l
 | .c _::l=>idsC l
def idsS:SV→List Nat
 | .ptr id _=>[id]
 | .sl id _ _ _=>[id]
 | .clo _ caps=>idsC caps
 | _=>[]
def idsSs:List SV→List Nat
 | []=>[]
 | x::l=>idsS x++idsSs l
def idsA:AV→List Nat
 | .one x=>idsS x
 | .agg xs=>idsSs xs
 | _=>[]
def frzId (T:Tm) (L:List Ob) (id:Nat):Tm × List Ob :=
 match L[id]? with
 | some (.row ver es _)=>match normR es with
  | some cs=>(T.map (fun p=>(p.1,thA id ver cs p.2)),L.set id .dead)
  | none=>(T,L)
 | some (.box cs)=>match normL cs with
  | some ts=>(T.map (fun p=>(p.1,unA id ts p.2)),L.set id .dead)
  | none=>(T,L)
 | _=>(T,L)
def frzIds:List Nat→Tm→List Ob→Tm × List Ob
 | [],T,L=>(T,L)
 | id::l,T,L=>match frzId T L id with
  | (T',L')=>frzIds l T' L'
def frz1 (T:Tm) (L:List Ob) (t:Nat):Tm × List Ob :=
 match T.lookup t with
 | some v=>frzIds (idsA v) T L
 | none=>(T,L)
def frzL:List Nat→Tm→List Ob→Option (Tm × List Ob)
 | [],T,L=>some (T,L)
 | t::ts,T,L=>match frz1 T L t with
  | (T',L')=>frzL ts T' L'
section
variable {P:Program} {N n0:Nat} {Q:AX→Tm→List Ob→Prop} {c:Code}
theorem frzId_ok {T:Tm} {L:List Ob} {id:Nat} (k:Aw P N n0 c Q (frzId T L id).1 (frzId T L id).2):Aw P N n0 c Q T L:=by
 unfold frzId at k
 split at k
 ·rename_i hL
  split at k
  ·rename_i hn;exact aw_freezeRow _ hL hn k
  ·exact k
 ·rename_i hL
  split at k
  ·rename_i hn;exact aw_freezeBox _ hL hn k
  ·exact k
 ·exact k
theorem frzIds_ok : ∀ {l:List Nat} {T:Tm} {L:List Ob}, Aw P N n0 c Q (frzIds l T L).1 (frzIds l T L).2→Aw P N n0 c Q T L
 | [],_,_,k=>k
 | id::l,T,L,k=>frzId_ok (frzIds_ok (l:=l) k)
theorem frzL_ok : ∀ {ts:List Nat} {T T':Tm} {L L':List Ob}, frzL ts T L=some (T',L')→Aw P N n0 c Q T' L'→Aw P N n0 c Q T L
 | [],_,_,_,_,h,k=>by cases h;exact k
 | t::ts,T,T',L,L',h,k=>by
  unfold frzL at h
  have h2:=frzL_ok (ts:=ts) h k
  unfold frz1 at h2
  split at h2
  ·exact frzIds_ok h2
  ·exact h2
end
def clean (N:Nat) (T:Tm):Tm:=(List.range N).filterMap fun t=>(T.lookup t).map fun x=>(t,x)
theorem clean_sub {N:Nat} {T:Tm} {t:Nat} {x:AV} (h:(clean N T).lookup t=some x):T.lookup t=some x:=by
 have h1:=lookup_mem h
 unfold clean at h1
 rw [List.mem_filterMap] at h1
 obtain ⟨i,_,h2⟩:=h1
 obtain ⟨y,h3,h4⟩:=map_some h2
 cases h4
 exact h3
def loopE (body:Tm→List Ob→Option (AX × Tm × List Ob)) (N:Nat):Nat→Tm→List Ob→Option (AX × Tm × List Ob)
 | 0,_,_=>none
 | n+1,T,L=>match body (clean N T) L with
  | some (.normal,T',L')=>loopE body N n T' L'
  | r=>r
def tiOf (cx:Cx) (f:FuncId) (id:Nat):Bool→TI
 | false => { cx.ti with dyn:=true,soft:=false }
 | true => { cx.ti with dyn:=(cx.flg f id).1,soft:=(cx.flg f id).2 }
def evC (cx:Cx) (cp:CP) (cr:CR) (f:FuncId) (N:Nat) (rs:List Nat):Code→Tm→List Ob→Option (AX × Tm × List Ob)
 | .skip,T,L=>some (.normal,T,L)
 | .label _,T,L=>some (.normal,T,L)
 | .ret,T,L=>match frzL rs T L with
  | some (T',L')=>some (.ret,T',L')
  | none=>none
 | .exit id,T,L=>some (.exit id,T,L)
 | .seq x y,T,L=>match evC cx cp cr f N rs x T L with
  | some (.normal,T',L')=>evC cx cp cr f N rs y T' L'
  | r=>r
 | .cond c x y,T,L=>match look T c with
  | some (.one (.c (.bool b)))=>match b with
   | true=>evC cx cp cr f N rs x T L
   | false=>evC cx cp cr f N rs y T L
  | _=>none
 | .block id c,T,L=>match evC cx cp cr f N rs c T L with
  | some (.exit j,T',L')=>match decide (j=id) with
   | true=>some (.normal,T',L')
   | false=>some (.exit j,T',L')
  | r=>r
 | .region id ops d,T,L=>match frzL (cx.frz f id) T L with
  | some (T1,L1)=>match evOps cx (tiOf cx f id d) cp cr f N (ops.toList.map (·.dst)) ops.toList T1 L1 with
   | some (T2,L2)=>some (.normal,T2,L2)
   | none=>none
  | none=>none
 | .loop c,T,L=>loopE (evC cx cp cr f N rs c) N 1048576 T L
 | _,_,_=>none
def codeOK (cx:Cx) (f:FuncId):Code→Bool
 | .seq x y=>codeOK cx f x&&codeOK cx f y
 | .cond _ x y=>codeOK cx f x&&codeOK cx f y
 | .block _ c=>codeOK cx f c
 | .loop c=>codeOK cx f c
 | .region id ops true=>drawOK2 (tiOf cx f id true) ops.toList
 | _=>true
structure CxOK (cx:Cx):Prop where
 ti:TIok cx.P cx.ti
 ne:ExtsOK cx.P cx.xs
 mix:cx.P.follows .mixedOrders=true
 name : ∀ (f : FuncId) fn, cx.P.funcs[f]? = some fn → (fn.name == "runtime.NumGoroutine") = false
 code : ∀ (f:FuncId) fn c,cx.P.funcs[f]?=some fn→fn.body=some c→cx.bad f=false→codeOK cx f c=true
 orc : ∀ g ps r,cx.orc g ps=some r→Pure cx.P g ps r
def codesB (cx:Cx):List Func→Nat→Bool
 | [],_=>true
 | fn::fs,i=>(match fn.body with
  | some c=>cx.bad i||codeOK cx i c
  | none=>true)&&codesB cx fs (i+1)
theorem codesB_of {cx:Cx} : ∀ {fs:List Func} {i:Nat}, codesB cx fs i=true → ∀ (j:Nat) fn c,fs[j]?=some fn→fn.body=some c→cx.bad (i+j)=false→codeOK cx (i+j) c=true
 | [],i,h,j,fn,c,hj,_,_=>by simp at hj
 | f0::fs,i,h,0,fn,c,hj,hb,hbad=>by
  rw [codesB,Bool.and_eq_true] at h
  simp at hj;subst hj
  have h1:=h.1
  rw [hb] at h1
  rw [Nat.add_zero] at hbad ⊢
  simp only [hbad,Bool.false_or] at h1
  exact h1
 | f0::fs,i,h,j+1,fn,c,hj,hb,hbad=>by
  rw [codesB,Bool.and_eq_true] at h
  have:=codesB_of h.2 j fn c (by simpa using hj) hb (by rwa [show i+1+j=i+(j+1) by omega])
  rwa [show i+1+j=i+(j+1) by omega] at this
def namesB:List Func→Bool
 | []=>true
 | fn :: fs => !(fn.name == "runtime.NumGoroutine") && namesB fs
theorem namesB_of : ∀ {fs : List Func}, namesB fs = true → ∀ (j : Nat) fn, fs[j]? = some fn → (fn.name == "runtime.NumGoroutine") = false
 | [],h,j,fn,hj=>by simp at hj
 | f0::fs,h,0,fn,hj=>by
  rw [namesB,Bool.and_eq_true] at h
  simp at hj;subst hj
  simpa using h.1
 | f0::fs,h,j+1,fn,hj=>by
  rw [namesB,Bool.and_eq_true] at h
  exact namesB_of h.2 j fn (by simpa using hj)
theorem CxOK.of {cx:Cx} (ti:TIok cx.P cx.ti) (ne:ExtsOK cx.P cx.xs) (mix:cx.P.follows .mixedOrders=true) (name:namesB cx.P.funcs.toList=true) (code:codesB cx cx.P.funcs.toList 0=true) (orc : ∀ g ps r,cx.orc g ps=some r→Pure cx.P g ps r):CxOK cx :=
 ⟨ti,ne,mix,fun f fn h=>namesB_of name f fn (by simpa using h),fun f fn c h hb hbad=>by have:=codesB_of code f fn c (by simpa using h) hb (by rwa [Nat.zero_add]);rwa [Nat.zero_add] at this,orc⟩
theorem tiOf_ok {cx:Cx} (h:CxOK cx) (f:FuncId) (id:Nat) (d:Bool):TIok cx.P (tiOf cx f id d):=by
 cases d
 ·exact h.ti.flags _ _
 ·exact h.ti.flags _ _
section
variable {cx:Cx} {cp:CP} {cr:CR} {f:FuncId} {N n0:Nat} {rs:List Nat}
def AtE (x:AX) (T':Tm) (L':List Ob):AX→Tm→List Ob→Prop:=fun y S M=>y=x∧S=T'∧M=L'
theorem loopE_ok {c:Code} {body:Tm→List Ob→Option (AX × Tm × List Ob)} (hb : ∀ T L x T' L',body T L=some (x,T',L')→Aw cx.P N n0 c (AtE x T' L') T L) :
  ∀ {n:Nat} {T:Tm} {L:List Ob} {x:AX} {T':Tm} {L':List Ob}, loopE body N n T L=some (x,T',L')→Aw cx.P N n0 (.loop c) (AtE x T' L') T L:=by
 intro n0' T L x T' L' h
 intro hn B R0 γ0 w0 a0 hi hT
 have key : ∀ n T L0 R γ a w,n0≤L0.length→loopE body N n T L0=some (x,T',L')→Inv B R γ L0 w→TRep N R γ L0 T a→Ext B R0 R w0 w→MvN n0 R0 R γ0 γ L L0→Code.rounds cx.P c (AwPost N n0 B (AtE x T' L') R0 w0 γ0 L) n a w:=by
  intro n
  induction n with
  | zero=>intro T L0 R γ a w _ hl;cases hl
  | succ n ih =>
   intro T L0 R γ a w hlo hl hI ht he hmv
   rw [rounds_succ]
   unfold loopE at hl
   have htc:TRep N R γ L0 (clean N T) a:=⟨ht.size,ht.defers,fun t x hx=>ht.slot t x (clean_sub hx)⟩
   split at hl
   ·rename_i T1 L1 hb1
    refine wp_mono (hb _ _ _ _ _ hb1 hlo B R γ w a hI htc) ?_
    rintro e a1 w1 ⟨y,T2,L2,R1,γ2,rfl,⟨rfl,rfl,rfl⟩,j1,k1,e1,m1⟩
    exact ih _ _ R1 _ a1 w1 m1.lo' hl j1 k1 (he.trans e1) (hmv.trans hi.len m1)
   ·rename_i hne
    refine wp_mono (hb _ _ _ _ _ hl hlo B R γ w a hI htc) ?_
    rintro e a1 w1 ⟨y,T2,L2,R1,γ2,rfl,⟨rfl,rfl,rfl⟩,j1,k1,e1,m1⟩
    cases y with
    | normal=>exact absurd hl (hne _ _)
    | exit id=>exact ⟨.exit id,_,_,R1,γ2,rfl,⟨rfl,rfl,rfl⟩,j1,k1,he.trans e1,hmv.trans hi.len m1⟩
    | ret=>exact ⟨.ret,_,_,R1,γ2,rfl,⟨rfl,rfl,rfl⟩,j1,k1,he.trans e1,hmv.trans hi.len m1⟩
 exact wp_loop_rounds n0' (key n0' T L R0 γ0 a0 w0 hn h hi hT (Ext.refl _ _ _) (MvN.of hn Mv.refl))
theorem evC_ok (hx:CxOK cx) (hcp : ∀ g ps r,cp g ps=some r→Pure cx.P g ps r) (hcr : ∀ g L asx L1 r,cr g L asx=some (L1,r)→RunAll cx.P g L asx L1 r) :
  ∀ {c:Code} {T:Tm} {L:List Ob} {x:AX} {T':Tm} {L':List Ob}, codeOK cx f c=true→evC cx cp cr f N rs c T L=some (x,T',L')→Aw cx.P N n0 c (AtE x T' L') T L:=by
 intro c
 induction c with
 | skip=>intro T L x T' L' _ h;cases h;exact aw_skip ⟨rfl,rfl,rfl⟩
 | label l=>intro T L x T' L' _ h;cases h;exact aw_label ⟨rfl,rfl,rfl⟩
 | ret =>
  intro T L x T' L' _ h
  unfold evC at h
  split at h
  ·rename_i h1
   cases h
   exact frzL_ok h1 (aw_ret ⟨rfl,rfl,rfl⟩)
  ·cases h
 | exit id=>intro T L x T' L' _ h;cases h;exact aw_exit ⟨rfl,rfl,rfl⟩
 | seq a b iha ihb =>
  intro T L x T' L' hc h
  rw [codeOK,Bool.and_eq_true] at hc
  unfold evC at h
  refine aw_seq ?_
  split at h
  ·rename_i T1 L1 h1
   refine Aw.mono (iha hc.1 h1) ?_
   rintro y S M ⟨rfl,rfl,rfl⟩
   exact ihb hc.2 h
  ·rename_i hne
   refine Aw.mono (iha hc.1 h) ?_
   rintro y S M ⟨rfl,rfl,rfl⟩
   cases y with
   | normal=>exact absurd h (hne _ _)
   | exit id=>exact ⟨rfl,rfl,rfl⟩
   | ret=>exact ⟨rfl,rfl,rfl⟩
 | cond c a b iha ihb =>
  intro T L x T' L' hc h
  rw [codeOK,Bool.and_eq_true] at hc
  unfold evC at h
  split at h
  ·rename_i b' hl
   refine aw_cond hl (fun e=>?_) (fun e=>?_)
   ·subst e;exact iha hc.1 h
   ·subst e;exact ihb hc.2 h
  ·cases h
 | block id c ih =>
  intro T L x T' L' hc h
  unfold evC at h
  refine aw_block ?_
  split at h
  ·rename_i j T1 L1 h1
   refine Aw.mono (ih hc h1) ?_
   rintro y S M ⟨rfl,rfl,rfl⟩
   show if j=id then _ else _
   split at h
   ·rename_i e;rw [if_pos (of_decide_eq_true e)];cases h;exact ⟨rfl,rfl,rfl⟩
   ·rename_i e;rw [if_neg (of_decide_eq_false e)];cases h;exact ⟨rfl,rfl,rfl⟩
  ·rename_i hne
   refine Aw.mono (ih hc h) ?_
   rintro y S M ⟨rfl,rfl,rfl⟩
   cases y with
   | normal=>exact ⟨rfl,rfl,rfl⟩
   | exit id=>exact absurd h (hne _ _ _)
   | ret=>exact ⟨rfl,rfl,rfl⟩
 | region id ops d =>
  intro T L x T' L' hc h
  unfold evC at h
  split at h
  ·rename_i T1 L1 h1
   refine frzL_ok h1 ?_
   split at h
   ·rename_i T2 L2 h2
    cases h
    have hr:ops=ops.toList.toArray:=rfl
    rw [hr]
    cases d with
    | false=>exact aw_region (tiOf_ok hx f id false) _ rfl (evOps_ok (tiOf_ok hx f id false) hx.ne hcp hcr h2 ⟨rfl,rfl,rfl⟩)
    | true=>exact aw_drawn2 (tiOf_ok hx f id true) _ rfl hx.mix hc (evOps_ok (tiOf_ok hx f id true) hx.ne hcp hcr h2 ⟨rfl,rfl,rfl⟩)
   ·cases h
  ·cases h
 | loop c ih =>
  intro T L x T' L' hc h
  unfold evC at h
  exact loopE_ok (fun T L x T' L' hb=>ih hc hb) h
 | _=>intro T L x T' L' _ h;unfold evC at h;cases h
end
def resOneB (ti:TI) (T:Tm) (L:List Ob):ResultVar→Option PV
 | .tmp t=>(T.lookup t).bind AV.norm
 | .cell a t=>match T.lookup a with
  | some (.one (.ptr id off))=>match loadB ti L t (.one (.ptr id off)) with
   | some v=>v.norm
   | none=>none
  | _=>none
def resAllB (ti:TI) (T:Tm) (L:List Ob):List ResultVar→Option (List PV)
 | []=>some []
 | r::rs=>match resOneB ti T L r,resAllB ti T L rs with
  | some p,some ps=>some (p::ps)
  | _,_=>none
theorem resOneB_ok {ti:TI} {T:Tm} {L:List Ob} {r:ResultVar} {p:PV} (h:resOneB ti T L r=some p):Yes (resOne ti T L r) p:=by
 unfold resOneB at h
 split at h
 ·rename_i t
  exact ⟨True,by show (Option.map _ _)=_;rw [h];rfl,trivial⟩
 ·unfold resOne
  dsimp only
  split at h
  ·rename_i h1
   rw [h1]
   dsimp only
   split at h
   ·rename_i v h2
    obtain ⟨φ,h3,h4⟩:=loadB_ok h2
    rw [h3]
    exact ⟨φ,by dsimp only;rw [h];rfl,h4⟩
   ·cases h
  ·cases h
theorem resAllB_ok {ti:TI} {T:Tm} {L:List Ob} : ∀ {rs:List ResultVar} {ps:List PV}, resAllB ti T L rs=some ps→Yes (resAll ti T L rs) ps
 | [],ps,h=>by cases h;exact ⟨_,rfl,trivial⟩
 | r::rs,ps,h=>by
  unfold resAllB at h
  split at h
  ·rename_i h1 h2
   cases h
   obtain ⟨φ,h3,h4⟩:=resOneB_ok h1
   obtain ⟨ψ,h5,h6⟩:=resAllB_ok h2
   exact ⟨φ∧ψ,by unfold resAll;rw [h3,h5],h4,h6⟩
  ·cases h
def resSlots:List ResultVar→List Nat
 | []=>[]
 | .tmp t::rs=>t::resSlots rs
 | .cell _ _::rs=>resSlots rs
def isEnd:AX→Bool
 | .exit _=>false
 | _=>true
theorem isEnd_of {x:AX} (h:isEnd x=true):x = .normal∨x = .ret:=by
 cases x with
 | normal=>exact .inl rfl
 | ret=>exact .inr rfl
 | exit _=>cases h
def pureB (cx:Cx) (cp:CP) (cr:CR):CP:=fun g ps =>
 match cx.orc g ps with
 | some r=>some r
 | none=>match cx.P.funcs[g]? with
  | some fn=>match fn.body,cx.bad g,Nat.ble ps.length fn.ntmps with
   | some c,false,true=>match evC cx cp cr g fn.ntmps (resSlots fn.results.toList) c (argT 0 ps) [] with
    | some (x,T,L)=>match isEnd x,resAllB cx.ti T L fn.results.toList with
     | true,some rs=>some (cvOf rs)
     | _,_=>none
    | none=>none
   | _,_,_=>none
  | none=>none
def runVal (ti:TI) (T:Tm) (L:List Ob):List ResultVar→Option AV
 | [.tmp t]=>T.lookup t
 | rs=>match resAllB ti T L rs with
  | some ps=>some (cvOf ps).av
  | none=>none
theorem runVal_ok {ti:TI} {T:Tm} {L:List Ob} {rs:List ResultVar} {r:AV} (h:runVal ti T L rs=some r):RunVal ti rs T L r:=by
 unfold runVal at h
 split at h
 ·exact .inl ⟨_,rfl,h⟩
 ·split at h
  ·rename_i ps h1
   cases h
   obtain ⟨φ,h2,h3⟩:=resAllB_ok h1
   exact .inr ⟨cvOf ps,res_of h2 h3 rfl,rfl⟩
  ·cases h
def runB (cx:Cx) (cp:CP) (cr:CR):CR:=fun g L asx =>
 match cx.P.funcs[g]? with
 | some fn=>match fn.body,cx.bad g,Nat.ble asx.length fn.ntmps,(obsBB L.length L&&avsBB L.length asx) with
  | some c,false,true,true=>match evC cx cp cr g fn.ntmps [] c (argA 0 asx) L with
   | some (x,T,L1)=>match isEnd x,runVal cx.ti T L1 fn.results.toList,Nat.ble L.length L1.length with
    | true,some r,true=>match avBB L.length r&&obsBB L.length (L1.take L.length) with
     | true=>some (L1.take L.length,r)
     | false=>match avBB L1.length r&&obsBB L1.length L1 with
      | true=>some (L1,r)
      | false=>none
    | _,_,_=>none
   | none=>none
  | _,_,_,_=>none
 | none=>none
theorem pureB_ok {cx:Cx} {cp:CP} {cr:CR} (hx:CxOK cx) (hcp : ∀ g ps r,cp g ps=some r→Pure cx.P g ps r) (hcr : ∀ g L asx L1 r,cr g L asx=some (L1,r)→RunAll cx.P g L asx L1 r)
  {g:FuncId} {ps:List PV} {r:CV} (h:pureB cx cp cr g ps=some r):Pure cx.P g ps r:=by
 unfold pureB at h
 split at h
 ·rename_i r' h1
  cases h
  exact hx.orc _ _ _ h1
 ·split at h
  ·rename_i fn hf
   split at h
   ·rename_i c hb hbad hle
    split at h
    ·rename_i x T L he
     split at h
     ·rename_i rs hend hres
      cases h
      obtain ⟨φ,h2,h3⟩:=resAllB_ok hres
      refine pa_ hx.ti hf hb (hx.name _ _ hf) rfl (Nat.le_of_ble_eq_true hle) ?_
      refine Aw.mono (evC_ok hx hcp hcr (hx.code _ _ _ hf hb hbad) he) ?_
      rintro y S M ⟨rfl,rfl,rfl⟩
      exact ⟨isEnd_of hend,res_of h2 h3 rfl⟩
     ·cases h
    ·cases h
   ·cases h
  ·cases h
theorem runB_ok {cx:Cx} {cp:CP} {cr:CR} (hx:CxOK cx) (hcp : ∀ g ps r,cp g ps=some r→Pure cx.P g ps r) (hcr : ∀ g L asx L1 r,cr g L asx=some (L1,r)→RunAll cx.P g L asx L1 r)
  {g:FuncId} {L:List Ob} {asx:List AV} {L1:List Ob} {r:AV} (h:runB cx cp cr g L asx=some (L1,r)):RunAll cx.P g L asx L1 r:=by
 unfold runB at h
 split at h
 ·rename_i fn hf
  split at h
  ·rename_i c hb hbad hle hbel
   rw [Bool.and_eq_true] at hbel
   split at h
   ·rename_i x T L2 he
    split at h
    ·rename_i r' hend hval hlen
     have hlen:=Nat.le_of_ble_eq_true hlen
     have main : ∀ m,L.length≤m→m≤L2.length→(∀ x∈L2.take m,x.below m)→r'.below m→RunAll cx.P g L asx (L2.take m) r':=by
      intro m hm1 hm2 hob hr
      have hl:(L2.take m).length=m:=by rw [List.length_take];omega
      refine ⟨?_,obsBB_of hbel.1,avsBB_of hbel.2,by omega,by rw [hl];exact hob,by rw [hl];exact hr⟩
      refine run_of_aw hx.ti hf hb (hx.name _ _ hf) rfl (Nat.le_of_ble_eq_true hle) ?_
      refine Aw.mono (evC_ok hx hcp hcr (hx.code _ _ _ hf hb hbad) he) ?_
      rintro y S M ⟨rfl,rfl,rfl⟩
      exact ⟨isEnd_of hend,⟨runVal_ok hval,⟨_,(List.take_append_drop m _).symm⟩,by rw [hl];exact hm1,by rw [hl];exact hob,by rw [hl];exact hr⟩⟩
     split at h
     ·rename_i hc
      rw [Bool.and_eq_true] at hc
      cases h
      exact main _ (Nat.le_refl _) hlen (obsBB_of hc.2) (avBB_of hc.1)
     ·split at h
      ·rename_i hc
       rw [Bool.and_eq_true] at hc
       cases h
       have:=main _ hlen (Nat.le_refl _) (by rw [List.take_length];exact obsBB_of hc.2) (avBB_of hc.1)
       rw [List.take_length] at this
       exact this
      ·cases h
    ·cases h
   ·cases h
  ·cases h
 ·cases h
def evF (cx:Cx):Nat→CP × CR
 | 0=>(fun _ _=>none,fun _ _ _=>none)
 | n+1=>(pureB cx (evF cx n).1 (evF cx n).2,runB cx (evF cx n).1 (evF cx n).2)
theorem evF_ok {cx:Cx} (hx:CxOK cx) : ∀ n,(∀ g ps r,(evF cx n).1 g ps=some r→Pure cx.P g ps r)∧(∀ g L asx L1 r,(evF cx n).2 g L asx=some (L1,r)→RunAll cx.P g L asx L1 r)
 | 0=>⟨fun g ps r h=>(by cases h),fun g L asx L1 r h=>(by cases h)⟩
 | n+1=>⟨fun g ps r h=>pureB_ok hx (evF_ok hx n).1 (evF_ok hx n).2 h,fun g L asx L1 r h=>runB_ok hx (evF_ok hx n).1 (evF_ok hx n).2 h⟩
theorem part_one0 {P:Program} {w:World} {t:TypeId} {d:TypeDesc} (ht:P.underlying t=some d) (hd:(match d with | .struct _=>true | .array _ _=>true|_=>false)=false) {xs:Array Value} {i:Nat} {v:Value} (hx:xs[i]?=some v):(part t xs i).run P w = .ok v w:=by
 cases d<;>first|(cases hd;done)|simp [part,isAgg,run_underlying ht,hx]
def scOf:TypeDesc→Option Sc
 | .int k=>some (.int k)
 | .bool=>some .bool
 | .string=>some .str
 | _=>none
def scIs (s:Sc):Option TypeDesc→Bool
 | some d=>match scOf d with
  | some s'=>decide (s'=s)
  | none=>false
 | none=>false
def ScEq (d:Option TypeDesc):Sc→Prop
 | .int k=>d=some (.int k)
 | .bool=>d=some .bool
 | .str=>d=some .string
theorem scIs_of {s:Sc} {d:Option TypeDesc} (h:scIs s d=true):ScEq d s:=by
 unfold scIs at h
 cases d with
 | none=>cases h
 | some d =>
  dsimp only at h
  cases hs:scOf d with
  | none=>rw [hs] at h;cases h
  | some s' =>
   rw [hs] at h
   obtain rfl:s'=s:=of_decide_eq_true h
   unfold scOf at hs
   split at hs<;>first|(cases hs;rfl)|(cases hs;done)
def flatB (P:Program):List Field→List Sc→Nat→Bool
 | [],[],_=>true
 | f :: fs, s :: sh, i => (!(f.name == "_")) && (Nat.beq f.offset i && (scIs s (P.underlying f.type) && flatB P fs sh (i + 1)))
 | _,_,_=>false
theorem scals_cons {x:SV} {xs:List SV} {vs:List Value} (h:scals (x::xs)=some vs) : ∃ c v r,x = .c c∧scal c=some v∧scals xs=some r∧vs=v::r:=by
 unfold scals at h
 split at h
 ·rename_i e;cases e
 ·rename_i y ys e
  cases e
  split at h
  ·rename_i v r h1 h2;cases h;exact ⟨_,v,r,rfl,h1,h2,rfl⟩
  ·cases h
 ·cases h
theorem eqFields_flat {P:Program} {w:World} (d:Nat) {A B:Array Value} : ∀ (fs:List Field) (sh:List Sc) (i:Nat) (xs ys:List SV) (vs us:List Value),flatB P fs sh i=true→fitsS sh xs=true→fitsS sh ys=true→scals xs=some vs→scals ys=some us →
  (∀ (j:Nat) v,vs[j]?=some v→A[i+j]?=some v)→(∀ (j:Nat) v,us[j]?=some v→B[i+j]?=some v)→(Op.eqFields (d+1) A B fs).run P w = .ok (sameS xs ys) w:=by
 intro fs
 induction fs with
 | nil =>
  intro sh i xs ys vs us hf hx hy _ _ _ _
  cases sh with
  | nil =>
   cases xs with
   | nil=>cases ys with
    | nil=>rfl
    | cons _ _=>cases hy
   | cons _ _=>cases hx
  | cons _ _=>cases hf
 | cons f fs ih =>
  intro sh i xs ys vs us hf hx hy hv hu hA hB
  cases sh with
  | nil=>cases hf
  | cons s sh =>
   rw [flatB,Bool.and_eq_true,Bool.and_eq_true,Bool.and_eq_true] at hf
   obtain ⟨h1,h2,h3,h4⟩:=hf
   have h2:=Nat.eq_of_beq_eq_true h2
   have h1 : f.name ≠ "_" := by simpa using h1
   have h3:=scIs_of h3
   cases xs with
   | nil=>cases s<;>cases hx
   | cons x xs =>
    cases ys with
    | nil=>cases s<;>cases hy
    | cons y ys =>
     obtain ⟨cx,v,vr,rfl,hv1,hv2,rfl⟩:=scals_cons hv
     obtain ⟨cy,u,ur,rfl,hu1,hu2,rfl⟩:=scals_cons hu
     have a0:=hA 0 v rfl
     have b0:=hB 0 u rfl
     rw [Nat.add_zero] at a0 b0
     have rest : ∀ (hx':fitsS sh xs=true) (hy':fitsS sh ys=true),(Op.eqFields (d+1) A B fs).run P w = .ok (sameS xs ys) w:=fun hx' hy' =>
      ih sh (i+1) xs ys vr ur h4 hx' hy' hv2 hu2 (fun j v hj=>by have:=hA (j+1) v (by simpa using hj);rwa [show i+1+j=i+(j+1) by omega]) (fun j v hj=>by have:=hB (j+1) v (by simpa using hj);rwa [show i+1+j=i+(j+1) by omega])
     cases s with
     | int k =>
      unfold ScEq at h3
      cases cx<;>first|(cases hx;done)|skip
      cases cy<;>first|(cases hy;done)|skip
      rename_i k1 a k2 b
      simp only [fitsS,Bool.and_eq_true,decide_eq_true_eq] at hx hy
      obtain ⟨rfl,hx'⟩:=hx
      obtain ⟨rfl,hy'⟩:=hy
      cases hv1;cases hu1
      have p1:=part_one0 (P:=P) (w:=w) h3 rfl a0
      have p2:=part_one0 (P:=P) (w:=w) h3 rfl b0
      simp only [Op.eqFields,h1,h2,ne_eq,not_false_eq_true,if_true,Sem.run_bind,p1,p2,Result.andThen_ok,run_equalIn_int (P:=P) w d _ k k a b h3,Sem.run_ite,Sem.run_pure,rest hx' hy']
      cases e:(a==b)
      ·have:a≠b:=by simpa using e
       simp [sameS,this]
      ·have:a=b:=by simpa using e
       simp [sameS,this]
     | bool =>
      unfold ScEq at h3
      cases cx<;>first|(cases hx;done)|skip
      cases cy<;>first|(cases hy;done)|skip
      rename_i a b
      simp only [fitsS] at hx hy
      cases hv1;cases hu1
      have p1:=part_one0 (P:=P) (w:=w) h3 rfl a0
      have p2:=part_one0 (P:=P) (w:=w) h3 rfl b0
      simp only [Op.eqFields,h1,h2,ne_eq,not_false_eq_true,if_true,Sem.run_bind,p1,p2,Result.andThen_ok,run_equalIn_bool (P:=P) w d _ a b h3,Sem.run_ite,Sem.run_pure,rest hx hy]
      cases e:(a==b)<;>simp [sameS,e]
     | str =>
      unfold ScEq at h3
      cases cx<;>first|(cases hx;done)|skip
      cases cy<;>first|(cases hy;done)|skip
      rename_i a b
      simp only [fitsS] at hx hy
      cases hv1;cases hu1
      have p1:=part_one0 (P:=P) (w:=w) h3 rfl a0
      have p2:=part_one0 (P:=P) (w:=w) h3 rfl b0
      simp only [Op.eqFields,h1,h2,ne_eq,not_false_eq_true,if_true,Sem.run_bind,p1,p2,Result.andThen_ok,run_equalIn_string (P:=P) w d _ a b h3,Sem.run_ite,Sem.run_pure,rest hx hy]
      cases e:(a.toList==b.toList)<;>simp [sameS,e]
def eqTypeB (P:Program) (t:TypeId) (sh:List Sc):Bool :=
 (match P.underlying t with
 | some (.struct fs)=>flatB P fs.toList sh 0
 | _=>false)&&(!P.stoodInHeld t && !P.eqGuardType P.depth t)
theorem eqType_ok {P:Program} {t:TypeId} {sh:List Sc} (h:eqTypeB P t sh=true):P.eqGuardType P.depth t=false ∧ ∀ xs ys,fitsS sh xs=true→fitsS sh ys=true→EqRuns P t xs ys:=by
 rw [eqTypeB,Bool.and_eq_true,Bool.and_eq_true] at h
 obtain ⟨h1,h2,h3⟩:=h
 refine ⟨by simpa using h3,fun xs ys hx hy vs us hv hu w=>?_⟩
 split at h1
 ·rename_i fs ht
  have hfs:P.fieldsOf t=fs:=by unfold Program.fieldsOf;rw [ht]
  have hm:Op.equal t (.agg vs.toArray) (.agg us.toArray)=Op.equalIn (9999+1) t (.agg vs.toArray) (.agg us.toArray):=rfl
  rw [hm,run_equalIn_struct w 9999 t _ _ (by rw [hfs];exact ht) (by simpa using h2),hfs]
  exact eqFields_flat 9998 _ sh 0 xs ys vs us h1 hx hy hv hu (fun j v hj=>by simpa using hj) (fun j v hj=>by simpa using hj)
 ·cases h1
open Go.RowKit
def zeL:List (Nat × AV):=[(2, .one (.c (.int .i64 0))),(3, .one (.c (.int .i64 0))),(4, .one (.c (.bool false))),(5, .one (.c (.int .u8 0))),(9, .one (.c (.str ⟨#[]⟩))),(22, .one (.emp)),(23, .one (.emp)),(25, .agg [.emp, .emp]),(27, .agg [.c (.int .i64 0), .c (.int .i64 0), .c (.str ⟨#[]⟩)]),(28, .one (.emp)),(30, .agg [.c (.int .i64 0), .c (.int .i64 0), .c (.int .i64 0), .c (.int .i64 0), .c (.str ⟨#[]⟩), .c (.str ⟨#[]⟩), .emp]),(41, .agg [.c (.int .i64 0), .c (.int .i64 0)]),(43, .agg [.c (.int .i64 0), .c (.int .i64 0)]),(50, .one (.emp)),(52, .agg [.emp, .emp]),(63, .one (.c (.int .i64 0))),(70, .one (.emp)),(72, .agg [.emp, .c (.int .i64 0), .c (.int .i64 0)]),(78, .one (.c (.nul .func))),(89, .one (.emp)),(92, .one (.emp)),(94, .agg [.emp, .emp]),(95, .one (.emp)),(99, .one (.c (.nul .func))),(114, .one (.c (.nul .func))),(124, .one (.c (.nul .func))),(138, .one (.emp)),(141, .agg [.emp, .emp]),(142, .one (.emp)),(144, .agg [.c (.int .i64 0), .c (.int .i64 0)]),(148, .agg [.c (.int .i64 0), .c (.int .i64 0)]),(151, .one (.c (.nul .func))),(152, .one (.emp)),(154, .agg [.c (.int .i64 0), .c (.int .i64 0), .c (.int .i64 0)]),(156, .one (.emp)),(168, .one (.c (.nul .map))),(171, .one (.c (.nul .func))),(174, .one (.c (.int .u64 0))),(176, .one (.c (.nul .func))),(183, .one (.c (.nul .ptr))),(184, .one (.emp)),(186, .agg [.c (.nul .ptr), .emp]),(197, .one (.c (.int .i64 0))),(204, .one (.c (.int .u32 0))),(206, .one (.c (.int .u64 0))),(209, .agg [.c (.int .i64 0), .c (.bool false)]),(210, .one (.c (.nul .ptr))),(213, .one (.c (.int .u64 0))),(217, .one (.c (.nul .ptr))),(224, .one (.c (.nul .ptr)))]
def kiL:List (Nat × TypeDesc):=[(2, .int .i64),(3, .int .i64),(4, .bool),(5, .int .u8),(9, .string),(22, .slice 3),(23, .slice 72),(28, .slice 30),(50, .slice 70),(63, .int .i64),(70, .slice 27),(89, .slice 94),(92, .slice 148),(95, .slice 43),(138, .slice 141),(142, .slice 144),(152, .slice 154),(156, .slice 209),(168, .map 9 3),(174, .int .u64),(183, .pointer 186),(184, .slice 5),(197, .int .i64),(204, .int .u32),(206, .int .u64),(210, .pointer 5),(213, .int .u64),(217, .pointer 3),(224, .unsafePointer)]
def eqL:List (Nat × List Sc):=[(27,[.int .i64, .int .i64, .str]),(41,[.int .i64, .int .i64]),(43,[.int .i64, .int .i64]),(144,[.int .i64, .int .i64]),(148,[.int .i64, .int .i64]),(209,[.int .i64, .bool])]
def tab:TI:=TI.of [(2,1),(3,1),(4,1),(5,1),(9,1),(22,1),(23,1),(25,2),(27,3),(28,1),(30,7),(41,2),(43,2),(50,1),(52,2),(63,1),(70,1),(72,3),(78,1),(89,1),(92,1),(94,2),(95,1),(99,1),(114,1),(124,1),(138,1),(141,2),(142,1),(144,2),(148,2),(151,1),(152,1),(154,3),(156,1),(168,1),(171,1),(174,1),(176,1),(183,1),(184,1),(186,2),(197,1),(204,1),(206,1),(209,2),(210,1),(213,1),(217,1),(224,1)] [(2,false),(3,false),(4,false),(5,false),(9,false),(22,false),(23,false),(25,true),(27,true),(28,false),(30,true),(41,true),(43,true),(50,false),(52,true),(63,false),(70,false),(72,true),(78,false),(89,false),(92,false),(94,true),(95,false),(99,false),(114,false),(124,false),(138,false),(141,true),(142,false),(144,true),(148,true),(151,false),(152,false),(154,true),(156,false),(168,false),(171,false),(174,false),(176,false),(183,false),(184,false),(186,true),(197,false),(204,false),(206,false),(209,true),(210,false),(213,false),(217,false),(224,false)] [(22,3),(23,72),(28,30),(50,70),(70,27),(89,94),(92,148),(95,43),(138,141),(142,144),(152,154),(156,209),(184,5)] [(25,[(0,22),(1,23)]),(27,[(0,3),(1,3),(2,9)]),(30,[(0,3),(1,3),(2,27),(5,9),(6,28)]),(41,[(0,3),(1,3)]),(43,[(0,3),(1,3)]),(52,[(0,22),(1,50)]),(72,[(0,70),(1,43)]),(94,[(0,70),(1,92)]),(141,[(0,70),(1,95)]),(144,[(0,3),(1,3)]),(148,[(0,3),(1,3)]),(154,[(0,43),(2,3)]),(186,[(0,183),(1,184)]),(209,[(0,3),(1,4)])] zeL [(2,8),(3,8),(4,1),(5,1),(9,16),(22,24),(23,24),(25,48),(27,32),(28,24),(30,88),(41,16),(43,16),(50,24),(52,48),(63,8),(70,24),(72,40),(78,8),(89,24),(92,24),(94,48),(95,24),(99,8),(114,8),(124,8),(138,24),(141,48),(142,24),(144,16),(148,16),(151,8),(152,24),(154,24),(156,24),(168,8),(171,8),(174,8),(176,8),(183,8),(184,24),(186,32),(197,8),(204,4),(206,8),(209,16),(210,8),(213,8),(217,8),(224,8)] kiL [25,27,30,41,43,52,72,94,141,144,148,154,186,209] [2,3,4,5,9,22,23,25,27,28,30,41,43,50,52,63,70,72,78,89,92,94,95,99,114,124,138,141,142,144,148,151,152,154,156,168,171,174,176,183,184,186,197,204,206,209,210,213,217,224] eqL [0]
set_option maxRecDepth 100000 in
theorem tab_ok:TIok Tryz.prog tab:=by
 refine TI.of_ok (by kernel_rfl) (by kernel_rfl) (by kernel_rfl) (by kernel_rfl) ?_ (by kernel_rfl) ?_ (by kernel_rfl) (by kernel_rfl) ?_
 ·intro p hp
  simp only [zeL,List.mem_cons,List.not_mem_nil,or_false] at hp
  rcases hp with rfl|rfl|rfl|rfl|rfl|rfl|rfl|rfl|rfl|rfl|rfl|rfl|rfl|rfl|rfl|rfl|rfl|rfl|rfl|rfl|rfl|rfl|rfl|rfl|rfl|rfl|rfl|rfl|rfl|rfl|rfl|rfl|rfl|rfl|rfl|rfl|rfl|rfl|rfl|rfl|rfl|rfl|rfl|rfl|rfl|rfl|rfl|rfl|rfl|rfl<;>kernel_rfl
 ·intro p hp
  simp only [kiL,List.mem_cons,List.not_mem_nil,or_false] at hp
  rcases hp with rfl|rfl|rfl|rfl|rfl|rfl|rfl|rfl|rfl|rfl|rfl|rfl|rfl|rfl|rfl|rfl|rfl|rfl|rfl|rfl|rfl|rfl|rfl|rfl|rfl|rfl|rfl|rfl|rfl<;>kernel_rfl
 ·intro p hp
  simp only [eqL,List.mem_cons,List.not_mem_nil,or_false] at hp
  rcases hp with rfl|rfl|rfl|rfl|rfl|rfl<;>exact eqType_ok (by kernel_rfl)
def tabS:TI := { tab with soft:=true }
theorem tabS_ok:TIok Tryz.prog tabS:=⟨tab_ok.size,tab_ok.agg,tab_ok.elem,tab_ok.field,tab_ok.zero,tab_ok.bytes,tab_ok.kind,tab_ok.struct,tab_ok.zok,tab_ok.eqs⟩
theorem mx_:Tryz.prog.follows .mixedOrders=true:=by kernel_rfl
def ownL (f:FuncId):Bool:=Nat.beq f 186||Nat.beq f 188||Nat.beq f 190||Nat.beq f 191||Nat.beq f 206||Nat.beq f 224||Nat.beq f 223||Nat.beq f 125||Nat.beq f 179||Nat.beq f 171||Nat.beq f 192||Nat.beq f 138||Nat.beq f 177||Nat.beq f 212||Nat.beq f 208||Nat.beq f 209||Nat.beq f 226||Nat.beq f 235||Nat.beq f 174||Nat.beq f 194||Nat.beq f 195||Nat.beq f 196||Nat.beq f 197||Nat.beq f 198||Nat.beq f 199||Nat.beq f 200||Nat.beq f 201||Nat.beq f 210||Nat.beq f 213||Nat.beq f 214||Nat.beq f 204||Nat.beq f 215||Nat.beq f 216||Nat.beq f 217||Nat.beq f 218||Nat.beq f 219||Nat.beq f 220||Nat.beq f 221||Nat.beq f 222||Nat.beq f 228||Nat.beq f 229||Nat.beq f 230
def rowL (f:FuncId) (d:Nat):Bool:=Nat.beq f 49||Nat.beq f 142||Nat.beq f 170||Nat.beq f 188||Nat.beq f 190||(Nat.beq f 136&&Nat.beq d 41)||(Nat.beq f 136&&Nat.beq d 42)
def frzT (f:FuncId) (id:Nat):List Nat :=
 if (Nat.beq f 16&&Nat.beq id 1)=true then [3] else
 if (Nat.beq f 21&&Nat.beq id 1)=true then [3] else
 if (Nat.beq f 23&&Nat.beq id 1)=true then [4,5] else
 if (Nat.beq f 36&&Nat.beq id 1)=true then [3] else
 if (Nat.beq f 49&&Nat.beq id 18)=true then [5] else
 []
def flgT (f:FuncId) (id:Nat):Bool × Bool :=
 (false,true)
def badL (f:FuncId):Bool:=Nat.beq f 129
def tabX:TI := { tab with owns:=ownL }
theorem tabX_ok:TIok Tryz.prog tabX:=⟨tab_ok.size,tab_ok.agg,tab_ok.elem,tab_ok.field,tab_ok.zero,tab_ok.bytes,tab_ok.kind,tab_ok.struct,tab_ok.zok,tab_ok.eqs⟩
def orcT:FuncId→List PV→Option CV:=fun _ _=>none
noncomputable def cx:Cx := { P:=Tryz.prog,ti:=tabX,xs:=⟨224,223⟩,row:=rowL,frz:=frzT,flg:=flgT,orc:=orcT,bad:=badL }
theorem ne_ok:NoEsc Tryz.prog 224:=⟨_,Tryz.func224,by kernel_rfl,by kernel_rfl,by kernel_rfl,by kernel_rfl⟩
theorem cs_ok:CmpS Tryz.prog 223:=⟨_,Tryz.func223,by kernel_rfl,by kernel_rfl,by kernel_rfl,by kernel_rfl⟩
theorem names_ok:namesB Tryz.prog.funcs.toList=true:=by kernel_rfl
theorem codes_ok:codesB cx Tryz.prog.funcs.toList 0=true:=by kernel_rfl
theorem cx_ok:CxOK cx:=CxOK.of tabX_ok ⟨ne_ok,cs_ok⟩ mx_ names_ok codes_ok (fun g ps r h=>by cases h)
structure Val where
 kind:Int
 int:Int
 text:ByteArray
def cV (x:Val):List AC:=[.int .i64 x.kind, .int .i64 x.int, .str x.text]
structure Per where
 lo:Int
 hi:Int
def cPer (x:Per):List AC:=[.int .i64 x.lo, .int .i64 x.hi]
structure Fct where
 row:(List Val)
 valid:Per
def cFct (x:Fct):List AC:=[.lst (x.row.map cV), .int .i64 x.valid.lo, .int .i64 x.valid.hi]
structure Rln where
 kinds:(List Int)
 facts:(List Fct)
def cRln (x:Rln):List AC:=[.lst (x.kinds.map (fun x=>[AC.int .i64 x])), .lst (x.facts.map cFct)]
inductive Ex where
 | mk (op:Int) (int:Int) (v:Val) (nm:ByteArray) (args:(List Ex))
mutual
def tE:Ex→List AC
 | .mk op int v nm args=>[.int .i64 op, .int .i64 int, .int .i64 v.kind, .int .i64 v.int, .str v.text, .str nm, .lst (tEs args)]
def tEs:List Ex→List (List AC)
 | []=>[]
 | e::l=>tE e::tEs l
end
theorem tEs_map : ∀ (l:List Ex),tEs l=l.map tE
 | []=>by simp [tEs]
 | e::l=>by simp [tEs,tEs_map l]
def Ex.op:Ex→Int | .mk a _ _ _ _=>a
def Ex.int:Ex→Int | .mk _ a _ _ _=>a
def Ex.v:Ex→Val | .mk _ _ a _ _=>a
def Ex.nm:Ex→ByteArray | .mk _ _ _ a _=>a
def Ex.args:Ex→(List Ex) | .mk _ _ _ _ a=>a
theorem tE_eq (e:Ex):tE e=[.int .i64 e.op, .int .i64 e.int, .int .i64 e.v.kind, .int .i64 e.v.int, .str e.v.text, .str e.nm, .lst (e.args.map tE)]:=by
 obtain ⟨_,_,_,_,_⟩:=e
 rw [tE,tEs_map];rfl
theorem tE_len (e:Ex):(tE e).length=7:=by rw [tE_eq];rfl
structure Stp where
 lo:Int
 n:Int
def cStp (x:Stp):List AC:=[.int .i64 x.lo, .int .i64 x.n]
structure SGroup where
 row:(List Val)
 steps:(List Stp)
def cSGroup (x:SGroup):List AC:=[.lst (x.row.map cV), .lst (x.steps.map cStp)]
structure SGroupcoalesce where
 row:(List Val)
 periods:(List Per)
def cSGroupcoalesce (x:SGroupcoalesce):List AC:=[.lst (x.row.map cV), .lst (x.periods.map cPer)]
structure Cnt where
 period:Per
 n:Int
def cCnt (x:Cnt):List AC:=[.int .i64 x.period.lo, .int .i64 x.period.hi, .int .i64 x.n]
structure Ord where
 column:Int
 desc:Bool
def cOrd (x:Ord):List AC:=[.int .i64 x.column, .bool x.desc]
end Go.Proofs.YtfccopdbgfdcdaaGreatDoor
