/- Parts of the proof, joined. No condition. -/
import Derived.Test.YtngehibfdjdejaaGreatDoorKAG
import Derived.Test.YtngehibfdjdejaaGreatDoorKAF
import Derived.Laws.StructEq
import Derived.Test.YtngehibfdjdejaaGreatDoorProg
import Derived.RangeFuncRecord
import Derived.LoopNIn
set_option linter.unusedSimpArgs false
set_option linter.unusedVariables false
namespace Go.Proofs.YtngehibfdjdejaaGreatDoor
open Go.RowKit Go.MapKept
theorem TIok.flags {P:Program} {ti:TI} (h:TIok P ti) (d s:Bool):TIok P { ti with dyn:=d,soft:=s } := ⟨h.size,h.agg,h.elem,h.field,h.zero,h.bytes,h.kind,h.struct,h.zok,h.eqs⟩
structure Cx where
 P:Program
 ti:TI
 xs:Exts
 row:FuncId→Nat→Bool
 frz:FuncId→Nat→List Nat
 flg:FuncId→Nat→Bool × Bool
 orc:FuncId→List PV→Option CV
 bad:FuncId→Bool
 fz:FuncId→Nat→List Nat:=fun _ _=>[]
def capBB (n:Nat):Cap→Bool
 | .ptr id _=>Nat.blt id n
 | .c _=>true
def capsBB (n:Nat):List Cap→Bool
 | []=>true
 | x::xs=>capBB n x&&capsBB n xs
def svBB (n:Nat):SV→Bool
 | .own _ t=>Nat.blt t n
 | .ptr id _=>Nat.blt id n
 | .sl id _ _ _=>Nat.blt id n
 | .ep id _ _ _=>Nat.blt id n
 | .mp id=>Nat.blt id n
 | .clo _ caps=>capsBB n caps
 | .c _=>true
 | .emp=>true
def svsBB (n:Nat):List SV→Bool
 | []=>true
 | x::xs=>svBB n x&&svsBB n xs
def rowsBB (n:Nat):List (List SV)→Bool
 | []=>true
 | x::xs=>svsBB n x&&rowsBB n xs
def avBB (n:Nat):AV→Bool
 | .one x=>svBB n x
 | .agg xs=>svsBB n xs
 | .tup _=>true
 | .tupS xs=>svsBB n xs
 | .undef=>true
def avsBB (n:Nat):List AV→Bool
 | []=>true
 | x::xs=>avBB n x&&avsBB n xs
def kvsBB (n:Nat):List (AC × AV)→Bool
 | []=>true
 | x::xs=>avBB n x.2&&kvsBB n xs
def obBB (n:Nat):Ob→Bool
 | .box cs=>svsBB n cs
 | .row _ es _=>rowsBB n es
 | .map kvs=>kvsBB n kvs
 | .spare _ _=>true
 | .dead=>true
def obsBB (n:Nat):List Ob→Bool
 | []=>true
 | x::xs=>obBB n x&&obsBB n xs
theorem capBB_of {n:Nat} {x:Cap} (h:capBB n x=true):x.below n:=by
 cases x with
 | c _=>trivial
 | ptr id _=>exact Nat.le_of_ble_eq_true h
theorem capsBB_of {n:Nat} : ∀ {xs:List Cap}, capsBB n xs=true → ∀ x∈xs,x.below n
 | [],_,x,hx=>by cases hx
 | y::xs,h,x,hx=>by
  rw [capsBB,Bool.and_eq_true] at h
  rcases List.mem_cons.1 hx with rfl|hx
  ·exact capBB_of h.1
  ·exact capsBB_of h.2 x hx
theorem svBB_of {n:Nat} {x:SV} (h:svBB n x=true):x.below n:=by
 cases x with
 | c _=>trivial
 | emp=>trivial
 | own _ t=>exact Nat.le_of_ble_eq_true h
 | ptr id _=>exact Nat.le_of_ble_eq_true h
 | sl id _ _ _=>exact Nat.le_of_ble_eq_true h
 | ep id _ _ _=>exact Nat.le_of_ble_eq_true h
 | mp id=>exact Nat.le_of_ble_eq_true h
 | clo f caps=>exact capsBB_of h
theorem svsBB_of {n:Nat} : ∀ {xs:List SV}, svsBB n xs=true → ∀ x∈xs,x.below n
 | [],_,x,hx=>by cases hx
 | y::xs,h,x,hx=>by
  rw [svsBB,Bool.and_eq_true] at h
  rcases List.mem_cons.1 hx with rfl|hx
  ·exact svBB_of h.1
  ·exact svsBB_of h.2 x hx
theorem rowsBB_of {n:Nat} : ∀ {xs:List (List SV)}, rowsBB n xs=true → ∀ e∈xs, ∀ x∈e,x.below n
 | [],_,x,hx=>by cases hx
 | y::xs,h,x,hx=>by
  rw [rowsBB,Bool.and_eq_true] at h
  rcases List.mem_cons.1 hx with rfl|hx
  ·exact svsBB_of h.1
  ·exact rowsBB_of h.2 x hx
theorem avBB_of {n:Nat} {x:AV} (h:avBB n x=true):x.below n:=by
 cases x with
 | one x=>exact svBB_of h
 | agg xs=>exact svsBB_of h
 | tup _=>trivial
 | tupS xs=>exact svsBB_of h
 | undef=>trivial
theorem avsBB_of {n:Nat} : ∀ {xs:List AV}, avsBB n xs=true → ∀ x∈xs,x.below n
 | [],_,x,hx=>by cases hx
 | y::xs,h,x,hx=>by
  rw [avsBB,Bool.and_eq_true] at h
  rcases List.mem_cons.1 hx with rfl|hx
  ·exact avBB_of h.1
  ·exact avsBB_of h.2 x hx
theorem kvsBB_of {n:Nat} : ∀ {xs:List (AC × AV)}, kvsBB n xs=true → ∀ p∈xs,p.2.below n
 | [],_,x,hx=>by cases hx
 | y::xs,h,x,hx=>by
  rw [kvsBB,Bool.and_eq_true] at h
  rcases List.mem_cons.1 hx with rfl|hx
  ·exact avBB_of h.1
  ·exact kvsBB_of h.2 x hx
theorem obBB_of {n:Nat} {x:Ob} (h:obBB n x=true):x.below n:=by
 cases x with
 | box cs=>exact svsBB_of h
 | row _ es _=>exact rowsBB_of h
 | map kvs=>exact kvsBB_of h
 | spare _ _=>trivial
 | dead=>trivial
theorem obsBB_of {n:Nat} : ∀ {xs:List Ob}, obsBB n xs=true → ∀ x∈xs,x.below n
 | [],_,x,hx=>by cases hx
 | y::xs,h,x,hx=>by
  rw [obsBB,Bool.and_eq_true] at h
  rcases List.mem_cons.1 hx with rfl|hx
  ·exact obBB_of h.1
  ·exact obsBB_of h.2 x hx
theorem rid_range {n i:Nat} (h:i<n):rid (List.range n) i=i:=by
 unfold rid
 rw [List.getD_eq_getElem?_getD,List.getElem?_range h];rfl
theorem Cap.ren_range {n:Nat} {x:Cap} (h:x.below n):x.ren (List.range n)=x:=by
 cases x with
 | c _=>rfl
 | ptr id off=>show Cap.ptr (rid _ id) off=_;rw [rid_range h]
theorem map_same {α:Type} {f:α→α} : ∀ {l:List α}, (∀ x∈l,f x=x)→l.map f=l
 | [],_=>rfl
 | x::l,h=>by rw [List.map_cons,h x (List.mem_cons_self ..),map_same fun y hy=>h y (List.mem_cons_of_mem _ hy)]
theorem SV.ren_range {n:Nat} {x:SV} (h:x.below n):x.ren (List.range n)=x:=by
 cases x with
 | c _=>rfl
 | emp=>rfl
 | own es t=>show SV.own es (rid _ t)=_;rw [rid_range h]
 | ptr id off=>show SV.ptr (rid _ id) off=_;rw [rid_range h]
 | sl id v l m=>show SV.sl (rid _ id) v l m=_;rw [rid_range h]
 | ep id v i o=>show SV.ep (rid _ id) v i o=_;rw [rid_range h]
 | mp id=>show SV.mp (rid _ id)=_;rw [rid_range h]
 | clo f caps=>show SV.clo f (caps.map _)=_;rw [map_same fun x hx=>Cap.ren_range (h x hx)]
theorem AV.ren_range {n:Nat} {x:AV} (h:x.below n):x.ren (List.range n)=x:=by
 cases x with
 | one x=>show AV.one (x.ren _)=_;rw [SV.ren_range h]
 | agg xs=>show AV.agg (xs.map _)=_;rw [map_same fun x hx=>SV.ren_range (h x hx)]
 | tup _=>rfl
 | tupS xs=>show AV.tupS (xs.map _)=_;rw [map_same fun x hx=>SV.ren_range (h x hx)]
 | undef=>rfl
theorem Ob.ren_range {n:Nat} {x:Ob} (h:x.below n):x.ren (List.range n)=x:=by
 cases x with
 | box cs=>show Ob.box (cs.map _)=_;rw [map_same fun x hx=>SV.ren_range (h x hx)]
 | row v es k=>show Ob.row v (es.map (List.map _)) k=_;rw [map_same fun e he=>map_same fun x hx=>SV.ren_range (h e he x hx)]
 | map kvs=>show Ob.map (kvs.map fun p=>(p.1,p.2.ren (List.range n)))=_;rw [map_same (f:=fun p:AC × AV=>(p.1,p.2.ren (List.range n))) fun p hp=>by show (p.1,p.2.ren _)=p;rw [AV.ren_range (h p hp)]]
 | spare _ _=>rfl
 | dead=>rfl
theorem outIds_range {n m:Nat} (h:n≤m):outIds (List.range n) n m=List.range m:=by
 unfold outIds newIds
 rw [List.length_range, ← List.range_add,Nat.add_sub_cancel' h]
theorem joinL_range {L L1:List Ob} (h:L.length≤L1.length) (hb : ∀ x∈L1,x.below L1.length):joinL (List.range L.length) L L1=L1:=by
 unfold joinL join
 rw [outIds_range h,map_same fun x hx=>Ob.ren_range (hb x hx),List.length_range]
 have:setAll L (List.range L.length) L1=L1.take L.length:=by
  apply List.ext_getElem?
  intro i
  by_cases hi:i<L.length
  ·rw [setAll_at _ L L1 i i List.nodup_range (fun k hk=>List.mem_range.1 hk) (List.getElem?_range hi) (by omega),List.getElem?_take,if_pos hi]
  ·rw [List.getElem?_eq_none (by rw [setAll_length];omega),List.getElem?_eq_none (by rw [List.length_take];omega)]
 rw [this,List.take_append_drop]
structure RunAll (P:Program) (g:FuncId) (L:List Ob) (asx:List AV) (L1:List Ob) (r:AV):Prop where
 run:Run P g L asx L1 r
 obb : ∀ x∈L,x.below L.length
 argb : ∀ x∈asx,x.below L.length
 le:L.length≤L1.length
 ob1 : ∀ x∈L1,x.below L1.length
 val:r.below L1.length
theorem RunAll.fits {P:Program} {g:FuncId} {L:List Ob} {asx:List AV} {L1:List Ob} {r:AV} (h:RunAll P g L asx L1 r):RunFits (List.range L.length) L asx L:=by
 refine ⟨List.length_range,List.nodup_range,fun i x hx=>?_,h.obb,h.argb⟩
 have hi:i<L.length:=(List.getElem?_eq_some_iff.1 hx).1
 rw [rid_range hi,hx,Ob.ren_range (h.obb x (List.mem_of_getElem? hx))]
abbrev CP:=FuncId→List PV→Option CV
abbrev CR:=FuncId→List Ob→List AV→Option (List Ob × AV)
def calleeOf:Op→Option (Operand × List Operand)
 | .call { callee := .value f,args, .. } => some (f,args.toList)
 | _=>none
def evCall (ti:TI) (cp:CP) (cr:CR) (ρ:Operand→Option AV) (L:List Ob) (f:Operand) (args:List Operand):Option (AV × List Ob) :=
 match ρ f with
 | some (.one (.c (.fn g cs)))=>match ti.owns g with
  | false=>match normArgs ρ args with
   | some ps=>match cp g (ps++cs.map .one) with
    | some r=>some (r.av,L)
    | none=>none
   | none=>none
  | true=>match callR ti f,avs ρ args with
   | true,some vs=>match cr g L (vs++cs.map fun x => .one (.c x)) with
    | some (L1,r)=>some (r,L1)
    | none=>none
   | _,_=>none
 | some (.one (.clo g caps))=>match callR ti f,avs ρ args with
  | true,some vs=>match cr g L (vs++caps.map Cap.av) with
   | some (L1,r)=>some (r,L1)
   | none=>none
  | _,_=>none
 | _=>none
def sopG (P:Program) (ti:TI) (xs:Exts) (rowB:Bool) (ρ:Operand→Option AV) (L:List Ob) (op:Op):Option (AV × List Ob) :=
 match lKind ti op&&(!ti.soft||(Nat.beq (sk op) 0||Nat.beq (sk op) 4)) with
 | true=>evSop P ti xs rowB ρ L op
 | false=>none
def evOp (cx:Cx) (ti:TI) (cp:CP) (cr:CR) (rowB:Bool) (ρ:Operand→Option AV) (L:List Ob) (op:Op):Option (AV × List Ob) :=
 match evPop ti ρ L op with
 | some v=>some (v,L)
 | none=>match calleeOf op with
  | some (f,args)=>match evCall ti cp cr ρ L f args with
   | some r=>some r
   | none=>sopG cx.P ti cx.xs rowB ρ L op
  | none=>match (match rowB with|true=>none|false=>litB ti ρ op) with
   | some v=>some (v,L)
   | none=>match rowB with
    | true=>match sopG cx.P ti cx.xs rowB ρ L op with
     | some r=>some r
     | none=>match litB ti ρ op with
      | some v=>some (v,L)
      | none=>lopB ti ρ L op
    | false=>match lopB ti ρ L op with
     | some r=>some r
     | none=>sopG cx.P ti cx.xs rowB ρ L op
theorem evSop_look {P:Program} {ti:TI} {xs:Exts} {rowB:Bool} {ρ:Operand→Option AV} {L L':List Ob} {op:Op} {v:AV} (hk:sk op=4) (h:evSop P ti xs rowB ρ L op=some (v,L')):L'=L:=by
 unfold evSop at h
 split at h
 all_goals first|(exfalso;cases hk;done)|skip
 all_goals repeat' (first|(cases h;done)|(cases h;rfl)|(obtain ⟨e,_⟩:=ck_some h;cases e;rfl)|split at h)
theorem callee_of {op:Op} {f:Operand} {args:List Operand} (h:calleeOf op=some (f,args)) : ∃ asx ts,op = .call { callee := .value f,args:=asx,argTypes:=ts } ∧ args=asx.toList:=by
 unfold calleeOf at h
 split at h
 ·cases h;exact ⟨_,_,rfl,rfl⟩
 ·cases h
theorem sopG_ok {P:Program} {ti:TI} {xs:Exts} {rowB:Bool} {ρ:Operand→Option AV} {L L':List Ob} {op:Op} {v:AV} {K:AV→List Ob→Prop} (hti:TIok P ti) (hne:ExtsOK P xs) (h:sopG P ti xs rowB ρ L op=some (v,L')) (hK:K v L'):awOp P ti ρ L K op:=by
 unfold sopG at h
 split at h
 ·rename_i h1
  rw [Bool.and_eq_true] at h1
  refine .inr (.inr (.inr (.inr (.inr (.inr (.inr ⟨v,L',⟨h1.1,fun hs=>?_⟩,evSop_ok hti hne h,hK⟩))))))
  have h2:=h1.2
  rw [hs,Bool.not_true,Bool.false_or,Bool.or_eq_true] at h2
  rcases h2 with h2|h2
  ·exact .inl (Nat.eq_of_beq_eq_true h2)
  ·exact .inr ⟨Nat.eq_of_beq_eq_true h2,evSop_look (Nat.eq_of_beq_eq_true h2) h⟩
 ·cases h
theorem runAll_op {P:Program} {ti:TI} {ρ:Operand→Option AV} {L L1:List Ob} {op:Op} {g:FuncId} {asx:List AV} {r:AV} {K:AV→List Ob→Prop} (hp:callOpR ti ρ op=some (g,asx)) (h:RunAll P g L asx L1 r) (hK:K r L1):awOp P ti ρ L K op:=by
 refine .inr (.inr (.inr (.inr (.inr (.inr (.inl ⟨List.range L.length,g,L,asx,L1,r,?_,h.fits,h.run,?_⟩))))))
 ·rw [hp,map_same fun x hx=>AV.ren_range (h.argb x hx)]
 ·rw [outIds_range h.le,AV.ren_range h.val,joinL_range h.le h.ob1];exact hK
theorem evOp_ok {cx:Cx} {ti:TI} {cp:CP} {cr:CR} {rowB:Bool} {ρ:Operand→Option AV} {L L':List Ob} {op:Op} {v:AV} {K:AV→List Ob→Prop} (hti:TIok cx.P ti) (hne:ExtsOK cx.P cx.xs)
  (hcp : ∀ g ps r,cp g ps=some r→Pure cx.P g ps r) (hcr : ∀ g L asx L1 r,cr g L asx=some (L1,r)→RunAll cx.P g L asx L1 r)
  (h:evOp cx ti cp cr rowB ρ L op=some (v,L')) (hK:K v L'):awOp cx.P ti ρ L K op:=by
 unfold evOp at h
 split at h
 ·rename_i v' h1
  cases h
  obtain ⟨φ,h2,h3⟩:=evPop_ok h1
  exact .inl ⟨_,φ,h2,h3,hK⟩
 ·split at h
  ·rename_i f args hc
   obtain ⟨asx,ts,rfl,rfl⟩:=callee_of hc
   split at h
   ·rename_i r h1
    cases h
    unfold evCall at h1
    split at h1
    ·rename_i g cs hf
     split at h1
     ·split at h1
      ·rename_i ps hps
       split at h1
       ·rename_i r hr
        cases h1
        exact .inr (.inr (.inr (.inl ⟨g,_,r,by simp only [callOp,hf,hps,Option.map_some],hcp _ _ _ hr,hK⟩)))
       ·cases h1
      ·cases h1
     ·split at h1
      ·rename_i vs hR hvs
       split at h1
       ·rename_i L1 r hr
        cases h1
        exact runAll_op (by simp only [callOpR,hf,hvs,hR]) (hcr _ _ _ _ _ hr) hK
       ·cases h1
      ·cases h1
    ·rename_i g caps hf
     split at h1
     ·rename_i vs hR hvs
      split at h1
      ·rename_i L1 r hr
       cases h1
       exact runAll_op (by simp only [callOpR,hf,hvs,hR]) (hcr _ _ _ _ _ hr) hK
      ·cases h1
     ·cases h1
    ·cases h1
   ·exact sopG_ok hti hne h hK
  ·split at h
   ·rename_i v' h1
    cases h
    cases rowB with
    | true=>cases h1
    | false =>
     obtain ⟨φ,h2,h3⟩:=litB_ok h1
     exact .inr (.inl ⟨_,φ,h2,h3,hK⟩)
   ·split at h
    ·split at h
     ·rename_i r h1
      cases h
      exact sopG_ok hti hne h1 hK
     ·split at h
      ·rename_i v' h1
       cases h
       obtain ⟨φ,h2,h3⟩:=litB_ok h1
       exact .inr (.inl ⟨_,φ,h2,h3,hK⟩)
      ·obtain ⟨φ,h2,h3⟩:=lopB_ok h
       exact .inr (.inr (.inl ⟨_,_,φ,h2,h3,hK⟩))
    ·split at h
     ·rename_i r h1
      cases h
      obtain ⟨φ,h2,h3⟩:=lopB_ok h1
      exact .inr (.inr (.inl ⟨_,_,φ,h2,h3,hK⟩))
     ·exact sopG_ok hti hne h hK
def rowOf (cx:Cx) (f:FuncId):Option Tmp→Bool
 | some d=>cx.row f d
 | none=>false
def dOKb (N:Nat):Option Tmp→Bool
 | some d=>Nat.blt d N
 | none=>true
theorem dOKb_of {N:Nat} {d:Option Tmp} (h:dOKb N d=true):dOK N d:=by
 cases d with
 | none=>trivial
 | some d=>exact Nat.le_of_ble_eq_true h
def evOps (cx:Cx) (ti:TI) (cp:CP) (cr:CR) (f:FuncId) (N:Nat) (ds:List (Option Tmp)):List Oper→Tm→List Ob→Option (Tm × List Ob)
 | [],T,L=>some (T,L)
 | o::rest,T,L=>match dOKb N o.dst,gdv ds T o.guard with
  | true,some true=>match evOp cx ti cp cr (rowOf cx f o.dst) (look T) L o.op with
   | some (v,L')=>evOps cx ti cp cr f N ds rest (putT T o.dst v) L'
   | none=>none
  | true,some false=>evOps cx ti cp cr f N ds rest (putT T o.dst .undef) L
  | _,_=>none
theorem evOps_ok {cx:Cx} {ti:TI} {cp:CP} {cr:CR} {f:FuncId} {N:Nat} {ds:List (Option Tmp)} (hti:TIok cx.P ti) (hne:ExtsOK cx.P cx.xs)
  (hcp : ∀ g ps r,cp g ps=some r→Pure cx.P g ps r) (hcr : ∀ g L asx L1 r,cr g L asx=some (L1,r)→RunAll cx.P g L asx L1 r) {K:Tm→List Ob→Prop} :
  ∀ {l:List Oper} {T T':Tm} {L L':List Ob}, evOps cx ti cp cr f N ds l T L=some (T',L')→K T' L'→awOps cx.P ti N ds K l T L
 | [],T,T',L,L',h,hK=>by cases h;exact hK
 | o::rest,T,T',L,L',h,hK=>by
  unfold evOps at h
  split at h
  ·rename_i hd hg
   split at h
   ·rename_i v L1 h1
    exact ⟨dOKb_of hd,gd_true hg (evOp_ok hti hne hcp hcr h1 (evOps_ok hti hne hcp hcr h hK))⟩
   ·cases h
  ·rename_i hd hg
   exact ⟨dOKb_of hd,gd_false hg (evOps_ok hti hne hcp hcr h hK)⟩
  ·cases h
def idsC:List Cap→List Nat
 | []=>[]
 | .ptr id _::l=>id::idsC l
 | .c _::l=>idsC l
def idsS:SV→List Nat
 | .ptr id _=>[id]
 | .sl id _ _ _=>[id]
 | .clo _ caps=>idsC caps
 | _=>[]
def idsSs:List SV→List Nat
 | []=>[]
 | x::l=>idsS x++idsSs l
def idsA:AV→List Nat
 | .one x=>idsS x
 | .agg xs=>idsSs xs
 | _=>[]
def frzId (T:Tm) (L:List Ob) (id:Nat):Tm × List Ob :=
 match L[id]? with
 | some (.row ver es _)=>match normR es with
  | some cs=>(T.map (fun p=>(p.1,thA id ver cs p.2)),(L.set id .dead).map (thO id ver cs))
  | none=>(T,L)
 | some (.box cs)=>match normL cs with
  | some ts=>(T.map (fun p=>(p.1,unA id ts p.2)),L.set id .dead)
  | none=>(T,L)
 | _=>(T,L)
def frzIds:List Nat→Tm→List Ob→Tm × List Ob
 | [],T,L=>(T,L)
 | id::l,T,L=>match frzId T L id with
  | (T',L')=>frzIds l T' L'
def frz1 (T:Tm) (L:List Ob) (t:Nat):Tm × List Ob :=
 match T.lookup t with
 | some v=>frzIds (idsA v) T L
 | none=>(T,L)
def frzL:List Nat→Tm→List Ob→Option (Tm × List Ob)
 | [],T,L=>some (T,L)
 | t::ts,T,L=>match frz1 T L t with
  | (T',L')=>frzL ts T' L'
section
variable {P:Program} {N n0:Nat} {Q:AX→Tm→List Ob→Prop} {c:Code}
theorem frzId_ok {T:Tm} {L:List Ob} {id:Nat} (k:Aw P N n0 c Q (frzId T L id).1 (frzId T L id).2):Aw P N n0 c Q T L:=by
 unfold frzId at k
 split at k
 ·rename_i hL
  split at k
  ·rename_i hn;exact aw_freezeRow _ hL hn k
  ·exact k
 ·rename_i hL
  split at k
  ·rename_i hn;exact aw_freezeBox _ hL hn k
  ·exact k
 ·exact k
theorem frzIds_ok : ∀ {l:List Nat} {T:Tm} {L:List Ob}, Aw P N n0 c Q (frzIds l T L).1 (frzIds l T L).2→Aw P N n0 c Q T L
 | [],_,_,k=>k
 | id::l,T,L,k=>frzId_ok (frzIds_ok (l:=l) k)
theorem frzL_ok : ∀ {ts:List Nat} {T T':Tm} {L L':List Ob}, frzL ts T L=some (T',L')→Aw P N n0 c Q T' L'→Aw P N n0 c Q T L
 | [],_,_,_,_,h,k=>by cases h;exact k
 | t::ts,T,T',L,L',h,k=>by
  unfold frzL at h
  have h2:=frzL_ok (ts:=ts) h k
  unfold frz1 at h2
  split at h2
  ·exact frzIds_ok h2
  ·exact h2
end
def clean (N:Nat) (T:Tm):Tm:=(List.range N).filterMap fun t=>(T.lookup t).map fun x=>(t,x)
theorem clean_sub {N:Nat} {T:Tm} {t:Nat} {x:AV} (h:(clean N T).lookup t=some x):T.lookup t=some x:=by
 have h1:=lookup_mem h
 unfold clean at h1
 rw [List.mem_filterMap] at h1
 obtain ⟨i,_,h2⟩:=h1
 obtain ⟨y,h3,h4⟩:=map_some h2
 cases h4
 exact h3
def loopE (body:Tm→List Ob→Option (AX × Tm × List Ob)) (N:Nat):Nat→Tm→List Ob→Option (AX × Tm × List Ob)
 | 0,_,_=>none
 | n+1,T,L=>match body (clean N T) L with
  | some (.normal,T',L')=>loopE body N n T' L'
  | r=>r
def tiOf (cx:Cx) (f:FuncId) (id:Nat):Bool→TI
 | false => { cx.ti with dyn:=true,soft:=false }
 | true => { cx.ti with dyn:=(cx.flg f id).1,soft:=(cx.flg f id).2 }
def evC (cx:Cx) (cp:CP) (cr:CR) (f:FuncId) (N:Nat) (rs:List Nat):Code→Tm→List Ob→Option (AX × Tm × List Ob)
 | .skip,T,L=>some (.normal,T,L)
 | .label _,T,L=>some (.normal,T,L)
 | .ret,T,L=>match frzL rs T L with
  | some (T',L')=>some (.ret,T',L')
  | none=>none
 | .exit id,T,L=>some (.exit id,T,L)
 | .seq x y,T,L=>match evC cx cp cr f N rs x T L with
  | some (.normal,T',L')=>evC cx cp cr f N rs y T' L'
  | r=>r
 | .cond c x y,T,L=>match look T c with
  | some (.one (.c (.bool b)))=>match b with
   | true=>evC cx cp cr f N rs x T L
   | false=>evC cx cp cr f N rs y T L
  | _=>none
 | .block id c,T,L=>match evC cx cp cr f N rs c T L with
  | some (.exit j,T',L')=>match decide (j=id) with
   | true=>some (.normal,T',L')
   | false=>some (.exit j,T',L')
  | r=>r
 | .region id ops d,T,L=>match frzL (cx.frz f id) T L with
  | some (T1,L1)=>match fzB (cx.fz f id) T1 with
   | true=>match evOps cx (tiOf cx f id d) cp cr f N (ops.toList.map (·.dst)) ops.toList T1 L1 with
    | some (T2,L2)=>some (.normal,T2,L2)
    | none=>none
   | false=>none
  | none=>none
 | .loop c,T,L=>loopE (evC cx cp cr f N rs c) N 1048576 T L
 | _,_,_=>none
def codeOK (cx:Cx) (f:FuncId):Code→Bool
 | .seq x y=>codeOK cx f x&&codeOK cx f y
 | .cond _ x y=>codeOK cx f x&&codeOK cx f y
 | .block _ c=>codeOK cx f c
 | .loop c=>codeOK cx f c
 | .region id ops true=>drawOK3 (cx.fz f id) (tiOf cx f id true) ops.toList
 | _=>true
structure CxOK (cx:Cx):Prop where
 ti:TIok cx.P cx.ti
 ne:ExtsOK cx.P cx.xs
 mix:cx.P.follows .mixedOrders=true
 name : ∀ (f : FuncId) fn, cx.P.funcs[f]? = some fn → (fn.name == "runtime.NumGoroutine") = false
 code : ∀ (f:FuncId) fn c,cx.P.funcs[f]?=some fn→fn.body=some c→cx.bad f=false→codeOK cx f c=true
 orc : ∀ g ps r,cx.orc g ps=some r→Pure cx.P g ps r
def codesB (cx:Cx):List Func→Nat→Bool
 | [],_=>true
 | fn::fs,i=>(match fn.body with
  | some c=>cx.bad i||codeOK cx i c
  | none=>true)&&codesB cx fs (i+1)
theorem codesB_of {cx:Cx} : ∀ {fs:List Func} {i:Nat}, codesB cx fs i=true → ∀ (j:Nat) fn c,fs[j]?=some fn→fn.body=some c→cx.bad (i+j)=false→codeOK cx (i+j) c=true
 | [],i,h,j,fn,c,hj,_,_=>by simp at hj
 | f0::fs,i,h,0,fn,c,hj,hb,hbad=>by
  rw [codesB,Bool.and_eq_true] at h
  simp at hj;subst hj
  have h1:=h.1
  rw [hb] at h1
  rw [Nat.add_zero] at hbad ⊢
  simp only [hbad,Bool.false_or] at h1
  exact h1
 | f0::fs,i,h,j+1,fn,c,hj,hb,hbad=>by
  rw [codesB,Bool.and_eq_true] at h
  have:=codesB_of h.2 j fn c (by simpa using hj) hb (by rwa [show i+1+j=i+(j+1) by omega])
  rwa [show i+1+j=i+(j+1) by omega] at this
def namesB:List Func→Bool
 | []=>true
 | fn :: fs => !(fn.name == "runtime.NumGoroutine") && namesB fs
theorem namesB_of : ∀ {fs : List Func}, namesB fs = true → ∀ (j : Nat) fn, fs[j]? = some fn → (fn.name == "runtime.NumGoroutine") = false
 | [],h,j,fn,hj=>by simp at hj
 | f0::fs,h,0,fn,hj=>by
  rw [namesB,Bool.and_eq_true] at h
  simp at hj;subst hj
  simpa using h.1
 | f0::fs,h,j+1,fn,hj=>by
  rw [namesB,Bool.and_eq_true] at h
  exact namesB_of h.2 j fn (by simpa using hj)
theorem CxOK.of {cx:Cx} (ti:TIok cx.P cx.ti) (ne:ExtsOK cx.P cx.xs) (mix:cx.P.follows .mixedOrders=true) (name:namesB cx.P.funcs.toList=true) (code:codesB cx cx.P.funcs.toList 0=true) (orc : ∀ g ps r,cx.orc g ps=some r→Pure cx.P g ps r):CxOK cx :=
 ⟨ti,ne,mix,fun f fn h=>namesB_of name f fn (by simpa using h),fun f fn c h hb hbad=>by have:=codesB_of code f fn c (by simpa using h) hb (by rwa [Nat.zero_add]);rwa [Nat.zero_add] at this,orc⟩
theorem tiOf_ok {cx:Cx} (h:CxOK cx) (f:FuncId) (id:Nat) (d:Bool):TIok cx.P (tiOf cx f id d):=by
 cases d
 ·exact h.ti.flags _ _
 ·exact h.ti.flags _ _
section
variable {cx:Cx} {cp:CP} {cr:CR} {f:FuncId} {N n0:Nat} {rs:List Nat}
def AtE (x:AX) (T':Tm) (L':List Ob):AX→Tm→List Ob→Prop:=fun y S M=>y=x∧S=T'∧M=L'
theorem loopE_ok {c:Code} {body:Tm→List Ob→Option (AX × Tm × List Ob)} (hb : ∀ T L x T' L',body T L=some (x,T',L')→Aw cx.P N n0 c (AtE x T' L') T L) :
  ∀ {n:Nat} {T:Tm} {L:List Ob} {x:AX} {T':Tm} {L':List Ob}, loopE body N n T L=some (x,T',L')→Aw cx.P N n0 (.loop c) (AtE x T' L') T L:=by
 intro n0' T L x T' L' h
 intro hn B R0 γ0 w0 a0 hi hT
 have key : ∀ n T L0 R γ a w,n0≤L0.length→loopE body N n T L0=some (x,T',L')→Inv B R γ L0 w→TRep N R γ L0 T a→Ext B R0 R w0 w→MvN n0 R0 R γ0 γ L L0→Code.rounds cx.P c (AwPost N n0 B (AtE x T' L') R0 w0 γ0 L) n a w:=by
  intro n
  induction n with
  | zero=>intro T L0 R γ a w _ hl;cases hl
  | succ n ih =>
   intro T L0 R γ a w hlo hl hI ht he hmv
   rw [rounds_succ]
   unfold loopE at hl
   have htc:TRep N R γ L0 (clean N T) a:=⟨ht.size,ht.defers,fun t x hx=>ht.slot t x (clean_sub hx)⟩
   split at hl
   ·rename_i T1 L1 hb1
    refine wp_mono (hb _ _ _ _ _ hb1 hlo B R γ w a hI htc) ?_
    rintro e a1 w1 ⟨y,T2,L2,R1,γ2,rfl,⟨rfl,rfl,rfl⟩,j1,k1,e1,m1⟩
    exact ih _ _ R1 _ a1 w1 m1.lo' hl j1 k1 (he.trans e1) (hmv.trans hi.len m1)
   ·rename_i hne
    refine wp_mono (hb _ _ _ _ _ hl hlo B R γ w a hI htc) ?_
    rintro e a1 w1 ⟨y,T2,L2,R1,γ2,rfl,⟨rfl,rfl,rfl⟩,j1,k1,e1,m1⟩
    cases y with
    | normal=>exact absurd hl (hne _ _)
    | exit id=>exact ⟨.exit id,_,_,R1,γ2,rfl,⟨rfl,rfl,rfl⟩,j1,k1,he.trans e1,hmv.trans hi.len m1⟩
    | ret=>exact ⟨.ret,_,_,R1,γ2,rfl,⟨rfl,rfl,rfl⟩,j1,k1,he.trans e1,hmv.trans hi.len m1⟩
 exact wp_loop_rounds n0' (key n0' T L R0 γ0 a0 w0 hn h hi hT (Ext.refl _ _ _) (MvN.of hn Mv.refl))
theorem evC_ok (hx:CxOK cx) (hcp : ∀ g ps r,cp g ps=some r→Pure cx.P g ps r) (hcr : ∀ g L asx L1 r,cr g L asx=some (L1,r)→RunAll cx.P g L asx L1 r) :
  ∀ {c:Code} {T:Tm} {L:List Ob} {x:AX} {T':Tm} {L':List Ob}, codeOK cx f c=true→evC cx cp cr f N rs c T L=some (x,T',L')→Aw cx.P N n0 c (AtE x T' L') T L:=by
 intro c
 induction c with
 | skip=>intro T L x T' L' _ h;cases h;exact aw_skip ⟨rfl,rfl,rfl⟩
 | label l=>intro T L x T' L' _ h;cases h;exact aw_label ⟨rfl,rfl,rfl⟩
 | ret =>
  intro T L x T' L' _ h
  unfold evC at h
  split at h
  ·rename_i h1
   cases h
   exact frzL_ok h1 (aw_ret ⟨rfl,rfl,rfl⟩)
  ·cases h
 | exit id=>intro T L x T' L' _ h;cases h;exact aw_exit ⟨rfl,rfl,rfl⟩
 | seq a b iha ihb =>
  intro T L x T' L' hc h
  rw [codeOK,Bool.and_eq_true] at hc
  unfold evC at h
  refine aw_seq ?_
  split at h
  ·rename_i T1 L1 h1
   refine Aw.mono (iha hc.1 h1) ?_
   rintro y S M ⟨rfl,rfl,rfl⟩
   exact ihb hc.2 h
  ·rename_i hne
   refine Aw.mono (iha hc.1 h) ?_
   rintro y S M ⟨rfl,rfl,rfl⟩
   cases y with
   | normal=>exact absurd h (hne _ _)
   | exit id=>exact ⟨rfl,rfl,rfl⟩
   | ret=>exact ⟨rfl,rfl,rfl⟩
 | cond c a b iha ihb =>
  intro T L x T' L' hc h
  rw [codeOK,Bool.and_eq_true] at hc
  unfold evC at h
  split at h
  ·rename_i b' hl
   refine aw_cond hl (fun e=>?_) (fun e=>?_)
   ·subst e;exact iha hc.1 h
   ·subst e;exact ihb hc.2 h
  ·cases h
 | block id c ih =>
  intro T L x T' L' hc h
  unfold evC at h
  refine aw_block ?_
  split at h
  ·rename_i j T1 L1 h1
   refine Aw.mono (ih hc h1) ?_
   rintro y S M ⟨rfl,rfl,rfl⟩
   show if j=id then _ else _
   split at h
   ·rename_i e;rw [if_pos (of_decide_eq_true e)];cases h;exact ⟨rfl,rfl,rfl⟩
   ·rename_i e;rw [if_neg (of_decide_eq_false e)];cases h;exact ⟨rfl,rfl,rfl⟩
  ·rename_i hne
   refine Aw.mono (ih hc h) ?_
   rintro y S M ⟨rfl,rfl,rfl⟩
   cases y with
   | normal=>exact ⟨rfl,rfl,rfl⟩
   | exit id=>exact absurd h (hne _ _ _)
   | ret=>exact ⟨rfl,rfl,rfl⟩
 | region id ops d =>
  intro T L x T' L' hc h
  unfold evC at h
  split at h
  ·rename_i T1 L1 h1
   refine frzL_ok h1 ?_
   split at h
   ·rename_i hz
    split at h
    ·rename_i T2 L2 h2
     cases h
     have hr:ops=ops.toList.toArray:=rfl
     rw [hr]
     cases d with
     | false=>exact aw_region (tiOf_ok hx f id false) _ rfl (evOps_ok (tiOf_ok hx f id false) hx.ne hcp hcr h2 ⟨rfl,rfl,rfl⟩)
     | true=>exact aw_drawn3 _ (tiOf_ok hx f id true) _ rfl hx.mix hc hz (evOps_ok (tiOf_ok hx f id true) hx.ne hcp hcr h2 ⟨rfl,rfl,rfl⟩)
    ·cases h
   ·cases h
  ·cases h
 | loop c ih =>
  intro T L x T' L' hc h
  unfold evC at h
  exact loopE_ok (fun T L x T' L' hb=>ih hc hb) h
 | _=>intro T L x T' L' _ h;unfold evC at h;cases h
end
def resOneB (ti:TI) (T:Tm) (L:List Ob):ResultVar→Option PV
 | .tmp t=>(T.lookup t).bind AV.norm
 | .cell a t=>match T.lookup a with
  | some (.one (.ptr id off))=>match loadB ti L t (.one (.ptr id off)) with
   | some v=>v.norm
   | none=>none
  | _=>none
def resAllB (ti:TI) (T:Tm) (L:List Ob):List ResultVar→Option (List PV)
 | []=>some []
 | r::rs=>match resOneB ti T L r,resAllB ti T L rs with
  | some p,some ps=>some (p::ps)
  | _,_=>none
theorem resOneB_ok {ti:TI} {T:Tm} {L:List Ob} {r:ResultVar} {p:PV} (h:resOneB ti T L r=some p):Yes (resOne ti T L r) p:=by
 unfold resOneB at h
 split at h
 ·rename_i t
  exact ⟨True,by show (Option.map _ _)=_;rw [h];rfl,trivial⟩
 ·unfold resOne
  dsimp only
  split at h
  ·rename_i h1
   rw [h1]
   dsimp only
   split at h
   ·rename_i v h2
    obtain ⟨φ,h3,h4⟩:=loadB_ok h2
    rw [h3]
    exact ⟨φ,by dsimp only;rw [h];rfl,h4⟩
   ·cases h
  ·cases h
theorem resAllB_ok {ti:TI} {T:Tm} {L:List Ob} : ∀ {rs:List ResultVar} {ps:List PV}, resAllB ti T L rs=some ps→Yes (resAll ti T L rs) ps
 | [],ps,h=>by cases h;exact ⟨_,rfl,trivial⟩
 | r::rs,ps,h=>by
  unfold resAllB at h
  split at h
  ·rename_i h1 h2
   cases h
   obtain ⟨φ,h3,h4⟩:=resOneB_ok h1
   obtain ⟨ψ,h5,h6⟩:=resAllB_ok h2
   exact ⟨φ∧ψ,by unfold resAll;rw [h3,h5],h4,h6⟩
  ·cases h
def resSlots:List ResultVar→List Nat
 | []=>[]
 | .tmp t::rs=>t::resSlots rs
 | .cell _ _::rs=>resSlots rs
def isEnd:AX→Bool
 | .exit _=>false
 | _=>true
theorem isEnd_of {x:AX} (h:isEnd x=true):x = .normal∨x = .ret:=by
 cases x with
 | normal=>exact .inl rfl
 | ret=>exact .inr rfl
 | exit _=>cases h
def pureB (cx:Cx) (cp:CP) (cr:CR):CP:=fun g ps =>
 match cx.orc g ps with
 | some r=>some r
 | none=>match cx.P.funcs[g]? with
  | some fn=>match fn.body,cx.bad g,Nat.ble ps.length fn.ntmps with
   | some c,false,true=>match evC cx cp cr g fn.ntmps (resSlots fn.results.toList) c (argT 0 ps) [] with
    | some (x,T,L)=>match isEnd x,resAllB cx.ti T L fn.results.toList with
     | true,some rs=>some (cvOf rs)
     | _,_=>none
    | none=>none
   | _,_,_=>none
  | none=>none
def runVal2 (T:Tm):List ResultVar→Option AV
 | [.tmp s, .tmp t]=>match T.lookup s,T.lookup t with
  | some (.one x),some (.one y)=>some (.tupS [x,y])
  | _,_=>none
 | _=>none
theorem runVal2_ok {T:Tm} {rs:List ResultVar} {r:AV} (h:runVal2 T rs=some r):RunVal2 rs T r:=by
 unfold runVal2 at h
 split at h
 ·split at h
  ·rename_i h1 h2
   cases h
   exact ⟨_,_,_,_,rfl,h1,h2,rfl⟩
  ·cases h
 ·cases h
def runVal0 (ti:TI) (T:Tm) (L:List Ob):List ResultVar→Option AV
 | [.tmp t]=>T.lookup t
 | rs=>match resAllB ti T L rs with
  | some ps=>some (cvOf ps).av
  | none=>none
theorem runVal0_ok {ti:TI} {T:Tm} {L:List Ob} {rs:List ResultVar} {r:AV} (h:runVal0 ti T L rs=some r):RunVal ti rs T L r:=by
 unfold runVal0 at h
 split at h
 ·exact .inl ⟨_,rfl,h⟩
 ·split at h
  ·rename_i ps h1
   cases h
   obtain ⟨φ,h2,h3⟩:=resAllB_ok h1
   exact .inr ⟨cvOf ps,res_of h2 h3 rfl,rfl⟩
  ·cases h
def runVal (ti:TI) (T:Tm) (L:List Ob) (rs:List ResultVar):Option AV :=
 match runVal2 T rs with
 | some r=>some r
 | none=>runVal0 ti T L rs
theorem runVal_ok {ti:TI} {T:Tm} {L:List Ob} {rs:List ResultVar} {r:AV} (h:runVal ti T L rs=some r):RunVal ti rs T L r∨RunVal2 rs T r:=by
 unfold runVal at h
 split at h
 ·rename_i h1
  cases h
  exact .inr (runVal2_ok h1)
 ·exact .inl (runVal0_ok h)
def runB (cx:Cx) (cp:CP) (cr:CR):CR:=fun g L asx =>
 match cx.P.funcs[g]? with
 | some fn=>match fn.body,cx.bad g,Nat.ble asx.length fn.ntmps,(obsBB L.length L&&avsBB L.length asx) with
  | some c,false,true,true=>match evC cx cp cr g fn.ntmps [] c (argA 0 asx) L with
   | some (x,T,L1)=>match isEnd x,runVal cx.ti T L1 fn.results.toList,Nat.ble L.length L1.length with
    | true,some r,true=>match avBB L.length r&&obsBB L.length (L1.take L.length) with
     | true=>some (L1.take L.length,r)
     | false=>match avBB L1.length r&&obsBB L1.length L1 with
      | true=>some (L1,r)
      | false=>none
    | _,_,_=>none
   | none=>none
  | _,_,_,_=>none
 | none=>none
theorem pureB_ok {cx:Cx} {cp:CP} {cr:CR} (hx:CxOK cx) (hcp : ∀ g ps r,cp g ps=some r→Pure cx.P g ps r) (hcr : ∀ g L asx L1 r,cr g L asx=some (L1,r)→RunAll cx.P g L asx L1 r)
  {g:FuncId} {ps:List PV} {r:CV} (h:pureB cx cp cr g ps=some r):Pure cx.P g ps r:=by
 unfold pureB at h
 split at h
 ·rename_i r' h1
  cases h
  exact hx.orc _ _ _ h1
 ·split at h
  ·rename_i fn hf
   split at h
   ·rename_i c hb hbad hle
    split at h
    ·rename_i x T L he
     split at h
     ·rename_i rs hend hres
      cases h
      obtain ⟨φ,h2,h3⟩:=resAllB_ok hres
      refine pa_ hx.ti hf hb (hx.name _ _ hf) rfl (Nat.le_of_ble_eq_true hle) ?_
      refine Aw.mono (evC_ok hx hcp hcr (hx.code _ _ _ hf hb hbad) he) ?_
      rintro y S M ⟨rfl,rfl,rfl⟩
      exact ⟨isEnd_of hend,res_of h2 h3 rfl⟩
     ·cases h
    ·cases h
   ·cases h
  ·cases h
theorem runB_ok {cx:Cx} {cp:CP} {cr:CR} (hx:CxOK cx) (hcp : ∀ g ps r,cp g ps=some r→Pure cx.P g ps r) (hcr : ∀ g L asx L1 r,cr g L asx=some (L1,r)→RunAll cx.P g L asx L1 r)
  {g:FuncId} {L:List Ob} {asx:List AV} {L1:List Ob} {r:AV} (h:runB cx cp cr g L asx=some (L1,r)):RunAll cx.P g L asx L1 r:=by
 unfold runB at h
 split at h
 ·rename_i fn hf
  split at h
  ·rename_i c hb hbad hle hbel
   rw [Bool.and_eq_true] at hbel
   split at h
   ·rename_i x T L2 he
    split at h
    ·rename_i r' hend hval hlen
     have hlen:=Nat.le_of_ble_eq_true hlen
     have main : ∀ m,L.length≤m→m≤L2.length→(∀ x∈L2.take m,x.below m)→r'.below m→RunAll cx.P g L asx (L2.take m) r':=by
      intro m hm1 hm2 hob hr
      have hl:(L2.take m).length=m:=by rw [List.length_take];omega
      refine ⟨?_,obsBB_of hbel.1,avsBB_of hbel.2,by omega,by rw [hl];exact hob,by rw [hl];exact hr⟩
      rcases runVal_ok hval with hv|hv
      ·refine run_of_aw hx.ti hf hb (hx.name _ _ hf) rfl (Nat.le_of_ble_eq_true hle) ?_
       refine Aw.mono (evC_ok hx hcp hcr (hx.code _ _ _ hf hb hbad) he) ?_
       rintro y S M ⟨rfl,rfl,rfl⟩
       exact ⟨isEnd_of hend,⟨hv,⟨_,(List.take_append_drop m _).symm⟩,by rw [hl];exact hm1,by rw [hl];exact hob,by rw [hl];exact hr⟩⟩
      ·refine run_of_aw2 hx.ti hf hb (hx.name _ _ hf) rfl (Nat.le_of_ble_eq_true hle) ?_
       refine Aw.mono (evC_ok hx hcp hcr (hx.code _ _ _ hf hb hbad) he) ?_
       rintro y S M ⟨rfl,rfl,rfl⟩
       exact ⟨isEnd_of hend,⟨hv,⟨_,(List.take_append_drop m _).symm⟩,by rw [hl];exact hm1,by rw [hl];exact hob,by rw [hl];exact hr⟩⟩
     split at h
     ·rename_i hc
      rw [Bool.and_eq_true] at hc
      cases h
      exact main _ (Nat.le_refl _) hlen (obsBB_of hc.2) (avBB_of hc.1)
     ·split at h
      ·rename_i hc
       rw [Bool.and_eq_true] at hc
       cases h
       have:=main _ hlen (Nat.le_refl _) (by rw [List.take_length];exact obsBB_of hc.2) (avBB_of hc.1)
       rw [List.take_length] at this
       exact this
      ·cases h
    ·cases h
   ·cases h
  ·cases h
 ·cases h
def evF (cx:Cx):Nat→CP × CR
 | 0=>(fun _ _=>none,fun _ _ _=>none)
 | n+1=>(pureB cx (evF cx n).1 (evF cx n).2,runB cx (evF cx n).1 (evF cx n).2)
theorem evF_ok {cx:Cx} (hx:CxOK cx) : ∀ n,(∀ g ps r,(evF cx n).1 g ps=some r→Pure cx.P g ps r)∧(∀ g L asx L1 r,(evF cx n).2 g L asx=some (L1,r)→RunAll cx.P g L asx L1 r)
 | 0=>⟨fun g ps r h=>(by cases h),fun g L asx L1 r h=>(by cases h)⟩
 | n+1=>⟨fun g ps r h=>pureB_ok hx (evF_ok hx n).1 (evF_ok hx n).2 h,fun g L asx L1 r h=>runB_ok hx (evF_ok hx n).1 (evF_ok hx n).2 h⟩
theorem part_one0 {P:Program} {w:World} {t:TypeId} {d:TypeDesc} (ht:P.underlying t=some d) (hd:(match d with | .struct _=>true | .array _ _=>true|_=>false)=false) {xs:Array Value} {i:Nat} {v:Value} (hx:xs[i]?=some v):(part t xs i).run P w = .ok v w:=by
 cases d<;>first|(cases hd;done)|simp [part,isAgg,run_underlying ht,hx]
def scOf:TypeDesc→Option Sc
 | .int k=>some (.int k)
 | .bool=>some .bool
 | .string=>some .str
 | _=>none
def scIs (s:Sc):Option TypeDesc→Bool
 | some d=>match scOf d with
  | some s'=>decide (s'=s)
  | none=>false
 | none=>false
def ScEq (d:Option TypeDesc):Sc→Prop
 | .int k=>d=some (.int k)
 | .bool=>d=some .bool
 | .str=>d=some .string
theorem scIs_of {s:Sc} {d:Option TypeDesc} (h:scIs s d=true):ScEq d s:=by
 unfold scIs at h
 cases d with
 | none=>cases h
 | some d =>
  dsimp only at h
  cases hs:scOf d with
  | none=>rw [hs] at h;cases h
  | some s' =>
   rw [hs] at h
   obtain rfl:s'=s:=of_decide_eq_true h
   unfold scOf at hs
   split at hs<;>first|(cases hs;rfl)|(cases hs;done)
def flatB (P:Program):List Field→List Sc→Nat→Bool
 | [],[],_=>true
 | f :: fs, s :: sh, i => (!(f.name == "_")) && (Nat.beq f.offset i && (scIs s (P.underlying f.type) && flatB P fs sh (i + 1)))
 | _,_,_=>false
theorem scals_cons {x:SV} {xs:List SV} {vs:List Value} (h:scals (x::xs)=some vs) : ∃ c v r,x = .c c∧scal c=some v∧scals xs=some r∧vs=v::r:=by
 unfold scals at h
 split at h
 ·rename_i e;cases e
 ·rename_i y ys e
  cases e
  split at h
  ·rename_i v r h1 h2;cases h;exact ⟨_,v,r,rfl,h1,h2,rfl⟩
  ·cases h
 ·cases h
theorem eqFields_flat {P:Program} {w:World} (d:Nat) {A B:Array Value} : ∀ (fs:List Field) (sh:List Sc) (i:Nat) (xs ys:List SV) (vs us:List Value),flatB P fs sh i=true→fitsS sh xs=true→fitsS sh ys=true→scals xs=some vs→scals ys=some us →
  (∀ (j:Nat) v,vs[j]?=some v→A[i+j]?=some v)→(∀ (j:Nat) v,us[j]?=some v→B[i+j]?=some v)→(Op.eqFields (d+1) A B fs).run P w = .ok (sameS xs ys) w:=by
 intro fs
 induction fs with
 | nil =>
  intro sh i xs ys vs us hf hx hy _ _ _ _
  cases sh with
  | nil =>
   cases xs with
   | nil=>cases ys with
    | nil=>rfl
    | cons _ _=>cases hy
   | cons _ _=>cases hx
  | cons _ _=>cases hf
 | cons f fs ih =>
  intro sh i xs ys vs us hf hx hy hv hu hA hB
  cases sh with
  | nil=>cases hf
  | cons s sh =>
   rw [flatB,Bool.and_eq_true,Bool.and_eq_true,Bool.and_eq_true] at hf
   obtain ⟨h1,h2,h3,h4⟩:=hf
   have h2:=Nat.eq_of_beq_eq_true h2
   have h1 : f.name ≠ "_" := by simpa using h1
   have h3:=scIs_of h3
   cases xs with
   | nil=>cases s<;>cases hx
   | cons x xs =>
    cases ys with
    | nil=>cases s<;>cases hy
    | cons y ys =>
     obtain ⟨cx,v,vr,rfl,hv1,hv2,rfl⟩:=scals_cons hv
     obtain ⟨cy,u,ur,rfl,hu1,hu2,rfl⟩:=scals_cons hu
     have a0:=hA 0 v rfl
     have b0:=hB 0 u rfl
     rw [Nat.add_zero] at a0 b0
     have rest : ∀ (hx':fitsS sh xs=true) (hy':fitsS sh ys=true),(Op.eqFields (d+1) A B fs).run P w = .ok (sameS xs ys) w:=fun hx' hy' =>
      ih sh (i+1) xs ys vr ur h4 hx' hy' hv2 hu2 (fun j v hj=>by have:=hA (j+1) v (by simpa using hj);rwa [show i+1+j=i+(j+1) by omega]) (fun j v hj=>by have:=hB (j+1) v (by simpa using hj);rwa [show i+1+j=i+(j+1) by omega])
     cases s with
     | int k =>
      unfold ScEq at h3
      cases cx<;>first|(cases hx;done)|skip
      cases cy<;>first|(cases hy;done)|skip
      rename_i k1 a k2 b
      simp only [fitsS,Bool.and_eq_true,decide_eq_true_eq] at hx hy
      obtain ⟨rfl,hx'⟩:=hx
      obtain ⟨rfl,hy'⟩:=hy
      cases hv1;cases hu1
      have p1:=part_one0 (P:=P) (w:=w) h3 rfl a0
      have p2:=part_one0 (P:=P) (w:=w) h3 rfl b0
      simp only [Op.eqFields,h1,h2,ne_eq,not_false_eq_true,if_true,Sem.run_bind,p1,p2,Result.andThen_ok,run_equalIn_int (P:=P) w d _ k k a b h3,Sem.run_ite,Sem.run_pure,rest hx' hy']
      cases e:(a==b)
      ·have:a≠b:=by simpa using e
       simp [sameS,this]
      ·have:a=b:=by simpa using e
       simp [sameS,this]
     | bool =>
      unfold ScEq at h3
      cases cx<;>first|(cases hx;done)|skip
      cases cy<;>first|(cases hy;done)|skip
      rename_i a b
      simp only [fitsS] at hx hy
      cases hv1;cases hu1
      have p1:=part_one0 (P:=P) (w:=w) h3 rfl a0
      have p2:=part_one0 (P:=P) (w:=w) h3 rfl b0
      simp only [Op.eqFields,h1,h2,ne_eq,not_false_eq_true,if_true,Sem.run_bind,p1,p2,Result.andThen_ok,run_equalIn_bool (P:=P) w d _ a b h3,Sem.run_ite,Sem.run_pure,rest hx hy]
      cases e:(a==b)<;>simp [sameS,e]
     | str =>
      unfold ScEq at h3
      cases cx<;>first|(cases hx;done)|skip
      cases cy<;>first|(cases hy;done)|skip
      rename_i a b
      simp only [fitsS] at hx hy
      cases hv1;cases hu1
      have p1:=part_one0 (P:=P) (w:=w) h3 rfl a0
      have p2:=part_one0 (P:=P) (w:=w) h3 rfl b0
      simp only [Op.eqFields,h1,h2,ne_eq,not_false_eq_true,if_true,Sem.run_bind,p1,p2,Result.andThen_ok,run_equalIn_string (P:=P) w d _ a b h3,Sem.run_ite,Sem.run_pure,rest hx hy]
      cases e:(a.toList==b.toList)<;>simp [sameS,e]
def eqTypeB (P:Program) (t:TypeId) (sh:List Sc):Bool :=
 (match P.underlying t with
 | some (.struct fs)=>flatB P fs.toList sh 0
 | _=>false)&&(!P.stoodInHeld t && !P.eqGuardType P.depth t)
theorem eqType_ok {P:Program} {t:TypeId} {sh:List Sc} (h:eqTypeB P t sh=true):P.eqGuardType P.depth t=false ∧ ∀ xs ys,fitsS sh xs=true→fitsS sh ys=true→EqRuns P t xs ys:=by
 rw [eqTypeB,Bool.and_eq_true,Bool.and_eq_true] at h
 obtain ⟨h1,h2,h3⟩:=h
 refine ⟨by simpa using h3,fun xs ys hx hy vs us hv hu w=>?_⟩
 split at h1
 ·rename_i fs ht
  have hfs:P.fieldsOf t=fs:=by unfold Program.fieldsOf;rw [ht]
  have hm:Op.equal t (.agg vs.toArray) (.agg us.toArray)=Op.equalIn (9999+1) t (.agg vs.toArray) (.agg us.toArray):=rfl
  rw [hm,run_equalIn_struct w 9999 t _ _ (by rw [hfs];exact ht) (by simpa using h2),hfs]
  exact eqFields_flat 9998 _ sh 0 xs ys vs us h1 hx hy hv hu (fun j v hj=>by simpa using hj) (fun j v hj=>by simpa using hj)
 ·cases h1
open Go.RowKit
def zeL:List (Nat × AV):=[(2, .one (.c (.int .i64 0))),(3, .one (.c (.int .i64 0))),(4, .one (.c (.bool false))),(5, .one (.c (.int .u8 0))),(9, .one (.c (.str ⟨#[]⟩))),(22, .one (.emp)),(23, .one (.c (.int .i64 0))),(27, .one (.emp)),(29, .agg [.c (.int .i64 0), .c (.int .i64 0)]),(31, .agg [.c (.int .i64 0), .c (.str ⟨#[]⟩), .c (.int .i64 0), .emp, .c (.int .i64 0), .c (.int .i64 0)]),(33, .agg [.emp, .c (.int .i64 0), .c (.int .i64 0)]),(35, .one (.emp)),(37, .one (.emp)),(38, .one (.emp)),(39, .one (.emp)),(40, .one (.emp)),(42, .agg [.c (.str ⟨#[]⟩), .emp, .emp, .emp, .emp]),(44, .one (.emp)),(45, .one (.emp)),(49, .agg [.c (.int .i64 0), .c (.int .i64 0), .c (.str ⟨#[]⟩)]),(51, .agg [.c (.int .i64 0), .c (.int .i64 0), .c (.int .i64 0), .c (.int .i64 0), .c (.str ⟨#[]⟩), .c (.str ⟨#[]⟩), .emp]),(53, .agg [.c (.str ⟨#[]⟩), .c (.int .i64 0), .c (.bool false)]),(57, .one (.c (.nul .func))),(61, .one (.c (.nul .map))),(64, .one (.emp)),(69, .one (.c (.nul .func))),(71, .agg [.emp, .c (.str ⟨#[]⟩)]),(77, .one (.c (.nul .map))),(78, .one (.emp)),(80, .agg [.c (.int .i64 0), .c (.int .i64 0), .c (.int .i64 0)]),(83, .one (.emp)),(86, .one (.c (.nul .func))),(88, .one (.c (.nul .func))),(89, .one (.c (.nul .ptr))),(90, .one (.emp)),(92, .agg [.c (.nul .ptr), .emp]),(106, .agg [.c (.int .i64 0), .c (.int .i64 0)]),(108, .one (.c (.nul .func))),(110, .one (.emp)),(113, .agg [.emp, .emp]),(114, .one (.emp)),(117, .agg [.c (.int .i64 0), .c (.int .i64 0), .c (.int .i64 0)]),(118, .one (.c (.nul .ptr))),(131, .one (.c (.int .u64 0))),(132, .one (.c (.nul .map))),(135, .one (.c (.nul .func))),(137, .one (.c (.nul .func))),(138, .one (.c (.nul .ptr))),(155, .one (.c (.int .i64 0))),(162, .one (.c (.int .u32 0))),(164, .one (.c (.int .u64 0))),(177, .one (.c (.nul .func))),(178, .one (.emp)),(180, .agg [.c (.int .i64 0), .c (.int .i64 0)]),(184, .one (.c (.nul .func))),(185, .one (.c (.int .u64 0))),(189, .one (.c (.nul .ptr)))]
def kiL:List (Nat × TypeDesc):=[(2, .int .i64),(3, .int .i64),(4, .bool),(5, .int .u8),(9, .string),(22, .slice 31),(23, .int .i64),(27, .slice 49),(35, .slice 33),(37, .slice 53),(38, .slice 3),(39, .slice 71),(40, .slice 51),(44, .slice 42),(45, .slice 35),(61, .map 9 64),(64, .slice 29),(77, .map 9 78),(78, .slice 80),(83, .slice 106),(89, .pointer 92),(90, .slice 5),(110, .slice 113),(114, .slice 117),(118, .pointer 5),(131, .int .u64),(132, .map 9 3),(138, .unsafePointer),(155, .int .i64),(162, .int .u32),(164, .int .u64),(178, .slice 180),(185, .int .u64),(189, .pointer 3)]
def eqL:List (Nat × List Sc):=[(29,[.int .i64, .int .i64]),(49,[.int .i64, .int .i64, .str]),(53,[.str, .int .i64, .bool]),(106,[.int .i64, .int .i64]),(117,[.int .i64, .int .i64, .int .i64]),(180,[.int .i64, .int .i64])]
def tab:TI:=TI.of [(2,1),(3,1),(4,1),(5,1),(9,1),(22,1),(23,1),(27,1),(29,2),(31,6),(33,3),(35,1),(37,1),(38,1),(39,1),(40,1),(42,5),(44,1),(45,1),(49,3),(51,7),(53,3),(57,1),(61,1),(64,1),(69,1),(71,2),(77,1),(78,1),(80,3),(83,1),(86,1),(88,1),(89,1),(90,1),(92,2),(106,2),(108,1),(110,1),(113,2),(114,1),(117,3),(118,1),(131,1),(132,1),(135,1),(137,1),(138,1),(155,1),(162,1),(164,1),(177,1),(178,1),(180,2),(184,1),(185,1),(189,1)] [(2,false),(3,false),(4,false),(5,false),(9,false),(22,false),(23,false),(27,false),(29,true),(31,true),(33,true),(35,false),(37,false),(38,false),(39,false),(40,false),(42,true),(44,false),(45,false),(49,true),(51,true),(53,true),(57,false),(61,false),(64,false),(69,false),(71,true),(77,false),(78,false),(80,true),(83,false),(86,false),(88,false),(89,false),(90,false),(92,true),(106,true),(108,false),(110,false),(113,true),(114,false),(117,true),(118,false),(131,false),(132,false),(135,false),(137,false),(138,false),(155,false),(162,false),(164,false),(177,false),(178,false),(180,true),(184,false),(185,false),(189,false)] [(22,31),(27,49),(35,33),(37,53),(38,3),(39,71),(40,51),(44,42),(45,35),(64,29),(78,80),(83,106),(90,5),(110,113),(114,117),(178,180)] [(29,[(0,3),(1,3)]),(31,[(0,3),(1,9),(2,3),(3,27),(4,29)]),(33,[(0,27),(1,29)]),(42,[(0,9),(1,37),(2,38),(3,39),(4,40)]),(49,[(0,3),(1,3),(2,9)]),(51,[(0,3),(1,3),(2,49),(5,9),(6,40)]),(53,[(0,9),(1,3),(2,4)]),(71,[(0,38),(1,9)]),(80,[(0,29),(2,3)]),(92,[(0,89),(1,90)]),(106,[(0,3),(1,3)]),(113,[(0,27),(1,64)]),(117,[(0,3),(1,3),(2,3)]),(180,[(0,3),(1,3)])] zeL [(2,8),(3,8),(4,1),(5,1),(9,16),(22,24),(23,8),(27,24),(29,16),(31,72),(33,40),(35,24),(37,24),(38,24),(39,24),(40,24),(42,112),(44,24),(45,24),(49,32),(51,88),(53,32),(57,8),(61,8),(64,24),(69,8),(71,40),(77,8),(78,24),(80,24),(83,24),(86,8),(88,8),(89,8),(90,24),(92,32),(106,16),(108,8),(110,24),(113,48),(114,24),(117,24),(118,8),(131,8),(132,8),(135,8),(137,8),(138,8),(155,8),(162,4),(164,8),(177,8),(178,24),(180,16),(184,8),(185,8),(189,8)] kiL [29,31,33,42,49,51,53,71,80,92,106,113,117,180] [2,3,4,5,9,22,23,27,29,31,33,35,37,38,39,40,42,44,45,49,51,53,57,61,64,69,71,77,78,80,83,86,88,89,90,92,106,108,110,113,114,117,118,131,132,135,137,138,155,162,164,177,178,180,184,185,189] eqL [0]
set_option maxRecDepth 100000 in
theorem tab_ok:TIok Tryz.prog tab:=by
 refine TI.of_ok (by kernel_rfl) (by kernel_rfl) (by kernel_rfl) (by kernel_rfl) ?_ (by kernel_rfl) ?_ (by kernel_rfl) (by kernel_rfl) ?_
 ·intro p hp
  simp only [zeL,List.mem_cons,List.not_mem_nil,or_false] at hp
  rcases hp with rfl|rfl|rfl|rfl|rfl|rfl|rfl|rfl|rfl|rfl|rfl|rfl|rfl|rfl|rfl|rfl|rfl|rfl|rfl|rfl|rfl|rfl|rfl|rfl|rfl|rfl|rfl|rfl|rfl|rfl|rfl|rfl|rfl|rfl|rfl|rfl|rfl|rfl|rfl|rfl|rfl|rfl|rfl|rfl|rfl|rfl|rfl|rfl|rfl|rfl|rfl|rfl|rfl|rfl|rfl|rfl|rfl<;>kernel_rfl
 ·intro p hp
  simp only [kiL,List.mem_cons,List.not_mem_nil,or_false] at hp
  rcases hp with rfl|rfl|rfl|rfl|rfl|rfl|rfl|rfl|rfl|rfl|rfl|rfl|rfl|rfl|rfl|rfl|rfl|rfl|rfl|rfl|rfl|rfl|rfl|rfl|rfl|rfl|rfl|rfl|rfl|rfl|rfl|rfl|rfl|rfl<;>kernel_rfl
 ·intro p hp
  simp only [eqL,List.mem_cons,List.not_mem_nil,or_false] at hp
  rcases hp with rfl|rfl|rfl|rfl|rfl|rfl<;>exact eqType_ok (by kernel_rfl)
def tabS:TI := { tab with soft:=true }
theorem tabS_ok:TIok Tryz.prog tabS:=⟨tab_ok.size,tab_ok.agg,tab_ok.elem,tab_ok.field,tab_ok.zero,tab_ok.bytes,tab_ok.kind,tab_ok.struct,tab_ok.zok,tab_ok.eqs⟩
theorem mixed:Tryz.prog.follows .mixedOrders=true:=by kernel_rfl
def FW (F:Fence):Prop:=F=Fence.wide ∨ ∃ l,F=Fence.wide.inRound l
theorem FW.fn {F:Fence} (h:FW F) (f:FuncId):F.fn f:=by rcases h with rfl|⟨l,rfl⟩<;>trivial
theorem FW.depth {F:Fence} (h:FW F):F.depth=none:=by rcases h with rfl|⟨l,rfl⟩<;>rfl
theorem FW.calls {F:Fence} (h:FW F) {n:Nat} {P:Program} {f:FuncId} {args:Array Value} {w:World} {R:Ending→World→Prop} (k:Calls P f args w R):CallsIn F n P f args w R:=by
 rcases h with rfl|⟨l,rfl⟩
 ·exact callsIn_wide.2 k
 ·exact (callsIn_wide (n:=n)).2 k
theorem FW.rows {F:Fence} (h:FW F) {n:Nat} {P:Program} {row:String} {args:Array Value} {w:World} {R:Value→World→Prop} (k:Rows P row args w R):RowsIn F n P row args w R:=by
 intro c cs _
 obtain ⟨v,w',h1,h2⟩:=k c cs
 refine ⟨v,w',h1,?_⟩
 rcases h with rfl|⟨l,rfl⟩
 ·exact stepsIn_wide.2 h2
 ·exact stepsIn_wide.2 h2
def ndB:Op→Bool
 | .defer _=>false
 | _=>true
def ndL:List Oper→Bool
 | []=>true
 | o::l=>ndB o.op&&ndL l
theorem put_defers (a:Act) (ds:List Deferred) (d:Option Tmp) (u:Value):({ a with defers:=ds } : Act).put d u = { a.put d u with defers:=ds } := by cases d<;>rfl
theorem put_defers' (a:Act) (d:Option Tmp) (u:Value):(a.put d u).defers=a.defers:=by cases d<;>rfl
section
variable {P:Program} {ti:TI} {F:Fence} {n N:Nat}
theorem op_in (hF:FW F) {o:Oper} {a:Act} {w:World} {ds:List Deferred} {next:Act→World→Prop} {Q:Exit→Act→World→Prop} (hnd:ndB o.op=true)
  (h:o.wp P a w (fun a' w'=>(∃ u,a'=a.put o.dst u)∧next { a' with defers:=ds } w') (fun _ _ _=>False)):o.wpIn F n P { a with defers:=ds } w next Q:=by
 have hs:o.semAt F.round ({ a with defers:=ds } : Act).eval=execOp a.eval o:=Oper.semAt_eq _ _ _ (fun c e=>by rw [e] at hnd;cases hnd)
 refine ⟨fun f _=>hF.fn f,?_⟩
 rw [hs]
 unfold Oper.wp at h
 have hdep:F.depth.isSome=true→1≤n:=by rw [hF.depth];intro e;cases e
 generalize (execOp a.eval o).run P w=r at h
 have hv : ∀ u w',((∃ u',a.put o.dst u=a.put o.dst u')∧next { a.put o.dst u with defers:=ds } w')→next (({ a with defers:=ds } : Act).put o.dst u) w':=by
  intro u w' hh;rw [put_defers];exact hh.2
 match r,h with
 | .ok (.value v) w',h=>exact hv _ _ h
 | .ok .skip w',h=>exact hv _ _ h
 | .ok (.defer d) w',h =>
  obtain ⟨⟨u,hu⟩,_⟩:=h
  have:=congrArg Act.defers hu
  rw [put_defers',put_defers'] at this
  simp at this
 | .ok (.enter f args) w',h =>
  refine ⟨hdep,(hF.calls h).mono ?_⟩
  intro e w'' hh
  match e,hh with
  | .returned v,hh=>exact hv _ _ hh
  | .panicked c,hh=>exact hh.elim
  | .outgrown,⟨_,_,hh⟩=>exact hh.elim
 | .ok (.row row args) w',h=>exact ⟨hdep,(hF.rows h).mono fun v w'' hh=>hv _ _ hh⟩
 | .halt (.panic v) w',h=>exact h.elim
theorem awOpsIn (hF:FW F) (hti:TIok P ti) {B:Nat→Prop} {ops:Array Oper} {ds:List (Option Tmp)} (hds : ∀ j:Nat,(ops[j]?).map (·.dst)=ds[j]?) {K:Tm→List Ob→Prop} {Q:Exit→Act→World→Prop} (dd:List Deferred) : ∀ (l:List Oper) (R:PH) (γ:List Gh) (L:List Ob) (T:Tm) (a:Act) (w:World),ndL l=true→awOps P ti N ds K l T L→Inv B R γ L w→TRep N R γ L T a →
  (∀ T' L' R' γ' w' a',K T' L'→Inv B R' γ' L' w'→TRep N R' γ' L' T' a'→Ext B R R' w w'→Mv R R' γ γ' L L'→(∀ t,(∀ o∈l,o.dst≠some t)→a'.tmps[t]?=a.tmps[t]?)→Q .normal { a' with defers:=dd } w')→wpListIn F n P ops Q l { a with defers:=dd } w
 | [],R,γ,L,T,a,w,_,h,hi,hT,hQ=>hQ T L R γ w a h hi hT (Ext.refl _ _ _) Mv.refl (fun _ _=>rfl)
 | o::rest,R,γ,L,T,a,w,hn,h,hi,hT,hQ=>by
  obtain ⟨hd,hg⟩:=h
  rw [ndL,Bool.and_eq_true] at hn
  have hput : ∀ u t,(∀ o'∈o::rest,o'.dst≠some t)→(a.put o.dst u).tmps[t]?=a.tmps[t]?:=by
   intro u t ht
   have:=ht o (List.mem_cons_self ..)
   cases hdd:o.dst with
   | none=>rfl
   | some d=>rw [hdd] at this;simp only [Act.put];exact Array.getElem?_setIfInBounds_ne (fun e=>this (by rw [e]))
  unfold wpListIn
  rcases gd_sound hds hT hg with ⟨hw,hA⟩|⟨hw,hB⟩
  ·rw [if_pos (show Region.wanted o (yielded ops ({ a with defers:=dd } : Act).tmps)=true from hw)]
   refine op_in hF hn.1 (awOp_sound hti hi (fun x v hx=>look_rep hT hx) hA fun v L' R' γ' w' u hk h1 h2 h3 h4=>⟨⟨u,rfl⟩,?_⟩)
   exact awOpsIn hF hti hds dd rest R' γ' L' _ _ w' hn.2 hk h1 (trep_put (hT.mv h3) hd h4) fun T2 L2 R2 γ2 w2 a2 k1 k2 k3 k4 k5 k6=>hQ T2 L2 R2 γ2 w2 a2 k1 k2 k3 (h2.trans k4) (h3.trans k5) fun t ht=>(k6 t fun o' ho'=>ht o' (List.mem_cons_of_mem _ ho')).trans (hput u t ht)
  ·rw [if_neg (by show ¬ Region.wanted o (yielded ops a.tmps)=true;rw [hw];decide)]
   refine ⟨fun f _=>hF.fn f,?_⟩
   rw [put_defers]
   exact awOpsIn hF hti hds dd rest R γ L _ _ w hn.2 hB hi (trep_put hT hd rfl) fun T2 L2 R2 γ2 w2 a2 k1 k2 k3 k4 k5 k6=>hQ T2 L2 R2 γ2 w2 a2 k1 k2 k3 k4 k5 fun t ht=>(k6 t fun o' ho'=>ht o' (List.mem_cons_of_mem _ ho')).trans (hput _ t ht)
end
structure DOK (D:Bool) (s:Nat) (B:Nat→Prop) (w:World) (ds:List Deferred):Prop where
 no:D=false→ds=[]
 le:s≤w.heap.size
 nd:ds.Nodup
 at_ : ∀ d∈ds, ∃ b,d = { target := .collected b,args := #[] } ∧ s≤b∧B b∧w.heap[b]?=some (.deferred (some []))
theorem DOK.mono {D:Bool} {s:Nat} {B B':Nat→Prop} {w w':World} {ds:List Deferred} (h:DOK D s B w ds) (hk:Kept B w w') (hB : ∀ b,B b→B' b):DOK D s B' w' ds :=
 ⟨h.no,Nat.le_trans h.le hk.size,h.nd,fun d hd=>let ⟨b,h1,h2,h3,h4⟩:=h.at_ d hd;⟨b,h1,h2,hB b h3,(hk.block b h3).trans h4⟩⟩
theorem Ext.mono {B B':Nat→Prop} {R R':PH} {w w':World} (h:Ext B R R' w w') (hB : ∀ b,B' b→B b):Ext B' R R' w w':=⟨h.below.mono hB,h.sub,fun b o hb=>h.old b o (hB b hb)⟩
theorem Inv.anti {B B':Nat→Prop} {R:PH} {γ:List Gh} {L:List Ob} {w:World} (h:Inv B R γ L w) (hB : ∀ b,B' b→B b):Inv B' R γ L w :=
 ⟨h.len,h.val,h.obj,h.inj,fun i g b hg hb=>⟨fun e=>(h.new i g b hg hb).1 (hB b e),(h.new i g b hg hb).2⟩,fun b hb=>h.bsz b (hB b hb)⟩
theorem putObj_cell {w:World} {l b o:Nat} {x:Obj} (h:b≠l):(w.putObj l x).cell? ⟨b,o,none⟩=w.cell? ⟨b,o,none⟩:=World.cell?_of_block (World.putObj_heap_other h)
theorem Inv.putObj {B:Nat→Prop} {R:PH} {γ:List Gh} {L:List Ob} {w:World} (hi:Inv B R γ L w) {l:Nat} {x:Obj} (hc : ∀ o,w.cell? ⟨l,o,none⟩=none) (hB:B l):Inv B R γ L (w.putObj l x):=by
 refine ⟨hi.len,fun b o u hu=>?_,fun id y g hy hg=>?_,hi.inj,fun i g b hg hb=>?_,fun b hb=>?_⟩
 ·have:=hi.val b o u hu
  by_cases e:b=l
  ·subst e;rw [hc] at this;cases this
  ·rw [putObj_cell e];exact this
 ·exact (hi.obj id y g hy hg).mv Mv.refl (fun b hb=>World.putObj_heap_other (fun e=>(hi.new id g b hg hb).1 (e▸hB))) (fun _ _ _ h=>h)
 ·rw [World.putObj_size];exact hi.new i g b hg hb
 ·rw [World.putObj_size];exact hi.bsz b hb
theorem Ext.putObj {B:Nat→Prop} {R:PH} {w:World} {l:Nat} {x:Obj} (h : ¬ B l):Ext B R R w (w.putObj l x) :=
 ⟨⟨rfl,rfl,rfl,by rw [World.putObj_size];exact Nat.le_refl _,fun b hb=>World.putObj_heap_other (fun e=>h (e▸hb))⟩,PH.sub_refl _,fun _ _ _=>rfl⟩
theorem nocell_loop {w:World} {l:Nat} {r:Loop} (h:w.heap[l]?=some (.loop r)) (o:Nat):w.cell? ⟨l,o,none⟩=none:=by simp [World.cell?,h]
theorem nocell_def {w:World} {l:Nat} {r:Option (List Deferred)} (h:w.heap[l]?=some (.deferred r)) (o:Nat):w.cell? ⟨l,o,none⟩=none:=by simp [World.cell?,h]
def PostG (D:Bool) (s N n0:Nat) (B:Nat→Prop) (Q:AX→Tm→List Ob→Prop) (R:PH) (w:World) (γ:List Gh) (L:List Ob) (e:Exit) (a':Act) (w':World):Prop :=
 ∃ x T' L' R' γ' B',e=x.ex∧Q x T' L'∧(∀ b,B b→B' b)∧Inv B' R' γ' L' w'∧TRep N R' γ' L' T' { a' with defers:=[] } ∧ DOK D s B' w' a'.defers∧Ext B R R' w w'∧MvN n0 R R' γ γ' L L'
def AwG (F:Fence) (P:Program) (D:Bool) (N n0:Nat) (Φ:(Nat→Prop)→List Gh→World→Prop) (c:Code) (Q:AX→Tm→List Ob→Prop) (T:Tm) (L:List Ob):Prop :=
 n0≤L.length → ∀ s B R γ w a,Φ B γ w→Inv B R γ L w→TRep N R γ L T { a with defers:=[] } → DOK D s B w a.defers→c.wpIn F 0 P (PostG D s N n0 B Q R w γ L) a w
def Stay (n0:Nat) (Φ:(Nat→Prop)→List Gh→World→Prop):Prop :=
 ∀ B B' R R' γ γ' L L' w w',Φ B γ w→(∀ b,B b→B' b)→Ext B R R' w w'→MvN n0 R R' γ γ' L L'→Φ B' γ' w'
section
variable {F:Fence} {P:Program} {ti:TI} {D:Bool} {N n0:Nat} {Φ:(Nat→Prop)→List Gh→World→Prop} {Q:AX→Tm→List Ob→Prop} {T:Tm} {L:List Ob}
theorem AwG.mono {c:Code} {Q':AX→Tm→List Ob→Prop} (h:AwG F P D N n0 Φ c Q T L) (hq : ∀ x T L,Q x T L→Q' x T L):AwG F P D N n0 Φ c Q' T L :=
 fun hn s B R γ w a hΦ hi hT hd=>wpIn_mono (h hn s B R γ w a hΦ hi hT hd) fun _ _ _ ⟨x,T',L',R',γ',B',e,q,r⟩=>⟨x,T',L',R',γ',B',e,hq _ _ _ q,r⟩
theorem PostG.ext {s:Nat} {B B1:Nat→Prop} {R R1:PH} {w w1:World} {γ γ1:List Gh} {L1:List Ob} {e:Exit} {a':Act} {w':World} (h:PostG D s N n0 B1 Q R1 w1 γ1 L1 e a' w') (hB : ∀ b,B b→B1 b) (he:Ext B R R1 w w1) (hg:γ.length=L.length) (hm:MvN n0 R R1 γ γ1 L L1):PostG D s N n0 B Q R w γ L e a' w' :=
 let ⟨x,T',L',R',γ',B',h1,h2,h3,h4,h5,h6,h7,h8⟩:=h;⟨x,T',L',R',γ',B',h1,h2,fun b hb=>h3 b (hB b hb),h4,h5,h6,he.trans (h7.mono hB),hm.trans hg h8⟩
theorem PostG.now {s:Nat} {B:Nat→Prop} {R:PH} {w:World} {γ:List Gh} {a:Act} (x:AX) (hn:n0≤L.length) (h:Q x T L) (hi:Inv B R γ L w) (hT:TRep N R γ L T { a with defers:=[] }) (hd:DOK D s B w a.defers):PostG D s N n0 B Q R w γ L x.ex a w :=
 ⟨x,T,L,R,γ,B,rfl,h,fun _ h=>h,hi,hT,hd,Ext.refl _ _ _,MvN.of hn Mv.refl⟩
theorem awG_skip (h:Q .normal T L):AwG F P D N n0 Φ .skip Q T L:=fun hn _ _ _ _ _ _ _ hi hT hd=>wpIn_skip (PostG.now .normal hn h hi hT hd)
theorem awG_label {l:Nat} (h:Q .normal T L):AwG F P D N n0 Φ (.label l) Q T L:=fun hn _ _ _ _ _ _ _ hi hT hd=>wpIn_label (PostG.now .normal hn h hi hT hd)
theorem awG_ret (h:Q .ret T L):AwG F P D N n0 Φ .ret Q T L:=fun hn _ _ _ _ _ _ _ hi hT hd=>wpIn_ret (PostG.now .ret hn h hi hT hd)
theorem awG_exit {id:Nat} (h:Q (.exit id) T L):AwG F P D N n0 Φ (.exit id) Q T L:=fun hn _ _ _ _ _ _ _ hi hT hd=>wpIn_exit (PostG.now (.exit id) hn h hi hT hd)
theorem awG_seq (hΦ:Stay n0 Φ) {x y:Code} (h:AwG F P D N n0 Φ x (AX.then (AwG F P D N n0 Φ y Q) Q) T L):AwG F P D N n0 Φ (.seq x y) Q T L:=by
 intro hn s B R γ w a h0 hi hT hd
 refine wpIn_seq (wpIn_mono (h hn s B R γ w a h0 hi hT hd) ?_)
 rintro e a1 w1 ⟨x,T1,L1,R1,γ1,B1,rfl,q,b1,i1,t1,d1,e1,m1⟩
 cases x with
 | normal=>exact wpIn_mono (q m1.lo' s B1 R1 γ1 w1 a1 (hΦ _ _ _ _ _ _ _ _ _ _ h0 b1 e1 m1) i1 t1 d1) fun _ _ _ hh=>hh.ext b1 e1 hi.len m1
 | exit id=>exact ⟨.exit id,T1,L1,R1,γ1,B1,rfl,q,b1,i1,t1,d1,e1,m1⟩
 | ret=>exact ⟨.ret,T1,L1,R1,γ1,B1,rfl,q,b1,i1,t1,d1,e1,m1⟩
theorem awG_cond {c:Operand} {x y:Code} {b:Bool} (hc:look T c=some (.one (.c (.bool b)))) (h1:b=true→AwG F P D N n0 Φ x Q T L) (h2:b=false→AwG F P D N n0 Φ y Q T L):AwG F P D N n0 Φ (.cond c x y) Q T L:=by
 intro hn s B R γ w a h0 hi hT hd
 have hv:=look_rep hT hc
 have he:a.eval c = .bool b:=by
  have e:({ a with defers:=[] } : Act).eval c=a.eval c:=by cases c<;>rfl
  rw [e] at hv
  generalize a.eval c=v at hv
  cases hv;rfl
 exact wpIn_cond_split he (fun e=>h1 e hn s B R γ w a h0 hi hT hd) (fun e=>h2 e hn s B R γ w a h0 hi hT hd)
theorem awG_block {id:Nat} {c:Code} (h:AwG F P D N n0 Φ c (AX.inBlock id Q) T L):AwG F P D N n0 Φ (.block id c) Q T L:=by
 intro hn s B R γ w a h0 hi hT hd
 refine wpIn_block (wpIn_mono (h hn s B R γ w a h0 hi hT hd) ?_)
 rintro e a1 w1 ⟨x,T1,L1,R1,γ1,B1,rfl,q,r⟩
 cases x with
 | normal=>exact ⟨.normal,T1,L1,R1,γ1,B1,rfl,q,r⟩
 | ret=>exact ⟨.ret,T1,L1,R1,γ1,B1,rfl,q,r⟩
 | exit j =>
  simp only [AX.inBlock] at q
  by_cases hj:j=id
  ·subst hj
   rw [if_pos rfl] at q
   show Exit.inBlock j _ (.exit j) a1 w1
   simp only [Exit.inBlock,if_true]
   exact ⟨.normal,T1,L1,R1,γ1,B1,rfl,q,r⟩
  ·rw [if_neg hj] at q
   show Exit.inBlock id _ (.exit j) a1 w1
   simp only [Exit.inBlock,if_neg hj]
   exact ⟨.exit j,T1,L1,R1,γ1,B1,rfl,q,r⟩
theorem awG_region (hF:FW F) (hti:TIok P ti) {id:Nat} {l:List Oper} (ds:List (Option Tmp)) (hds:l.map (·.dst)=ds) (hnd:ndL l=true) (h:awOps P ti N ds (Q .normal) l T L):AwG F P D N n0 Φ (.region id l.toArray false) Q T L:=by
 intro hn s B R γ w a _ hi hT hd
 refine wpIn_region_lit (awOpsIn hF hti (dsts hds) a.defers l R γ L T { a with defers:=[] } w hnd h hi hT ?_)
 intro T' L' R' γ' w' a' hk h1 h2 h3 h4 _
 exact ⟨.normal,T',L',R',γ',B,rfl,hk,fun _ h=>h,h1,⟨h2.size,rfl,h2.slot⟩,hd.mono h3.below fun _ h=>h,h3,MvN.of hn h4⟩
theorem awG_of_aw {c:Code} (h:Aw P N n0 c Q T L):AwG Fence.wide P false N n0 Φ c Q T L:=by
 intro hn s B R γ w a _ hi hT hd
 have ha:({ a with defers:=[] } : Act)=a:=by have:=hd.no rfl;cases a;simp_all
 rw [ha] at hT
 refine wpIn_wide.2 (wp_mono (h hn B R γ w a hi hT) ?_)
 rintro e a1 w1 ⟨x,T1,L1,R1,γ1,rfl,q,i1,t1,e1,m1⟩
 exact ⟨x,T1,L1,R1,γ1,B,rfl,q,fun _ h=>h,i1,⟨t1.size,rfl,t1.slot⟩,by rw [t1.defers];exact ⟨fun _=>rfl,Nat.le_trans hd.le e1.below.size,List.nodup_nil,fun d h=>by cases h⟩,e1,m1⟩
end
structure Ent where
 g:Operand
 ps:Array Tmp
 assign:Code
 body:Code
 N:Nat
 T:Tm
 L:List Ob
abbrev SP (G:Type):=Code→Tm→List Ob→Option (AX × Tm × List Ob × List G)
def loopG {G:Type} (body:Tm→List Ob→Option (AX × Tm × List Ob × List G)) (N:Nat):Nat→Tm→List Ob→Option (AX × Tm × List Ob × List G)
 | 0,_,_=>none
 | n+1,T,L=>match body (clean N T) L with
  | some (.normal,T',L',g)=>match loopG body N n T' L' with
   | some (x,T2,L2,g2)=>some (x,T2,L2,g++g2)
   | none=>none
  | r=>r
def evG {G:Type} (cx:Cx) (cp:CP) (cr:CR) (dr:Bool) (sp:SP G) (f:FuncId) (N:Nat):Code→Tm→List Ob→Option (AX × Tm × List Ob × List G)
 | .skip,T,L=>some (.normal,T,L,[])
 | .label _,T,L=>some (.normal,T,L,[])
 | .ret,T,L=>some (.ret,T,L,[])
 | .exit id,T,L=>some (.exit id,T,L,[])
 | .seq x y,T,L=>match evG cx cp cr dr sp f N x T L with
  | some (.normal,T',L',g)=>match evG cx cp cr dr sp f N y T' L' with
   | some (x,T2,L2,g2)=>some (x,T2,L2,g++g2)
   | none=>none
  | r=>r
 | .cond c x y,T,L=>match look T c with
  | some (.one (.c (.bool b)))=>match b with
   | true=>evG cx cp cr dr sp f N x T L
   | false=>evG cx cp cr dr sp f N y T L
  | _=>none
 | .block id c,T,L=>match evG cx cp cr dr sp f N c T L with
  | some (.exit j,T',L',g)=>match decide (j=id) with
   | true=>some (.normal,T',L',g)
   | false=>some (.exit j,T',L',g)
  | r=>r
 | .region id ops d,T,L=>match sp (.region id ops d) T L with
  | some r=>some r
  | none=>match dr with
   | true=>match evC cx cp cr f N [] (.region id ops d) T L with
    | some (x,T',L')=>some (x,T',L',[])
    | none=>none
   | false=>match d,ndL ops.toList with
    | false,true=>match evOps cx (tiOf cx f id false) cp cr f N (ops.toList.map (·.dst)) ops.toList T L with
     | some (T2,L2)=>some (.normal,T2,L2,[])
     | none=>none
    | _,_=>none
 | .loop c,T,L=>loopG (evG cx cp cr dr sp f N c) N 1048576 T L
 | .rangeFunc g ps assign body,T,L=>sp (.rangeFunc g ps assign body) T L
 | _,_,_=>none
section
variable {G:Type} {cx:Cx} {cp:CP} {cr:CR} {F:Fence} {D dr:Bool} {sp:SP G} {f:FuncId} {N n0:Nat} {Φ:(Nat→Prop)→List Gh→World→Prop} {Ok:G→Prop}
theorem loopG_ok (hΦ:Stay n0 Φ) {c:Code} {body:Tm→List Ob→Option (AX × Tm × List Ob × List G)} (hb : ∀ T L x T' L' g,body T L=some (x,T',L',g)→(∀ e∈g,Ok e)→AwG F cx.P D N n0 Φ c (AtE x T' L') T L) :
  ∀ {n:Nat} {T:Tm} {L:List Ob} {x:AX} {T':Tm} {L':List Ob} {g:List G}, loopG body N n T L=some (x,T',L',g)→(∀ e∈g,Ok e)→AwG F cx.P D N n0 Φ (.loop c) (AtE x T' L') T L:=by
 intro n0' T L x T' L' g h hg
 intro hn s B0 R0 γ0 w0 a0 h0 hi hT hd
 have key : ∀ n g T L0 B R γ a w,(∀ e∈g,Ok e)→n0≤L0.length→loopG body N n T L0=some (x,T',L',g)→(∀ b,B0 b→B b)→Inv B R γ L0 w→TRep N R γ L0 T { a with defers:=[] } → DOK D s B w a.defers→Ext B0 R0 R w0 w→MvN n0 R0 R γ0 γ L L0→Code.roundsIn F 0 cx.P c (PostG D s N n0 B0 (AtE x T' L') R0 w0 γ0 L) n a w:=by
  intro n
  induction n with
  | zero=>intro g T L0 B R γ a w _ _ hl;cases hl
  | succ n ih =>
   intro g T L0 B R γ a w hg hlo hl hB hI ht hd he hmv
   rw [roundsIn_succ]
   unfold loopG at hl
   have htc:TRep N R γ L0 (clean N T) { a with defers:=[] } := ⟨ht.size,ht.defers,fun t x hx=>ht.slot t x (clean_sub hx)⟩
   have hΦ1:=hΦ _ _ _ _ _ _ _ _ _ _ h0 hB he hmv
   split at hl
   ·rename_i T1 L1 g1 hb1
    split at hl
    ·rename_i x2 T2 L2 g2 hb2
     cases hl
     refine wpIn_mono (hb _ _ _ _ _ _ hb1 (fun e he=>hg e (List.mem_append_left _ he)) hlo s B R γ w a hΦ1 hI htc hd) ?_
     rintro e a1 w1 ⟨y,T2,L2,R1,γ2,B2,rfl,⟨rfl,rfl,rfl⟩,b1,j1,k1,d1,e1,m1⟩
     exact ih g2 _ _ B2 R1 _ a1 w1 (fun e he=>hg e (List.mem_append_right _ he)) m1.lo' hb2 (fun b hb=>b1 b (hB b hb)) j1 k1 d1 (he.trans (e1.mono hB)) (hmv.trans hi.len m1)
    ·cases hl
   ·rename_i hne
    refine wpIn_mono (hb _ _ _ _ _ _ hl hg hlo s B R γ w a hΦ1 hI htc hd) ?_
    rintro e a1 w1 hp
    obtain ⟨y,T2,L2,R1,γ2,B2,rfl,⟨rfl,rfl,rfl⟩,r⟩:=hp.ext hB he hi.len hmv
    cases y with
    | normal=>exact absurd hl (hne _ _ _)
    | exit id=>exact ⟨.exit id,_,_,R1,γ2,B2,rfl,⟨rfl,rfl,rfl⟩,r⟩
    | ret=>exact ⟨.ret,_,_,R1,γ2,B2,rfl,⟨rfl,rfl,rfl⟩,r⟩
 exact wpIn_loop_rounds n0' (key n0' g T L B0 R0 γ0 a0 w0 hg hn h (fun _ h=>h) hi hT hd (Ext.refl _ _ _) (MvN.of hn Mv.refl))
theorem evG_ok (hF:FW F) (hΦ:Stay n0 Φ) (hdr:dr=true→F=Fence.wide∧D=false) (hx:CxOK cx) (hcp : ∀ g ps r,cp g ps=some r→Pure cx.P g ps r) (hcr : ∀ g L asx L1 r,cr g L asx=some (L1,r)→RunAll cx.P g L asx L1 r)
  (hsp : ∀ c T L x T' L' g,sp c T L=some (x,T',L',g)→(∀ e∈g,Ok e)→AwG F cx.P D N n0 Φ c (AtE x T' L') T L) :
  ∀ {c:Code} {T:Tm} {L:List Ob} {x:AX} {T':Tm} {L':List Ob} {g:List G}, (dr=true→codeOK cx f c=true)→evG cx cp cr dr sp f N c T L=some (x,T',L',g)→(∀ e∈g,Ok e)→AwG F cx.P D N n0 Φ c (AtE x T' L') T L:=by
 intro c
 induction c with
 | skip=>intro T L x T' L' g _ h _;cases h;exact awG_skip ⟨rfl,rfl,rfl⟩
 | label l=>intro T L x T' L' g _ h _;cases h;exact awG_label ⟨rfl,rfl,rfl⟩
 | ret=>intro T L x T' L' g _ h _;cases h;exact awG_ret ⟨rfl,rfl,rfl⟩
 | exit id=>intro T L x T' L' g _ h _;cases h;exact awG_exit ⟨rfl,rfl,rfl⟩
 | seq a b iha ihb =>
  intro T L x T' L' g hc h hg
  have hc':dr=true→codeOK cx f a=true∧codeOK cx f b=true:=fun e=>by have:=hc e;rwa [codeOK,Bool.and_eq_true] at this
  unfold evG at h
  refine awG_seq hΦ ?_
  split at h
  ·rename_i T1 L1 g1 h1
   split at h
   ·rename_i x2 T2 L2 g2 h2
    cases h
    refine AwG.mono (iha (fun e=>(hc' e).1) h1 (fun e he=>hg e (List.mem_append_left _ he))) ?_
    rintro y S M ⟨rfl,rfl,rfl⟩
    exact ihb (fun e=>(hc' e).2) h2 (fun e he=>hg e (List.mem_append_right _ he))
   ·cases h
  ·rename_i hne
   refine AwG.mono (iha (fun e=>(hc' e).1) h hg) ?_
   rintro y S M ⟨rfl,rfl,rfl⟩
   cases y with
   | normal=>exact absurd h (hne _ _ _)
   | exit id=>exact ⟨rfl,rfl,rfl⟩
   | ret=>exact ⟨rfl,rfl,rfl⟩
 | cond c a b iha ihb =>
  intro T L x T' L' g hc h hg
  have hc':dr=true→codeOK cx f a=true∧codeOK cx f b=true:=fun e=>by have:=hc e;rwa [codeOK,Bool.and_eq_true] at this
  unfold evG at h
  split at h
  ·rename_i b' hl
   refine awG_cond hl (fun e=>?_) (fun e=>?_)
   ·subst e;exact iha (fun e=>(hc' e).1) h hg
   ·subst e;exact ihb (fun e=>(hc' e).2) h hg
  ·cases h
 | block id c ih =>
  intro T L x T' L' g hc h hg
  have hc':dr=true→codeOK cx f c=true:=fun e=>by have:=hc e;rwa [codeOK] at this
  unfold evG at h
  refine awG_block ?_
  split at h
  ·rename_i j T1 L1 g1 h1
   refine AwG.mono (ih hc' h1 (by split at h<;>(cases h;exact hg))) ?_
   rintro y S M ⟨rfl,rfl,rfl⟩
   show if j=id then _ else _
   split at h
   ·rename_i e;rw [if_pos (of_decide_eq_true e)];cases h;exact ⟨rfl,rfl,rfl⟩
   ·rename_i e;rw [if_neg (of_decide_eq_false e)];cases h;exact ⟨rfl,rfl,rfl⟩
  ·rename_i hne
   refine AwG.mono (ih hc' h hg) ?_
   rintro y S M ⟨rfl,rfl,rfl⟩
   cases y with
   | normal=>exact ⟨rfl,rfl,rfl⟩
   | exit id=>exact absurd h (hne _ _ _ _)
   | ret=>exact ⟨rfl,rfl,rfl⟩
 | region id ops d =>
  intro T L x T' L' g hc h hg
  unfold evG at h
  split at h
  ·rename_i h1;cases h;exact hsp _ _ _ _ _ _ _ h1 hg
  ·split at h
   ·rename_i hd
    split at h
    ·rename_i h1
     cases h
     obtain ⟨rfl,rfl⟩:=hdr rfl
     exact awG_of_aw (evC_ok hx hcp hcr (hc rfl) h1)
    ·cases h
   ·split at h
    ·split at h
     ·rename_i T2 L2 h2
      cases h
      have hr:ops=ops.toList.toArray:=rfl
      rw [hr]
      exact awG_region hF (tiOf_ok hx f id false) _ rfl ‹ndL ops.toList=true› (evOps_ok (tiOf_ok hx f id false) hx.ne hcp hcr h2 ⟨rfl,rfl,rfl⟩)
     ·cases h
    ·cases h
 | loop c ih =>
  intro T L x T' L' g hc h hg
  unfold evG at h
  exact loopG_ok hΦ (fun T L x T' L' g hb hg'=>ih (fun e=>by have:=hc e;rwa [codeOK] at this) hb hg') h hg
 | rangeFunc g ps assign body _ _=>intro T L x T' L' g _ h hg;unfold evG at h;exact hsp _ _ _ _ _ _ _ h hg
 | _=>intro T L x T' L' g _ h;unfold evG at h;cases h
end
end Go.Proofs.YtngehibfdjdejaaGreatDoor
