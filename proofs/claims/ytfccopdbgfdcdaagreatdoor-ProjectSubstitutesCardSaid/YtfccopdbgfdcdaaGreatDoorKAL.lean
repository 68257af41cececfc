/- Parts of the proof, joined. No condition. -/
import Derived.Test.YtfccopdbgfdcdaaGreatDoorKAA
import Derived.Test.YtfccopdbgfdcdaaGreatDoorKAK
import Derived.Test.YtfccopdbgfdcdaaGreatDoorKAI
import Derived.Laws.StructEq
import Derived.Test.YtfccopdbgfdcdaaGreatDoorProg
set_option linter.unusedSimpArgs false
set_option linter.unusedVariables false
namespace Go.Proofs.YtfccopdbgfdcdaaGreatDoor
open Go.RowKit Go.MapKept
theorem TIok.flags {P:Program} {ti:TI} (h:TIok P ti) (d s:Bool):TIok P { ti with dyn:=d,soft:=s } := ⟨h.size,h.agg,h.elem,h.field,h.zero,h.bytes,h.kind,h.struct,h.zok,h.eqs⟩
structure Cx where
 P:Program
 ti:TI
 xs:Qv
 row:FuncId->Nat->Bool
 frz:FuncId->Nat->List Nat
 flg:FuncId->Nat->Bool × Bool
 orc:FuncId->List PV->Option CV
 bad:FuncId->Bool
def aaq (n:Nat):Cap->Bool
 | .ptr id _=>Nat.blt id n
 | .c _=>true
def Mj (n:Nat):List Cap->Bool
 | []=>true
 | x::xs=>aaq n x&&Mj n xs
def aa7 (n:Nat):SV->Bool
 | .own _ t=>Nat.blt t n
 | .ptr id _=>Nat.blt id n
 | .sl id _ _ _=>Nat.blt id n
 | .ep id _ _ _=>Nat.blt id n
 | .mp id=>Nat.blt id n
 | .clo _ caps=>Mj n caps
 | .c _=>true
 | .emp=>true
def Lg (n:Nat):List SV->Bool
 | []=>true
 | x::xs=>aa7 n x&&Lg n xs
def MM (n:Nat):List (List SV)->Bool
 | []=>true
 | x::xs=>Lg n x&&MM n xs
def Xh (n:Nat):AV->Bool
 | .one x=>aa7 n x
 | .agg xs=>Lg n xs
 | .tup _=>true
 | .undef=>true
def Sj (n:Nat):List AV->Bool
 | []=>true
 | x::xs=>Xh n x&&Sj n xs
def Sl (n:Nat):List (AC × AV)->Bool
 | []=>true
 | x::xs=>Xh n x.2&&Sl n xs
def acu (n:Nat):Ob->Bool
 | .box cs=>Lg n cs
 | .row _ es _=>MM n es
 | .map kvs=>Sl n kvs
 | .spare _ _=>true
 | .dead=>true
def J9 (n:Nat):List Ob->Bool
 | []=>true
 | x::xs=>acu n x&&J9 n xs
theorem Xa {n:Nat} {x:Cap} (h:aaq n x=true):x.below n:=by
 cases x with
 | c _=>trivial
 | ptr id _=>exact adS h
theorem KU {n:Nat} : ∀ {xs:List Cap}, Mj n xs=true -> ∀ x∈xs,x.below n
 | [],_,x,hx=>by cases hx
 | y::xs,h,x,hx=>by
  rw [Mj,ad1] at h
  rcases adZ.1 hx with rfl|hx
  ·exact Xa h.1
  ·exact KU h.2 x hx
theorem Sy {n:Nat} {x:SV} (h:aa7 n x=true):x.below n:=by
 cases x with
 | c _=>trivial
 | emp=>trivial
 | own _ t=>exact adS h
 | ptr id _=>exact adS h
 | sl id _ _ _=>exact adS h
 | ep id _ _ _=>exact adS h
 | mp id=>exact adS h
 | clo f caps=>exact KU h
theorem Cj {n:Nat} : ∀ {xs:List SV}, Lg n xs=true -> ∀ x∈xs,x.below n
 | [],_,x,hx=>by cases hx
 | y::xs,h,x,hx=>by
  rw [Lg,ad1] at h
  rcases adZ.1 hx with rfl|hx
  ·exact Sy h.1
  ·exact Cj h.2 x hx
theorem KP {n:Nat} : ∀ {xs:List (List SV)}, MM n xs=true -> ∀ e∈xs, ∀ x∈e,x.below n
 | [],_,x,hx=>by cases hx
 | y::xs,h,x,hx=>by
  rw [MM,ad1] at h
  rcases adZ.1 hx with rfl|hx
  ·exact Cj h.1
  ·exact KP h.2 x hx
theorem Fw {n:Nat} {x:AV} (h:Xh n x=true):x.below n:=by
 cases x with
 | one x=>exact Sy h
 | agg xs=>exact Cj h
 | tup _=>trivial
 | undef=>trivial
theorem N0 {n:Nat} : ∀ {xs:List AV}, Sj n xs=true -> ∀ x∈xs,x.below n
 | [],_,x,hx=>by cases hx
 | y::xs,h,x,hx=>by
  rw [Sj,ad1] at h
  rcases adZ.1 hx with rfl|hx
  ·exact Fw h.1
  ·exact N0 h.2 x hx
theorem O9 {n:Nat} : ∀ {xs:List (AC × AV)}, Sl n xs=true -> ∀ p∈xs,p.2.below n
 | [],_,x,hx=>by cases hx
 | y::xs,h,x,hx=>by
  rw [Sl,ad1] at h
  rcases adZ.1 hx with rfl|hx
  ·exact Fw h.1
  ·exact O9 h.2 x hx
theorem Ze {n:Nat} {x:Ob} (h:acu n x=true):x.below n:=by
 cases x with
 | box cs=>exact Cj h
 | row _ es _=>exact KP h
 | map kvs=>exact O9 h
 | spare _ _=>trivial
 | dead=>trivial
theorem CY {n:Nat} : ∀ {xs:List Ob}, J9 n xs=true -> ∀ x∈xs,x.below n
 | [],_,x,hx=>by cases hx
 | y::xs,h,x,hx=>by
  rw [J9,ad1] at h
  rcases adZ.1 hx with rfl|hx
  ·exact Ze h.1
  ·exact CY h.2 x hx
theorem lG {n i:Nat} (h:i<n):mU (List.range n) i=i:=by
 unfold mU
 rw [aey,List.getElem?_range h];rfl
theorem Cap.ren_range {n:Nat} {x:Cap} (h:x.below n):x.ren (List.range n)=x:=by
 cases x with
 | c _=>rfl
 | ptr id off=>show Cap.ptr (mU _ id) off=_;rw [lG h]
theorem kG {α:Type} {f:α->α} : ∀ {l:List α}, (∀ x∈l,f x=x)->l.map f=l
 | [],_=>rfl
 | x::l,h=>by rw [adT,h x (aet ..),kG fun y hy=>h y (ad7 _ hy)]
theorem SV.ren_range {n:Nat} {x:SV} (h:x.below n):x.ren (List.range n)=x:=by
 cases x with
 | c _=>rfl
 | emp=>rfl
 | own es t=>show SV.own es (mU _ t)=_;rw [lG h]
 | ptr id off=>show SV.ptr (mU _ id) off=_;rw [lG h]
 | sl id v l m=>show SV.sl (mU _ id) v l m=_;rw [lG h]
 | ep id v i o=>show SV.ep (mU _ id) v i o=_;rw [lG h]
 | mp id=>show SV.mp (mU _ id)=_;rw [lG h]
 | clo f caps=>show SV.clo f (caps.map _)=_;rw [kG fun x hx=>Cap.ren_range (h x hx)]
theorem AV.ren_range {n:Nat} {x:AV} (h:x.below n):x.ren (List.range n)=x:=by
 cases x with
 | one x=>show AV.one (x.ren _)=_;rw [SV.ren_range h]
 | agg xs=>show AV.agg (xs.map _)=_;rw [kG fun x hx=>SV.ren_range (h x hx)]
 | tup _=>rfl
 | undef=>rfl
theorem Ob.ren_range {n:Nat} {x:Ob} (h:x.below n):x.ren (List.range n)=x:=by
 cases x with
 | box cs=>show Ob.box (cs.map _)=_;rw [kG fun x hx=>SV.ren_range (h x hx)]
 | row v es k=>show Ob.row v (es.map (List.map _)) k=_;rw [kG fun e he=>kG fun x hx=>SV.ren_range (h e he x hx)]
 | map kvs=>show Ob.map (kvs.map fun p=>(p.1,p.2.ren (List.range n)))=_;rw [kG (f:=fun p:AC × AV=>(p.1,p.2.ren (List.range n))) fun p hp=>by show (p.1,p.2.ren _)=p;rw [AV.ren_range (h p hp)]]
 | spare _ _=>rfl
 | dead=>rfl
theorem CL {n m:Nat} (h:n<=m):fV (List.range n) n m=List.range m:=by
 unfold fV Ac
 rw [List.length_range, <- List.range_add,Nat.add_sub_cancel' h]
theorem OI {L L1:List Ob} (h:L.length<=L1.length) (hb : ∀ x∈L1,x.below L1.length):joinL (List.range L.length) L L1=L1:=by
 unfold joinL join
 rw [CL h,kG fun x hx=>Ob.ren_range (hb x hx),List.length_range]
 have:lL L (List.range L.length) L1=L1.take L.length:=by
  apply List.ext_getElem?
  intro i
  by_cases hi:i<L.length
  ·rw [DN _ L L1 i i List.nodup_range (fun k hk=>List.mem_range.1 hk) (List.getElem?_range hi) (by omega),aeb,if_pos hi]
  ·rw [aeu (by rw [fK];omega),aeu (by rw [aex];omega)]
 rw [this,aer]
structure pK (P:Program) (g:FuncId) (L:List Ob) (asx:List AV) (L1:List Ob) (r:AV):Prop where
 run:Run P g L asx L1 r
 obb : ∀ x∈L,x.below L.length
 argb : ∀ x∈asx,x.below L.length
 le:L.length<=L1.length
 ob1 : ∀ x∈L1,x.below L1.length
 val:r.below L1.length
theorem pK.fits {P:Program} {g:FuncId} {L:List Ob} {asx:List AV} {L1:List Ob} {r:AV} (h:pK P g L asx L1 r):nE (List.range L.length) L asx L:=by
 refine ⟨List.length_range,List.nodup_range,fun i x hx=>?_,h.obb,h.argb⟩
 have hi:i<L.length:=(adI.1 hx).1
 rw [lG hi,hx,Ob.ren_range (h.obb x (adO hx))]
abbrev CP:=FuncId->List PV->Option CV
abbrev CR:=FuncId->List Ob->List AV->Option (List Ob × AV)
def GH:Op->Option (Operand × List Operand)
 | .call { callee := .value f,args, .. } => some (f,args.toList)
 | _=>none
def We (ti:TI) (cp:CP) (cr:CR) (ρ:Operand->Option AV) (L:List Ob) (f:Operand) (args:List Operand):Option (AV × List Ob) :=
 match ρ f with
 | some (.one (.c (.fn g cs)))=>match ti.owns g with
  | false=>match fI ρ args with
   | some ps=>match cp g (ps++cs.map .one) with
    | some r=>some (r.av,L)
    | none=>none
   | none=>none
  | true=>match SH ti f,VW ρ args with
   | true,some vs=>match cr g L (vs++cs.map fun x => .one (.c x)) with
    | some (L1,r)=>some (r,L1)
    | none=>none
   | _,_=>none
 | some (.one (.clo g caps))=>match SH ti f,VW ρ args with
  | true,some vs=>match cr g L (vs++caps.map Cap.av) with
   | some (L1,r)=>some (r,L1)
   | none=>none
  | _,_=>none
 | _=>none
def XC (P:Program) (ti:TI) (xs:Qv) (rowB:Bool) (ρ:Operand->Option AV) (L:List Ob) (op:Op):Option (AV × List Ob) :=
 match bU ti op&&(!ti.soft||(Nat.beq (sk op) 0||Nat.beq (sk op) 4)) with
 | true=>P9 P ti xs rowB ρ L op
 | false=>none
def aaU (cx:Cx) (ti:TI) (cp:CP) (cr:CR) (rowB:Bool) (ρ:Operand->Option AV) (L:List Ob) (op:Op):Option (AV × List Ob) :=
 match X5 ti ρ L op with
 | some v=>some (v,L)
 | none=>match GH op with
  | some (f,args)=>match We ti cp cr ρ L f args with
   | some r=>some r
   | none=>XC cx.P ti cx.xs rowB ρ L op
  | none=>match (match rowB with|true=>none|false=>Zi ti ρ op) with
   | some v=>some (v,L)
   | none=>match rowB with
    | true=>match XC cx.P ti cx.xs rowB ρ L op with
     | some r=>some r
     | none=>match Zi ti ρ op with
      | some v=>some (v,L)
      | none=>ZE ti ρ L op
    | false=>match ZE ti ρ L op with
     | some r=>some r
     | none=>XC cx.P ti cx.xs rowB ρ L op
theorem QR {P:Program} {ti:TI} {xs:Qv} {rowB:Bool} {ρ:Operand->Option AV} {L L':List Ob} {op:Op} {v:AV} (hk:sk op=4) (h:P9 P ti xs rowB ρ L op=some (v,L')):L'=L:=by
 unfold P9 at h
 split at h
 all_goals first|(exfalso;cases hk;done)|skip
 all_goals repeat' (first|(cases h;done)|(cases h;rfl)|(obtain ⟨e,_⟩:=bf h;cases e;rfl)|split at h)
theorem Vt {op:Op} {f:Operand} {args:List Operand} (h:GH op=some (f,args)) : ∃ asx ts,op = .call { callee := .value f,args:=asx,argTypes:=ts } /\ args=asx.toList:=by
 unfold GH at h
 split at h
 ·cases h;exact ⟨_,_,rfl,rfl⟩
 ·cases h
theorem Nn {P:Program} {ti:TI} {xs:Qv} {rowB:Bool} {ρ:Operand->Option AV} {L L':List Ob} {op:Op} {v:AV} {K:AV->List Ob->Prop} (hti:TIok P ti) (hne:Di P xs) (h:XC P ti xs rowB ρ L op=some (v,L')) (hK:K v L'):lD P ti ρ L K op:=by
 unfold XC at h
 split at h
 ·rename_i h1
  rw [ad1] at h1
  refine .inr (.inr (.inr (.inr (.inr (.inr (.inr ⟨v,L',⟨h1.1,fun hs=>?_⟩,Xx hti hne h,hK⟩))))))
  have h2:=h1.2
  rw [hs,Bool.not_true,Bool.false_or,Bool.or_eq_true] at h2
  rcases h2 with h2|h2
  ·exact .inl (Nat.eq_of_beq_eq_true h2)
  ·exact .inr ⟨Nat.eq_of_beq_eq_true h2,QR (Nat.eq_of_beq_eq_true h2) h⟩
 ·cases h
theorem KJ {P:Program} {ti:TI} {ρ:Operand->Option AV} {L L1:List Ob} {op:Op} {g:FuncId} {asx:List AV} {r:AV} {K:AV->List Ob->Prop} (hp:ig ti ρ op=some (g,asx)) (h:pK P g L asx L1 r) (hK:K r L1):lD P ti ρ L K op:=by
 refine .inr (.inr (.inr (.inr (.inr (.inr (.inl ⟨List.range L.length,g,L,asx,L1,r,?_,h.fits,h.run,?_⟩))))))
 ·rw [hp,kG fun x hx=>AV.ren_range (h.argb x hx)]
 ·rw [CL h.le,AV.ren_range h.val,OI h.le h.ob1];exact hK
theorem Y_ {cx:Cx} {ti:TI} {cp:CP} {cr:CR} {rowB:Bool} {ρ:Operand->Option AV} {L L':List Ob} {op:Op} {v:AV} {K:AV->List Ob->Prop} (hti:TIok cx.P ti) (hne:Di cx.P cx.xs)
  (hcp : ∀ g ps r,cp g ps=some r->Pure cx.P g ps r) (hcr : ∀ g L asx L1 r,cr g L asx=some (L1,r)->pK cx.P g L asx L1 r)
  (h:aaU cx ti cp cr rowB ρ L op=some (v,L')) (hK:K v L'):lD cx.P ti ρ L K op:=by
 unfold aaU at h
 split at h
 ·rename_i v' h1
  cases h
  obtain ⟨φ,h2,h3⟩:=Yx h1
  exact .inl ⟨_,φ,h2,h3,hK⟩
 ·split at h
  ·rename_i f args hc
   obtain ⟨asx,ts,rfl,rfl⟩:=Vt hc
   split at h
   ·rename_i r h1
    cases h
    unfold We at h1
    split at h1
    ·rename_i g cs hf
     split at h1
     ·split at h1
      ·rename_i ps hps
       split at h1
       ·rename_i r hr
        cases h1
        exact .inr (.inr (.inr (.inl ⟨g,_,r,by simp only [vR,hf,hps,Option.map_some],hcp _ _ _ hr,hK⟩)))
       ·cases h1
      ·cases h1
     ·split at h1
      ·rename_i vs hR hvs
       split at h1
       ·rename_i L1 r hr
        cases h1
        exact KJ (by simp only [ig,hf,hvs,hR]) (hcr _ _ _ _ _ hr) hK
       ·cases h1
      ·cases h1
    ·rename_i g caps hf
     split at h1
     ·rename_i vs hR hvs
      split at h1
      ·rename_i L1 r hr
       cases h1
       exact KJ (by simp only [ig,hf,hvs,hR]) (hcr _ _ _ _ _ hr) hK
      ·cases h1
     ·cases h1
    ·cases h1
   ·exact Nn hti hne h hK
  ·split at h
   ·rename_i v' h1
    cases h
    cases rowB with
    | true=>cases h1
    | false =>
     obtain ⟨φ,h2,h3⟩:=SF h1
     exact .inr (.inl ⟨_,φ,h2,h3,hK⟩)
   ·split at h
    ·split at h
     ·rename_i r h1
      cases h
      exact Nn hti hne h1 hK
     ·split at h
      ·rename_i v' h1
       cases h
       obtain ⟨φ,h2,h3⟩:=SF h1
       exact .inr (.inl ⟨_,φ,h2,h3,hK⟩)
      ·obtain ⟨φ,h2,h3⟩:=Td h
       exact .inr (.inr (.inl ⟨_,_,φ,h2,h3,hK⟩))
    ·split at h
     ·rename_i r h1
      cases h
      obtain ⟨φ,h2,h3⟩:=Td h1
      exact .inr (.inr (.inl ⟨_,_,φ,h2,h3,hK⟩))
     ·exact Nn hti hne h hK
def rowOf (cx:Cx) (f:FuncId):Option Tmp->Bool
 | some d=>cx.row f d
 | none=>false
def acD (N:Nat):Option Tmp->Bool
 | some d=>Nat.blt d N
 | none=>true
theorem TV {N:Nat} {d:Option Tmp} (h:acD N d=true):YI N d:=by
 cases d with
 | none=>trivial
 | some d=>exact adS h
def PK (cx:Cx) (ti:TI) (cp:CP) (cr:CR) (f:FuncId) (N:Nat) (ds:List (Option Tmp)):List Oper->Tm->List Ob->Option (Tm × List Ob)
 | [],T,L=>some (T,L)
 | o::rest,T,L=>match acD N o.dst,jX ds T o.guard with
  | true,some true=>match aaU cx ti cp cr (rowOf cx f o.dst) (look T) L o.op with
   | some (v,L')=>PK cx ti cp cr f N ds rest (BZ T o.dst v) L'
   | none=>none
  | true,some false=>PK cx ti cp cr f N ds rest (BZ T o.dst .undef) L
  | _,_=>none
theorem Cg {cx:Cx} {ti:TI} {cp:CP} {cr:CR} {f:FuncId} {N:Nat} {ds:List (Option Tmp)} (hti:TIok cx.P ti) (hne:Di cx.P cx.xs)
  (hcp : ∀ g ps r,cp g ps=some r->Pure cx.P g ps r) (hcr : ∀ g L asx L1 r,cr g L asx=some (L1,r)->pK cx.P g L asx L1 r) {K:Tm->List Ob->Prop} :
  ∀ {l:List Oper} {T T':Tm} {L L':List Ob}, PK cx ti cp cr f N ds l T L=some (T',L')->K T' L'->aN cx.P ti N ds K l T L
 | [],T,T',L,L',h,hK=>by cases h;exact hK
 | o::rest,T,T',L,L',h,hK=>by
  unfold PK at h
  split at h
  ·rename_i hd hg
   split at h
   ·rename_i v L1 h1
    exact ⟨TV hd,gI hg (Y_ hti hne hcp hcr h1 (Cg hti hne hcp hcr h hK))⟩
   ·cases h
  ·rename_i hd hg
   exact ⟨TV hd,Ie hg (Cg hti hne hcp hcr h hK)⟩
  ·cases h
def aav:List Cap->List Nat
 | []=>[]
 | .ptr id _::l=>id::aav l
 | .c _::l=>aav l
def aco:SV->List Nat
 | .ptr id _=>[id]
 | .sl id _ _ _=>[id]
 | .clo _ caps=>aav caps
 | _=>[]
def aas:List SV->List Nat
 | []=>[]
 | x::l=>aco x++aas l
def adf:AV->List Nat
 | .one x=>aco x
 | .agg xs=>aas xs
 | _=>[]
def Sq (T:Tm) (L:List Ob) (id:Nat):Tm × List Ob :=
 match L[id]? with
 | some (.row ver es _)=>match mE es with
  | some cs=>(T.map (fun p=>(p.1,thA id ver cs p.2)),L.set id .dead)
  | none=>(T,L)
 | some (.box cs)=>match kN cs with
  | some ts=>(T.map (fun p=>(p.1,Xz id ts p.2)),L.set id .dead)
  | none=>(T,L)
 | _=>(T,L)
def NE:List Nat->Tm->List Ob->Tm × List Ob
 | [],T,L=>(T,L)
 | id::l,T,L=>match Sq T L id with
  | (T',L')=>NE l T' L'
def abW (T:Tm) (L:List Ob) (t:Nat):Tm × List Ob :=
 match T.lookup t with
 | some v=>NE (adf v) T L
 | none=>(T,L)
def Yf:List Nat->Tm->List Ob->Option (Tm × List Ob)
 | [],T,L=>some (T,L)
 | t::ts,T,L=>match abW T L t with
  | (T',L')=>Yf ts T' L'
section
variable {P:Program} {N n0:Nat} {Q:AX->Tm->List Ob->Prop} {c:Code}
theorem WK {T:Tm} {L:List Ob} {id:Nat} (k:Aw P N n0 c Q (Sq T L id).1 (Sq T L id).2):Aw P N n0 c Q T L:=by
 unfold Sq at k
 split at k
 ·rename_i hL
  split at k
  ·rename_i hn;exact vG _ hL hn k
  ·exact k
 ·rename_i hL
  split at k
  ·rename_i hn;exact gF _ hL hn k
  ·exact k
 ·exact k
theorem Le : ∀ {l:List Nat} {T:Tm} {L:List Ob}, Aw P N n0 c Q (NE l T L).1 (NE l T L).2->Aw P N n0 c Q T L
 | [],_,_,k=>k
 | id::l,T,L,k=>WK (Le (l:=l) k)
theorem NI : ∀ {ts:List Nat} {T T':Tm} {L L':List Ob}, Yf ts T L=some (T',L')->Aw P N n0 c Q T' L'->Aw P N n0 c Q T L
 | [],_,_,_,_,h,k=>by cases h;exact k
 | t::ts,T,T',L,L',h,k=>by
  unfold Yf at h
  have h2:=NI (ts:=ts) h k
  unfold abW at h2
  split at h2
  ·exact Le h2
  ·exact h2
end
def clean (N:Nat) (T:Tm):Tm:=(List.range N).filterMap fun t=>(T.lookup t).map fun x=>(t,x)
theorem Ku {N:Nat} {T:Tm} {t:Nat} {x:AV} (h:(clean N T).lookup t=some x):T.lookup t=some x:=by
 have h1:=zT h
 unfold clean at h1
 rw [List.mem_filterMap] at h1
 obtain ⟨i,_,h2⟩:=h1
 obtain ⟨y,h3,h4⟩:=map_some h2
 cases h4
 exact h3
def NQ (body:Tm->List Ob->Option (AX × Tm × List Ob)) (N:Nat):Nat->Tm->List Ob->Option (AX × Tm × List Ob)
 | 0,_,_=>none
 | n+1,T,L=>match body (clean N T) L with
  | some (.normal,T',L')=>NQ body N n T' L'
  | r=>r
def aaC (cx:Cx) (f:FuncId) (id:Nat):Bool->TI
 | false => { cx.ti with dyn:=true,soft:=false }
 | true => { cx.ti with dyn:=(cx.flg f id).1,soft:=(cx.flg f id).2 }
def Qs (cx:Cx) (cp:CP) (cr:CR) (f:FuncId) (N:Nat) (rs:List Nat):Code->Tm->List Ob->Option (AX × Tm × List Ob)
 | .skip,T,L=>some (.normal,T,L)
 | .label _,T,L=>some (.normal,T,L)
 | .ret,T,L=>match Yf rs T L with
  | some (T',L')=>some (.ret,T',L')
  | none=>none
 | .exit id,T,L=>some (.exit id,T,L)
 | .seq x y,T,L=>match Qs cx cp cr f N rs x T L with
  | some (.normal,T',L')=>Qs cx cp cr f N rs y T' L'
  | r=>r
 | .cond c x y,T,L=>match look T c with
  | some (.one (.c (.bool b)))=>match b with
   | true=>Qs cx cp cr f N rs x T L
   | false=>Qs cx cp cr f N rs y T L
  | _=>none
 | .block id c,T,L=>match Qs cx cp cr f N rs c T L with
  | some (.exit j,T',L')=>match decide (j=id) with
   | true=>some (.normal,T',L')
   | false=>some (.exit j,T',L')
  | r=>r
 | .region id ops d,T,L=>match Yf (cx.frz f id) T L with
  | some (T1,L1)=>match PK cx (aaC cx f id d) cp cr f N (ops.toList.map (·.dst)) ops.toList T1 L1 with
   | some (T2,L2)=>some (.normal,T2,L2)
   | none=>none
  | none=>none
 | .loop c,T,L=>NQ (Qs cx cp cr f N rs c) N 1048576 T L
 | _,_,_=>none
def ni (cx:Cx) (f:FuncId):Code->Bool
 | .seq x y=>ni cx f x&&ni cx f y
 | .cond _ x y=>ni cx f x&&ni cx f y
 | .block _ c=>ni cx f c
 | .loop c=>ni cx f c
 | .region id ops true=>EX (aaC cx f id true) ops.toList
 | _=>true
structure HY (cx:Cx):Prop where
 ti:TIok cx.P cx.ti
 ne:Di cx.P cx.xs
 mix:cx.P.follows .mixedOrders=true
 name : ∀ (f : FuncId) fn, cx.P.funcs[f]? = some fn -> (fn.name == "runtime.NumGoroutine") = false
 code : ∀ (f:FuncId) fn c,cx.P.funcs[f]?=some fn->fn.body=some c->cx.bad f=false->ni cx f c=true
 orc : ∀ g ps r,cx.orc g ps=some r->Pure cx.P g ps r
def Ah (cx:Cx):List Func->Nat->Bool
 | [],_=>true
 | fn::fs,i=>(match fn.body with
  | some c=>cx.bad i||ni cx i c
  | none=>true)&&Ah cx fs (i+1)
theorem Kz {cx:Cx} : ∀ {fs:List Func} {i:Nat}, Ah cx fs i=true -> ∀ (j:Nat) fn c,fs[j]?=some fn->fn.body=some c->cx.bad (i+j)=false->ni cx (i+j) c=true
 | [],i,h,j,fn,c,hj,_,_=>by simp at hj
 | f0::fs,i,h,0,fn,c,hj,hb,hbad=>by
  rw [Ah,ad1] at h
  simp at hj;subst hj
  have h1:=h.1
  rw [hb] at h1
  rw [Nat.add_zero] at hbad ⊢
  simp only [hbad,Bool.false_or] at h1
  exact h1
 | f0::fs,i,h,j+1,fn,c,hj,hb,hbad=>by
  rw [Ah,ad1] at h
  have:=Kz h.2 j fn c (by simpa using hj) hb (by rwa [show i+1+j=i+(j+1) by omega])
  rwa [show i+1+j=i+(j+1) by omega] at this
def Av:List Func->Bool
 | []=>true
 | fn :: fs => !(fn.name == "runtime.NumGoroutine") && Av fs
theorem LA : ∀ {fs : List Func}, Av fs = true -> ∀ (j : Nat) fn, fs[j]? = some fn -> (fn.name == "runtime.NumGoroutine") = false
 | [],h,j,fn,hj=>by simp at hj
 | f0::fs,h,0,fn,hj=>by
  rw [Av,ad1] at h
  simp at hj;subst hj
  simpa using h.1
 | f0::fs,h,j+1,fn,hj=>by
  rw [Av,ad1] at h
  exact LA h.2 j fn (by simpa using hj)
theorem HY.of {cx:Cx} (ti:TIok cx.P cx.ti) (ne:Di cx.P cx.xs) (mix:cx.P.follows .mixedOrders=true) (name:Av cx.P.funcs.toList=true) (code:Ah cx cx.P.funcs.toList 0=true) (orc : ∀ g ps r,cx.orc g ps=some r->Pure cx.P g ps r):HY cx :=
 ⟨ti,ne,mix,fun f fn h=>LA name f fn (by simpa using h),fun f fn c h hb hbad=>by have:=Kz code f fn c (by simpa using h) hb (by rwa [aeo]);rwa [aeo] at this,orc⟩
theorem FH {cx:Cx} (h:HY cx) (f:FuncId) (id:Nat) (d:Bool):TIok cx.P (aaC cx f id d):=by
 cases d
 ·exact h.ti.flags _ _
 ·exact h.ti.flags _ _
section
variable {cx:Cx} {cp:CP} {cr:CR} {f:FuncId} {N n0:Nat} {rs:List Nat}
def AtE (x:AX) (T':Tm) (L':List Ob):AX->Tm->List Ob->Prop:=fun y S M=>y=x/\S=T'/\M=L'
theorem W9 {c:Code} {body:Tm->List Ob->Option (AX × Tm × List Ob)} (hb : ∀ T L x T' L',body T L=some (x,T',L')->Aw cx.P N n0 c (AtE x T' L') T L) :
  ∀ {n:Nat} {T:Tm} {L:List Ob} {x:AX} {T':Tm} {L':List Ob}, NQ body N n T L=some (x,T',L')->Aw cx.P N n0 (.loop c) (AtE x T' L') T L:=by
 intro n0' T L x T' L' h
 intro hn B R0 γ0 w0 a0 hi hT
 have key : ∀ n T L0 R γ a w,n0<=L0.length->NQ body N n T L0=some (x,T',L')->Inv B R γ L0 w->kL N R γ L0 T a->Ext B R0 R w0 w->Bw n0 R0 R γ0 γ L L0->Code.rounds cx.P c (Dm N n0 B (AtE x T' L') R0 w0 γ0 L) n a w:=by
  intro n
  induction n with
  | zero=>intro T L0 R γ a w _ hl;cases hl
  | succ n ih =>
   intro T L0 R γ a w hlo hl hI ht he hmv
   rw [rounds_succ]
   unfold NQ at hl
   have htc:kL N R γ L0 (clean N T) a:=⟨ht.size,ht.defers,fun t x hx=>ht.slot t x (Ku hx)⟩
   split at hl
   ·rename_i T1 L1 hb1
    refine wp_mono (hb _ _ _ _ _ hb1 hlo B R γ w a hI htc) ?_
    rintro e a1 w1 ⟨y,T2,L2,R1,γ2,rfl,⟨rfl,rfl,rfl⟩,j1,k1,e1,m1⟩
    exact ih _ _ R1 _ a1 w1 m1.lo' hl j1 k1 (he.trans e1) (hmv.trans hi.len m1)
   ·rename_i hne
    refine wp_mono (hb _ _ _ _ _ hl hlo B R γ w a hI htc) ?_
    rintro e a1 w1 ⟨y,T2,L2,R1,γ2,rfl,⟨rfl,rfl,rfl⟩,j1,k1,e1,m1⟩
    cases y with
    | normal=>exact absurd hl (hne _ _)
    | exit id=>exact ⟨.exit id,_,_,R1,γ2,rfl,⟨rfl,rfl,rfl⟩,j1,k1,he.trans e1,hmv.trans hi.len m1⟩
    | ret=>exact ⟨.ret,_,_,R1,γ2,rfl,⟨rfl,rfl,rfl⟩,j1,k1,he.trans e1,hmv.trans hi.len m1⟩
 exact wp_loop_rounds n0' (key n0' T L R0 γ0 a0 w0 hn h hi hT (Ext.refl _ _ _) (Bw.of hn Mv.refl))
theorem WQ (hx:HY cx) (hcp : ∀ g ps r,cp g ps=some r->Pure cx.P g ps r) (hcr : ∀ g L asx L1 r,cr g L asx=some (L1,r)->pK cx.P g L asx L1 r) :
  ∀ {c:Code} {T:Tm} {L:List Ob} {x:AX} {T':Tm} {L':List Ob}, ni cx f c=true->Qs cx cp cr f N rs c T L=some (x,T',L')->Aw cx.P N n0 c (AtE x T' L') T L:=by
 intro c
 induction c with
 | skip=>intro T L x T' L' _ h;cases h;exact aw_skip ⟨rfl,rfl,rfl⟩
 | label l=>intro T L x T' L' _ h;cases h;exact Xj ⟨rfl,rfl,rfl⟩
 | ret =>
  intro T L x T' L' _ h
  unfold Qs at h
  split at h
  ·rename_i h1
   cases h
   exact NI h1 (aw_ret ⟨rfl,rfl,rfl⟩)
  ·cases h
 | exit id=>intro T L x T' L' _ h;cases h;exact aw_exit ⟨rfl,rfl,rfl⟩
 | seq a b iha ihb =>
  intro T L x T' L' hc h
  rw [ni,ad1] at hc
  unfold Qs at h
  refine aw_seq ?_
  split at h
  ·rename_i T1 L1 h1
   refine Aw.mono (iha hc.1 h1) ?_
   rintro y S M ⟨rfl,rfl,rfl⟩
   exact ihb hc.2 h
  ·rename_i hne
   refine Aw.mono (iha hc.1 h) ?_
   rintro y S M ⟨rfl,rfl,rfl⟩
   cases y with
   | normal=>exact absurd h (hne _ _)
   | exit id=>exact ⟨rfl,rfl,rfl⟩
   | ret=>exact ⟨rfl,rfl,rfl⟩
 | cond c a b iha ihb =>
  intro T L x T' L' hc h
  rw [ni,ad1] at hc
  unfold Qs at h
  split at h
  ·rename_i b' hl
   refine aJ hl (fun e=>?_) (fun e=>?_)
   ·subst e;exact iha hc.1 h
   ·subst e;exact ihb hc.2 h
  ·cases h
 | block id c ih =>
  intro T L x T' L' hc h
  unfold Qs at h
  refine aw_block ?_
  split at h
  ·rename_i j T1 L1 h1
   refine Aw.mono (ih hc h1) ?_
   rintro y S M ⟨rfl,rfl,rfl⟩
   show if j=id then _ else _
   split at h
   ·rename_i e;rw [if_pos (aea e)];cases h;exact ⟨rfl,rfl,rfl⟩
   ·rename_i e;rw [if_neg (of_decide_eq_false e)];cases h;exact ⟨rfl,rfl,rfl⟩
  ·rename_i hne
   refine Aw.mono (ih hc h) ?_
   rintro y S M ⟨rfl,rfl,rfl⟩
   cases y with
   | normal=>exact ⟨rfl,rfl,rfl⟩
   | exit id=>exact absurd h (hne _ _ _)
   | ret=>exact ⟨rfl,rfl,rfl⟩
 | region id ops d =>
  intro T L x T' L' hc h
  unfold Qs at h
  split at h
  ·rename_i T1 L1 h1
   refine NI h1 ?_
   split at h
   ·rename_i T2 L2 h2
    cases h
    have hr:ops=ops.toList.toArray:=rfl
    rw [hr]
    cases d with
    | false=>exact aw_region (FH hx f id false) _ rfl (Cg (FH hx f id false) hx.ne hcp hcr h2 ⟨rfl,rfl,rfl⟩)
    | true=>exact aw_drawn2 (FH hx f id true) _ rfl hx.mix hc (Cg (FH hx f id true) hx.ne hcp hcr h2 ⟨rfl,rfl,rfl⟩)
   ·cases h
  ·cases h
 | loop c ih =>
  intro T L x T' L' hc h
  unfold Qs at h
  exact W9 (fun T L x T' L' hb=>ih hc hb) h
 | _=>intro T L x T' L' _ h;unfold Qs at h;cases h
end
def Nr (ti:TI) (T:Tm) (L:List Ob):ResultVar->Option PV
 | .tmp t=>(T.lookup t).bind AV.norm
 | .cell a t=>match T.lookup a with
  | some (.one (.ptr id off))=>match Ty ti L t (.one (.ptr id off)) with
   | some v=>v.norm
   | none=>none
  | _=>none
def BK (ti:TI) (T:Tm) (L:List Ob):List ResultVar->Option (List PV)
 | []=>some []
 | r::rs=>match Nr ti T L r,BK ti T L rs with
  | some p,some ps=>some (p::ps)
  | _,_=>none
theorem QE {ti:TI} {T:Tm} {L:List Ob} {r:ResultVar} {p:PV} (h:Nr ti T L r=some p):JD (Dz ti T L r) p:=by
 unfold Nr at h
 split at h
 ·rename_i t
  exact ⟨True,by show (Option.map _ _)=_;rw [h];rfl,trivial⟩
 ·unfold Dz
  dsimp only
  split at h
  ·rename_i h1
   rw [h1]
   dsimp only
   split at h
   ·rename_i v h2
    obtain ⟨φ,h3,h4⟩:=OY h2
    rw [h3]
    exact ⟨φ,by dsimp only;rw [h];rfl,h4⟩
   ·cases h
  ·cases h
theorem AU {ti:TI} {T:Tm} {L:List Ob} : ∀ {rs:List ResultVar} {ps:List PV}, BK ti T L rs=some ps->JD (xL ti T L rs) ps
 | [],ps,h=>by cases h;exact ⟨_,rfl,trivial⟩
 | r::rs,ps,h=>by
  unfold BK at h
  split at h
  ·rename_i h1 h2
   cases h
   obtain ⟨φ,h3,h4⟩:=QE h1
   obtain ⟨ψ,h5,h6⟩:=AU h2
   exact ⟨φ/\ψ,by unfold xL;rw [h3,h5],h4,h6⟩
  ·cases h
def FW:List ResultVar->List Nat
 | []=>[]
 | .tmp t::rs=>t::FW rs
 | .cell _ _::rs=>FW rs
def XB:AX->Bool
 | .exit _=>false
 | _=>true
theorem OV {x:AX} (h:XB x=true):x = .normal\/x = .ret:=by
 cases x with
 | normal=>exact .inl rfl
 | ret=>exact .inr rfl
 | exit _=>cases h
def Ya (cx:Cx) (cp:CP) (cr:CR):CP:=fun g ps =>
 match cx.orc g ps with
 | some r=>some r
 | none=>match cx.P.funcs[g]? with
  | some fn=>match fn.body,cx.bad g,Nat.ble ps.length fn.ntmps with
   | some c,false,true=>match Qs cx cp cr g fn.ntmps (FW fn.results.toList) c (argT 0 ps) [] with
    | some (x,T,L)=>match XB x,BK cx.ti T L fn.results.toList with
     | true,some rs=>some (WJ rs)
     | _,_=>none
    | none=>none
   | _,_,_=>none
  | none=>none
def Sb (ti:TI) (T:Tm) (L:List Ob):List ResultVar->Option AV
 | [.tmp t]=>T.lookup t
 | rs=>match BK ti T L rs with
  | some ps=>some (WJ ps).av
  | none=>none
theorem U4 {ti:TI} {T:Tm} {L:List Ob} {rs:List ResultVar} {r:AV} (h:Sb ti T L rs=some r):H5 ti rs T L r:=by
 unfold Sb at h
 split at h
 ·exact .inl ⟨_,rfl,h⟩
 ·split at h
  ·rename_i ps h1
   cases h
   obtain ⟨φ,h2,h3⟩:=AU h1
   exact .inr ⟨WJ ps,bR h2 h3 rfl,rfl⟩
  ·cases h
def abh (cx:Cx) (cp:CP) (cr:CR):CR:=fun g L asx =>
 match cx.P.funcs[g]? with
 | some fn=>match fn.body,cx.bad g,Nat.ble asx.length fn.ntmps,(J9 L.length L&&Sj L.length asx) with
  | some c,false,true,true=>match Qs cx cp cr g fn.ntmps [] c (ut 0 asx) L with
   | some (x,T,L1)=>match XB x,Sb cx.ti T L1 fn.results.toList,Nat.ble L.length L1.length with
    | true,some r,true=>match Xh L.length r&&J9 L.length (L1.take L.length) with
     | true=>some (L1.take L.length,r)
     | false=>match Xh L1.length r&&J9 L1.length L1 with
      | true=>some (L1,r)
      | false=>none
    | _,_,_=>none
   | none=>none
  | _,_,_,_=>none
 | none=>none
theorem Yk {cx:Cx} {cp:CP} {cr:CR} (hx:HY cx) (hcp : ∀ g ps r,cp g ps=some r->Pure cx.P g ps r) (hcr : ∀ g L asx L1 r,cr g L asx=some (L1,r)->pK cx.P g L asx L1 r)
  {g:FuncId} {ps:List PV} {r:CV} (h:Ya cx cp cr g ps=some r):Pure cx.P g ps r:=by
 unfold Ya at h
 split at h
 ·rename_i r' h1
  cases h
  exact hx.orc _ _ _ h1
 ·split at h
  ·rename_i fn hf
   split at h
   ·rename_i c hb hbad hle
    split at h
    ·rename_i x T L he
     split at h
     ·rename_i rs hend hres
      cases h
      obtain ⟨φ,h2,h3⟩:=AU hres
      refine pa_ hx.ti hf hb (hx.name _ _ hf) rfl (adS hle) ?_
      refine Aw.mono (WQ hx hcp hcr (hx.code _ _ _ hf hb hbad) he) ?_
      rintro y S M ⟨rfl,rfl,rfl⟩
      exact ⟨OV hend,bR h2 h3 rfl⟩
     ·cases h
    ·cases h
   ·cases h
  ·cases h
theorem Y4 {cx:Cx} {cp:CP} {cr:CR} (hx:HY cx) (hcp : ∀ g ps r,cp g ps=some r->Pure cx.P g ps r) (hcr : ∀ g L asx L1 r,cr g L asx=some (L1,r)->pK cx.P g L asx L1 r)
  {g:FuncId} {L:List Ob} {asx:List AV} {L1:List Ob} {r:AV} (h:abh cx cp cr g L asx=some (L1,r)):pK cx.P g L asx L1 r:=by
 unfold abh at h
 split at h
 ·rename_i fn hf
  split at h
  ·rename_i c hb hbad hle hbel
   rw [ad1] at hbel
   split at h
   ·rename_i x T L2 he
    split at h
    ·rename_i r' hend hval hlen
     have hlen:=adS hlen
     have main : ∀ m,L.length<=m->m<=L2.length->(∀ x∈L2.take m,x.below m)->r'.below m->pK cx.P g L asx (L2.take m) r':=by
      intro m hm1 hm2 hob hr
      have hl:(L2.take m).length=m:=by rw [aex];omega
      refine ⟨?_,CY hbel.1,N0 hbel.2,by omega,by rw [hl];exact hob,by rw [hl];exact hr⟩
      refine dV hx.ti hf hb (hx.name _ _ hf) rfl (adS hle) ?_
      refine Aw.mono (WQ hx hcp hcr (hx.code _ _ _ hf hb hbad) he) ?_
      rintro y S M ⟨rfl,rfl,rfl⟩
      exact ⟨OV hend,⟨U4 hval,⟨_,(aer m _).symm⟩,by rw [hl];exact hm1,by rw [hl];exact hob,by rw [hl];exact hr⟩⟩
     split at h
     ·rename_i hc
      rw [ad1] at hc
      cases h
      exact main _ (adY _) hlen (CY hc.2) (Fw hc.1)
     ·split at h
      ·rename_i hc
       rw [ad1] at hc
       cases h
       have:=main _ hlen (adY _) (by rw [List.take_length];exact CY hc.2) (Fw hc.1)
       rw [List.take_length] at this
       exact this
      ·cases h
    ·cases h
   ·cases h
  ·cases h
 ·cases h
def evF (cx:Cx):Nat->CP × CR
 | 0=>(fun _ _=>none,fun _ _ _=>none)
 | n+1=>(Ya cx (evF cx n).1 (evF cx n).2,abh cx (evF cx n).1 (evF cx n).2)
theorem Aj {cx:Cx} (hx:HY cx) : ∀ n,(∀ g ps r,(evF cx n).1 g ps=some r->Pure cx.P g ps r)/\(∀ g L asx L1 r,(evF cx n).2 g L asx=some (L1,r)->pK cx.P g L asx L1 r)
 | 0=>⟨fun g ps r h=>(by cases h),fun g L asx L1 r h=>(by cases h)⟩
 | n+1=>⟨fun g ps r h=>Yk hx (Aj hx n).1 (Aj hx n).2 h,fun g L asx L1 r h=>Y4 hx (Aj hx n).1 (Aj hx n).2 h⟩
theorem ol {P:Program} {w:World} {t:TypeId} {d:TypeDesc} (ht:P.underlying t=some d) (hd:(match d with | .struct _=>true | .array _ _=>true|_=>false)=false) {xs:Array Value} {i:Nat} {v:Value} (hx:xs[i]?=some v):(part t xs i).run P w = .ok v w:=by
 cases d<;>first|(cases hd;done)|simp [part,isAgg,run_underlying ht,hx]
def aa5:TypeDesc->Option Sc
 | .int k=>some (.int k)
 | .bool=>some .bool
 | .string=>some .str
 | _=>none
def aay (s:Sc):Option TypeDesc->Bool
 | some d=>match aa5 d with
  | some s'=>decide (s'=s)
  | none=>false
 | none=>false
def Zo (d:Option TypeDesc):Sc->Prop
 | .int k=>d=some (.int k)
 | .bool=>d=some .bool
 | .str=>d=some .string
theorem Y1 {s:Sc} {d:Option TypeDesc} (h:aay s d=true):Zo d s:=by
 unfold aay at h
 cases d with
 | none=>cases h
 | some d =>
  dsimp only at h
  cases hs:aa5 d with
  | none=>rw [hs] at h;cases h
  | some s' =>
   rw [hs] at h
   obtain rfl:s'=s:=aea h
   unfold aa5 at hs
   split at hs<;>first|(cases hs;rfl)|(cases hs;done)
def Tf (P:Program):List Field->List Sc->Nat->Bool
 | [],[],_=>true
 | f :: fs, s :: sh, i => (!(f.name == "_")) && (Nat.beq f.offset i && (aay s (P.underlying f.type) && Tf P fs sh (i + 1)))
 | _,_,_=>false
theorem GJ {x:SV} {xs:List SV} {vs:List Value} (h:iH (x::xs)=some vs) : ∃ c v r,x = .c c/\Jp c=some v/\iH xs=some r/\vs=v::r:=by
 unfold iH at h
 split at h
 ·rename_i e;cases e
 ·rename_i y ys e
  cases e
  split at h
  ·rename_i v r h1 h2;cases h;exact ⟨_,v,r,rfl,h1,h2,rfl⟩
  ·cases h
 ·cases h
theorem JG {P:Program} {w:World} (d:Nat) {A B:Array Value} : ∀ (fs:List Field) (sh:List Sc) (i:Nat) (xs ys:List SV) (vs us:List Value),Tf P fs sh i=true->gy sh xs=true->gy sh ys=true->iH xs=some vs->iH ys=some us ->
  (∀ (j:Nat) v,vs[j]?=some v->A[i+j]?=some v)->(∀ (j:Nat) v,us[j]?=some v->B[i+j]?=some v)->(Op.eqFields (d+1) A B fs).run P w = .ok (dw xs ys) w:=by
 intro fs
 induction fs with
 | nil =>
  intro sh i xs ys vs us hf hx hy _ _ _ _
  cases sh with
  | nil =>
   cases xs with
   | nil=>cases ys with
    | nil=>rfl
    | cons _ _=>cases hy
   | cons _ _=>cases hx
  | cons _ _=>cases hf
 | cons f fs ih =>
  intro sh i xs ys vs us hf hx hy hv hu hA hB
  cases sh with
  | nil=>cases hf
  | cons s sh =>
   rw [Tf,ad1,ad1,ad1] at hf
   obtain ⟨h1,h2,h3,h4⟩:=hf
   have h2:=Nat.eq_of_beq_eq_true h2
   have h1 : f.name ≠ "_" := by simpa using h1
   have h3:=Y1 h3
   cases xs with
   | nil=>cases s<;>cases hx
   | cons x xs =>
    cases ys with
    | nil=>cases s<;>cases hy
    | cons y ys =>
     obtain ⟨cx,v,vr,rfl,hv1,hv2,rfl⟩:=GJ hv
     obtain ⟨cy,u,ur,rfl,hu1,hu2,rfl⟩:=GJ hu
     have a0:=hA 0 v rfl
     have b0:=hB 0 u rfl
     rw [Nat.add_zero] at a0 b0
     have rest : ∀ (hx':gy sh xs=true) (hy':gy sh ys=true),(Op.eqFields (d+1) A B fs).run P w = .ok (dw xs ys) w:=fun hx' hy' =>
      ih sh (i+1) xs ys vr ur h4 hx' hy' hv2 hu2 (fun j v hj=>by have:=hA (j+1) v (by simpa using hj);rwa [show i+1+j=i+(j+1) by omega]) (fun j v hj=>by have:=hB (j+1) v (by simpa using hj);rwa [show i+1+j=i+(j+1) by omega])
     cases s with
     | int k =>
      unfold Zo at h3
      cases cx<;>first|(cases hx;done)|skip
      cases cy<;>first|(cases hy;done)|skip
      rename_i k1 a k2 b
      simp only [gy,ad1,decide_eq_true_eq] at hx hy
      obtain ⟨rfl,hx'⟩:=hx
      obtain ⟨rfl,hy'⟩:=hy
      cases hv1;cases hu1
      have p1:=ol (P:=P) (w:=w) h3 rfl a0
      have p2:=ol (P:=P) (w:=w) h3 rfl b0
      simp only [Op.eqFields,h1,h2,ne_eq,not_false_eq_true,if_true,Sem.run_bind,p1,p2,Result.andThen_ok,run_equalIn_int (P:=P) w d _ k k a b h3,Sem.run_ite,Sem.run_pure,rest hx' hy']
      cases e:(a==b)
      ·have:a≠b:=by simpa using e
       simp [dw,this]
      ·have:a=b:=by simpa using e
       simp [dw,this]
     | bool =>
      unfold Zo at h3
      cases cx<;>first|(cases hx;done)|skip
      cases cy<;>first|(cases hy;done)|skip
      rename_i a b
      simp only [gy] at hx hy
      cases hv1;cases hu1
      have p1:=ol (P:=P) (w:=w) h3 rfl a0
      have p2:=ol (P:=P) (w:=w) h3 rfl b0
      simp only [Op.eqFields,h1,h2,ne_eq,not_false_eq_true,if_true,Sem.run_bind,p1,p2,Result.andThen_ok,run_equalIn_bool (P:=P) w d _ a b h3,Sem.run_ite,Sem.run_pure,rest hx hy]
      cases e:(a==b)<;>simp [dw,e]
     | str =>
      unfold Zo at h3
      cases cx<;>first|(cases hx;done)|skip
      cases cy<;>first|(cases hy;done)|skip
      rename_i a b
      simp only [gy] at hx hy
      cases hv1;cases hu1
      have p1:=ol (P:=P) (w:=w) h3 rfl a0
      have p2:=ol (P:=P) (w:=w) h3 rfl b0
      simp only [Op.eqFields,h1,h2,ne_eq,not_false_eq_true,if_true,Sem.run_bind,p1,p2,Result.andThen_ok,run_equalIn_string (P:=P) w d _ a b h3,Sem.run_ite,Sem.run_pure,rest hx hy]
      cases e:(a.toList==b.toList)<;>simp [dw,e]
def SI (P:Program) (t:TypeId) (sh:List Sc):Bool :=
 (match P.underlying t with
 | some (.struct fs)=>Tf P fs.toList sh 0
 | _=>false)&&(!P.stoodInHeld t && !P.eqGuardType P.depth t)
theorem VK {P:Program} {t:TypeId} {sh:List Sc} (h:SI P t sh=true):P.eqGuardType P.depth t=false /\ ∀ xs ys,gy sh xs=true->gy sh ys=true->QC P t xs ys:=by
 rw [SI,ad1,ad1] at h
 obtain ⟨h1,h2,h3⟩:=h
 refine ⟨by simpa using h3,fun xs ys hx hy vs us hv hu w=>?_⟩
 split at h1
 ·rename_i fs ht
  have hfs:P.fieldsOf t=fs:=by unfold Program.fieldsOf;rw [ht]
  have hm:Op.equal t (.agg vs.toArray) (.agg us.toArray)=Op.equalIn (9999+1) t (.agg vs.toArray) (.agg us.toArray):=rfl
  rw [hm,run_equalIn_struct w 9999 t _ _ (by rw [hfs];exact ht) (by simpa using h2),hfs]
  exact JG 9998 _ sh 0 xs ys vs us h1 hx hy hv hu (fun j v hj=>by simpa using hj) (fun j v hj=>by simpa using hj)
 ·cases h1
open Go.RowKit
def zeL:List (Nat × AV):=[(2, .one (.c (.int .i64 0))),(3, .one (.c (.int .i64 0))),(4, .one (.c (.bool false))),(5, .one (.c (.int .u8 0))),(9, .one (.c (.str ⟨#[]⟩))),(22, .one (.emp)),(23, .one (.emp)),(25, .agg [.emp, .emp]),(27, .agg [.c (.int .i64 0), .c (.int .i64 0), .c (.str ⟨#[]⟩)]),(28, .one (.emp)),(30, .agg [.c (.int .i64 0), .c (.int .i64 0), .c (.int .i64 0), .c (.int .i64 0), .c (.str ⟨#[]⟩), .c (.str ⟨#[]⟩), .emp]),(41, .agg [.c (.int .i64 0), .c (.int .i64 0)]),(43, .agg [.c (.int .i64 0), .c (.int .i64 0)]),(50, .one (.emp)),(52, .agg [.emp, .emp]),(63, .one (.c (.int .i64 0))),(70, .one (.emp)),(72, .agg [.emp, .c (.int .i64 0), .c (.int .i64 0)]),(78, .one (.c (.nul .func))),(89, .one (.emp)),(92, .one (.emp)),(94, .agg [.emp, .emp]),(95, .one (.emp)),(99, .one (.c (.nul .func))),(114, .one (.c (.nul .func))),(124, .one (.c (.nul .func))),(138, .one (.emp)),(141, .agg [.emp, .emp]),(142, .one (.emp)),(144, .agg [.c (.int .i64 0), .c (.int .i64 0)]),(148, .agg [.c (.int .i64 0), .c (.int .i64 0)]),(151, .one (.c (.nul .func))),(152, .one (.emp)),(154, .agg [.c (.int .i64 0), .c (.int .i64 0), .c (.int .i64 0)]),(156, .one (.emp)),(168, .one (.c (.nul .map))),(171, .one (.c (.nul .func))),(174, .one (.c (.int .u64 0))),(176, .one (.c (.nul .func))),(183, .one (.c (.nul .ptr))),(184, .one (.emp)),(186, .agg [.c (.nul .ptr), .emp]),(197, .one (.c (.int .i64 0))),(204, .one (.c (.int .u32 0))),(206, .one (.c (.int .u64 0))),(209, .agg [.c (.int .i64 0), .c (.bool false)]),(210, .one (.c (.nul .ptr))),(213, .one (.c (.int .u64 0))),(217, .one (.c (.nul .ptr))),(224, .one (.c (.nul .ptr)))]
def kiL:List (Nat × TypeDesc):=[(2, .int .i64),(3, .int .i64),(4, .bool),(5, .int .u8),(9, .string),(22, .slice 3),(23, .slice 72),(28, .slice 30),(50, .slice 70),(63, .int .i64),(70, .slice 27),(89, .slice 94),(92, .slice 148),(95, .slice 43),(138, .slice 141),(142, .slice 144),(152, .slice 154),(156, .slice 209),(168, .map 9 3),(174, .int .u64),(183, .pointer 186),(184, .slice 5),(197, .int .i64),(204, .int .u32),(206, .int .u64),(210, .pointer 5),(213, .int .u64),(217, .pointer 3),(224, .unsafePointer)]
def eqL:List (Nat × List Sc):=[(27,[.int .i64, .int .i64, .str]),(41,[.int .i64, .int .i64]),(43,[.int .i64, .int .i64]),(144,[.int .i64, .int .i64]),(148,[.int .i64, .int .i64]),(209,[.int .i64, .bool])]
def tab:TI:=TI.of [(2,1),(3,1),(4,1),(5,1),(9,1),(22,1),(23,1),(25,2),(27,3),(28,1),(30,7),(41,2),(43,2),(50,1),(52,2),(63,1),(70,1),(72,3),(78,1),(89,1),(92,1),(94,2),(95,1),(99,1),(114,1),(124,1),(138,1),(141,2),(142,1),(144,2),(148,2),(151,1),(152,1),(154,3),(156,1),(168,1),(171,1),(174,1),(176,1),(183,1),(184,1),(186,2),(197,1),(204,1),(206,1),(209,2),(210,1),(213,1),(217,1),(224,1)] [(2,false),(3,false),(4,false),(5,false),(9,false),(22,false),(23,false),(25,true),(27,true),(28,false),(30,true),(41,true),(43,true),(50,false),(52,true),(63,false),(70,false),(72,true),(78,false),(89,false),(92,false),(94,true),(95,false),(99,false),(114,false),(124,false),(138,false),(141,true),(142,false),(144,true),(148,true),(151,false),(152,false),(154,true),(156,false),(168,false),(171,false),(174,false),(176,false),(183,false),(184,false),(186,true),(197,false),(204,false),(206,false),(209,true),(210,false),(213,false),(217,false),(224,false)] [(22,3),(23,72),(28,30),(50,70),(70,27),(89,94),(92,148),(95,43),(138,141),(142,144),(152,154),(156,209),(184,5)] [(25,[(0,22),(1,23)]),(27,[(0,3),(1,3),(2,9)]),(30,[(0,3),(1,3),(2,27),(5,9),(6,28)]),(41,[(0,3),(1,3)]),(43,[(0,3),(1,3)]),(52,[(0,22),(1,50)]),(72,[(0,70),(1,43)]),(94,[(0,70),(1,92)]),(141,[(0,70),(1,95)]),(144,[(0,3),(1,3)]),(148,[(0,3),(1,3)]),(154,[(0,43),(2,3)]),(186,[(0,183),(1,184)]),(209,[(0,3),(1,4)])] zeL [(2,8),(3,8),(4,1),(5,1),(9,16),(22,24),(23,24),(25,48),(27,32),(28,24),(30,88),(41,16),(43,16),(50,24),(52,48),(63,8),(70,24),(72,40),(78,8),(89,24),(92,24),(94,48),(95,24),(99,8),(114,8),(124,8),(138,24),(141,48),(142,24),(144,16),(148,16),(151,8),(152,24),(154,24),(156,24),(168,8),(171,8),(174,8),(176,8),(183,8),(184,24),(186,32),(197,8),(204,4),(206,8),(209,16),(210,8),(213,8),(217,8),(224,8)] kiL [25,27,30,41,43,52,72,94,141,144,148,154,186,209] [2,3,4,5,9,22,23,25,27,28,30,41,43,50,52,63,70,72,78,89,92,94,95,99,114,124,138,141,142,144,148,151,152,154,156,168,171,174,176,183,184,186,197,204,206,209,210,213,217,224] eqL [0]
set_option maxRecDepth 100000 in
theorem tab_ok:TIok Tryz.prog tab:=by
 refine TI.of_ok (by kernel_rfl) (by kernel_rfl) (by kernel_rfl) (by kernel_rfl) ?_ (by kernel_rfl) ?_ (by kernel_rfl) (by kernel_rfl) ?_
 ·intro p hp
  simp only [zeL,adZ,List.not_mem_nil,or_false] at hp
  rcases hp with rfl|rfl|rfl|rfl|rfl|rfl|rfl|rfl|rfl|rfl|rfl|rfl|rfl|rfl|rfl|rfl|rfl|rfl|rfl|rfl|rfl|rfl|rfl|rfl|rfl|rfl|rfl|rfl|rfl|rfl|rfl|rfl|rfl|rfl|rfl|rfl|rfl|rfl|rfl|rfl|rfl|rfl|rfl|rfl|rfl|rfl|rfl|rfl|rfl|rfl<;>kernel_rfl
 ·intro p hp
  simp only [kiL,adZ,List.not_mem_nil,or_false] at hp
  rcases hp with rfl|rfl|rfl|rfl|rfl|rfl|rfl|rfl|rfl|rfl|rfl|rfl|rfl|rfl|rfl|rfl|rfl|rfl|rfl|rfl|rfl|rfl|rfl|rfl|rfl|rfl|rfl|rfl|rfl<;>kernel_rfl
 ·intro p hp
  simp only [eqL,adZ,List.not_mem_nil,or_false] at hp
  rcases hp with rfl|rfl|rfl|rfl|rfl|rfl<;>exact VK (by kernel_rfl)
def adl:TI := { tab with soft:=true }
theorem tabS_ok:TIok Tryz.prog adl:=⟨tab_ok.size,tab_ok.agg,tab_ok.elem,tab_ok.field,tab_ok.zero,tab_ok.bytes,tab_ok.kind,tab_ok.struct,tab_ok.zok,tab_ok.eqs⟩
theorem mixed:Tryz.prog.follows .mixedOrders=true:=by kernel_rfl
def adp (f:FuncId):Bool:=Nat.beq f 186||Nat.beq f 188||Nat.beq f 190||Nat.beq f 191||Nat.beq f 206||Nat.beq f 224||Nat.beq f 223||Nat.beq f 125||Nat.beq f 179||Nat.beq f 171||Nat.beq f 192||Nat.beq f 138||Nat.beq f 177||Nat.beq f 212||Nat.beq f 208||Nat.beq f 209||Nat.beq f 226||Nat.beq f 235||Nat.beq f 174||Nat.beq f 194||Nat.beq f 195||Nat.beq f 196||Nat.beq f 197||Nat.beq f 198||Nat.beq f 199||Nat.beq f 200||Nat.beq f 201||Nat.beq f 210||Nat.beq f 213||Nat.beq f 214||Nat.beq f 204||Nat.beq f 215||Nat.beq f 216||Nat.beq f 217||Nat.beq f 218||Nat.beq f 219||Nat.beq f 220||Nat.beq f 221||Nat.beq f 222||Nat.beq f 228||Nat.beq f 229||Nat.beq f 230
def acn (f:FuncId) (d:Nat):Bool:=Nat.beq f 49||Nat.beq f 142||Nat.beq f 170||Nat.beq f 188||Nat.beq f 190||(Nat.beq f 136&&Nat.beq d 41)||(Nat.beq f 136&&Nat.beq d 42)
def aci (f:FuncId) (id:Nat):List Nat :=
 if (Nat.beq f 16&&Nat.beq id 1)=true then [3] else
 if (Nat.beq f 21&&Nat.beq id 1)=true then [3] else
 if (Nat.beq f 23&&Nat.beq id 1)=true then [4,5] else
 if (Nat.beq f 36&&Nat.beq id 1)=true then [3] else
 if (Nat.beq f 49&&Nat.beq id 18)=true then [5] else
 []
def ach (f:FuncId) (id:Nat):Bool × Bool :=
 (false,true)
def ab2 (f:FuncId):Bool:=Nat.beq f 129
def VE:TI := { tab with owns:=adp }
theorem ah:TIok Tryz.prog VE:=⟨tab_ok.size,tab_ok.agg,tab_ok.elem,tab_ok.field,tab_ok.zero,tab_ok.bytes,tab_ok.kind,tab_ok.struct,tab_ok.zok,tab_ok.eqs⟩
def Xw:FuncId->List PV->Option CV:=fun _ _=>none
noncomputable def cx:Cx := { P:=Tryz.prog,ti:=VE,xs:=⟨224,223⟩,row:=acn,frz:=aci,flg:=ach,orc:=Xw,bad:=ab2 }
theorem Wd:Xg Tryz.prog 224:=⟨_,Tryz.func224,by kernel_rfl,by kernel_rfl,by kernel_rfl,by kernel_rfl⟩
theorem WU:aa3 Tryz.prog 223:=⟨_,Tryz.func223,by kernel_rfl,by kernel_rfl,by kernel_rfl,by kernel_rfl⟩
theorem I7:Av Tryz.prog.funcs.toList=true:=by kernel_rfl
theorem Hl:Ah cx Tryz.prog.funcs.toList 0=true:=by kernel_rfl
theorem TY:HY cx:=HY.of ah ⟨Wd,WU⟩ mixed I7 Hl (fun g ps r h=>by cases h)
structure Val where
 kind:Int
 int:Int
 text:ByteArray
def cV (x:Val):List AC:=[.int .i64 x.kind, .int .i64 x.int, .str x.text]
structure aW where
 lo:Int
 hi:Int
def dP (x:aW):List AC:=[.int .i64 x.lo, .int .i64 x.hi]
structure aG where
 row:(List Val)
 valid:aW
def aY (x:aG):List AC:=[.lst (x.row.map cV), .int .i64 x.valid.lo, .int .i64 x.valid.hi]
structure bI where
 kinds:(List Int)
 facts:(List aG)
def dW (x:bI):List AC:=[.lst (x.kinds.map (fun x=>[AC.int .i64 x])), .lst (x.facts.map aY)]
inductive Ex where
 | mk (op:Int) (int:Int) (v:Val) (nm:ByteArray) (args:(List Ex))
mutual
def tE:Ex->List AC
 | .mk op int v nm args=>[.int .i64 op, .int .i64 int, .int .i64 v.kind, .int .i64 v.int, .str v.text, .str nm, .lst (tEs args)]
def tEs:List Ex->List (List AC)
 | []=>[]
 | e::l=>tE e::tEs l
end
theorem SG : ∀ (l:List Ex),tEs l=l.map tE
 | []=>by simp [tEs]
 | e::l=>by simp [tEs,SG l]
def Ex.op:Ex->Int | .mk a _ _ _ _=>a
def Ex.int:Ex->Int | .mk _ a _ _ _=>a
def Ex.v:Ex->Val | .mk _ _ a _ _=>a
def Ex.nm:Ex->ByteArray | .mk _ _ _ a _=>a
def Ex.args:Ex->(List Ex) | .mk _ _ _ _ a=>a
theorem aj (e:Ex):tE e=[.int .i64 e.op, .int .i64 e.int, .int .i64 e.v.kind, .int .i64 e.v.int, .str e.v.text, .str e.nm, .lst (e.args.map tE)]:=by
 obtain ⟨_,_,_,_,_⟩:=e
 rw [tE,SG];rfl
theorem M8 (e:Ex):(tE e).length=7:=by rw [aj];rfl
structure zw where
 kinds:(List Int)
 rows:(List (List Val))
def NT (x:zw):List AC:=[.lst (x.kinds.map (fun x=>[AC.int .i64 x])), .lst (x.rows.map (fun x=>[AC.lst (x.map cV)]))]
structure Stp where
 lo:Int
 n:Int
def xN (x:Stp):List AC:=[.int .i64 x.lo, .int .i64 x.n]
structure bT where
 row:(List Val)
 steps:(List Stp)
def lV (x:bT):List AC:=[.lst (x.row.map cV), .lst (x.steps.map xN)]
structure ay where
 row:(List Val)
 periods:(List aW)
def bG (x:ay):List AC:=[.lst (x.row.map cV), .lst (x.periods.map dP)]
structure DI where
 period:aW
 n:Int
def JE (x:DI):List AC:=[.int .i64 x.period.lo, .int .i64 x.period.hi, .int .i64 x.n]
structure JV where
 column:Int
 desc:Bool
def FK (x:JV):List AC:=[.int .i64 x.column, .bool x.desc]
end Go.Proofs.YtfccopdbgfdcdaaGreatDoor
