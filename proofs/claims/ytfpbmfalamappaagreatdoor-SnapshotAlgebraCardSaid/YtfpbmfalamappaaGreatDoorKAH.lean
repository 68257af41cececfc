/- Parts of the proof, joined. No condition. -/
import Derived.Test.YtfpbmfalamappaaGreatDoorKAA
import Derived.Test.YtfpbmfalamappaaGreatDoorKAG
import Derived.Test.YtfpbmfalamappaaGreatDoorKAF
import Derived.Laws.StructEq
import Derived.Test.YtfpbmfalamappaaGreatDoorProg
set_option linter.unusedSimpArgs false
set_option linter.unusedVariables false
namespace Go.Proofs.YtfpbmfalamappaaGreatDoor
open Go.RowKit Go.MapKept
theorem TIok.flags {P:Program} {ti:TI} (h:TIok P ti) (d s:Bool):TIok P { ti with dyn:=d,soft:=s } := ⟨h.size,h.agg,h.elem,h.field,h.zero,h.bytes,h.kind,h.struct,h.zok,h.eqs⟩
structure Cx where
 P:Program
 ti:TI
 xs:OH
 row:FuncId->Nat->Bool
 frz:FuncId->Nat->List Nat
 flg:FuncId->Nat->Bool × Bool
 orc:FuncId->List PV->Option CV
 bad:FuncId->Bool
 fz:FuncId->Nat->List Nat:=fun _ _=>[]
def WP (n:Nat):Cap->Bool
 | .ptr id _=>Nat.blt id n
 | .c _=>true
def KW (n:Nat):List Cap->Bool
 | []=>true
 | x::xs=>WP n x&&KW n xs
def X6 (n:Nat):SV->Bool
 | .own _ t=>Nat.blt t n
 | .ptr id _=>Nat.blt id n
 | .sl id _ _ _=>Nat.blt id n
 | .ep id _ _ _=>Nat.blt id n
 | .mp id=>Nat.blt id n
 | .clo _ caps=>KW n caps
 | .c _=>true
 | .emp=>true
def GH (n:Nat):List SV->Bool
 | []=>true
 | x::xs=>X6 n x&&GH n xs
def K6 (n:Nat):List (List SV)->Bool
 | []=>true
 | x::xs=>GH n x&&K6 n xs
def Us (n:Nat):AV->Bool
 | .one x=>X6 n x
 | .agg xs=>GH n xs
 | .tup _=>true
 | .tupS xs=>GH n xs
 | .undef=>true
def LZ (n:Nat):List AV->Bool
 | []=>true
 | x::xs=>Us n x&&LZ n xs
def Qd (n:Nat):List (AC × AV)->Bool
 | []=>true
 | x::xs=>Us n x.2&&Qd n xs
def Zm (n:Nat):Ob->Bool
 | .box cs=>GH n cs
 | .row _ es _=>K6 n es
 | .map kvs=>Qd n kvs
 | .spare _ _=>true
 | .dead=>true
def Jr (n:Nat):List Ob->Bool
 | []=>true
 | x::xs=>Zm n x&&Jr n xs
theorem TE {n:Nat} {x:Cap} (h:WP n x=true):x.below n:=by
 cases x with
 | c _=>trivial
 | ptr id _=>exact abj h
theorem I7 {n:Nat} : ∀ {xs:List Cap}, KW n xs=true -> ∀ x∈xs,x.below n
 | [],_,x,hx=>by cases hx
 | y::xs,h,x,hx=>by
  rw [KW,abr] at h
  rcases abq.1 hx with rfl|hx
  ·exact TE h.1
  ·exact I7 h.2 x hx
theorem P8 {n:Nat} {x:SV} (h:X6 n x=true):x.below n:=by
 cases x with
 | c _=>trivial
 | emp=>trivial
 | own _ t=>exact abj h
 | ptr id _=>exact abj h
 | sl id _ _ _=>exact abj h
 | ep id _ _ _=>exact abj h
 | mp id=>exact abj h
 | clo f caps=>exact I7 h
theorem uS {n:Nat} : ∀ {xs:List SV}, GH n xs=true -> ∀ x∈xs,x.below n
 | [],_,x,hx=>by cases hx
 | y::xs,h,x,hx=>by
  rw [GH,abr] at h
  rcases abq.1 hx with rfl|hx
  ·exact P8 h.1
  ·exact uS h.2 x hx
theorem JK {n:Nat} : ∀ {xs:List (List SV)}, K6 n xs=true -> ∀ e∈xs, ∀ x∈e,x.below n
 | [],_,x,hx=>by cases hx
 | y::xs,h,x,hx=>by
  rw [K6,abr] at h
  rcases abq.1 hx with rfl|hx
  ·exact uS h.1
  ·exact JK h.2 x hx
theorem DR {n:Nat} {x:AV} (h:Us n x=true):x.below n:=by
 cases x with
 | one x=>exact P8 h
 | agg xs=>exact uS h
 | tup _=>trivial
 | tupS xs=>exact uS h
 | undef=>trivial
theorem Fj {n:Nat} : ∀ {xs:List AV}, LZ n xs=true -> ∀ x∈xs,x.below n
 | [],_,x,hx=>by cases hx
 | y::xs,h,x,hx=>by
  rw [LZ,abr] at h
  rcases abq.1 hx with rfl|hx
  ·exact DR h.1
  ·exact Fj h.2 x hx
theorem Np {n:Nat} : ∀ {xs:List (AC × AV)}, Qd n xs=true -> ∀ p∈xs,p.2.below n
 | [],_,x,hx=>by cases hx
 | y::xs,h,x,hx=>by
  rw [Qd,abr] at h
  rcases abq.1 hx with rfl|hx
  ·exact DR h.1
  ·exact Np h.2 x hx
theorem WN {n:Nat} {x:Ob} (h:Zm n x=true):x.below n:=by
 cases x with
 | box cs=>exact uS h
 | row _ es _=>exact JK h
 | map kvs=>exact Np h
 | spare _ _=>trivial
 | dead=>trivial
theorem Am {n:Nat} : ∀ {xs:List Ob}, Jr n xs=true -> ∀ x∈xs,x.below n
 | [],_,x,hx=>by cases hx
 | y::xs,h,x,hx=>by
  rw [Jr,abr] at h
  rcases abq.1 hx with rfl|hx
  ·exact WN h.1
  ·exact Am h.2 x hx
theorem lc {n i:Nat} (h:i<n):mD (List.range n) i=i:=by
 unfold mD
 rw [abZ,List.getElem?_range h];rfl
theorem Cap.ren_range {n:Nat} {x:Cap} (h:x.below n):x.ren (List.range n)=x:=by
 cases x with
 | c _=>rfl
 | ptr id off=>show Cap.ptr (mD _ id) off=_;rw [lc h]
theorem jf {α:Type} {f:α->α} : ∀ {l:List α}, (∀ x∈l,f x=x)->l.map f=l
 | [],_=>rfl
 | x::l,h=>by rw [abk,h x (List.mem_cons_self ..),jf fun y hy=>h y (aby _ hy)]
theorem SV.ren_range {n:Nat} {x:SV} (h:x.below n):x.ren (List.range n)=x:=by
 cases x with
 | c _=>rfl
 | emp=>rfl
 | own es t=>show SV.own es (mD _ t)=_;rw [lc h]
 | ptr id off=>show SV.ptr (mD _ id) off=_;rw [lc h]
 | sl id v l m=>show SV.sl (mD _ id) v l m=_;rw [lc h]
 | ep id v i o=>show SV.ep (mD _ id) v i o=_;rw [lc h]
 | mp id=>show SV.mp (mD _ id)=_;rw [lc h]
 | clo f caps=>show SV.clo f (caps.map _)=_;rw [jf fun x hx=>Cap.ren_range (h x hx)]
theorem AV.ren_range {n:Nat} {x:AV} (h:x.below n):x.ren (List.range n)=x:=by
 cases x with
 | one x=>show AV.one (x.ren _)=_;rw [SV.ren_range h]
 | agg xs=>show AV.agg (xs.map _)=_;rw [jf fun x hx=>SV.ren_range (h x hx)]
 | tup _=>rfl
 | tupS xs=>show AV.tupS (xs.map _)=_;rw [jf fun x hx=>SV.ren_range (h x hx)]
 | undef=>rfl
theorem Ob.ren_range {n:Nat} {x:Ob} (h:x.below n):x.ren (List.range n)=x:=by
 cases x with
 | box cs=>show Ob.box (cs.map _)=_;rw [jf fun x hx=>SV.ren_range (h x hx)]
 | row v es k=>show Ob.row v (es.map (List.map _)) k=_;rw [jf fun e he=>jf fun x hx=>SV.ren_range (h e he x hx)]
 | map kvs=>show Ob.map (kvs.map fun p=>(p.1,p.2.ren (List.range n)))=_;rw [jf (f:=fun p:AC × AV=>(p.1,p.2.ren (List.range n))) fun p hp=>by show (p.1,p.2.ren _)=p;rw [AV.ren_range (h p hp)]]
 | spare _ _=>rfl
 | dead=>rfl
theorem AJ {n m:Nat} (h:n<=m):fV (List.range n) n m=List.range m:=by
 unfold fV yH
 rw [List.length_range, <- List.range_add,Nat.add_sub_cancel' h]
theorem Mm {L L1:List Ob} (h:L.length<=L1.length) (hb : ∀ x∈L1,x.below L1.length):joinL (List.range L.length) L L1=L1:=by
 unfold joinL join
 rw [AJ h,jf fun x hx=>Ob.ren_range (hb x hx),List.length_range]
 have:kX L (List.range L.length) L1=L1.take L.length:=by
  apply List.ext_getElem?
  intro i
  by_cases hi:i<L.length
  ·rw [Ch _ L L1 i i List.nodup_range (fun k hk=>List.mem_range.1 hk) (List.getElem?_range hi) (by omega),abE,if_pos hi]
  ·rw [List.getElem?_eq_none (by rw [fq];omega),List.getElem?_eq_none (by rw [abY];omega)]
 rw [this,abU]
structure oq (P:Program) (g:FuncId) (L:List Ob) (asx:List AV) (L1:List Ob) (r:AV):Prop where
 run:Run P g L asx L1 r
 obb : ∀ x∈L,x.below L.length
 argb : ∀ x∈asx,x.below L.length
 le:L.length<=L1.length
 ob1 : ∀ x∈L1,x.below L1.length
 val:r.below L1.length
theorem oq.fits {P:Program} {g:FuncId} {L:List Ob} {asx:List AV} {L1:List Ob} {r:AV} (h:oq P g L asx L1 r):qb (List.range L.length) L asx L:=by
 refine ⟨List.length_range,List.nodup_range,fun i x hx=>?_,h.obb,h.argb⟩
 have hi:i<L.length:=(aa9.1 hx).1
 rw [lc hi,hx,Ob.ren_range (h.obb x (abe hx))]
abbrev CP:=FuncId->List PV->Option CV
abbrev CR:=FuncId->List Ob->List AV->Option (List Ob × AV)
def Gw:Op->Option (Operand × List Operand)
 | .call { callee := .value f,args, .. } => some (f,args.toList)
 | _=>none
def UJ (ti:TI) (cp:CP) (cr:CR) (ρ:Operand->Option AV) (L:List Ob) (f:Operand) (args:List Operand):Option (AV × List Ob) :=
 match ρ f with
 | some (.one (.c (.fn g cs)))=>match ti.owns g with
  | false=>match eU ρ args with
   | some ps=>match cp g (ps++cs.map .one) with
    | some r=>some (r.av,L)
    | none=>none
   | none=>none
  | true=>match PP ti f,SC ρ args with
   | true,some vs=>match cr g L (vs++cs.map fun x => .one (.c x)) with
    | some (L1,r)=>some (r,L1)
    | none=>none
   | _,_=>none
 | some (.one (.clo g caps))=>match PP ti f,SC ρ args with
  | true,some vs=>match cr g L (vs++caps.map Cap.av) with
   | some (L1,r)=>some (r,L1)
   | none=>none
  | _,_=>none
 | _=>none
def UX (P:Program) (ti:TI) (xs:OH) (rowB:Bool) (ρ:Operand->Option AV) (L:List Ob) (op:Op):Option (AV × List Ob) :=
 match bZ ti op&&(!ti.soft||(Nat.beq (sk op) 0||Nat.beq (sk op) 4)) with
 | true=>Me P ti xs rowB ρ L op
 | false=>none
def Xr (cx:Cx) (ti:TI) (cp:CP) (cr:CR) (rowB:Bool) (ρ:Operand->Option AV) (L:List Ob) (op:Op):Option (AV × List Ob) :=
 match S_ ti ρ L op with
 | some v=>some (v,L)
 | none=>match Gw op with
  | some (f,args)=>match UJ ti cp cr ρ L f args with
   | some r=>some r
   | none=>UX cx.P ti cx.xs rowB ρ L op
  | none=>match (match rowB with|true=>none|false=>WL ti ρ op) with
   | some v=>some (v,L)
   | none=>match rowB with
    | true=>match UX cx.P ti cx.xs rowB ρ L op with
     | some r=>some r
     | none=>match WL ti ρ op with
      | some v=>some (v,L)
      | none=>WK ti ρ L op
    | false=>match WK ti ρ L op with
     | some r=>some r
     | none=>UX cx.P ti cx.xs rowB ρ L op
theorem Ot {P:Program} {ti:TI} {xs:OH} {rowB:Bool} {ρ:Operand->Option AV} {L L':List Ob} {op:Op} {v:AV} (hk:sk op=4) (h:Me P ti xs rowB ρ L op=some (v,L')):L'=L:=by
 unfold Me at h
 split at h
 all_goals first|(exfalso;cases hk;done)|skip
 all_goals repeat' (first|(cases h;done)|(cases h;rfl)|(obtain ⟨e,_⟩:=bz h;cases e;rfl)|split at h)
theorem SA {op:Op} {f:Operand} {args:List Operand} (h:Gw op=some (f,args)) : ∃ asx ts,op = .call { callee := .value f,args:=asx,argTypes:=ts } /\ args=asx.toList:=by
 unfold Gw at h
 split at h
 ·cases h;exact ⟨_,_,rfl,rfl⟩
 ·cases h
theorem Kt {P:Program} {ti:TI} {xs:OH} {rowB:Bool} {ρ:Operand->Option AV} {L L':List Ob} {op:Op} {v:AV} {K:AV->List Ob->Prop} (hti:TIok P ti) (hne:BG P xs) (h:UX P ti xs rowB ρ L op=some (v,L')) (hK:K v L'):kQ P ti ρ L K op:=by
 unfold UX at h
 split at h
 ·rename_i h1
  rw [abr] at h1
  refine .inr (.inr (.inr (.inr (.inr (.inr (.inr ⟨v,L',⟨h1.1,fun hs=>?_⟩,Te hti hne h,hK⟩))))))
  have h2:=h1.2
  rw [hs,Bool.not_true,Bool.false_or,Bool.or_eq_true] at h2
  rcases h2 with h2|h2
  ·exact .inl (Nat.eq_of_beq_eq_true h2)
  ·exact .inr ⟨Nat.eq_of_beq_eq_true h2,Ot (Nat.eq_of_beq_eq_true h2) h⟩
 ·cases h
theorem Js {P:Program} {ti:TI} {ρ:Operand->Option AV} {L L1:List Ob} {op:Op} {g:FuncId} {asx:List AV} {r:AV} {K:AV->List Ob->Prop} (hp:fG ti ρ op=some (g,asx)) (h:oq P g L asx L1 r) (hK:K r L1):kQ P ti ρ L K op:=by
 refine .inr (.inr (.inr (.inr (.inr (.inr (.inl ⟨List.range L.length,g,L,asx,L1,r,?_,h.fits,h.run,?_⟩))))))
 ·rw [hp,jf fun x hx=>AV.ren_range (h.argb x hx)]
 ·rw [AJ h.le,AV.ren_range h.val,Mm h.le h.ob1];exact hK
theorem VZ {cx:Cx} {ti:TI} {cp:CP} {cr:CR} {rowB:Bool} {ρ:Operand->Option AV} {L L':List Ob} {op:Op} {v:AV} {K:AV->List Ob->Prop} (hti:TIok cx.P ti) (hne:BG cx.P cx.xs)
  (hcp : ∀ g ps r,cp g ps=some r->Pure cx.P g ps r) (hcr : ∀ g L asx L1 r,cr g L asx=some (L1,r)->oq cx.P g L asx L1 r)
  (h:Xr cx ti cp cr rowB ρ L op=some (v,L')) (hK:K v L'):kQ cx.P ti ρ L K op:=by
 unfold Xr at h
 split at h
 ·rename_i v' h1
  cases h
  obtain ⟨φ,h2,h3⟩:=Uu h1
  exact .inl ⟨_,φ,h2,h3,hK⟩
 ·split at h
  ·rename_i f args hc
   obtain ⟨asx,ts,rfl,rfl⟩:=SA hc
   split at h
   ·rename_i r h1
    cases h
    unfold UJ at h1
    split at h1
    ·rename_i g cs hf
     split at h1
     ·split at h1
      ·rename_i ps hps
       split at h1
       ·rename_i r hr
        cases h1
        exact .inr (.inr (.inr (.inl ⟨g,_,r,by simp only [sN,hf,hps,Option.map_some],hcp _ _ _ hr,hK⟩)))
       ·cases h1
      ·cases h1
     ·split at h1
      ·rename_i vs hR hvs
       split at h1
       ·rename_i L1 r hr
        cases h1
        exact Js (by simp only [fG,hf,hvs,hR]) (hcr _ _ _ _ _ hr) hK
       ·cases h1
      ·cases h1
    ·rename_i g caps hf
     split at h1
     ·rename_i vs hR hvs
      split at h1
      ·rename_i L1 r hr
       cases h1
       exact Js (by simp only [fG,hf,hvs,hR]) (hcr _ _ _ _ _ hr) hK
      ·cases h1
     ·cases h1
    ·cases h1
   ·exact Kt hti hne h hK
  ·split at h
   ·rename_i v' h1
    cases h
    cases rowB with
    | true=>cases h1
    | false =>
     obtain ⟨φ,h2,h3⟩:=PT h1
     exact .inr (.inl ⟨_,φ,h2,h3,hK⟩)
   ·split at h
    ·split at h
     ·rename_i r h1
      cases h
      exact Kt hti hne h1 hK
     ·split at h
      ·rename_i v' h1
       cases h
       obtain ⟨φ,h2,h3⟩:=PT h1
       exact .inr (.inl ⟨_,φ,h2,h3,hK⟩)
      ·obtain ⟨φ,h2,h3⟩:=Ql h
       exact .inr (.inr (.inl ⟨_,_,φ,h2,h3,hK⟩))
    ·split at h
     ·rename_i r h1
      cases h
      obtain ⟨φ,h2,h3⟩:=Ql h1
      exact .inr (.inr (.inl ⟨_,_,φ,h2,h3,hK⟩))
     ·exact Kt hti hne h hK
def rowOf (cx:Cx) (f:FuncId):Option Tmp->Bool
 | some d=>cx.row f d
 | none=>false
def Zx (N:Nat):Option Tmp->Bool
 | some d=>Nat.blt d N
 | none=>true
theorem Qj {N:Nat} {d:Option Tmp} (h:Zx N d=true):Vj N d:=by
 cases d with
 | none=>trivial
 | some d=>exact abj h
def MM (cx:Cx) (ti:TI) (cp:CP) (cr:CR) (f:FuncId) (N:Nat) (ds:List (Option Tmp)):List Oper->Tm->List Ob->Option (Tm × List Ob)
 | [],T,L=>some (T,L)
 | o::rest,T,L=>match Zx N o.dst,jk ds T o.guard with
  | true,some true=>match Xr cx ti cp cr (rowOf cx f o.dst) (look T) L o.op with
   | some (v,L')=>MM cx ti cp cr f N ds rest (zS T o.dst v) L'
   | none=>none
  | true,some false=>MM cx ti cp cr f N ds rest (zS T o.dst .undef) L
  | _,_=>none
theorem z8 {cx:Cx} {ti:TI} {cp:CP} {cr:CR} {f:FuncId} {N:Nat} {ds:List (Option Tmp)} (hti:TIok cx.P ti) (hne:BG cx.P cx.xs)
  (hcp : ∀ g ps r,cp g ps=some r->Pure cx.P g ps r) (hcr : ∀ g L asx L1 r,cr g L asx=some (L1,r)->oq cx.P g L asx L1 r) {K:Tm->List Ob->Prop} :
  ∀ {l:List Oper} {T T':Tm} {L L':List Ob}, MM cx ti cp cr f N ds l T L=some (T',L')->K T' L'->aU cx.P ti N ds K l T L
 | [],T,T',L,L',h,hK=>by cases h;exact hK
 | o::rest,T,T',L,L',h,hK=>by
  unfold MM at h
  split at h
  ·rename_i hd hg
   split at h
   ·rename_i v L1 h1
    exact ⟨Qj hd,gL hg (VZ hti hne hcp hcr h1 (z8 hti hne hcp hcr h hK))⟩
   ·cases h
  ·rename_i hd hg
   exact ⟨Qj hd,E_ hg (z8 hti hne hcp hcr h hK)⟩
  ·cases h
def Xy:List Cap->List Nat
 | []=>[]
 | .ptr id _::l=>id::Xy l
 | .c _::l=>Xy l
def Y7:SV->List Nat
 | .ptr id _=>[id]
 | .sl id _ _ _=>[id]
 | .clo _ caps=>Xy caps
 | _=>[]
def WX:List SV->List Nat
 | []=>[]
 | x::l=>Y7 x++WX l
def aaP:AV->List Nat
 | .one x=>Y7 x
 | .agg xs=>WX xs
 | _=>[]
def PU (T:Tm) (L:List Ob) (id:Nat):Tm × List Ob :=
 match L[id]? with
 | some (.row ver es _)=>match lU es with
  | some cs=>(T.map (fun p=>(p.1,thA id ver cs p.2)),L.set id .dead)
  | none=>(T,L)
 | some (.box cs)=>match lZ cs with
  | some ts=>(T.map (fun p=>(p.1,unA id ts p.2)),L.set id .dead)
  | none=>(T,L)
 | _=>(T,L)
def K7:List Nat->Tm->List Ob->Tm × List Ob
 | [],T,L=>(T,L)
 | id::l,T,L=>match PU T L id with
  | (T',L')=>K7 l T' L'
def Zl (T:Tm) (L:List Ob) (t:Nat):Tm × List Ob :=
 match T.lookup t with
 | some v=>K7 (aaP v) T L
 | none=>(T,L)
def Tx:List Nat->Tm->List Ob->Option (Tm × List Ob)
 | [],T,L=>some (T,L)
 | t::ts,T,L=>match Zl T L t with
  | (T',L')=>Tx ts T' L'
section
variable {P:Program} {N n0:Nat} {Q:AX->Tm->List Ob->Prop} {c:Code}
theorem TS {T:Tm} {L:List Ob} {id:Nat} (k:Aw P N n0 c Q (PU T L id).1 (PU T L id).2):Aw P N n0 c Q T L:=by
 unfold PU at k
 split at k
 ·rename_i hL
  split at k
  ·rename_i hn;exact zF _ hL hn k
  ·exact k
 ·rename_i hL
  split at k
  ·rename_i hn;exact Kc _ hL hn k
  ·exact k
 ·exact k
theorem IR : ∀ {l:List Nat} {T:Tm} {L:List Ob}, Aw P N n0 c Q (K7 l T L).1 (K7 l T L).2->Aw P N n0 c Q T L
 | [],_,_,k=>k
 | id::l,T,L,k=>TS (IR (l:=l) k)
theorem KD : ∀ {ts:List Nat} {T T':Tm} {L L':List Ob}, Tx ts T L=some (T',L')->Aw P N n0 c Q T' L'->Aw P N n0 c Q T L
 | [],_,_,_,_,h,k=>by cases h;exact k
 | t::ts,T,T',L,L',h,k=>by
  unfold Tx at h
  have h2:=KD (ts:=ts) h k
  unfold Zl at h2
  split at h2
  ·exact IR h2
  ·exact h2
end
def clean (N:Nat) (T:Tm):Tm:=(List.range N).filterMap fun t=>(T.lookup t).map fun x=>(t,x)
theorem IP {N:Nat} {T:Tm} {t:Nat} {x:AV} (h:(clean N T).lookup t=some x):T.lookup t=some x:=by
 have h1:=zq h
 unfold clean at h1
 rw [List.mem_filterMap] at h1
 obtain ⟨i,_,h2⟩:=h1
 obtain ⟨y,h3,h4⟩:=map_some h2
 cases h4
 exact h3
def MS (body:Tm->List Ob->Option (AX × Tm × List Ob)) (N:Nat):Nat->Tm->List Ob->Option (AX × Tm × List Ob)
 | 0,_,_=>none
 | n+1,T,L=>match body (clean N T) L with
  | some (.normal,T',L')=>MS body N n T' L'
  | r=>r
def XQ (cx:Cx) (f:FuncId) (id:Nat):Bool->TI
 | false => { cx.ti with dyn:=true,soft:=false }
 | true => { cx.ti with dyn:=(cx.flg f id).1,soft:=(cx.flg f id).2 }
def NP (cx:Cx) (cp:CP) (cr:CR) (f:FuncId) (N:Nat) (rs:List Nat):Code->Tm->List Ob->Option (AX × Tm × List Ob)
 | .skip,T,L=>some (.normal,T,L)
 | .label _,T,L=>some (.normal,T,L)
 | .ret,T,L=>match Tx rs T L with
  | some (T',L')=>some (.ret,T',L')
  | none=>none
 | .exit id,T,L=>some (.exit id,T,L)
 | .seq x y,T,L=>match NP cx cp cr f N rs x T L with
  | some (.normal,T',L')=>NP cx cp cr f N rs y T' L'
  | r=>r
 | .cond c x y,T,L=>match look T c with
  | some (.one (.c (.bool b)))=>match b with
   | true=>NP cx cp cr f N rs x T L
   | false=>NP cx cp cr f N rs y T L
  | _=>none
 | .block id c,T,L=>match NP cx cp cr f N rs c T L with
  | some (.exit j,T',L')=>match decide (j=id) with
   | true=>some (.normal,T',L')
   | false=>some (.exit j,T',L')
  | r=>r
 | .region id ops d,T,L=>match Tx (cx.frz f id) T L with
  | some (T1,L1)=>match fzB (cx.fz f id) T1 with
   | true=>match MM cx (XQ cx f id d) cp cr f N (ops.toList.map (·.dst)) ops.toList T1 L1 with
    | some (T2,L2)=>some (.normal,T2,L2)
    | none=>none
   | false=>none
  | none=>none
 | .loop c,T,L=>MS (NP cx cp cr f N rs c) N 1048576 T L
 | _,_,_=>none
def mE (cx:Cx) (f:FuncId):Code->Bool
 | .seq x y=>mE cx f x&&mE cx f y
 | .cond _ x y=>mE cx f x&&mE cx f y
 | .block _ c=>mE cx f c
 | .loop c=>mE cx f c
 | .region id ops true=>A9 (cx.fz f id) (XQ cx f id true) ops.toList
 | _=>true
structure JW (cx:Cx):Prop where
 ti:TIok cx.P cx.ti
 ne:BG cx.P cx.xs
 mix:cx.P.follows .mixedOrders=true
 name : ∀ (f : FuncId) fn, cx.P.funcs[f]? = some fn -> (fn.name == "runtime.NumGoroutine") = false
 code : ∀ (f:FuncId) fn c,cx.P.funcs[f]?=some fn->fn.body=some c->cx.bad f=false->mE cx f c=true
 orc : ∀ g ps r,cx.orc g ps=some r->Pure cx.P g ps r
def Cc (cx:Cx):List Func->Nat->Bool
 | [],_=>true
 | fn::fs,i=>(match fn.body with
  | some c=>cx.bad i||mE cx i c
  | none=>true)&&Cc cx fs (i+1)
theorem I_ {cx:Cx} : ∀ {fs:List Func} {i:Nat}, Cc cx fs i=true -> ∀ (j:Nat) fn c,fs[j]?=some fn->fn.body=some c->cx.bad (i+j)=false->mE cx (i+j) c=true
 | [],i,h,j,fn,c,hj,_,_=>by simp at hj
 | f0::fs,i,h,0,fn,c,hj,hb,hbad=>by
  rw [Cc,abr] at h
  simp at hj;subst hj
  have h1:=h.1
  rw [hb] at h1
  rw [Nat.add_zero] at hbad ⊢
  simp only [hbad,Bool.false_or] at h1
  exact h1
 | f0::fs,i,h,j+1,fn,c,hj,hb,hbad=>by
  rw [Cc,abr] at h
  have:=I_ h.2 j fn c (by simpa using hj) hb (by rwa [show i+1+j=i+(j+1) by omega])
  rwa [show i+1+j=i+(j+1) by omega] at this
def B_:List Func->Bool
 | []=>true
 | fn :: fs => !(fn.name == "runtime.NumGoroutine") && B_ fs
theorem Jz : ∀ {fs : List Func}, B_ fs = true -> ∀ (j : Nat) fn, fs[j]? = some fn -> (fn.name == "runtime.NumGoroutine") = false
 | [],h,j,fn,hj=>by simp at hj
 | f0::fs,h,0,fn,hj=>by
  rw [B_,abr] at h
  simp at hj;subst hj
  simpa using h.1
 | f0::fs,h,j+1,fn,hj=>by
  rw [B_,abr] at h
  exact Jz h.2 j fn (by simpa using hj)
theorem JW.of {cx:Cx} (ti:TIok cx.P cx.ti) (ne:BG cx.P cx.xs) (mix:cx.P.follows .mixedOrders=true) (name:B_ cx.P.funcs.toList=true) (code:Cc cx cx.P.funcs.toList 0=true) (orc : ∀ g ps r,cx.orc g ps=some r->Pure cx.P g ps r):JW cx :=
 ⟨ti,ne,mix,fun f fn h=>Jz name f fn (by simpa using h),fun f fn c h hb hbad=>by have:=I_ code f fn c (by simpa using h) hb (by rwa [abR]);rwa [abR] at this,orc⟩
theorem D_ {cx:Cx} (h:JW cx) (f:FuncId) (id:Nat) (d:Bool):TIok cx.P (XQ cx f id d):=by
 cases d
 ·exact h.ti.flags _ _
 ·exact h.ti.flags _ _
section
variable {cx:Cx} {cp:CP} {cr:CR} {f:FuncId} {N n0:Nat} {rs:List Nat}
def ZU (x:AX) (T':Tm) (L':List Ob):AX->Tm->List Ob->Prop:=fun y S M=>y=x/\S=T'/\M=L'
theorem UQ {c:Code} {body:Tm->List Ob->Option (AX × Tm × List Ob)} (hb : ∀ T L x T' L',body T L=some (x,T',L')->Aw cx.P N n0 c (ZU x T' L') T L) :
  ∀ {n:Nat} {T:Tm} {L:List Ob} {x:AX} {T':Tm} {L':List Ob}, MS body N n T L=some (x,T',L')->Aw cx.P N n0 (.loop c) (ZU x T' L') T L:=by
 intro n0' T L x T' L' h
 intro hn B R0 γ0 w0 a0 hi hT
 have key : ∀ n T L0 R γ a w,n0<=L0.length->MS body N n T L0=some (x,T',L')->Inv B R γ L0 w->jw N R γ L0 T a->Ext B R0 R w0 w->AP n0 R0 R γ0 γ L L0->Code.rounds cx.P c (BA N n0 B (ZU x T' L') R0 w0 γ0 L) n a w:=by
  intro n
  induction n with
  | zero=>intro T L0 R γ a w _ hl;cases hl
  | succ n ih =>
   intro T L0 R γ a w hlo hl hI ht he hmv
   rw [rounds_succ]
   unfold MS at hl
   have htc:jw N R γ L0 (clean N T) a:=⟨ht.size,ht.defers,fun t x hx=>ht.slot t x (IP hx)⟩
   split at hl
   ·rename_i T1 L1 hb1
    refine wp_mono (hb _ _ _ _ _ hb1 hlo B R γ w a hI htc) ?_
    rintro e a1 w1 ⟨y,T2,L2,R1,γ2,rfl,⟨rfl,rfl,rfl⟩,j1,k1,e1,m1⟩
    exact ih _ _ R1 _ a1 w1 m1.lo' hl j1 k1 (he.trans e1) (hmv.trans hi.len m1)
   ·rename_i hne
    refine wp_mono (hb _ _ _ _ _ hl hlo B R γ w a hI htc) ?_
    rintro e a1 w1 ⟨y,T2,L2,R1,γ2,rfl,⟨rfl,rfl,rfl⟩,j1,k1,e1,m1⟩
    cases y with
    | normal=>exact absurd hl (hne _ _)
    | exit id=>exact ⟨.exit id,_,_,R1,γ2,rfl,⟨rfl,rfl,rfl⟩,j1,k1,he.trans e1,hmv.trans hi.len m1⟩
    | ret=>exact ⟨.ret,_,_,R1,γ2,rfl,⟨rfl,rfl,rfl⟩,j1,k1,he.trans e1,hmv.trans hi.len m1⟩
 exact wp_loop_rounds n0' (key n0' T L R0 γ0 a0 w0 hn h hi hT (Ext.refl _ _ _) (AP.of hn Mv.refl))
theorem O1 (hx:JW cx) (hcp : ∀ g ps r,cp g ps=some r->Pure cx.P g ps r) (hcr : ∀ g L asx L1 r,cr g L asx=some (L1,r)->oq cx.P g L asx L1 r) :
  ∀ {c:Code} {T:Tm} {L:List Ob} {x:AX} {T':Tm} {L':List Ob}, mE cx f c=true->NP cx cp cr f N rs c T L=some (x,T',L')->Aw cx.P N n0 c (ZU x T' L') T L:=by
 intro c
 induction c with
 | skip=>intro T L x T' L' _ h;cases h;exact aw_skip ⟨rfl,rfl,rfl⟩
 | label l=>intro T L x T' L' _ h;cases h;exact TC ⟨rfl,rfl,rfl⟩
 | ret =>
  intro T L x T' L' _ h
  unfold NP at h
  split at h
  ·rename_i h1
   cases h
   exact KD h1 (aw_ret ⟨rfl,rfl,rfl⟩)
  ·cases h
 | exit id=>intro T L x T' L' _ h;cases h;exact aw_exit ⟨rfl,rfl,rfl⟩
 | seq a b iha ihb =>
  intro T L x T' L' hc h
  rw [mE,abr] at hc
  unfold NP at h
  refine aw_seq ?_
  split at h
  ·rename_i T1 L1 h1
   refine Aw.mono (iha hc.1 h1) ?_
   rintro y S M ⟨rfl,rfl,rfl⟩
   exact ihb hc.2 h
  ·rename_i hne
   refine Aw.mono (iha hc.1 h) ?_
   rintro y S M ⟨rfl,rfl,rfl⟩
   cases y with
   | normal=>exact absurd h (hne _ _)
   | exit id=>exact ⟨rfl,rfl,rfl⟩
   | ret=>exact ⟨rfl,rfl,rfl⟩
 | cond c a b iha ihb =>
  intro T L x T' L' hc h
  rw [mE,abr] at hc
  unfold NP at h
  split at h
  ·rename_i b' hl
   refine ah hl (fun e=>?_) (fun e=>?_)
   ·subst e;exact iha hc.1 h
   ·subst e;exact ihb hc.2 h
  ·cases h
 | block id c ih =>
  intro T L x T' L' hc h
  unfold NP at h
  refine aw_block ?_
  split at h
  ·rename_i j T1 L1 h1
   refine Aw.mono (ih hc h1) ?_
   rintro y S M ⟨rfl,rfl,rfl⟩
   show if j=id then _ else _
   split at h
   ·rename_i e;rw [if_pos (abD e)];cases h;exact ⟨rfl,rfl,rfl⟩
   ·rename_i e;rw [if_neg (of_decide_eq_false e)];cases h;exact ⟨rfl,rfl,rfl⟩
  ·rename_i hne
   refine Aw.mono (ih hc h) ?_
   rintro y S M ⟨rfl,rfl,rfl⟩
   cases y with
   | normal=>exact ⟨rfl,rfl,rfl⟩
   | exit id=>exact absurd h (hne _ _ _)
   | ret=>exact ⟨rfl,rfl,rfl⟩
 | region id ops d =>
  intro T L x T' L' hc h
  unfold NP at h
  split at h
  ·rename_i T1 L1 h1
   refine KD h1 ?_
   split at h
   ·rename_i hz
    split at h
    ·rename_i T2 L2 h2
     cases h
     have hr:ops=ops.toList.toArray:=rfl
     rw [hr]
     cases d with
     | false=>exact aw_region (D_ hx f id false) _ rfl (z8 (D_ hx f id false) hx.ne hcp hcr h2 ⟨rfl,rfl,rfl⟩)
     | true=>exact JG _ (D_ hx f id true) _ rfl hx.mix hc hz (z8 (D_ hx f id true) hx.ne hcp hcr h2 ⟨rfl,rfl,rfl⟩)
    ·cases h
   ·cases h
  ·cases h
 | loop c ih =>
  intro T L x T' L' hc h
  unfold NP at h
  exact UQ (fun T L x T' L' hb=>ih hc hb) h
 | _=>intro T L x T' L' _ h;unfold NP at h;cases h
end
def Lc (ti:TI) (T:Tm) (L:List Ob):ResultVar->Option PV
 | .tmp t=>(T.lookup t).bind AV.norm
 | .cell a t=>match T.lookup a with
  | some (.one (.ptr id off))=>match QO ti L t (.one (.ptr id off)) with
   | some v=>v.norm
   | none=>none
  | _=>none
def AR (ti:TI) (T:Tm) (L:List Ob):List ResultVar->Option (List PV)
 | []=>some []
 | r::rs=>match Lc ti T L r,AR ti T L rs with
  | some p,some ps=>some (p::ps)
  | _,_=>none
theorem NV {ti:TI} {T:Tm} {L:List Ob} {r:ResultVar} {p:PV} (h:Lc ti T L r=some p):Hw (Ck ti T L r) p:=by
 unfold Lc at h
 split at h
 ·rename_i t
  exact ⟨True,by show (Option.map _ _)=_;rw [h];rfl,trivial⟩
 ·unfold Ck
  dsimp only
  split at h
  ·rename_i h1
   rw [h1]
   dsimp only
   split at h
   ·rename_i v h2
    obtain ⟨φ,h3,h4⟩:=Mh h2
    rw [h3]
    exact ⟨φ,by dsimp only;rw [h];rfl,h4⟩
   ·cases h
  ·cases h
theorem yY {ti:TI} {T:Tm} {L:List Ob} : ∀ {rs:List ResultVar} {ps:List PV}, AR ti T L rs=some ps->Hw (vP ti T L rs) ps
 | [],ps,h=>by cases h;exact ⟨_,rfl,trivial⟩
 | r::rs,ps,h=>by
  unfold AR at h
  split at h
  ·rename_i h1 h2
   cases h
   obtain ⟨φ,h3,h4⟩:=NV h1
   obtain ⟨ψ,h5,h6⟩:=yY h2
   exact ⟨φ/\ψ,by unfold vP;rw [h3,h5],h4,h6⟩
  ·cases h
def GY:List ResultVar->List Nat
 | []=>[]
 | .tmp t::rs=>t::GY rs
 | .cell _ _::rs=>GY rs
def Uf:AX->Bool
 | .exit _=>false
 | _=>true
theorem FI {x:AX} (h:Uf x=true):x = .normal\/x = .ret:=by
 cases x with
 | normal=>exact .inl rfl
 | ret=>exact .inr rfl
 | exit _=>cases h
def TA (cx:Cx) (cp:CP) (cr:CR):CP:=fun g ps =>
 match cx.orc g ps with
 | some r=>some r
 | none=>match cx.P.funcs[g]? with
  | some fn=>match fn.body,cx.bad g,Nat.ble ps.length fn.ntmps with
   | some c,false,true=>match NP cx cp cr g fn.ntmps (GY fn.results.toList) c (argT 0 ps) [] with
    | some (x,T,L)=>match Uf x,AR cx.ti T L fn.results.toList with
     | true,some rs=>some (UO rs)
     | _,_=>none
    | none=>none
   | _,_,_=>none
  | none=>none
def JU (T:Tm):List ResultVar->Option AV
 | [.tmp s, .tmp t]=>match T.lookup s,T.lookup t with
  | some (.one x),some (.one y)=>some (.tupS [x,y])
  | _,_=>none
 | _=>none
theorem O7 {T:Tm} {rs:List ResultVar} {r:AV} (h:JU T rs=some r):xA rs T r:=by
 unfold JU at h
 split at h
 ·split at h
  ·rename_i h1 h2
   cases h
   exact ⟨_,_,_,_,rfl,h1,h2,rfl⟩
  ·cases h
 ·cases h
def KF (ti:TI) (T:Tm) (L:List Ob):List ResultVar->Option AV
 | [.tmp t]=>T.lookup t
 | rs=>match AR ti T L rs with
  | some ps=>some (UO ps).av
  | none=>none
theorem Ol {ti:TI} {T:Tm} {L:List Ob} {rs:List ResultVar} {r:AV} (h:KF ti T L rs=some r):BS ti rs T L r:=by
 unfold KF at h
 split at h
 ·exact .inl ⟨_,rfl,h⟩
 ·split at h
  ·rename_i ps h1
   cases h
   obtain ⟨φ,h2,h3⟩:=yY h1
   exact .inr ⟨UO ps,aR h2 h3 rfl,rfl⟩
  ·cases h
def Pt (ti:TI) (T:Tm) (L:List Ob) (rs:List ResultVar):Option AV :=
 match JU T rs with
 | some r=>some r
 | none=>KF ti T L rs
theorem Rb {ti:TI} {T:Tm} {L:List Ob} {rs:List ResultVar} {r:AV} (h:Pt ti T L rs=some r):BS ti rs T L r\/xA rs T r:=by
 unfold Pt at h
 split at h
 ·rename_i h1
  cases h
  exact .inr (O7 h1)
 ·exact .inl (Ol h)
def Xf (cx:Cx) (cp:CP) (cr:CR):CR:=fun g L asx =>
 match cx.P.funcs[g]? with
 | some fn=>match fn.body,cx.bad g,Nat.ble asx.length fn.ntmps,(Jr L.length L&&LZ L.length asx) with
  | some c,false,true,true=>match NP cx cp cr g fn.ntmps [] c (j4 0 asx) L with
   | some (x,T,L1)=>match Uf x,Pt cx.ti T L1 fn.results.toList,Nat.ble L.length L1.length with
    | true,some r,true=>match Us L.length r&&Jr L.length (L1.take L.length) with
     | true=>some (L1.take L.length,r)
     | false=>match Us L1.length r&&Jr L1.length L1 with
      | true=>some (L1,r)
      | false=>none
    | _,_,_=>none
   | none=>none
  | _,_,_,_=>none
 | none=>none
theorem SQ {cx:Cx} {cp:CP} {cr:CR} (hx:JW cx) (hcp : ∀ g ps r,cp g ps=some r->Pure cx.P g ps r) (hcr : ∀ g L asx L1 r,cr g L asx=some (L1,r)->oq cx.P g L asx L1 r)
  {g:FuncId} {ps:List PV} {r:CV} (h:TA cx cp cr g ps=some r):Pure cx.P g ps r:=by
 unfold TA at h
 split at h
 ·rename_i r' h1
  cases h
  exact hx.orc _ _ _ h1
 ·split at h
  ·rename_i fn hf
   split at h
   ·rename_i c hb hbad hle
    split at h
    ·rename_i x T L he
     split at h
     ·rename_i rs hend hres
      cases h
      obtain ⟨φ,h2,h3⟩:=yY hres
      refine pa_ hx.ti hf hb (hx.name _ _ hf) rfl (abj hle) ?_
      refine Aw.mono (O1 hx hcp hcr (hx.code _ _ _ hf hb hbad) he) ?_
      rintro y S M ⟨rfl,rfl,rfl⟩
      exact ⟨FI hend,aR h2 h3 rfl⟩
     ·cases h
    ·cases h
   ·cases h
  ·cases h
theorem Wu {cx:Cx} {cp:CP} {cr:CR} (hx:JW cx) (hcp : ∀ g ps r,cp g ps=some r->Pure cx.P g ps r) (hcr : ∀ g L asx L1 r,cr g L asx=some (L1,r)->oq cx.P g L asx L1 r)
  {g:FuncId} {L:List Ob} {asx:List AV} {L1:List Ob} {r:AV} (h:Xf cx cp cr g L asx=some (L1,r)):oq cx.P g L asx L1 r:=by
 unfold Xf at h
 split at h
 ·rename_i fn hf
  split at h
  ·rename_i c hb hbad hle hbel
   rw [abr] at hbel
   split at h
   ·rename_i x T L2 he
    split at h
    ·rename_i r' hend hval hlen
     have hlen:=abj hlen
     have main : ∀ m,L.length<=m->m<=L2.length->(∀ x∈L2.take m,x.below m)->r'.below m->oq cx.P g L asx (L2.take m) r':=by
      intro m hm1 hm2 hob hr
      have hl:(L2.take m).length=m:=by rw [abY];omega
      refine ⟨?_,Am hbel.1,Fj hbel.2,by omega,by rw [hl];exact hob,by rw [hl];exact hr⟩
      rcases Rb hval with hv|hv
      ·refine bQ hx.ti hf hb (hx.name _ _ hf) rfl (abj hle) ?_
       refine Aw.mono (O1 hx hcp hcr (hx.code _ _ _ hf hb hbad) he) ?_
       rintro y S M ⟨rfl,rfl,rfl⟩
       exact ⟨FI hend,⟨hv,⟨_,(abU m _).symm⟩,by rw [hl];exact hm1,by rw [hl];exact hob,by rw [hl];exact hr⟩⟩
      ·refine O4 hx.ti hf hb (hx.name _ _ hf) rfl (abj hle) ?_
       refine Aw.mono (O1 hx hcp hcr (hx.code _ _ _ hf hb hbad) he) ?_
       rintro y S M ⟨rfl,rfl,rfl⟩
       exact ⟨FI hend,⟨hv,⟨_,(abU m _).symm⟩,by rw [hl];exact hm1,by rw [hl];exact hob,by rw [hl];exact hr⟩⟩
     split at h
     ·rename_i hc
      rw [abr] at hc
      cases h
      exact main _ (abp _) hlen (Am hc.2) (DR hc.1)
     ·split at h
      ·rename_i hc
       rw [abr] at hc
       cases h
       have:=main _ hlen (abp _) (by rw [List.take_length];exact Am hc.2) (DR hc.1)
       rw [List.take_length] at this
       exact this
      ·cases h
    ·cases h
   ·cases h
  ·cases h
 ·cases h
def XI (cx:Cx):Nat->CP × CR
 | 0=>(fun _ _=>none,fun _ _ _=>none)
 | n+1=>(TA cx (XI cx n).1 (XI cx n).2,Xf cx (XI cx n).1 (XI cx n).2)
theorem Cn {cx:Cx} (hx:JW cx) : ∀ n,(∀ g ps r,(XI cx n).1 g ps=some r->Pure cx.P g ps r)/\(∀ g L asx L1 r,(XI cx n).2 g L asx=some (L1,r)->oq cx.P g L asx L1 r)
 | 0=>⟨fun g ps r h=>(by cases h),fun g L asx L1 r h=>(by cases h)⟩
 | n+1=>⟨fun g ps r h=>SQ hx (Cn hx n).1 (Cn hx n).2 h,fun g L asx L1 r h=>Wu hx (Cn hx n).1 (Cn hx n).2 h⟩
theorem nG {P:Program} {w:World} {t:TypeId} {d:TypeDesc} (ht:P.underlying t=some d) (hd:(match d with | .struct _=>true | .array _ _=>true|_=>false)=false) {xs:Array Value} {i:Nat} {v:Value} (hx:xs[i]?=some v):(part t xs i).run P w = .ok v w:=by
 cases d<;>first|(cases hd;done)|simp [part,isAgg,run_underlying ht,hx]
def X5:TypeDesc->Option Sc
 | .int k=>some (.int k)
 | .bool=>some .bool
 | .string=>some .str
 | _=>none
def XD (s:Sc):Option TypeDesc->Bool
 | some d=>match X5 d with
  | some s'=>decide (s'=s)
  | none=>false
 | none=>false
def WA (d:Option TypeDesc):Sc->Prop
 | .int k=>d=some (.int k)
 | .bool=>d=some .bool
 | .str=>d=some .string
theorem VB {s:Sc} {d:Option TypeDesc} (h:XD s d=true):WA d s:=by
 unfold XD at h
 cases d with
 | none=>cases h
 | some d =>
  dsimp only at h
  cases hs:X5 d with
  | none=>rw [hs] at h;cases h
  | some s' =>
   rw [hs] at h
   obtain rfl:s'=s:=abD h
   unfold X5 at hs
   split at hs<;>first|(cases hs;rfl)|(cases hs;done)
def QG (P:Program):List Field->List Sc->Nat->Bool
 | [],[],_=>true
 | f :: fs, s :: sh, i => (!(f.name == "_")) && (Nat.beq f.offset i && (XD s (P.underlying f.type) && QG P fs sh (i + 1)))
 | _,_,_=>false
theorem GD {x:SV} {xs:List SV} {vs:List Value} (h:iL (x::xs)=some vs) : ∃ c v r,x = .c c/\Hm c=some v/\iL xs=some r/\vs=v::r:=by
 unfold iL at h
 split at h
 ·rename_i e;cases e
 ·rename_i y ys e
  cases e
  split at h
  ·rename_i v r h1 h2;cases h;exact ⟨_,v,r,rfl,h1,h2,rfl⟩
  ·cases h
 ·cases h
theorem Io {P:Program} {w:World} (d:Nat) {A B:Array Value} : ∀ (fs:List Field) (sh:List Sc) (i:Nat) (xs ys:List SV) (vs us:List Value),QG P fs sh i=true->gq sh xs=true->gq sh ys=true->iL xs=some vs->iL ys=some us ->
  (∀ (j:Nat) v,vs[j]?=some v->A[i+j]?=some v)->(∀ (j:Nat) v,us[j]?=some v->B[i+j]?=some v)->(Op.eqFields (d+1) A B fs).run P w = .ok (dS xs ys) w:=by
 intro fs
 induction fs with
 | nil =>
  intro sh i xs ys vs us hf hx hy _ _ _ _
  cases sh with
  | nil =>
   cases xs with
   | nil=>cases ys with
    | nil=>rfl
    | cons _ _=>cases hy
   | cons _ _=>cases hx
  | cons _ _=>cases hf
 | cons f fs ih =>
  intro sh i xs ys vs us hf hx hy hv hu hA hB
  cases sh with
  | nil=>cases hf
  | cons s sh =>
   rw [QG,abr,abr,abr] at hf
   obtain ⟨h1,h2,h3,h4⟩:=hf
   have h2:=Nat.eq_of_beq_eq_true h2
   have h1 : f.name ≠ "_" := by simpa using h1
   have h3:=VB h3
   cases xs with
   | nil=>cases s<;>cases hx
   | cons x xs =>
    cases ys with
    | nil=>cases s<;>cases hy
    | cons y ys =>
     obtain ⟨cx,v,vr,rfl,hv1,hv2,rfl⟩:=GD hv
     obtain ⟨cy,u,ur,rfl,hu1,hu2,rfl⟩:=GD hu
     have a0:=hA 0 v rfl
     have b0:=hB 0 u rfl
     rw [Nat.add_zero] at a0 b0
     have rest : ∀ (hx':gq sh xs=true) (hy':gq sh ys=true),(Op.eqFields (d+1) A B fs).run P w = .ok (dS xs ys) w:=fun hx' hy' =>
      ih sh (i+1) xs ys vr ur h4 hx' hy' hv2 hu2 (fun j v hj=>by have:=hA (j+1) v (by simpa using hj);rwa [show i+1+j=i+(j+1) by omega]) (fun j v hj=>by have:=hB (j+1) v (by simpa using hj);rwa [show i+1+j=i+(j+1) by omega])
     cases s with
     | int k =>
      unfold WA at h3
      cases cx<;>first|(cases hx;done)|skip
      cases cy<;>first|(cases hy;done)|skip
      rename_i k1 a k2 b
      simp only [gq,abr,decide_eq_true_eq] at hx hy
      obtain ⟨rfl,hx'⟩:=hx
      obtain ⟨rfl,hy'⟩:=hy
      cases hv1;cases hu1
      have p1:=nG (P:=P) (w:=w) h3 rfl a0
      have p2:=nG (P:=P) (w:=w) h3 rfl b0
      simp only [Op.eqFields,h1,h2,ne_eq,not_false_eq_true,if_true,Sem.run_bind,p1,p2,Result.andThen_ok,run_equalIn_int (P:=P) w d _ k k a b h3,Sem.run_ite,Sem.run_pure,rest hx' hy']
      cases e:(a==b)
      ·have:a≠b:=by simpa using e
       simp [dS,this]
      ·have:a=b:=by simpa using e
       simp [dS,this]
     | bool =>
      unfold WA at h3
      cases cx<;>first|(cases hx;done)|skip
      cases cy<;>first|(cases hy;done)|skip
      rename_i a b
      simp only [gq] at hx hy
      cases hv1;cases hu1
      have p1:=nG (P:=P) (w:=w) h3 rfl a0
      have p2:=nG (P:=P) (w:=w) h3 rfl b0
      simp only [Op.eqFields,h1,h2,ne_eq,not_false_eq_true,if_true,Sem.run_bind,p1,p2,Result.andThen_ok,run_equalIn_bool (P:=P) w d _ a b h3,Sem.run_ite,Sem.run_pure,rest hx hy]
      cases e:(a==b)<;>simp [dS,e]
     | str =>
      unfold WA at h3
      cases cx<;>first|(cases hx;done)|skip
      cases cy<;>first|(cases hy;done)|skip
      rename_i a b
      simp only [gq] at hx hy
      cases hv1;cases hu1
      have p1:=nG (P:=P) (w:=w) h3 rfl a0
      have p2:=nG (P:=P) (w:=w) h3 rfl b0
      simp only [Op.eqFields,h1,h2,ne_eq,not_false_eq_true,if_true,Sem.run_bind,p1,p2,Result.andThen_ok,run_equalIn_string (P:=P) w d _ a b h3,Sem.run_ite,Sem.run_pure,rest hx hy]
      cases e:(a.toList==b.toList)<;>simp [dS,e]
def PK (P:Program) (t:TypeId) (sh:List Sc):Bool :=
 (match P.underlying t with
 | some (.struct fs)=>QG P fs.toList sh 0
 | _=>false)&&(!P.stoodInHeld t && !P.eqGuardType P.depth t)
theorem RX {P:Program} {t:TypeId} {sh:List Sc} (h:PK P t sh=true):P.eqGuardType P.depth t=false /\ ∀ xs ys,gq sh xs=true->gq sh ys=true->OE P t xs ys:=by
 rw [PK,abr,abr] at h
 obtain ⟨h1,h2,h3⟩:=h
 refine ⟨by simpa using h3,fun xs ys hx hy vs us hv hu w=>?_⟩
 split at h1
 ·rename_i fs ht
  have hfs:P.fieldsOf t=fs:=by unfold Program.fieldsOf;rw [ht]
  have hm:Op.equal t (.agg vs.toArray) (.agg us.toArray)=Op.equalIn (9999+1) t (.agg vs.toArray) (.agg us.toArray):=rfl
  rw [hm,run_equalIn_struct w 9999 t _ _ (by rw [hfs];exact ht) (by simpa using h2),hfs]
  exact Io 9998 _ sh 0 xs ys vs us h1 hx hy hv hu (fun j v hj=>by simpa using hj) (fun j v hj=>by simpa using hj)
 ·cases h1
open Go.RowKit
def zeL:List (Nat × AV):=[(2, .one (.c (.int .i64 0))),(3, .one (.c (.int .i64 0))),(4, .one (.c (.bool false))),(5, .one (.c (.int .u8 0))),(9, .one (.c (.str ⟨#[]⟩))),(22, .one (.emp)),(23, .one (.emp)),(25, .agg [.c (.int .i64 0), .c (.int .i64 0), .c (.str ⟨#[]⟩)]),(26, .one (.emp)),(28, .agg [.c (.int .i64 0), .c (.int .i64 0), .c (.int .i64 0), .c (.int .i64 0), .c (.str ⟨#[]⟩), .c (.str ⟨#[]⟩), .emp]),(29, .one (.emp)),(30, .one (.emp)),(32, .agg [.c (.int .i64 0), .c (.int .i64 0), .emp, .emp, .c (.int .i64 0), .c (.int .i64 0), .c (.int .i64 0), .c (.int .i64 0), .c (.str ⟨#[]⟩), .c (.str ⟨#[]⟩), .emp, .emp, .emp, .emp, .emp]),(33, .one (.emp)),(36, .one (.c (.int .i64 0))),(42, .agg [.emp, .emp]),(48, .agg [.c (.int .i64 0), .c (.int .i64 0)]),(49, .one (.emp)),(68, .one (.c (.nul .func))),(74, .one (.c (.nul .map))),(75, .one (.emp)),(81, .one (.emp)),(83, .agg [.emp, .emp]),(86, .one (.c (.nul .func))),(100, .one (.c (.nul .map))),(108, .one (.c (.nul .ptr))),(109, .one (.emp)),(111, .agg [.c (.nul .ptr), .emp]),(121, .one (.c (.nul .func))),(122, .one (.c (.nul .func))),(137, .one (.c (.nul .ptr))),(139, .one (.c (.int .u64 0))),(144, .one (.emp)),(154, .agg [.c (.int .i64 0), .c (.int .i64 0)]),(161, .one (.c (.nul .ptr))),(175, .one (.c (.int .u64 0))),(182, .agg [.c (.int .i64 0), .c (.bool false)]),(187, .one (.c (.int .u32 0)))]
def kiL:List (Nat × TypeDesc):=[(2, .int .i64),(3, .int .i64),(4, .bool),(5, .int .u8),(9, .string),(22, .slice 3),(23, .slice 49),(26, .slice 28),(29, .slice 48),(30, .slice 32),(33, .slice 22),(36, .int .i64),(49, .slice 25),(74, .map 9 3),(75, .slice 23),(81, .slice 83),(100, .map 9 4),(108, .pointer 111),(109, .slice 5),(137, .pointer 5),(139, .int .u64),(144, .slice 182),(161, .unsafePointer),(175, .int .u64),(187, .int .u32)]
def eqL:List (Nat × List Sc):=[(25,[.int .i64, .int .i64, .str]),(48,[.int .i64, .int .i64]),(154,[.int .i64, .int .i64]),(182,[.int .i64, .bool])]
def tab:TI:=TI.of [(2,1),(3,1),(4,1),(5,1),(9,1),(22,1),(23,1),(25,3),(26,1),(28,7),(29,1),(30,1),(32,15),(33,1),(36,1),(42,2),(48,2),(49,1),(68,1),(74,1),(75,1),(81,1),(83,2),(86,1),(100,1),(108,1),(109,1),(111,2),(121,1),(122,1),(137,1),(139,1),(144,1),(154,2),(161,1),(175,1),(182,2),(187,1)] [(2,false),(3,false),(4,false),(5,false),(9,false),(22,false),(23,false),(25,true),(26,false),(28,true),(29,false),(30,false),(32,true),(33,false),(36,false),(42,true),(48,true),(49,false),(68,false),(74,false),(75,false),(81,false),(83,true),(86,false),(100,false),(108,false),(109,false),(111,true),(121,false),(122,false),(137,false),(139,false),(144,false),(154,true),(161,false),(175,false),(182,true),(187,false)] [(22,3),(23,49),(26,28),(29,48),(30,32),(33,22),(49,25),(75,23),(81,83),(109,5),(144,182)] [(25,[(0,3),(1,3),(2,9)]),(28,[(0,3),(1,3),(2,25),(5,9),(6,26)]),(32,[(0,3),(1,3),(2,22),(3,23),(4,28),(11,26),(12,22),(13,29),(14,30)]),(42,[(0,22),(1,23)]),(48,[(0,3),(1,3)]),(83,[(0,49),(1,49)]),(111,[(0,108),(1,109)]),(154,[(0,3),(1,3)]),(182,[(0,3),(1,4)])] zeL [(2,8),(3,8),(4,1),(5,1),(9,16),(22,24),(23,24),(25,32),(26,24),(28,88),(29,24),(30,24),(32,248),(33,24),(36,8),(42,48),(48,16),(49,24),(68,8),(74,8),(75,24),(81,24),(83,48),(86,8),(100,8),(108,8),(109,24),(111,32),(121,8),(122,8),(137,8),(139,8),(144,24),(154,16),(161,8),(175,8),(182,16),(187,4)] kiL [25,28,32,42,48,83,111,154,182] [2,3,4,5,9,22,23,25,26,28,29,30,32,33,36,42,48,49,68,74,75,81,83,86,100,108,109,111,121,122,137,139,144,154,161,175,182,187] eqL [0]
set_option maxRecDepth 100000 in
theorem tab_ok:TIok Tryz.prog tab:=by
 refine TI.of_ok (by kernel_rfl) (by kernel_rfl) (by kernel_rfl) (by kernel_rfl) ?_ (by kernel_rfl) ?_ (by kernel_rfl) (by kernel_rfl) ?_
 ·intro p hp
  simp only [zeL,abq,List.not_mem_nil,or_false] at hp
  rcases hp with rfl|rfl|rfl|rfl|rfl|rfl|rfl|rfl|rfl|rfl|rfl|rfl|rfl|rfl|rfl|rfl|rfl|rfl|rfl|rfl|rfl|rfl|rfl|rfl|rfl|rfl|rfl|rfl|rfl|rfl|rfl|rfl|rfl|rfl|rfl|rfl|rfl|rfl<;>kernel_rfl
 ·intro p hp
  simp only [kiL,abq,List.not_mem_nil,or_false] at hp
  rcases hp with rfl|rfl|rfl|rfl|rfl|rfl|rfl|rfl|rfl|rfl|rfl|rfl|rfl|rfl|rfl|rfl|rfl|rfl|rfl|rfl|rfl|rfl|rfl|rfl|rfl<;>kernel_rfl
 ·intro p hp
  simp only [eqL,abq,List.not_mem_nil,or_false] at hp
  rcases hp with rfl|rfl|rfl|rfl<;>exact RX (by kernel_rfl)
def aaI:TI := { tab with soft:=true }
theorem tabS_ok:TIok Tryz.prog aaI:=⟨tab_ok.size,tab_ok.agg,tab_ok.elem,tab_ok.field,tab_ok.zero,tab_ok.bytes,tab_ok.kind,tab_ok.struct,tab_ok.zok,tab_ok.eqs⟩
theorem mixed:Tryz.prog.follows .mixedOrders=true:=by kernel_rfl
end Go.Proofs.YtfpbmfalamappaaGreatDoor
