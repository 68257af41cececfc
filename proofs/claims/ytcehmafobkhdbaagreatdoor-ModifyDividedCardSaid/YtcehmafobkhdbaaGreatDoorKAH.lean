/- Parts of the proof, joined. No condition. -/
import Derived.Test.YtcehmafobkhdbaaGreatDoorKAG
import Derived.Laws.StructEq
import Derived.Test.YtcehmafobkhdbaaGreatDoorProg
set_option linter.unusedSimpArgs false
set_option linter.unusedVariables false
namespace Go.Proofs.YtcehmafobkhdbaaGreatDoor
open Go.RowKit Go.MapKept
theorem TIok.flags {P:Program} {ti:TI} (h:TIok P ti) (d s:Bool):TIok P { ti with dyn:=d,soft:=s } := ⟨h.size,h.agg,h.elem,h.field,h.zero,h.bytes,h.kind,h.struct,h.zok,h.eqs⟩
structure Cx where
 P:Program
 ti:TI
 xs:SN
 row:FuncId->Nat->Bool
 frz:FuncId->Nat->List Nat
 flg:FuncId->Nat->Bool × Bool
 orc:FuncId->List PV->Option CV
 bad:FuncId->Bool
 fz:FuncId->Nat->List Nat:=fun _ _=>[]
def ac_ (n:Nat):Cap->Bool
 | .ptr id _=>Nat.blt id n
 | .c _=>true
def Pk (n:Nat):List Cap->Bool
 | []=>true
 | x::xs=>ac_ n x&&Pk n xs
def adM (n:Nat):SV->Bool
 | .own _ t=>Nat.blt t n
 | .ptr id _=>Nat.blt id n
 | .sl id _ _ _=>Nat.blt id n
 | .ep id _ _ _=>Nat.blt id n
 | .mp id=>Nat.blt id n
 | .clo _ caps=>Pk n caps
 | .c _=>true
 | .emp=>true
def Ij (n:Nat):List SV->Bool
 | []=>true
 | x::xs=>adM n x&&Ij n xs
def OD (n:Nat):List (List SV)->Bool
 | []=>true
 | x::xs=>Ij n x&&OD n xs
def abf (n:Nat):AV->Bool
 | .one x=>adM n x
 | .agg xs=>Ij n xs
 | .tup _=>true
 | .tupS xs=>Ij n xs
 | .undef=>true
def KJ (n:Nat):List AV->Bool
 | []=>true
 | x::xs=>abf n x&&KJ n xs
def Vz (n:Nat):List (AC × AV)->Bool
 | []=>true
 | x::xs=>abf n x.2&&Vz n xs
def aeU (n:Nat):Ob->Bool
 | .box cs=>Ij n cs
 | .row _ es _=>OD n es
 | .map kvs=>Vz n kvs
 | .spare _ _=>true
 | .dead=>true
def Nn (n:Nat):List Ob->Bool
 | []=>true
 | x::xs=>aeU n x&&Nn n xs
theorem aaf {n:Nat} {x:Cap} (h:ac_ n x=true):x.below n:=by
 cases x with
 | c _=>trivial
 | ptr id _=>exact ag5 h
theorem MH {n:Nat} : ∀ {xs:List Cap}, Pk n xs=true -> ∀ x∈xs,x.below n
 | [],_,x,hx=>by cases hx
 | y::xs,h,x,hx=>by
  rw [Pk,ahb] at h
  rcases aha.1 hx with rfl|hx
  ·exact aaf h.1
  ·exact MH h.2 x hx
theorem VK {n:Nat} {x:SV} (h:adM n x=true):x.below n:=by
 cases x with
 | c _=>trivial
 | emp=>trivial
 | own _ t=>exact ag5 h
 | ptr id _=>exact ag5 h
 | sl id _ _ _=>exact ag5 h
 | ep id _ _ _=>exact ag5 h
 | mp id=>exact ag5 h
 | clo f caps=>exact MH h
theorem xX {n:Nat} : ∀ {xs:List SV}, Ij n xs=true -> ∀ x∈xs,x.below n
 | [],_,x,hx=>by cases hx
 | y::xs,h,x,hx=>by
  rw [Ij,ahb] at h
  rcases aha.1 hx with rfl|hx
  ·exact VK h.1
  ·exact xX h.2 x hx
theorem MS {n:Nat} : ∀ {xs:List (List SV)}, OD n xs=true -> ∀ e∈xs, ∀ x∈e,x.below n
 | [],_,x,hx=>by cases hx
 | y::xs,h,x,hx=>by
  rw [OD,ahb] at h
  rcases aha.1 hx with rfl|hx
  ·exact xX h.1
  ·exact MS h.2 x hx
theorem p8 {n:Nat} {x:AV} (h:abf n x=true):x.below n:=by
 cases x with
 | one x=>exact VK h
 | agg xs=>exact xX h
 | tup _=>trivial
 | tupS xs=>exact xX h
 | undef=>trivial
theorem yL {n:Nat} : ∀ {xs:List AV}, KJ n xs=true -> ∀ x∈xs,x.below n
 | [],_,x,hx=>by cases hx
 | y::xs,h,x,hx=>by
  rw [KJ,ahb] at h
  rcases aha.1 hx with rfl|hx
  ·exact p8 h.1
  ·exact yL h.2 x hx
theorem Ru {n:Nat} : ∀ {xs:List (AC × AV)}, Vz n xs=true -> ∀ p∈xs,p.2.below n
 | [],_,x,hx=>by cases hx
 | y::xs,h,x,hx=>by
  rw [Vz,ahb] at h
  rcases aha.1 hx with rfl|hx
  ·exact p8 h.1
  ·exact Ru h.2 x hx
theorem abA {n:Nat} {x:Ob} (h:aeU n x=true):x.below n:=by
 cases x with
 | box cs=>exact xX h
 | row _ es _=>exact MS h
 | map kvs=>exact Ru h
 | spare _ _=>trivial
 | dead=>trivial
theorem o8 {n:Nat} : ∀ {xs:List Ob}, Nn n xs=true -> ∀ x∈xs,x.below n
 | [],_,x,hx=>by cases hx
 | y::xs,h,x,hx=>by
  rw [Nn,ahb] at h
  rcases aha.1 hx with rfl|hx
  ·exact abA h.1
  ·exact o8 h.2 x hx
theorem nz {n i:Nat} (h:i<n):nC (List.range n) i=i:=by
 unfold nC
 rw [ahL,List.getElem?_range h];rfl
theorem Cap.ren_range {n:Nat} {x:Cap} (h:x.below n):x.ren (List.range n)=x:=by
 cases x with
 | c _=>rfl
 | ptr id off=>show Cap.ptr (nC _ id) off=_;rw [nz h]
theorem kW {α:Type} {f:α->α} : ∀ {l:List α}, (∀ x∈l,f x=x)->l.map f=l
 | [],_=>rfl
 | x::l,h=>by rw [ag6,h x (ahG ..),kW fun y hy=>h y (ahh _ hy)]
theorem SV.ren_range {n:Nat} {x:SV} (h:x.below n):x.ren (List.range n)=x:=by
 cases x with
 | c _=>rfl
 | emp=>rfl
 | own es t=>show SV.own es (nC _ t)=_;rw [nz h]
 | ptr id off=>show SV.ptr (nC _ id) off=_;rw [nz h]
 | sl id v l m=>show SV.sl (nC _ id) v l m=_;rw [nz h]
 | ep id v i o=>show SV.ep (nC _ id) v i o=_;rw [nz h]
 | mp id=>show SV.mp (nC _ id)=_;rw [nz h]
 | clo f caps=>show SV.clo f (caps.map _)=_;rw [kW fun x hx=>Cap.ren_range (h x hx)]
theorem AV.ren_range {n:Nat} {x:AV} (h:x.below n):x.ren (List.range n)=x:=by
 cases x with
 | one x=>show AV.one (x.ren _)=_;rw [SV.ren_range h]
 | agg xs=>show AV.agg (xs.map _)=_;rw [kW fun x hx=>SV.ren_range (h x hx)]
 | tup _=>rfl
 | tupS xs=>show AV.tupS (xs.map _)=_;rw [kW fun x hx=>SV.ren_range (h x hx)]
 | undef=>rfl
theorem Ob.ren_range {n:Nat} {x:Ob} (h:x.below n):x.ren (List.range n)=x:=by
 cases x with
 | box cs=>show Ob.box (cs.map _)=_;rw [kW fun x hx=>SV.ren_range (h x hx)]
 | row v es k=>show Ob.row v (es.map (List.map _)) k=_;rw [kW fun e he=>kW fun x hx=>SV.ren_range (h e he x hx)]
 | map kvs=>show Ob.map (kvs.map fun p=>(p.1,p.2.ren (List.range n)))=_;rw [kW (f:=fun p:AC × AV=>(p.1,p.2.ren (List.range n))) fun p hp=>by show (p.1,p.2.ren _)=p;rw [AV.ren_range (h p hp)]]
 | spare _ _=>rfl
 | dead=>rfl
theorem Dh {n m:Nat} (h:n<=m):dR (List.range n) n m=List.range m:=by
 unfold dR mE
 rw [List.length_range, <- List.range_add,Nat.add_sub_cancel' h]
theorem Rb {L L1:List Ob} (h:L.length<=L1.length) (hb : ∀ x∈L1,x.below L1.length):joinL (List.range L.length) L L1=L1:=by
 unfold joinL join
 rw [Dh h,kW fun x hx=>Ob.ren_range (hb x hx),List.length_range]
 have:jV L (List.range L.length) L1=L1.take L.length:=by
  apply List.ext_getElem?
  intro i
  by_cases hi:i<L.length
  ·rw [FO _ L L1 i i List.nodup_range (fun k hk=>List.mem_range.1 hk) (List.getElem?_range hi) (by omega),ahn,if_pos hi]
  ·rw [ahH (by rw [gU];omega),ahH (by rw [ahK];omega)]
 rw [this,ahE]
structure qR (P:Program) (g:FuncId) (L:List Ob) (asx:List AV) (L1:List Ob) (r:AV):Prop where
 run:Run P g L asx L1 r
 obb : ∀ x∈L,x.below L.length
 argb : ∀ x∈asx,x.below L.length
 le:L.length<=L1.length
 ob1 : ∀ x∈L1,x.below L1.length
 val:r.below L1.length
theorem qR.fits {P:Program} {g:FuncId} {L:List Ob} {asx:List AV} {L1:List Ob} {r:AV} (h:qR P g L asx L1 r):nX (List.range L.length) L asx L:=by
 refine ⟨List.length_range,List.nodup_range,fun i x hx=>?_,h.obb,h.argb⟩
 have hi:i<L.length:=(agV.1 hx).1
 rw [nz hi,hx,Ob.ren_range (h.obb x (ag1 hx))]
abbrev CP:=FuncId->List PV->Option CV
abbrev CR:=FuncId->List Ob->List AV->Option (List Ob × AV)
def Ip:Op->Option (Operand × List Operand)
 | .call { callee := .value f,args, .. } => some (f,args.toList)
 | _=>none
def Zv (ti:TI) (cp:CP) (cr:CR) (ρ:Operand->Option AV) (L:List Ob) (f:Operand) (args:List Operand):Option (AV × List Ob) :=
 match ρ f with
 | some (.one (.c (.fn g cs)))=>match ti.owns g with
  | false=>match gL ρ args with
   | some ps=>match cp g (ps++cs.map .one) with
    | some r=>some (r.av,L)
    | none=>none
   | none=>none
  | true=>match Vu ti f,YK ρ args with
   | true,some vs=>match cr g L (vs++cs.map fun x => .one (.c x)) with
    | some (L1,r)=>some (r,L1)
    | none=>none
   | _,_=>none
 | some (.one (.clo g caps))=>match Vu ti f,YK ρ args with
  | true,some vs=>match cr g L (vs++caps.map Cap.av) with
   | some (L1,r)=>some (r,L1)
   | none=>none
  | _,_=>none
 | _=>none
def Zc (P:Program) (ti:TI) (xs:SN) (rowB:Bool) (ρ:Operand->Option AV) (L:List Ob) (op:Op):Option (AV × List Ob) :=
 match cK ti op&&(!ti.soft||(Nat.beq (sk op) 0||Nat.beq (sk op) 4)) with
 | true=>R9 P ti xs rowB ρ L op
 | false=>none
def adq (cx:Cx) (ti:TI) (cp:CP) (cr:CR) (rowB:Bool) (ρ:Operand->Option AV) (L:List Ob) (op:Op):Option (AV × List Ob) :=
 match aan ti ρ L op with
 | some v=>some (v,L)
 | none=>match Ip op with
  | some (f,args)=>match Zv ti cp cr ρ L f args with
   | some r=>some r
   | none=>Zc cx.P ti cx.xs rowB ρ L op
  | none=>match (match rowB with|true=>none|false=>ab_ ti ρ op) with
   | some v=>some (v,L)
   | none=>match rowB with
    | true=>match Zc cx.P ti cx.xs rowB ρ L op with
     | some r=>some r
     | none=>match ab_ ti ρ op with
      | some v=>some (v,L)
      | none=>acK ti ρ L op
    | false=>match acK ti ρ L op with
     | some r=>some r
     | none=>Zc cx.P ti cx.xs rowB ρ L op
theorem TW {P:Program} {ti:TI} {xs:SN} {rowB:Bool} {ρ:Operand->Option AV} {L L':List Ob} {op:Op} {v:AV} (hk:sk op=4) (h:R9 P ti xs rowB ρ L op=some (v,L')):L'=L:=by
 unfold R9 at h
 split at h
 all_goals first|(exfalso;cases hk;done)|skip
 all_goals repeat' (first|(cases h;done)|(cases h;rfl)|(obtain ⟨e,_⟩:=bA h;cases e;rfl)|split at h)
theorem XM {op:Op} {f:Operand} {args:List Operand} (h:Ip op=some (f,args)) : ∃ asx ts,op = .call { callee := .value f,args:=asx,argTypes:=ts } /\ args=asx.toList:=by
 unfold Ip at h
 split at h
 ·cases h;exact ⟨_,_,rfl,rfl⟩
 ·cases h
theorem O_ {P:Program} {ti:TI} {xs:SN} {rowB:Bool} {ρ:Operand->Option AV} {L L':List Ob} {op:Op} {v:AV} {K:AV->List Ob->Prop} (hti:TIok P ti) (hne:ET P xs) (h:Zc P ti xs rowB ρ L op=some (v,L')) (hK:K v L'):nM P ti ρ L K op:=by
 unfold Zc at h
 split at h
 ·rename_i h1
  rw [ahb] at h1
  refine .inr (.inr (.inr (.inr (.inr (.inr (.inr ⟨v,L',⟨h1.1,fun hs=>?_⟩,ZW hti hne h,hK⟩))))))
  have h2:=h1.2
  rw [hs,Bool.not_true,Bool.false_or,Bool.or_eq_true] at h2
  rcases h2 with h2|h2
  ·exact .inl (Nat.eq_of_beq_eq_true h2)
  ·exact .inr ⟨Nat.eq_of_beq_eq_true h2,TW (Nat.eq_of_beq_eq_true h2) h⟩
 ·cases h
theorem NA {P:Program} {ti:TI} {ρ:Operand->Option AV} {L L1:List Ob} {op:Op} {g:FuncId} {asx:List AV} {r:AV} {K:AV->List Ob->Prop} (hp:fJ ti ρ op=some (g,asx)) (h:qR P g L asx L1 r) (hK:K r L1):nM P ti ρ L K op:=by
 refine .inr (.inr (.inr (.inr (.inr (.inr (.inl ⟨List.range L.length,g,L,asx,L1,r,?_,h.fits,h.run,?_⟩))))))
 ·rw [hp,kW fun x hx=>AV.ren_range (h.argb x hx)]
 ·rw [Dh h.le,AV.ren_range h.val,Rb h.le h.ob1];exact hK
theorem abY {cx:Cx} {ti:TI} {cp:CP} {cr:CR} {rowB:Bool} {ρ:Operand->Option AV} {L L':List Ob} {op:Op} {v:AV} {K:AV->List Ob->Prop} (hti:TIok cx.P ti) (hne:ET cx.P cx.xs)
  (hcp : ∀ g ps r,cp g ps=some r->Pure cx.P g ps r) (hcr : ∀ g L asx L1 r,cr g L asx=some (L1,r)->qR cx.P g L asx L1 r)
  (h:adq cx ti cp cr rowB ρ L op=some (v,L')) (hK:K v L'):nM cx.P ti ρ L K op:=by
 unfold adq at h
 split at h
 ·rename_i v' h1
  cases h
  obtain ⟨φ,h2,h3⟩:=aa4 h1
  exact .inl ⟨_,φ,h2,h3,hK⟩
 ·split at h
  ·rename_i f args hc
   obtain ⟨asx,ts,rfl,rfl⟩:=XM hc
   split at h
   ·rename_i r h1
    cases h
    unfold Zv at h1
    split at h1
    ·rename_i g cs hf
     split at h1
     ·split at h1
      ·rename_i ps hps
       split at h1
       ·rename_i r hr
        cases h1
        exact .inr (.inr (.inr (.inl ⟨g,_,r,by simp only [xA,hf,hps,Option.map_some],hcp _ _ _ hr,hK⟩)))
       ·cases h1
      ·cases h1
     ·split at h1
      ·rename_i vs hR hvs
       split at h1
       ·rename_i L1 r hr
        cases h1
        exact NA (by simp only [fJ,hf,hvs,hR]) (hcr _ _ _ _ _ hr) hK
       ·cases h1
      ·cases h1
    ·rename_i g caps hf
     split at h1
     ·rename_i vs hR hvs
      split at h1
      ·rename_i L1 r hr
       cases h1
       exact NA (by simp only [fJ,hf,hvs,hR]) (hcr _ _ _ _ _ hr) hK
      ·cases h1
     ·cases h1
    ·cases h1
   ·exact O_ hti hne h hK
  ·split at h
   ·rename_i v' h1
    cases h
    cases rowB with
    | true=>cases h1
    | false =>
     obtain ⟨φ,h2,h3⟩:=U4 h1
     exact .inr (.inl ⟨_,φ,h2,h3,hK⟩)
   ·split at h
    ·split at h
     ·rename_i r h1
      cases h
      exact O_ hti hne h1 hK
     ·split at h
      ·rename_i v' h1
       cases h
       obtain ⟨φ,h2,h3⟩:=U4 h1
       exact .inr (.inl ⟨_,φ,h2,h3,hK⟩)
      ·obtain ⟨φ,h2,h3⟩:=V_ h
       exact .inr (.inr (.inl ⟨_,_,φ,h2,h3,hK⟩))
    ·split at h
     ·rename_i r h1
      cases h
      obtain ⟨φ,h2,h3⟩:=V_ h1
      exact .inr (.inr (.inl ⟨_,_,φ,h2,h3,hK⟩))
     ·exact O_ hti hne h hK
def rowOf (cx:Cx) (f:FuncId):Option Tmp->Bool
 | some d=>cx.row f d
 | none=>false
def ae6 (N:Nat):Option Tmp->Bool
 | some d=>Nat.blt d N
 | none=>true
theorem Vj {N:Nat} {d:Option Tmp} (h:ae6 N d=true):dOK N d:=by
 cases d with
 | none=>trivial
 | some d=>exact ag5 h
def QY (cx:Cx) (ti:TI) (cp:CP) (cr:CR) (f:FuncId) (N:Nat) (ds:List (Option Tmp)):List Oper->Tm->List Ob->Option (Tm × List Ob)
 | [],T,L=>some (T,L)
 | o::rest,T,L=>match ae6 N o.dst,kJ ds T o.guard with
  | true,some true=>match adq cx ti cp cr (rowOf cx f o.dst) (look T) L o.op with
   | some (v,L')=>QY cx ti cp cr f N ds rest (Et T o.dst v) L'
   | none=>none
  | true,some false=>QY cx ti cp cr f N ds rest (Et T o.dst .undef) L
  | _,_=>none
theorem Ev {cx:Cx} {ti:TI} {cp:CP} {cr:CR} {f:FuncId} {N:Nat} {ds:List (Option Tmp)} (hti:TIok cx.P ti) (hne:ET cx.P cx.xs)
  (hcp : ∀ g ps r,cp g ps=some r->Pure cx.P g ps r) (hcr : ∀ g L asx L1 r,cr g L asx=some (L1,r)->qR cx.P g L asx L1 r) {K:Tm->List Ob->Prop} :
  ∀ {l:List Oper} {T T':Tm} {L L':List Ob}, QY cx ti cp cr f N ds l T L=some (T',L')->K T' L'->aQ cx.P ti N ds K l T L
 | [],T,T',L,L',h,hK=>by cases h;exact hK
 | o::rest,T,T',L,L',h,hK=>by
  unfold QY at h
  split at h
  ·rename_i hd hg
   split at h
   ·rename_i v L1 h1
    exact ⟨Vj hd,iJ hg (abY hti hne hcp hcr h1 (Ev hti hne hcp hcr h hK))⟩
   ·cases h
  ·rename_i hd hg
   exact ⟨Vj hd,JB hg (Ev hti hne hcp hcr h hK)⟩
  ·cases h
def adB:List Cap->List Nat
 | []=>[]
 | .ptr id _::l=>id::adB l
 | .c _::l=>adB l
def aeV:SV->List Nat
 | .ptr id _=>[id]
 | .sl id _ _ _=>[id]
 | .clo _ caps=>adB caps
 | _=>[]
def ac2:List SV->List Nat
 | []=>[]
 | x::l=>aeV x++ac2 l
def ags:AV->List Nat
 | .one x=>aeV x
 | .agg xs=>ac2 xs
 | _=>[]
def VC (T:Tm) (L:List Ob) (id:Nat):Tm × List Ob :=
 match L[id]? with
 | some (.row ver es _)=>match oO es with
  | some cs=>(T.map (fun p=>(p.1,thA id ver cs p.2)),L.set id .dead)
  | none=>(T,L)
 | some (.box cs)=>match ni cs with
  | some ts=>(T.map (fun p=>(p.1,Md id ts p.2)),L.set id .dead)
  | none=>(T,L)
 | _=>(T,L)
def Oo:List Nat->Tm->List Ob->Tm × List Ob
 | [],T,L=>(T,L)
 | id::l,T,L=>match VC T L id with
  | (T',L')=>Oo l T' L'
def afl (T:Tm) (L:List Ob) (t:Nat):Tm × List Ob :=
 match T.lookup t with
 | some v=>Oo (ags v) T L
 | none=>(T,L)
def YT:List Nat->Tm->List Ob->Option (Tm × List Ob)
 | [],T,L=>some (T,L)
 | t::ts,T,L=>match afl T L t with
  | (T',L')=>YT ts T' L'
section
variable {P:Program} {N n0:Nat} {Q:AX->Tm->List Ob->Prop} {c:Code}
theorem aaL {T:Tm} {L:List Ob} {id:Nat} (k:Aw P N n0 c Q (VC T L id).1 (VC T L id).2):Aw P N n0 c Q T L:=by
 unfold VC at k
 split at k
 ·rename_i hL
  split at k
  ·rename_i hn;exact wM _ hL hn k
  ·exact k
 ·rename_i hL
  split at k
  ·rename_i hn;exact bI _ hL hn k
  ·exact k
 ·exact k
theorem M_ : ∀ {l:List Nat} {T:Tm} {L:List Ob}, Aw P N n0 c Q (Oo l T L).1 (Oo l T L).2->Aw P N n0 c Q T L
 | [],_,_,k=>k
 | id::l,T,L,k=>aaL (M_ (l:=l) k)
theorem Ov : ∀ {ts:List Nat} {T T':Tm} {L L':List Ob}, YT ts T L=some (T',L')->Aw P N n0 c Q T' L'->Aw P N n0 c Q T L
 | [],_,_,_,_,h,k=>by cases h;exact k
 | t::ts,T,T',L,L',h,k=>by
  unfold YT at h
  have h2:=Ov (ts:=ts) h k
  unfold afl at h2
  split at h2
  ·exact M_ h2
  ·exact h2
end
def clean (N:Nat) (T:Tm):Tm:=(List.range N).filterMap fun t=>(T.lookup t).map fun x=>(t,x)
theorem Mt {N:Nat} {T:Tm} {t:Nat} {x:AV} (h:(clean N T).lookup t=some x):T.lookup t=some x:=by
 have h1:=Bp h
 unfold clean at h1
 rw [List.mem_filterMap] at h1
 obtain ⟨i,_,h2⟩:=h1
 obtain ⟨y,h3,h4⟩:=map_some h2
 cases h4
 exact h3
def Sl (body:Tm->List Ob->Option (AX × Tm × List Ob)) (N:Nat):Nat->Tm->List Ob->Option (AX × Tm × List Ob)
 | 0,_,_=>none
 | n+1,T,L=>match body (clean N T) L with
  | some (.normal,T',L')=>Sl body N n T' L'
  | r=>r
def adR (cx:Cx) (f:FuncId) (id:Nat):Bool->TI
 | false => { cx.ti with dyn:=true,soft:=false }
 | true => { cx.ti with dyn:=(cx.flg f id).1,soft:=(cx.flg f id).2 }
def Sz (cx:Cx) (cp:CP) (cr:CR) (f:FuncId) (N:Nat) (rs:List Nat):Code->Tm->List Ob->Option (AX × Tm × List Ob)
 | .skip,T,L=>some (.normal,T,L)
 | .label _,T,L=>some (.normal,T,L)
 | .ret,T,L=>match YT rs T L with
  | some (T',L')=>some (.ret,T',L')
  | none=>none
 | .exit id,T,L=>some (.exit id,T,L)
 | .seq x y,T,L=>match Sz cx cp cr f N rs x T L with
  | some (.normal,T',L')=>Sz cx cp cr f N rs y T' L'
  | r=>r
 | .cond c x y,T,L=>match look T c with
  | some (.one (.c (.bool b)))=>match b with
   | true=>Sz cx cp cr f N rs x T L
   | false=>Sz cx cp cr f N rs y T L
  | _=>none
 | .block id c,T,L=>match Sz cx cp cr f N rs c T L with
  | some (.exit j,T',L')=>match decide (j=id) with
   | true=>some (.normal,T',L')
   | false=>some (.exit j,T',L')
  | r=>r
 | .region id ops d,T,L=>match YT (cx.frz f id) T L with
  | some (T1,L1)=>match fzB (cx.fz f id) T1 with
   | true=>match QY cx (adR cx f id d) cp cr f N (ops.toList.map (·.dst)) ops.toList T1 L1 with
    | some (T2,L2)=>some (.normal,T2,L2)
    | none=>none
   | false=>none
  | none=>none
 | .loop c,T,L=>Sl (Sz cx cp cr f N rs c) N 1048576 T L
 | _,_,_=>none
def pJ (cx:Cx) (f:FuncId):Code->Bool
 | .seq x y=>pJ cx f x&&pJ cx f y
 | .cond _ x y=>pJ cx f x&&pJ cx f y
 | .block _ c=>pJ cx f c
 | .loop c=>pJ cx f c
 | .region id ops true=>Ef (cx.fz f id) (adR cx f id true) ops.toList
 | _=>true
structure I1 (cx:Cx):Prop where
 ti:TIok cx.P cx.ti
 ne:ET cx.P cx.xs
 mix:cx.P.follows .mixedOrders=true
 name : ∀ (f : FuncId) fn, cx.P.funcs[f]? = some fn -> (fn.name == "runtime.NumGoroutine") = false
 code : ∀ (f:FuncId) fn c,cx.P.funcs[f]?=some fn->fn.body=some c->cx.bad f=false->pJ cx f c=true
 orc : ∀ g ps r,cx.orc g ps=some r->Pure cx.P g ps r
def Cw (cx:Cx):List Func->Nat->Bool
 | [],_=>true
 | fn::fs,i=>(match fn.body with
  | some c=>cx.bad i||pJ cx i c
  | none=>true)&&Cw cx fs (i+1)
theorem Mf {cx:Cx} : ∀ {fs:List Func} {i:Nat}, Cw cx fs i=true -> ∀ (j:Nat) fn c,fs[j]?=some fn->fn.body=some c->cx.bad (i+j)=false->pJ cx (i+j) c=true
 | [],i,h,j,fn,c,hj,_,_=>by simp at hj
 | f0::fs,i,h,0,fn,c,hj,hb,hbad=>by
  rw [Cw,ahb] at h
  simp at hj;subst hj
  have h1:=h.1
  rw [hb] at h1
  rw [Nat.add_zero] at hbad ⊢
  simp only [hbad,Bool.false_or] at h1
  exact h1
 | f0::fs,i,h,j+1,fn,c,hj,hb,hbad=>by
  rw [Cw,ahb] at h
  have:=Mf h.2 j fn c (by simpa using hj) hb (by rwa [show i+1+j=i+(j+1) by omega])
  rwa [show i+1+j=i+(j+1) by omega] at this
def Cr:List Func->Bool
 | []=>true
 | fn :: fs => !(fn.name == "runtime.NumGoroutine") && Cr fs
theorem NB : ∀ {fs : List Func}, Cr fs = true -> ∀ (j : Nat) fn, fs[j]? = some fn -> (fn.name == "runtime.NumGoroutine") = false
 | [],h,j,fn,hj=>by simp at hj
 | f0::fs,h,0,fn,hj=>by
  rw [Cr,ahb] at h
  simp at hj;subst hj
  simpa using h.1
 | f0::fs,h,j+1,fn,hj=>by
  rw [Cr,ahb] at h
  exact NB h.2 j fn (by simpa using hj)
theorem I1.of {cx:Cx} (ti:TIok cx.P cx.ti) (ne:ET cx.P cx.xs) (mix:cx.P.follows .mixedOrders=true) (name:Cr cx.P.funcs.toList=true) (code:Cw cx cx.P.funcs.toList 0=true) (orc : ∀ g ps r,cx.orc g ps=some r->Pure cx.P g ps r):I1 cx :=
 ⟨ti,ne,mix,fun f fn h=>NB name f fn (by simpa using h),fun f fn c h hb hbad=>by have:=Mf code f fn c (by simpa using h) hb (by rwa [ahB]);rwa [ahB] at this,orc⟩
theorem G9 {cx:Cx} (h:I1 cx) (f:FuncId) (id:Nat) (d:Bool):TIok cx.P (adR cx f id d):=by
 cases d
 ·exact h.ti.flags _ _
 ·exact h.ti.flags _ _
section
variable {cx:Cx} {cp:CP} {cr:CR} {f:FuncId} {N n0:Nat} {rs:List Nat}
def AtE (x:AX) (T':Tm) (L':List Ob):AX->Tm->List Ob->Prop:=fun y S M=>y=x/\S=T'/\M=L'
theorem YY {c:Code} {body:Tm->List Ob->Option (AX × Tm × List Ob)} (hb : ∀ T L x T' L',body T L=some (x,T',L')->Aw cx.P N n0 c (AtE x T' L') T L) :
  ∀ {n:Nat} {T:Tm} {L:List Ob} {x:AX} {T':Tm} {L':List Ob}, Sl body N n T L=some (x,T',L')->Aw cx.P N n0 (.loop c) (AtE x T' L') T L:=by
 intro n0' T L x T' L' h
 intro hn B R0 γ0 w0 a0 hi hT
 have key : ∀ n T L0 R γ a w,n0<=L0.length->Sl body N n T L0=some (x,T',L')->Inv B R γ L0 w->lW N R γ L0 T a->Ext B R0 R w0 w->Er n0 R0 R γ0 γ L L0->Code.rounds cx.P c (Fh N n0 B (AtE x T' L') R0 w0 γ0 L) n a w:=by
  intro n
  induction n with
  | zero=>intro T L0 R γ a w _ hl;cases hl
  | succ n ih =>
   intro T L0 R γ a w hlo hl hI ht he hmv
   rw [rounds_succ]
   unfold Sl at hl
   have htc:lW N R γ L0 (clean N T) a:=⟨ht.size,ht.defers,fun t x hx=>ht.slot t x (Mt hx)⟩
   split at hl
   ·rename_i T1 L1 hb1
    refine wp_mono (hb _ _ _ _ _ hb1 hlo B R γ w a hI htc) ?_
    rintro e a1 w1 ⟨y,T2,L2,R1,γ2,rfl,⟨rfl,rfl,rfl⟩,j1,k1,e1,m1⟩
    exact ih _ _ R1 _ a1 w1 m1.lo' hl j1 k1 (he.trans e1) (hmv.trans hi.len m1)
   ·rename_i hne
    refine wp_mono (hb _ _ _ _ _ hl hlo B R γ w a hI htc) ?_
    rintro e a1 w1 ⟨y,T2,L2,R1,γ2,rfl,⟨rfl,rfl,rfl⟩,j1,k1,e1,m1⟩
    cases y with
    | normal=>exact absurd hl (hne _ _)
    | exit id=>exact ⟨.exit id,_,_,R1,γ2,rfl,⟨rfl,rfl,rfl⟩,j1,k1,he.trans e1,hmv.trans hi.len m1⟩
    | ret=>exact ⟨.ret,_,_,R1,γ2,rfl,⟨rfl,rfl,rfl⟩,j1,k1,he.trans e1,hmv.trans hi.len m1⟩
 exact wp_loop_rounds n0' (key n0' T L R0 γ0 a0 w0 hn h hi hT (Ext.refl _ _ _) (Er.of hn Mv.refl))
theorem SC (hx:I1 cx) (hcp : ∀ g ps r,cp g ps=some r->Pure cx.P g ps r) (hcr : ∀ g L asx L1 r,cr g L asx=some (L1,r)->qR cx.P g L asx L1 r) :
  ∀ {c:Code} {T:Tm} {L:List Ob} {x:AX} {T':Tm} {L':List Ob}, pJ cx f c=true->Sz cx cp cr f N rs c T L=some (x,T',L')->Aw cx.P N n0 c (AtE x T' L') T L:=by
 intro c
 induction c with
 | skip=>intro T L x T' L' _ h;cases h;exact aw_skip ⟨rfl,rfl,rfl⟩
 | label l=>intro T L x T' L' _ h;cases h;exact Zt ⟨rfl,rfl,rfl⟩
 | ret =>
  intro T L x T' L' _ h
  unfold Sz at h
  split at h
  ·rename_i h1
   cases h
   exact Ov h1 (aw_ret ⟨rfl,rfl,rfl⟩)
  ·cases h
 | exit id=>intro T L x T' L' _ h;cases h;exact aw_exit ⟨rfl,rfl,rfl⟩
 | seq a b iha ihb =>
  intro T L x T' L' hc h
  rw [pJ,ahb] at hc
  unfold Sz at h
  refine aw_seq ?_
  split at h
  ·rename_i T1 L1 h1
   refine Aw.mono (iha hc.1 h1) ?_
   rintro y S M ⟨rfl,rfl,rfl⟩
   exact ihb hc.2 h
  ·rename_i hne
   refine Aw.mono (iha hc.1 h) ?_
   rintro y S M ⟨rfl,rfl,rfl⟩
   cases y with
   | normal=>exact absurd h (hne _ _)
   | exit id=>exact ⟨rfl,rfl,rfl⟩
   | ret=>exact ⟨rfl,rfl,rfl⟩
 | cond c a b iha ihb =>
  intro T L x T' L' hc h
  rw [pJ,ahb] at hc
  unfold Sz at h
  split at h
  ·rename_i b' hl
   refine aU hl (fun e=>?_) (fun e=>?_)
   ·subst e;exact iha hc.1 h
   ·subst e;exact ihb hc.2 h
  ·cases h
 | block id c ih =>
  intro T L x T' L' hc h
  unfold Sz at h
  refine aw_block ?_
  split at h
  ·rename_i j T1 L1 h1
   refine Aw.mono (ih hc h1) ?_
   rintro y S M ⟨rfl,rfl,rfl⟩
   show if j=id then _ else _
   split at h
   ·rename_i e;rw [if_pos (ahm e)];cases h;exact ⟨rfl,rfl,rfl⟩
   ·rename_i e;rw [if_neg (of_decide_eq_false e)];cases h;exact ⟨rfl,rfl,rfl⟩
  ·rename_i hne
   refine Aw.mono (ih hc h) ?_
   rintro y S M ⟨rfl,rfl,rfl⟩
   cases y with
   | normal=>exact ⟨rfl,rfl,rfl⟩
   | exit id=>exact absurd h (hne _ _ _)
   | ret=>exact ⟨rfl,rfl,rfl⟩
 | region id ops d =>
  intro T L x T' L' hc h
  unfold Sz at h
  split at h
  ·rename_i T1 L1 h1
   refine Ov h1 ?_
   split at h
   ·rename_i hz
    split at h
    ·rename_i T2 L2 h2
     cases h
     have hr:ops=ops.toList.toArray:=rfl
     rw [hr]
     cases d with
     | false=>exact aw_region (G9 hx f id false) _ rfl (Ev (G9 hx f id false) hx.ne hcp hcr h2 ⟨rfl,rfl,rfl⟩)
     | true=>exact uR _ (G9 hx f id true) _ rfl hx.mix hc hz (Ev (G9 hx f id true) hx.ne hcp hcr h2 ⟨rfl,rfl,rfl⟩)
    ·cases h
   ·cases h
  ·cases h
 | loop c ih =>
  intro T L x T' L' hc h
  unfold Sz at h
  exact YY (fun T L x T' L' hb=>ih hc hb) h
 | _=>intro T L x T' L' _ h;unfold Sz at h;cases h
end
def N8 (ti:TI) (T:Tm) (L:List Ob):ResultVar->Option PV
 | .tmp t=>(T.lookup t).bind AV.norm
 | .cell a t=>match T.lookup a with
  | some (.one (.ptr id off))=>match U8 ti L t (.one (.ptr id off)) with
   | some v=>v.norm
   | none=>none
  | _=>none
def Eh (ti:TI) (T:Tm) (L:List Ob):List ResultVar->Option (List PV)
 | []=>some []
 | r::rs=>match N8 ti T L r,Eh ti T L rs with
  | some p,some ps=>some (p::ps)
  | _,_=>none
theorem Tg {ti:TI} {T:Tm} {L:List Ob} {r:ResultVar} {p:PV} (h:N8 ti T L r=some p):Lu (FL ti T L r) p:=by
 unfold N8 at h
 split at h
 ·rename_i t
  exact ⟨True,by show (Option.map _ _)=_;rw [h];rfl,trivial⟩
 ·unfold FL
  dsimp only
  split at h
  ·rename_i h1
   rw [h1]
   dsimp only
   split at h
   ·rename_i v h2
    obtain ⟨φ,h3,h4⟩:=Qd h2
    rw [h3]
    exact ⟨φ,by dsimp only;rw [h];rfl,h4⟩
   ·cases h
  ·cases h
theorem BH {ti:TI} {T:Tm} {L:List Ob} : ∀ {rs:List ResultVar} {ps:List PV}, Eh ti T L rs=some ps->Lu (yb ti T L rs) ps
 | [],ps,h=>by cases h;exact ⟨_,rfl,trivial⟩
 | r::rs,ps,h=>by
  unfold Eh at h
  split at h
  ·rename_i h1 h2
   cases h
   obtain ⟨φ,h3,h4⟩:=Tg h1
   obtain ⟨ψ,h5,h6⟩:=BH h2
   exact ⟨φ/\ψ,by unfold yb;rw [h3,h5],h4,h6⟩
  ·cases h
def JP:List ResultVar->List Nat
 | []=>[]
 | .tmp t::rs=>t::JP rs
 | .cell _ _::rs=>JP rs
def Y_:AX->Bool
 | .exit _=>false
 | _=>true
theorem J3 {x:AX} (h:Y_ x=true):x = .normal\/x = .ret:=by
 cases x with
 | normal=>exact .inl rfl
 | ret=>exact .inr rfl
 | exit _=>cases h
def Y9 (cx:Cx) (cp:CP) (cr:CR):CP:=fun g ps =>
 match cx.orc g ps with
 | some r=>some r
 | none=>match cx.P.funcs[g]? with
  | some fn=>match fn.body,cx.bad g,Nat.ble ps.length fn.ntmps with
   | some c,false,true=>match Sz cx cp cr g fn.ntmps (JP fn.results.toList) c (argT 0 ps) [] with
    | some (x,T,L)=>match Y_ x,Eh cx.ti T L fn.results.toList with
     | true,some rs=>some (Y7 rs)
     | _,_=>none
    | none=>none
   | _,_,_=>none
  | none=>none
def Px (T:Tm):List ResultVar->Option AV
 | [.tmp s, .tmp t]=>match T.lookup s,T.lookup t with
  | some (.one x),some (.one y)=>some (.tupS [x,y])
  | _,_=>none
 | _=>none
theorem Us {T:Tm} {rs:List ResultVar} {r:AV} (h:Px T rs=some r):zY rs T r:=by
 unfold Px at h
 split at h
 ·split at h
  ·rename_i h1 h2
   cases h
   exact ⟨_,_,_,_,rfl,h1,h2,rfl⟩
  ·cases h
 ·cases h
def O4 (ti:TI) (T:Tm) (L:List Ob):List ResultVar->Option AV
 | [.tmp t]=>T.lookup t
 | rs=>match Eh ti T L rs with
  | some ps=>some (Y7 ps).av
  | none=>none
theorem TF {ti:TI} {T:Tm} {L:List Ob} {rs:List ResultVar} {r:AV} (h:O4 ti T L rs=some r):Fx ti rs T L r:=by
 unfold O4 at h
 split at h
 ·exact .inl ⟨_,rfl,h⟩
 ·split at h
  ·rename_i ps h1
   cases h
   obtain ⟨φ,h2,h3⟩:=BH h1
   exact .inr ⟨Y7 ps,bZ h2 h3 rfl,rfl⟩
  ·cases h
def UJ (ti:TI) (T:Tm) (L:List Ob) (rs:List ResultVar):Option AV :=
 match Px T rs with
 | some r=>some r
 | none=>O4 ti T L rs
theorem Yt {ti:TI} {T:Tm} {L:List Ob} {rs:List ResultVar} {r:AV} (h:UJ ti T L rs=some r):Fx ti rs T L r\/zY rs T r:=by
 unfold UJ at h
 split at h
 ·rename_i h1
  cases h
  exact .inr (Us h1)
 ·exact .inl (TF h)
def adb (cx:Cx) (cp:CP) (cr:CR):CR:=fun g L asx =>
 match cx.P.funcs[g]? with
 | some fn=>match fn.body,cx.bad g,Nat.ble asx.length fn.ntmps,(Nn L.length L&&KJ L.length asx) with
  | some c,false,true,true=>match Sz cx cp cr g fn.ntmps [] c (kP 0 asx) L with
   | some (x,T,L1)=>match Y_ x,UJ cx.ti T L1 fn.results.toList,Nat.ble L.length L1.length with
    | true,some r,true=>match abf L.length r&&Nn L.length (L1.take L.length) with
     | true=>some (L1.take L.length,r)
     | false=>match abf L1.length r&&Nn L1.length L1 with
      | true=>some (L1,r)
      | false=>none
    | _,_,_=>none
   | none=>none
  | _,_,_,_=>none
 | none=>none
theorem aar {cx:Cx} {cp:CP} {cr:CR} (hx:I1 cx) (hcp : ∀ g ps r,cp g ps=some r->Pure cx.P g ps r) (hcr : ∀ g L asx L1 r,cr g L asx=some (L1,r)->qR cx.P g L asx L1 r)
  {g:FuncId} {ps:List PV} {r:CV} (h:Y9 cx cp cr g ps=some r):Pure cx.P g ps r:=by
 unfold Y9 at h
 split at h
 ·rename_i r' h1
  cases h
  exact hx.orc _ _ _ h1
 ·split at h
  ·rename_i fn hf
   split at h
   ·rename_i c hb hbad hle
    split at h
    ·rename_i x T L he
     split at h
     ·rename_i rs hend hres
      cases h
      obtain ⟨φ,h2,h3⟩:=BH hres
      refine pa_ hx.ti hf hb (hx.name _ _ hf) rfl (ag5 hle) ?_
      refine Aw.mono (SC hx hcp hcr (hx.code _ _ _ hf hb hbad) he) ?_
      rintro y S M ⟨rfl,rfl,rfl⟩
      exact ⟨J3 hend,bZ h2 h3 rfl⟩
     ·cases h
    ·cases h
   ·cases h
  ·cases h
theorem acw {cx:Cx} {cp:CP} {cr:CR} (hx:I1 cx) (hcp : ∀ g ps r,cp g ps=some r->Pure cx.P g ps r) (hcr : ∀ g L asx L1 r,cr g L asx=some (L1,r)->qR cx.P g L asx L1 r)
  {g:FuncId} {L:List Ob} {asx:List AV} {L1:List Ob} {r:AV} (h:adb cx cp cr g L asx=some (L1,r)):qR cx.P g L asx L1 r:=by
 unfold adb at h
 split at h
 ·rename_i fn hf
  split at h
  ·rename_i c hb hbad hle hbel
   rw [ahb] at hbel
   split at h
   ·rename_i x T L2 he
    split at h
    ·rename_i r' hend hval hlen
     have hlen:=ag5 hlen
     have main : ∀ m,L.length<=m->m<=L2.length->(∀ x∈L2.take m,x.below m)->r'.below m->qR cx.P g L asx (L2.take m) r':=by
      intro m hm1 hm2 hob hr
      have hl:(L2.take m).length=m:=by rw [ahK];omega
      refine ⟨?_,o8 hbel.1,yL hbel.2,by omega,by rw [hl];exact hob,by rw [hl];exact hr⟩
      rcases Yt hval with hv|hv
      ·refine bN hx.ti hf hb (hx.name _ _ hf) rfl (ag5 hle) ?_
       refine Aw.mono (SC hx hcp hcr (hx.code _ _ _ hf hb hbad) he) ?_
       rintro y S M ⟨rfl,rfl,rfl⟩
       exact ⟨J3 hend,⟨hv,⟨_,(ahE m _).symm⟩,by rw [hl];exact hm1,by rw [hl];exact hob,by rw [hl];exact hr⟩⟩
      ·refine Ik hx.ti hf hb (hx.name _ _ hf) rfl (ag5 hle) ?_
       refine Aw.mono (SC hx hcp hcr (hx.code _ _ _ hf hb hbad) he) ?_
       rintro y S M ⟨rfl,rfl,rfl⟩
       exact ⟨J3 hend,⟨hv,⟨_,(ahE m _).symm⟩,by rw [hl];exact hm1,by rw [hl];exact hob,by rw [hl];exact hr⟩⟩
     split at h
     ·rename_i hc
      rw [ahb] at hc
      cases h
      exact main _ (ag' _) hlen (o8 hc.2) (p8 hc.1)
     ·split at h
      ·rename_i hc
       rw [ahb] at hc
       cases h
       have:=main _ hlen (ag' _) (by rw [List.take_length];exact o8 hc.2) (p8 hc.1)
       rw [List.take_length] at this
       exact this
      ·cases h
    ·cases h
   ·cases h
  ·cases h
 ·cases h
def evF (cx:Cx):Nat->CP × CR
 | 0=>(fun _ _=>none,fun _ _ _=>none)
 | n+1=>(Y9 cx (evF cx n).1 (evF cx n).2,adb cx (evF cx n).1 (evF cx n).2)
theorem Ci {cx:Cx} (hx:I1 cx) : ∀ n,(∀ g ps r,(evF cx n).1 g ps=some r->Pure cx.P g ps r)/\(∀ g L asx L1 r,(evF cx n).2 g L asx=some (L1,r)->qR cx.P g L asx L1 r)
 | 0=>⟨fun g ps r h=>(by cases h),fun g L asx L1 r h=>(by cases h)⟩
 | n+1=>⟨fun g ps r h=>aar hx (Ci hx n).1 (Ci hx n).2 h,fun g L asx L1 r h=>acw hx (Ci hx n).1 (Ci hx n).2 h⟩
theorem qp {P:Program} {w:World} {t:TypeId} {d:TypeDesc} (ht:P.underlying t=some d) (hd:(match d with | .struct _=>true | .array _ _=>true|_=>false)=false) {xs:Array Value} {i:Nat} {v:Value} (hx:xs[i]?=some v):(part t xs i).run P w = .ok v w:=by
 cases d<;>first|(cases hd;done)|simp [part,isAgg,run_underlying ht,hx]
def aec:TypeDesc->Option Sc
 | .int k=>some (.int k)
 | .bool=>some .bool
 | .string=>some .str
 | _=>none
def adO (s:Sc):Option TypeDesc->Bool
 | some d=>match aec d with
  | some s'=>decide (s'=s)
  | none=>false
 | none=>false
def abk (d:Option TypeDesc):Sc->Prop
 | .int k=>d=some (.int k)
 | .bool=>d=some .bool
 | .str=>d=some .string
theorem abE {s:Sc} {d:Option TypeDesc} (h:adO s d=true):abk d s:=by
 unfold adO at h
 cases d with
 | none=>cases h
 | some d =>
  dsimp only at h
  cases hs:aec d with
  | none=>rw [hs] at h;cases h
  | some s' =>
   rw [hs] at h
   obtain rfl:s'=s:=ahm h
   unfold aec at hs
   split at hs<;>first|(cases hs;rfl)|(cases hs;done)
def U3 (P:Program):List Field->List Sc->Nat->Bool
 | [],[],_=>true
 | f :: fs, s :: sh, i => (!(f.name == "_")) && (Nat.beq f.offset i && (adO s (P.underlying f.type) && U3 P fs sh (i + 1)))
 | _,_,_=>false
theorem J8 {x:SV} {xs:List SV} {vs:List Value} (h:jJ (x::xs)=some vs) : ∃ c v r,x = .c c/\LY c=some v/\jJ xs=some r/\vs=v::r:=by
 unfold jJ at h
 split at h
 ·rename_i e;cases e
 ·rename_i y ys e
  cases e
  split at h
  ·rename_i v r h1 h2;cases h;exact ⟨_,v,r,rfl,h1,h2,rfl⟩
  ·cases h
 ·cases h
theorem LZ {P:Program} {w:World} (d:Nat) {A B:Array Value} : ∀ (fs:List Field) (sh:List Sc) (i:Nat) (xs ys:List SV) (vs us:List Value),U3 P fs sh i=true->iE sh xs=true->iE sh ys=true->jJ xs=some vs->jJ ys=some us ->
  (∀ (j:Nat) v,vs[j]?=some v->A[i+j]?=some v)->(∀ (j:Nat) v,us[j]?=some v->B[i+j]?=some v)->(Op.eqFields (d+1) A B fs).run P w = .ok (dL xs ys) w:=by
 intro fs
 induction fs with
 | nil =>
  intro sh i xs ys vs us hf hx hy _ _ _ _
  cases sh with
  | nil =>
   cases xs with
   | nil=>cases ys with
    | nil=>rfl
    | cons _ _=>cases hy
   | cons _ _=>cases hx
  | cons _ _=>cases hf
 | cons f fs ih =>
  intro sh i xs ys vs us hf hx hy hv hu hA hB
  cases sh with
  | nil=>cases hf
  | cons s sh =>
   rw [U3,ahb,ahb,ahb] at hf
   obtain ⟨h1,h2,h3,h4⟩:=hf
   have h2:=Nat.eq_of_beq_eq_true h2
   have h1 : f.name ≠ "_" := by simpa using h1
   have h3:=abE h3
   cases xs with
   | nil=>cases s<;>cases hx
   | cons x xs =>
    cases ys with
    | nil=>cases s<;>cases hy
    | cons y ys =>
     obtain ⟨cx,v,vr,rfl,hv1,hv2,rfl⟩:=J8 hv
     obtain ⟨cy,u,ur,rfl,hu1,hu2,rfl⟩:=J8 hu
     have a0:=hA 0 v rfl
     have b0:=hB 0 u rfl
     rw [Nat.add_zero] at a0 b0
     have rest : ∀ (hx':iE sh xs=true) (hy':iE sh ys=true),(Op.eqFields (d+1) A B fs).run P w = .ok (dL xs ys) w:=fun hx' hy' =>
      ih sh (i+1) xs ys vr ur h4 hx' hy' hv2 hu2 (fun j v hj=>by have:=hA (j+1) v (by simpa using hj);rwa [show i+1+j=i+(j+1) by omega]) (fun j v hj=>by have:=hB (j+1) v (by simpa using hj);rwa [show i+1+j=i+(j+1) by omega])
     cases s with
     | int k =>
      unfold abk at h3
      cases cx<;>first|(cases hx;done)|skip
      cases cy<;>first|(cases hy;done)|skip
      rename_i k1 a k2 b
      simp only [iE,ahb,decide_eq_true_eq] at hx hy
      obtain ⟨rfl,hx'⟩:=hx
      obtain ⟨rfl,hy'⟩:=hy
      cases hv1;cases hu1
      have p1:=qp (P:=P) (w:=w) h3 rfl a0
      have p2:=qp (P:=P) (w:=w) h3 rfl b0
      simp only [Op.eqFields,h1,h2,ne_eq,not_false_eq_true,if_true,Sem.run_bind,p1,p2,Result.andThen_ok,run_equalIn_int (P:=P) w d _ k k a b h3,Sem.run_ite,Sem.run_pure,rest hx' hy']
      cases e:(a==b)
      ·have:a≠b:=by simpa using e
       simp [dL,this]
      ·have:a=b:=by simpa using e
       simp [dL,this]
     | bool =>
      unfold abk at h3
      cases cx<;>first|(cases hx;done)|skip
      cases cy<;>first|(cases hy;done)|skip
      rename_i a b
      simp only [iE] at hx hy
      cases hv1;cases hu1
      have p1:=qp (P:=P) (w:=w) h3 rfl a0
      have p2:=qp (P:=P) (w:=w) h3 rfl b0
      simp only [Op.eqFields,h1,h2,ne_eq,not_false_eq_true,if_true,Sem.run_bind,p1,p2,Result.andThen_ok,run_equalIn_bool (P:=P) w d _ a b h3,Sem.run_ite,Sem.run_pure,rest hx hy]
      cases e:(a==b)<;>simp [dL,e]
     | str =>
      unfold abk at h3
      cases cx<;>first|(cases hx;done)|skip
      cases cy<;>first|(cases hy;done)|skip
      rename_i a b
      simp only [iE] at hx hy
      cases hv1;cases hu1
      have p1:=qp (P:=P) (w:=w) h3 rfl a0
      have p2:=qp (P:=P) (w:=w) h3 rfl b0
      simp only [Op.eqFields,h1,h2,ne_eq,not_false_eq_true,if_true,Sem.run_bind,p1,p2,Result.andThen_ok,run_equalIn_string (P:=P) w d _ a b h3,Sem.run_ite,Sem.run_pure,rest hx hy]
      cases e:(a.toList==b.toList)<;>simp [dL,e]
def UW (P:Program) (t:TypeId) (sh:List Sc):Bool :=
 (match P.underlying t with
 | some (.struct fs)=>U3 P fs.toList sh 0
 | _=>false)&&(!P.stoodInHeld t && !P.eqGuardType P.depth t)
theorem YA {P:Program} {t:TypeId} {sh:List Sc} (h:UW P t sh=true):P.eqGuardType P.depth t=false /\ ∀ xs ys,iE sh xs=true->iE sh ys=true->Ty P t xs ys:=by
 rw [UW,ahb,ahb] at h
 obtain ⟨h1,h2,h3⟩:=h
 refine ⟨by simpa using h3,fun xs ys hx hy vs us hv hu w=>?_⟩
 split at h1
 ·rename_i fs ht
  have hfs:P.fieldsOf t=fs:=by unfold Program.fieldsOf;rw [ht]
  have hm:Op.equal t (.agg vs.toArray) (.agg us.toArray)=Op.equalIn (9999+1) t (.agg vs.toArray) (.agg us.toArray):=rfl
  rw [hm,run_equalIn_struct w 9999 t _ _ (by rw [hfs];exact ht) (by simpa using h2),hfs]
  exact LZ 9998 _ sh 0 xs ys vs us h1 hx hy hv hu (fun j v hj=>by simpa using hj) (fun j v hj=>by simpa using hj)
 ·cases h1
open Go.RowKit
def zeL:List (Nat × AV):=[(2, .one (.c (.int .i64 0))),(3, .one (.c (.int .i64 0))),(4, .one (.c (.bool false))),(5, .one (.c (.int .u8 0))),(9, .one (.c (.str ⟨#[]⟩))),(22, .one (.emp)),(23, .one (.emp)),(25, .agg [.emp, .emp]),(27, .agg [.c (.int .i64 0), .c (.int .i64 0), .c (.str ⟨#[]⟩)]),(28, .one (.emp)),(30, .agg [.c (.int .i64 0), .c (.int .i64 0), .c (.int .i64 0), .c (.int .i64 0), .c (.str ⟨#[]⟩), .c (.str ⟨#[]⟩), .emp]),(31, .one (.emp)),(33, .agg [.c (.int .i64 0), .c (.int .i64 0)]),(35, .agg [.c (.int .i64 0), .c (.int .i64 0), .c (.int .i64 0), .c (.int .i64 0), .c (.str ⟨#[]⟩), .c (.str ⟨#[]⟩), .emp, .emp, .emp, .c (.int .i64 0), .c (.int .i64 0)]),(45, .one (.emp)),(50, .agg [.emp, .c (.int .i64 0), .c (.int .i64 0)]),(58, .one (.c (.int .i64 0))),(69, .one (.c (.nul .func))),(73, .one (.emp)),(75, .one (.c (.nul .func))),(80, .one (.c (.nul .func))),(85, .one (.emp)),(88, .one (.emp)),(90, .agg [.emp, .emp]),(96, .one (.c (.nul .func))),(99, .one (.c (.nul .func))),(100, .agg [.c (.int .i64 0), .c (.int .i64 0), .c (.int .i64 0), .c (.int .i64 0)]),(124, .one (.emp)),(127, .agg [.emp, .emp]),(128, .one (.emp)),(130, .agg [.c (.int .i64 0), .c (.int .i64 0)]),(134, .agg [.c (.int .i64 0), .c (.int .i64 0)]),(138, .one (.c (.nul .func))),(139, .one (.emp)),(141, .agg [.c (.int .i64 0), .c (.int .i64 0), .c (.int .i64 0)]),(150, .one (.emp)),(156, .one (.c (.nul .map))),(159, .one (.c (.nul .func))),(162, .one (.c (.int .u64 0))),(164, .one (.c (.nul .func))),(170, .one (.c (.nul .ptr))),(171, .one (.emp)),(173, .agg [.c (.nul .ptr), .emp]),(184, .one (.c (.int .i64 0))),(191, .one (.c (.int .u32 0))),(193, .one (.c (.int .u64 0))),(197, .agg [.c (.int .i64 0), .c (.bool false)]),(198, .one (.c (.nul .ptr))),(201, .one (.c (.int .u64 0))),(205, .one (.c (.nul .ptr))),(212, .one (.c (.nul .ptr)))]
def kiL:List (Nat × TypeDesc):=[(2, .int .i64),(3, .int .i64),(4, .bool),(5, .int .u8),(9, .string),(22, .slice 3),(23, .slice 50),(28, .slice 30),(31, .slice 45),(45, .slice 27),(58, .int .i64),(73, .slice 33),(85, .slice 90),(88, .slice 134),(100, .array 2 33),(124, .slice 127),(128, .slice 130),(139, .slice 141),(150, .slice 197),(156, .map 9 3),(162, .int .u64),(170, .pointer 173),(171, .slice 5),(184, .int .i64),(191, .int .u32),(193, .int .u64),(198, .pointer 5),(201, .int .u64),(205, .pointer 3),(212, .unsafePointer)]
def eqL:List (Nat × List Sc):=[(27,[.int .i64, .int .i64, .str]),(33,[.int .i64, .int .i64]),(130,[.int .i64, .int .i64]),(134,[.int .i64, .int .i64]),(197,[.int .i64, .bool])]
def tab:TI:=TI.of [(2,1),(3,1),(4,1),(5,1),(9,1),(22,1),(23,1),(25,2),(27,3),(28,1),(30,7),(31,1),(33,2),(35,11),(45,1),(50,3),(58,1),(69,1),(73,1),(75,1),(80,1),(85,1),(88,1),(90,2),(96,1),(99,1),(100,4),(124,1),(127,2),(128,1),(130,2),(134,2),(138,1),(139,1),(141,3),(150,1),(156,1),(159,1),(162,1),(164,1),(170,1),(171,1),(173,2),(184,1),(191,1),(193,1),(197,2),(198,1),(201,1),(205,1),(212,1)] [(2,false),(3,false),(4,false),(5,false),(9,false),(22,false),(23,false),(25,true),(27,true),(28,false),(30,true),(31,false),(33,true),(35,true),(45,false),(50,true),(58,false),(69,false),(73,false),(75,false),(80,false),(85,false),(88,false),(90,true),(96,false),(99,false),(100,true),(124,false),(127,true),(128,false),(130,true),(134,true),(138,false),(139,false),(141,true),(150,false),(156,false),(159,false),(162,false),(164,false),(170,false),(171,false),(173,true),(184,false),(191,false),(193,false),(197,true),(198,false),(201,false),(205,false),(212,false)] [(22,3),(23,50),(28,30),(31,45),(45,27),(73,33),(85,90),(88,134),(124,127),(128,130),(139,141),(150,197),(171,5)] [(25,[(0,22),(1,23)]),(27,[(0,3),(1,3),(2,9)]),(30,[(0,3),(1,3),(2,27),(5,9),(6,28)]),(33,[(0,3),(1,3)]),(35,[(0,30),(7,28),(8,31),(9,33)]),(50,[(0,45),(1,33)]),(90,[(0,45),(1,88)]),(127,[(0,45),(1,73)]),(130,[(0,3),(1,3)]),(134,[(0,3),(1,3)]),(141,[(0,33),(2,3)]),(173,[(0,170),(1,171)]),(197,[(0,3),(1,4)])] zeL [(2,8),(3,8),(4,1),(5,1),(9,16),(22,24),(23,24),(25,48),(27,32),(28,24),(30,88),(31,24),(33,16),(35,152),(45,24),(50,40),(58,8),(69,8),(73,24),(75,8),(80,8),(85,24),(88,24),(90,48),(96,8),(99,8),(100,32),(124,24),(127,48),(128,24),(130,16),(134,16),(138,8),(139,24),(141,24),(150,24),(156,8),(159,8),(162,8),(164,8),(170,8),(171,24),(173,32),(184,8),(191,4),(193,8),(197,16),(198,8),(201,8),(205,8),(212,8)] kiL [25,27,30,33,35,50,90,127,130,134,141,173,197] [2,3,4,5,9,22,23,25,27,28,30,31,33,35,45,50,58,69,73,75,80,85,88,90,96,99,124,127,128,130,134,138,139,141,150,156,159,162,164,170,171,173,184,191,193,197,198,201,205,212] eqL [0]
set_option maxRecDepth 100000 in
theorem tab_ok:TIok Tryz.prog tab:=by
 refine TI.of_ok (by kernel_rfl) (by kernel_rfl) (by kernel_rfl) (by kernel_rfl) ?_ (by kernel_rfl) ?_ (by kernel_rfl) (by kernel_rfl) ?_
 ·intro p hp
  simp only [zeL,aha,List.not_mem_nil,or_false] at hp
  rcases hp with rfl|rfl|rfl|rfl|rfl|rfl|rfl|rfl|rfl|rfl|rfl|rfl|rfl|rfl|rfl|rfl|rfl|rfl|rfl|rfl|rfl|rfl|rfl|rfl|rfl|rfl|rfl|rfl|rfl|rfl|rfl|rfl|rfl|rfl|rfl|rfl|rfl|rfl|rfl|rfl|rfl|rfl|rfl|rfl|rfl|rfl|rfl|rfl|rfl|rfl|rfl<;>kernel_rfl
 ·intro p hp
  simp only [kiL,aha,List.not_mem_nil,or_false] at hp
  rcases hp with rfl|rfl|rfl|rfl|rfl|rfl|rfl|rfl|rfl|rfl|rfl|rfl|rfl|rfl|rfl|rfl|rfl|rfl|rfl|rfl|rfl|rfl|rfl|rfl|rfl|rfl|rfl|rfl|rfl|rfl<;>kernel_rfl
 ·intro p hp
  simp only [eqL,aha,List.not_mem_nil,or_false] at hp
  rcases hp with rfl|rfl|rfl|rfl|rfl<;>exact YA (by kernel_rfl)
def agh:TI := { tab with soft:=true }
theorem tabS_ok:TIok Tryz.prog agh:=⟨tab_ok.size,tab_ok.agg,tab_ok.elem,tab_ok.field,tab_ok.zero,tab_ok.bytes,tab_ok.kind,tab_ok.struct,tab_ok.zok,tab_ok.eqs⟩
theorem mixed:Tryz.prog.follows .mixedOrders=true:=by kernel_rfl
def agK (f:FuncId):Bool:=Nat.beq f 174||Nat.beq f 176||Nat.beq f 177||Nat.beq f 193||Nat.beq f 211||Nat.beq f 218||Nat.beq f 124||Nat.beq f 162||Nat.beq f 154||Nat.beq f 178||Nat.beq f 115||Nat.beq f 160||Nat.beq f 199||Nat.beq f 195||Nat.beq f 196||Nat.beq f 213||Nat.beq f 223||Nat.beq f 157||Nat.beq f 180||Nat.beq f 181||Nat.beq f 182||Nat.beq f 183||Nat.beq f 184||Nat.beq f 185||Nat.beq f 186||Nat.beq f 187||Nat.beq f 197||Nat.beq f 200||Nat.beq f 201||Nat.beq f 190||Nat.beq f 202||Nat.beq f 203||Nat.beq f 204||Nat.beq f 205||Nat.beq f 206||Nat.beq f 207||Nat.beq f 208||Nat.beq f 209||Nat.beq f 215||Nat.beq f 216||Nat.beq f 217||Nat.beq f 40||Nat.beq f 47
def afw (f:FuncId) (d:Nat):Bool:=Nat.beq f 52||Nat.beq f 119||Nat.beq f 153||Nat.beq f 174||Nat.beq f 176||(Nat.beq f 113&&Nat.beq d 41)||(Nat.beq f 113&&Nat.beq d 42)
def afD (f:FuncId) (id:Nat):List Nat :=
 if (Nat.beq f 12&&Nat.beq id 1)=true then [5] else
 if (Nat.beq f 14&&Nat.beq id 1)=true then [4,5] else
 if (Nat.beq f 16&&Nat.beq id 1)=true then [4,5] else
 if (Nat.beq f 18&&Nat.beq id 1)=true then [5,6,7] else
 if (Nat.beq f 49&&Nat.beq id 4)=true then [4] else
 if (Nat.beq f 52&&Nat.beq id 18)=true then [5] else
 if (Nat.beq f 49&&Nat.beq id 5)=true then [6] else
 []
def aeP (f:FuncId) (id:Nat):Bool × Bool :=
 (false,true)
def fzT (f:FuncId) (id:Nat):List Nat :=
 if (Nat.beq f 49&&Nat.beq id 5)=true then [6] else
 []
def ae_ (f:FuncId):Bool:=Nat.beq f 128
def WK:TI := { tab with owns:=agK }
theorem ay:TIok Tryz.prog WK:=⟨tab_ok.size,tab_ok.agg,tab_ok.elem,tab_ok.field,tab_ok.zero,tab_ok.bytes,tab_ok.kind,tab_ok.struct,tab_ok.zok,tab_ok.eqs⟩
def aaa:FuncId->List PV->Option CV:=fun _ _=>none
noncomputable def cx:Cx := { P:=Tryz.prog,ti:=WK,xs:=⟨211,218⟩,row:=afw,frz:=afD,flg:=aeP,orc:=aaa,bad:=ae_,fz:=fzT }
theorem YX:ZN Tryz.prog 211:=⟨_,Tryz.func211,by kernel_rfl,by kernel_rfl,by kernel_rfl,by kernel_rfl⟩
theorem aaG:adu Tryz.prog 218:=⟨_,Tryz.func218,by kernel_rfl,by kernel_rfl,by kernel_rfl,by kernel_rfl⟩
theorem JR:Cr Tryz.prog.funcs.toList=true:=by kernel_rfl
theorem I8:Cw cx Tryz.prog.funcs.toList 0=true:=by kernel_rfl
theorem Vv:I1 cx:=I1.of ay ⟨YX,aaG⟩ mixed JR I8 (fun g ps r h=>by cases h)
structure Val where
 kind:Int
 int:Int
 text:ByteArray
def cV (x:Val):List AC:=[.int .i64 x.kind, .int .i64 x.int, .str x.text]
structure aI where
 lo:Int
 hi:Int
def bE (x:aI):List AC:=[.int .i64 x.lo, .int .i64 x.hi]
structure aj where
 row:(List Val)
 valid:aI
def aJ (x:aj):List AC:=[.lst (x.row.map cV), .int .i64 x.valid.lo, .int .i64 x.valid.hi]
structure dA where
 kinds:(List Int)
 facts:(List aj)
def tL (x:dA):List AC:=[.lst (x.kinds.map (fun x=>[AC.int .i64 x])), .lst (x.facts.map aJ)]
inductive Ex where
 | mk (op:Int) (int:Int) (v:Val) (nm:ByteArray) (args:(List Ex))
mutual
def tE:Ex->List AC
 | .mk op int v nm args=>[.int .i64 op, .int .i64 int, .int .i64 v.kind, .int .i64 v.int, .str v.text, .str nm, .lst (tEs args)]
def tEs:List Ex->List (List AC)
 | []=>[]
 | e::l=>tE e::tEs l
end
theorem VY : ∀ (l:List Ex),tEs l=l.map tE
 | []=>by simp [tEs]
 | e::l=>by simp [tEs,VY l]
def Ex.op:Ex->Int | .mk a _ _ _ _=>a
def Ex.int:Ex->Int | .mk _ a _ _ _=>a
def Ex.v:Ex->Val | .mk _ _ a _ _=>a
def Ex.nm:Ex->ByteArray | .mk _ _ _ a _=>a
def Ex.args:Ex->(List Ex) | .mk _ _ _ _ a=>a
theorem aC (e:Ex):tE e=[.int .i64 e.op, .int .i64 e.int, .int .i64 e.v.kind, .int .i64 e.v.int, .str e.v.text, .str e.nm, .lst (e.args.map tE)]:=by
 obtain ⟨_,_,_,_,_⟩:=e
 rw [tE,VY];rfl
theorem NS (e:Ex):(tE e).length=7:=by rw [aC];rfl
structure cO where
 pred:Ex
 sets:(List Ex)
 rows:(List (List Val))
 during:aI
def iB (x:cO):List AC:=[.int .i64 x.pred.op, .int .i64 x.pred.int, .int .i64 x.pred.v.kind, .int .i64 x.pred.v.int, .str x.pred.v.text, .str x.pred.nm, .lst (x.pred.args.map tE), .lst (x.sets.map tE), .lst (x.rows.map (fun x=>[AC.lst (x.map cV)])), .int .i64 x.during.lo, .int .i64 x.during.hi]

structure Stp where
 lo:Int
 n:Int
def y8 (x:Stp):List AC:=[.int .i64 x.lo, .int .i64 x.n]
structure cu where
 row:(List Val)
 steps:(List Stp)
def nZ (x:cu):List AC:=[.lst (x.row.map cV), .lst (x.steps.map y8)]
structure aa where
 row:(List Val)
 periods:(List aI)
def ae (x:aa):List AC:=[.lst (x.row.map cV), .lst (x.periods.map bE)]
structure FE where
 period:aI
 n:Int
def LV (x:FE):List AC:=[.int .i64 x.period.lo, .int .i64 x.period.hi, .int .i64 x.n]
structure LJ where
 column:Int
 desc:Bool
def IJ (x:LJ):List AC:=[.int .i64 x.column, .bool x.desc]
open Go.RowKit Go.MapKept
inductive Step (σ ρ:Type) where
 | next (s:σ)
 | exit (s:σ)
 | ret (r:ρ)
def ax {σ ρ:Type} (body:σ->Option (Step σ ρ)):Nat->σ->Option (Sum σ ρ)
 | 0,_=>none
 | n+1,s=>match body s with
  | none=>none
  | some (.next s')=>ax body n s'
  | some (.exit s')=>some (.inl s')
  | some (.ret r)=>some (.inr r)
def fuel:Nat:=4611686018427387904
def aH {α:Type} (l:List α) (i:Int):Option α:=if 0<=i then l[i.toNat]? else none
def lT {α:Type} (l:List α) (a b:Int):Option (List α):=if 0<=a/\a<=b/\b<=(l.length:Nat) then some ((l.take b.toNat).drop a.toNat) else none
theorem bd_ {α β:Type} {x:Option α} {f:α->Option β} {r:β} (h:x.bind f=some r) : ∃ a,x=some a/\f a=some r:=by
 cases x with
 | none=>cases h
 | some a=>exact ⟨a,rfl,h⟩
theorem nE {α:Type} {l:List α} {i:Int} {x:α} (h:aH l i=some x):0<=i/\l[i.toNat]?=some x:=by
 unfold aH at h
 by_cases h0:0<=i
 ·rw [if_pos h0] at h;exact ⟨h0,h⟩
 ·rw [if_neg h0] at h;cases h
theorem ji {α:Type} {l r:List α} {a b:Int} (h:lT l a b=some r):(0<=a/\a<=b/\b<=(l.length:Nat))/\r=(l.take b.toNat).drop a.toNat:=by
 unfold lT at h
 by_cases h0:0<=a/\a<=b/\b<=(l.length:Nat)
 ·rw [if_pos h0] at h;exact ⟨h0,(ahq h).symm⟩
 ·rw [if_neg h0] at h;cases h
theorem vI {c:Bool} {β:Type} {x:Option β} {r:β} (h:(bif c then x else none)=some r):c=true/\x=some r:=by
 cases c with
 | true=>exact ⟨rfl,h⟩
 | false=>cases h
theorem abO {α:Type} {l:List α} {f:α->List AC} {i:Int} {x:α} (h:l[i.toNat]?=some x):(l.map f)[i.toNat]?=some (f x):=by rw [ahg,h];rfl
theorem Ro {α:Type} {f:α->List AC} {k:Nat} (hf : ∀ x,(f x).length=k) (l:List α) : ∀ e∈l.map f,e.length=k:=by
 intro e he;simp only [aht] at he;obtain ⟨x,_,rfl⟩:=he;exact hf x
section
variable {P:Program} {ti:TI} {N n0:Nat} {Q:AX->Tm->List Ob->Prop} {T:Tm} {L:List Ob}
@[reducible] def After {σ ρ γ:Type} (K:Sum σ ρ->Option γ) (r:γ):Step σ ρ->Prop
 | .next _=>True
 | .exit s=>K (.inl s)=some r
 | .ret q=>K (.inr q)=some r
theorem alM_ {σ ρ γ:Type} {c:Code} {body:σ->Option (Step σ ρ)} {K:Sum σ ρ->Option γ} {r:γ} {s0:σ} (TT:σ->Tm) (LL:σ->List Ob) (h:(ax body fuel s0).bind K=some r) (hn1 : ∀ s,n0<=(LL s).length) (hf:Fits T L (TT s0) (LL s0))
  (round : ∀ s st,body s=some st->After K r st->Aw P N n0 c (AX.then (fun T' L' => ∃ s',st = .next s'/\Fits T' L' (TT s') (LL s')) Q) (TT s) (LL s)):Aw P N n0 (.loop c) Q T L:=by
 refine sN (fun s:Nat × σ=>TT s.2) (fun s=>LL s.2) (fun s=>(ax body s.1 s.2).bind K=some r) (fun s=>s.1) (fuel,s0) h (fun s _=>hn1 s.2) hf ?_
 rintro ⟨n,s⟩ hok
 dsimp only at hok ⊢
 cases n with
 | zero=>cases hok
 | succ n =>
  rw [ax] at hok
  cases hb:body s with
  | none=>rw [hb] at hok;cases hok
  | some st =>
   rw [hb] at hok
   refine Aw.mono (round s st hb ?_) ?_
   ·cases st with
    | next s'=>trivial
    | exit s'=>exact hok
    | ret q=>exact hok
   ·intro x T' L' hq
    cases x with
    | normal =>
     obtain ⟨s',rfl,hfit⟩:=hq
     exact ⟨(n,s'),hok,Nat.lt_succ_self n,hfit⟩
    | exit id=>exact hq
    | ret=>exact hq
end
def Mg (a b:Int):Int:=if b<a then b else a
def CY (a b:Int):Int:=if b > a then b else a
theorem mn_norm (a b:Int):(if false=true then (if b > a then b else a) else (if b<a then b else a))=Mg a b:=rfl
theorem mx_norm (a b:Int):(if true=true then (if b > a then b else a) else (if b<a then b else a))=CY a b:=rfl
theorem L8 {α:Type} {f:α->List AC} {l r:List α} {a b:Int} (h:r=(l.take b.toNat).drop a.toNat):((l.map f).take b.toNat).drop a.toNat=r.map f:=by rw [h, <- List.map_take, <- List.map_drop]
def aa6 (n:Nat):SV->Bool
 | .c _=>true
 | .emp=>true
 | .own _ t=>Nat.blt t n
 | .ptr id _=>Nat.blt id n
 | _=>false
def Ua (n:Nat):List SV->Bool
 | []=>true
 | x::l=>and (aa6 n x) (Ua n l)
theorem Yw {n:Nat} {x:SV} (h:aa6 n x=true):x.below n:=by
 cases x with
 | c _=>trivial
 | emp=>trivial
 | own _ t=>exact ag5 h
 | ptr id _=>exact ag5 h
 | sl=>cases h
 | ep=>cases h
 | mp=>cases h
 | clo=>cases h
theorem kQ {n:Nat} : ∀ {cs:List SV}, Ua n cs=true->(Ob.box cs).below n
 | [],_=>fun x hx=>by cases hx
 | c::cs,h=>fun x hx=>by
  rw [Ua,ahb] at h
  rcases aha.1 hx with rfl|hx
  ·exact Yw h.1
  ·exact kQ h.2 x hx
section
variable {P:Program} {ti:TI} {N n0:Nat} {ds:List (Option Tmp)} {K:Tm->List Ob->Prop} {rest:List Oper} {o:Oper} {T:Tm} {L:List Ob}
theorem nU {b:Bool} (h:b=true):(b==true)=true:=by rw [h];rfl
theorem nH {b:Bool} (h:b=false):(b==false)=true:=by rw [h];rfl
theorem Zi {b:Bool} (h:b=false):(b==true)=false:=by rw [h];rfl
theorem aai {b:Bool} (h:b=true):(b==false)=false:=by rw [h];rfl
theorem oD {e:Bool} (h:e=false):(!e)=true:=by rw [h];rfl
theorem oF {e:Bool} (h:e=true):(!e)=false:=by rw [h];rfl
def aej:Op->Bool
 | .pick _ _ _=>true
 | _=>false
theorem p_ {v:AV} {φ:Prop} {d:Nat} (_:aej o.op=false) (hd:o.dst=some d) (hN:Nat.blt d N=true) {g0:Bool} (hg:kJ ds T o.guard=some g0) (hp:pop ti (look T) L o.op=some (v,φ)) (h:aQ P ti N ds K rest ((d,v)::T) L)
  (hφ:φ:=by repeat' (first|exact trivial|rfl|exact ag5 rfl|omega|assumption|exact Ro (by intro _;rfl) _|exact Ro NS _|(intro e he;simp at he;subst he;rfl)|(simp only [ag7];omega)|apply And.intro)) (hg1:g0=true:=by first|rfl|exact nU (by first|assumption|exact oD (by assumption))|exact nH (by first|assumption|exact oF (by assumption))):aQ P ti N ds K (o::rest) T L:=aZ hd hN (hg1▸hg) hp hφ h
theorem l_ {v:AV} {L':List Ob} {φ:Prop} {d:Nat} (hd:o.dst=some d) (hN:Nat.blt d N=true) {g0:Bool} (hg:kJ ds T o.guard=some g0) (hp:He ti (look T) L o.op=some (v,L',φ)) (h:aQ P ti N ds K rest ((d,v)::T) L')
  (hφ:φ:=by repeat' (first|exact trivial|rfl|exact ag5 rfl|omega|exact Ro (by intro _;rfl) _|exact Ro NS _|(intro e he;simp at he;subst he;rfl)|exact ag7 _|(simp only [ag7,ag3,ahf,aho,ahB];omega)|apply And.intro)) (hg1:g0=true:=by first|rfl|exact nU (by first|assumption|exact oD (by assumption))|exact nH (by first|assumption|exact oF (by assumption))):aQ P ti N ds K (o::rest) T L:=bq hd hN (hg1▸hg) hp hφ h
theorem s_ {v:AV} {L':List Ob} {φ:Prop} (hd:o.dst=none) {g0:Bool} (hg:kJ ds T o.guard=some g0) (hp:He ti (look T) L o.op=some (v,L',φ)) (h:aQ P ti N ds K rest T L') (hφ:φ:=by repeat' (first|exact trivial|rfl|exact ag5 rfl|omega|apply And.intro)) (hg1:g0=true:=by first|rfl|exact nU (by first|assumption|exact oD (by assumption))|exact nH (by first|assumption|exact oF (by assumption))):aQ P ti N ds K (o::rest) T L:=sS_ hd (hg1▸hg) hp hφ h
theorem t_ {v:AV} {φ:Prop} {d:Nat} (hd:o.dst=some d) (hN:Nat.blt d N=true) {g0:Bool} (hg:kJ ds T o.guard=some g0) (hp:AQ ti (look T) o.op=some (v,φ)) (h:aQ P ti N ds K rest ((d,v)::T) L)
  (hφ:φ:=by repeat' (first|exact trivial|rfl|exact ag5 rfl|omega|(intro e he;simp at he;subst he;rfl)|(intro e he;simp at he;rcases he with rfl|rfl<;>rfl)|(intro e he;simp at he;rcases he with rfl|rfl|rfl<;>rfl)|(intro e he;simp at he;rcases he with rfl|rfl|rfl|rfl<;>rfl)|apply And.intro)) (hg1:g0=true:=by first|rfl|exact nU (by first|assumption|exact oD (by assumption))|exact nH (by first|assumption|exact oF (by assumption))):aQ P ti N ds K (o::rest) T L:=bn hd hN (hg1▸hg) hp hφ h
theorem c_ {g:FuncId} {ps:List PV} {r:CV} {d:Nat} {v:AV} (hd:o.dst=some d) (hN:Nat.blt d N=true) {g0:Bool} (hg:kJ ds T o.guard=some g0) (hp:xA (look T) o.op=some (g,ps)) (h:aQ P ti N ds K rest ((d,v)::T) L) (hc:Pure P g ps r:=by assumption) (hv:r.av=v:=by rfl) (hg1:g0=true:=by first|rfl|exact nU (by first|assumption|exact oD (by assumption))|exact nH (by first|assumption|exact oF (by assumption))):aQ P ti N ds K (o::rest) T L:=dG hd hN (hg1▸hg) hp hc hv h
theorem x_ {t:TypeId} {x ix:Operand} {vx:AV} {es:List (List AC)} {k0:IntKind} {i:Int} {k d:Nat} {e:List AC} (hd:o.dst=some d) (hN:Nat.blt d N=true) {g0:Bool} (hg:kJ ds T o.guard=some g0) (ho:o.op = .indexAddr t x ix) (hx:look T x=some vx) (hl:fZ vx=some es) (hi:look T ix=some (.one (.c (.int k0 i))))
  (hk:(ti.elem t).bind ti.size=some k) (h:aQ P ti N ds K rest ((d, .one (.c (.ref e)))::T) L) (he:es[i.toNat]?=some e:=by assumption) (h0:0<=i:=by assumption) (hl2:e.length=k:=by rfl) (hg1:g0=true:=by first|rfl|exact nU (by first|assumption|exact oD (by assumption))|exact nH (by first|assumption|exact oF (by assumption))):aQ P ti N ds K (o::rest) T L:=CB hd hN (hg1▸hg) ho hx hl hi hk he ⟨h0,hl2⟩ h
theorem pick_t {c a b:Operand} {e:Bool} {va vb:AV} {d:Nat} (hd:o.dst=some d) (hN:Nat.blt d N=true) {g0:Bool} (hg:kJ ds T o.guard=some g0) (ho:o.op = .pick c a b) (hc:look T c=some (.one (.c (.bool e)))) (ha:look T a=some va) (hb:look T b=some vb) (h:aQ P ti N ds K rest ((d,va)::T) L)
  (he:e=true:=by first|rfl|assumption|exact oD (by assumption)) (hg1:g0=true:=by first|rfl|exact nU (by first|assumption|exact oD (by assumption))|exact nH (by first|assumption|exact oF (by assumption))):aQ P ti N ds K (o::rest) T L:=aZ hd hN (hg1▸hg) (by rw [ho];simp only [pop,hc,ha,hb];rw [if_pos he]) trivial h
theorem pick_f {c a b:Operand} {e:Bool} {va vb:AV} {d:Nat} (hd:o.dst=some d) (hN:Nat.blt d N=true) {g0:Bool} (hg:kJ ds T o.guard=some g0) (ho:o.op = .pick c a b) (hc:look T c=some (.one (.c (.bool e)))) (ha:look T a=some va) (hb:look T b=some vb) (h:aQ P ti N ds K rest ((d,vb)::T) L)
  (he:e=false:=by first|rfl|assumption|exact oF (by assumption)) (hg1:g0=true:=by first|rfl|exact nU (by first|assumption|exact oD (by assumption))|exact nH (by first|assumption|exact oF (by assumption))):aQ P ti N ds K (o::rest) T L:=aZ hd hN (hg1▸hg) (by rw [ho];simp only [pop,hc,ha,hb];rw [if_neg (by rw [he];decide)]) trivial h
theorem k_ {d:Nat} {g0:Bool} (hd:o.dst=some d) (hN:Nat.blt d N=true) (hg:kJ ds T o.guard=some g0) (h:aQ P ti N ds K rest ((d, .undef)::T) L) (hg1:g0=false:=by first|rfl|exact Zi (by first|assumption|exact oF (by assumption))|exact aai (by first|assumption|exact oD (by assumption))):aQ P ti N ds K (o::rest) T L:=aW hd hN (hg1▸hg) h
theorem k0_ {g0:Bool} (hd:o.dst=none) (hg:kJ ds T o.guard=some g0) (h:aQ P ti N ds K rest T L) (hg1:g0=false:=by first|rfl|exact Zi (by first|assumption|exact oF (by assumption))|exact aai (by first|assumption|exact oD (by assumption))):aQ P ti N ds K (o::rest) T L:=sk0_ hd (hg1▸hg) h
theorem aw_condT {Q:AX->Tm->List Ob->Prop} {c:Operand} {x y:Code} {b:Bool} (hc:look T c=some (.one (.c (.bool b)))) (h:Aw P N n0 x Q T L) (hb:b=true:=by first|rfl|assumption|exact oD (by assumption)):Aw P N n0 (.cond c x y) Q T L:=aU hc (fun _=>h) (fun e=>by rw [hb] at e;cases e)
theorem aw_condF {Q:AX->Tm->List Ob->Prop} {c:Operand} {x y:Code} {b:Bool} (hc:look T c=some (.one (.c (.bool b)))) (h:Aw P N n0 y Q T L) (hb:b=false:=by first|rfl|assumption|exact oF (by assumption)):Aw P N n0 (.cond c x y) Q T L:=aU hc (fun e=>by rw [hb] at e;cases e) (fun _=>h)
end
theorem aD {p:Prop} (h:p:=by
 repeat' (first
  | refine p_ rfl rfl rfl rfl rfl ?_|refine st_nil ?_|refine x_ rfl rfl rfl rfl rfl rfl rfl rfl ?_|refine l_ rfl rfl rfl rfl ?_|refine s_ rfl rfl rfl ?_|refine t_ rfl rfl rfl rfl ?_|refine k_ rfl rfl rfl ?_|refine k0_ rfl rfl ?_|refine c_ rfl rfl rfl rfl ?_|refine pick_t rfl rfl rfl rfl rfl rfl rfl ?_|refine pick_f rfl rfl rfl rfl rfl rfl rfl ?_|refine aw_seq ?_|refine aw_region tab_ok _ rfl ?_|refine aw_drawn2 tabS_ok _ rfl mixed (by decide +kernel) ?_|refine aw_condT rfl ?_|refine aw_condF rfl ?_|refine aw_block ?_|refine aw_exit ?_|refine aw_ret ?_|refine aw_skip ?_|rw [ag7]|rw [mn_norm]|rw [mx_norm])
 refine bO (bZ rfl ?_ ?_)
 ·repeat' (first|exact trivial|rfl|exact ag5 rfl|omega|apply And.intro)
 ·first|rfl|(simp only [ag8,ag6,ag_,ag0]<;>rfl)):p:=h
structure Bx (q:Prop):Prop where
 out:q
theorem gs_ {p q:Prop} (k:q) (h:Bx q->p:=by
 intro hq
 first|refine p_ rfl rfl rfl rfl rfl ?_|refine st_nil ?_|refine x_ rfl rfl rfl rfl rfl rfl rfl rfl ?_|refine l_ rfl rfl rfl rfl ?_|refine s_ rfl rfl rfl ?_|refine t_ rfl rfl rfl rfl ?_|refine k_ rfl rfl rfl ?_|refine k0_ rfl rfl ?_|refine c_ rfl rfl rfl rfl ?_|refine pick_t rfl rfl rfl rfl rfl rfl rfl ?_|refine pick_f rfl rfl rfl rfl rfl rfl rfl ?_|refine aw_seq ?_|refine aw_region tab_ok _ rfl ?_|refine aw_drawn2 tabS_ok _ rfl mixed (by decide +kernel) ?_|refine aw_condT rfl ?_|refine aw_condF rfl ?_|refine aw_block ?_|refine aw_exit ?_|refine aw_ret ?_|refine aw_skip ?_|rw [ag7]|rw [mn_norm]|rw [mx_norm]
 exact hq.out):p:=h ⟨k⟩
theorem gs0_ {p q:Prop} (k:q) (h:Bx q->p:=by
 intro hq
 first|refine p_ rfl rfl rfl rfl rfl ?_|refine st_nil ?_|refine x_ rfl rfl rfl rfl rfl rfl rfl rfl ?_|refine l_ rfl rfl rfl rfl ?_|refine s_ rfl rfl rfl ?_|refine t_ rfl rfl rfl rfl ?_|refine k_ rfl rfl rfl ?_|refine k0_ rfl rfl ?_|refine c_ rfl rfl rfl rfl ?_|refine pick_t rfl rfl rfl rfl rfl rfl rfl ?_|refine pick_f rfl rfl rfl rfl rfl rfl rfl ?_|refine aw_seq ?_|refine aw_condT rfl ?_|refine aw_condF rfl ?_|refine aw_block ?_|refine aw_exit ?_|refine aw_ret ?_|refine aw_skip ?_|rw [ag7]|rw [mn_norm]|rw [mx_norm]
 exact hq.out):p:=h ⟨k⟩
theorem bF {p q:Prop} (k:q) (h:Bx q->p:=by
 intro hq
 repeat' (first
  | refine gs_ ?_)
 exact hq.out):p:=h ⟨k⟩
theorem af {β:Type} {c:Bool} {x y:Option β} {r:β} (H:(bif c then x else y)=some r):(c=true/\x=some r)\/(c=false/\y=some r):=by
 cases c with
 | true=>exact .inl ⟨rfl,H⟩
 | false=>exact .inr ⟨rfl,H⟩
theorem aG {p:Prop} [Decidable p] {β:Type} {x:Option β} {r:β} (H:(bif decide p then x else none)=some r):p/\x=some r:=by
 obtain ⟨h,k⟩:=vI H
 exact ⟨ahm h,k⟩
theorem aY {α β:Type} {l:List α} {f:α->List AC} {i:Int} {k:α->Option β} {r:β} (H:(aH l i).bind k=some r) : ∃ x,0<=i/\l[i.toNat]?=some x/\(l.map f)[i.toNat]?=some (f x)/\k x=some r:=by
 obtain ⟨x,h,K⟩:=bd_ H
 obtain ⟨h0,h1⟩:=nE h
 exact ⟨x,h0,h1,abO h1,K⟩
theorem lt_ {a b:Nat} (h:Nat.blt a b=true:=by rfl):a<b:=ag5 h
theorem dh {p:Prop} (h:p:=by repeat' (first|refine ⟨?_,?_⟩|exact trivial|rfl)):p:=h
theorem lC {p:Prop} (h:p:=by repeat' (first|refine ⟨?_,?_⟩|exact trivial|rfl|(simp only [ag8,ag6,ag_,ag0]<;>rfl))):p:=h
theorem bH {p:Prop} (h:p:=by repeat' (first|refine ⟨?_,?_⟩|exact trivial|exact lt_|omega)):p:=h
theorem dw {p:Prop} (h:p:=by repeat' (first|refine ⟨?_,?_⟩|exact trivial|exact kQ (by rfl)|exact clo_below (ag5 rfl))):p:=h
theorem lD {p:Prop} (h:p:=by simp only [ag3,ahf,aho,ahB,ag8,ag6,ag_]<;>rfl):p:=h
theorem po_ {P : Program} {ti : TI} {N : Nat} {f : FuncId} {fn : Func} {c : Code} {args : List PV} {r : CV} (hf : P.funcs[f]? = some fn) (hN : fn.ntmps = N) {T : Tm} (h : Aw P N 0 c (fun x T L => (x = .normal \/ x = .ret) /\ Res ti fn.results.toList T L r) T []) (hti : TIok P ti := by exact tab_ok) (hb : fn.body = some c := by rfl) (hname : (fn.name == "runtime.NumGoroutine") = false := by rfl) (hlen : args.length <= N := by simp) (hT : argT 0 args = T := by simp only [argT, PV.av, ag6, ag_] <;> rfl) : Pure P f args r := pa_ hti hf hb hname hN hlen (hT ▸ h)
open Go.RowKit Go.MapKept
def dF {α σ ρ:Type} (f:σ->α->Option (Sum σ ρ)):σ->List α->Option (Sum σ ρ)
 | s,[]=>some (.inl s)
 | s,x::l=>match f s x with
  | none=>none
  | some (.inl s')=>dF f s' l
  | some (.inr r)=>some (.inr r)
section
variable {α σ ρ S:Type} {l:List α} {body:S->Option (Step S ρ)}
def Jl (mk:σ->Int->S) (n:Nat):Option (Sum σ ρ)->Option (Sum S ρ)
 | none=>none
 | some (.inl s')=>some (.inl (mk s' n))
 | some (.inr r)=>some (.inr r)
def uw (mk:σ->Int->S) (i:Nat):Option (Sum σ ρ)->Option (Step S ρ)
 | none=>none
 | some (.inl s')=>some (.next (mk s' (i:Nat)))
 | some (.inr r)=>some (.ret r)
theorem NW (mk:σ->Int->S) (f:σ->α->Option (Sum σ ρ)) (h1 : ∀ (s:σ) (i:Nat) x,l[i]?=some x->body (mk s i)=uw mk (i+1) (f s x)) (h2 : ∀ s,body (mk s l.length)=some (.exit (mk s l.length))) :
  ∀ (n i:Nat) (s:σ),i<=l.length->l.length-i<n->ax body n (mk s i)=Jl mk l.length (dF f s (l.drop i))
 | 0,i,s,_,h=>by omega
 | n+1,i,s,hi,hn=>by
  rw [ax]
  by_cases hlt:i<l.length
  ·obtain ⟨x,hx⟩:=gol_ hlt
   have e1:=(agV.1 hx).2
   rw [h1 s i x hx,ahp hlt,e1,dF]
   cases hf:f s x with
   | none=>rfl
   | some st=>cases st with
    | inl s'=>exact NW mk f h1 h2 n (i+1) s' (by omega) (by omega)
    | inr r=>rfl
  ·have:i=l.length:=by omega
   subst this
   rw [h2,ahO]
   rfl
theorem di (mk:σ->Int->S) (f:σ->α->Option (Sum σ ρ)) (h1 : ∀ (s:σ) (i:Nat) x,l[i]?=some x->body (mk s i)=uw mk (i+1) (f s x)) (h2 : ∀ s,body (mk s l.length)=some (.exit (mk s l.length))) (hl:l.length<fuel) (s:σ) :
  ax body fuel (mk s 0)=Jl mk l.length (dF f s l):=NW mk f h1 h2 fuel 0 s (ahe _) (by omega)
end
theorem gn_ {α:Type} {l:List α} {i:Nat} {x:α} (h:l[i]?=some x):aH l (i:Int)=some x:=by
 unfold aH;rw [if_pos (by omega)];exact h
theorem aV {α:Type} {l:List α} {i:Nat} {x:α} (h:l[i]?=some x):decide ((i:Int)<(l.length:Nat))=true:=by
 have:=(agV.1 h).1;simp;exact this
theorem lF_ (n:Nat):decide ((n:Int)<(n:Nat))=false:=by simp
theorem wrapN {i:Nat} (h:i<=4611686018427387904):IntKind.i64.wrap ((i:Int)+1)=((i+1:Nat):Int):=ko (by omega) (by omega)
open Go.RowKit Go.MapKept
set_option maxRecDepth 100000
set_option maxHeartbeats 8000000
def lM (x y:Int):Int:=if x<y then -1 else if y<x then 1 else 0
def zA (v w:Val):Int:=if lM v.kind w.kind≠0 then lM v.kind w.kind else if lM v.int w.int≠0 then lM v.int w.int else xS v.text w.text
def bS:List Val->List Val->Int
 | [],[]=>0
 | [],_::_ => -1
 | _::_,[]=>1
 | a::xs,b::ys=>if zA a b≠0 then zA a b else bS xs ys
def dW (l:List Val):AC := .lst (l.map cV)
theorem XA (a b:ByteArray):Pure Tryz.prog 191 [.one (.str a), .one (.str b)] (.val (.one (.int .i64 (xS a b)))):=(Ci Vv 8).1 _ _ _ (by kernel_rfl)
def KR (a_x:Int):Option (Bool):=some (decide (a_x≠a_x))
theorem NG {a_x:Int} {r:Bool} (H:KR a_x=some r):Pure Tryz.prog 159 [.one (.int .i64 a_x)] (.val (.one (.bool r))):=by
 unfold KR at H
 refine po_ Tryz.func159 Tryz.ntmps159 ?_
 cases H
 exact aD
def Mo (a_x:Int) (a_y:Int):Option (Int):=(KR a_x).bind fun r_1=>(KR a_y).bind fun r_2=>bif r_1 then bif r_2 then some (0:Int) else
 some (-1:Int) else
 bif r_2 then some (1:Int) else
 bif (decide (a_x<a_y)) then some (-1:Int) else
 bif (decide (a_y<a_x)) then some (1:Int) else
 some (0:Int)
theorem RO {a_x:Int} {a_y:Int} {r:Int} (H:Mo a_x a_y=some r):Pure Tryz.prog 118 [.one (.int .i64 a_x), .one (.int .i64 a_y)] (.val (.one (.int .i64 r))):=by
 unfold Mo at H
 refine po_ Tryz.func118 Tryz.ntmps118 ?_
 obtain ⟨r_1,c1,H⟩:=bd_ H
 replace c1:=NG c1
 obtain ⟨r_2,c2,H⟩:=bd_ H
 replace c2:=NG c2
 rcases af H with ⟨q_3,H⟩|⟨q_3,H⟩
 ·rcases af H with ⟨q_4,H⟩|⟨q_4,H⟩
  ·cases H
   exact aD
  cases H
  exact aD
 rcases af H with ⟨q_5,H⟩|⟨q_5,H⟩
 ·cases H
  exact aD
 rcases af H with ⟨q_6,H⟩|⟨q_6,H⟩
 ·cases H
  exact aD
 rcases af H with ⟨q_7,H⟩|⟨q_7,H⟩
 ·cases H
  exact aD
 cases H
 exact aD
def O0 (a_vals:(List Int)):(Int)->Option (Step (Int) (Int)):=fun s=>match s with
 | v_1=>bif (decide (v_1<((a_vals.length:Nat):Int))) then (aH a_vals v_1).bind fun x_3=>bif (decide (x_3≠(0:Int))) then some (.ret x_3) else
 some (.next (IntKind.i64.wrap (v_1+(1:Int)))) else
 some (.exit v_1)
def xx:Sum (Int) (Int)->Option ((Int))
 | .inl v_1=>some (0:Int)
 | .inr q=>some q
def gOr (a_vals:(List Int)):Option (Int):=(ax (O0 a_vals) fuel (0:Int)).bind (xx)
theorem ael {a_vals:(List Int)} {r:Int} (H:gOr a_vals=some r):Pure Tryz.prog 117 [.one (.lst (a_vals.map (fun x=>[AC.int .i64 x])))] (.val (.one (.int .i64 r))):=by
 unfold gOr at H
 refine po_ Tryz.func117 Tryz.ntmps117 ?_
 refine bF ?_
 refine alM_ (fun s:Int=>match s with|v_1=>[(3, .one (.c (.int .i64 (0:Int)))),(6, .one (.c (.lst (a_vals.map (fun x=>[AC.int .i64 x]))))),(7, .one (.c (.int .i64 ((a_vals.length:Nat):Int)))),(8, .one (.c (.int .i64 v_1)))]) (fun s=>match s with|v_1=>[]) H (fun _=>ahe _)
  (fm_ dh [] rfl bH trivial) ?_
 rintro v_1 st1 hb1 hk1
 unfold O0 at hb1
 dsimp only at hb1 ⊢
 rcases af hb1 with ⟨q_2,hb1⟩|⟨q_2,hb1⟩
 ·obtain ⟨x_3,i1z,i1,i1x,hb1⟩:=aY (f:=(fun x=>[AC.int .i64 x])) hb1
  rcases af hb1 with ⟨q_4,hb1⟩|⟨q_4,hb1⟩
  ·cases hb1
   have hx1:xx (.inr x_3)=some _:=hk1
   unfold xx at hx1
   dsimp only at hx1
   cases hx1
   exact aD
  cases hb1
  refine bF ?_
  exact ⟨_,rfl,fm_ dh [] rfl bH trivial⟩
 cases hb1
 have hx1:xx (.inl v_1)=some _:=hk1
 unfold xx at hx1
 dsimp only at hx1
 cases hx1
 exact aD
def yz (a_a:Val) (a_b:Val):Option (Int):=(Mo a_a.kind a_b.kind).bind fun r_1=>(Mo a_a.int a_b.int).bind fun r_2=>(gOr [r_1,r_2,(xS a_a.text a_b.text)]).bind fun r_4=>some r_4
theorem KQ {a_a:Val} {a_b:Val} {r:Int} (H:yz a_a a_b=some r):Pure Tryz.prog 168 [.agg (cV a_a), .agg (cV a_b)] (.val (.one (.int .i64 r))):=by
 unfold yz at H
 refine po_ Tryz.func168 Tryz.ntmps168 ?_
 obtain ⟨r_1,c1,H⟩:=bd_ H
 replace c1:=RO c1
 obtain ⟨r_2,c2,H⟩:=bd_ H
 replace c2:=RO c2
 have hc_3:=XA a_a.text a_b.text
 try simp only [ag8,ag6,ag_,ag0,aC] at hc_3
 obtain ⟨r_4,c3,H⟩:=bd_ H
 replace c3:=ael c3
 try simp only [ag8,ag6,ag_,ag0,aC] at c3
 cases H
 exact aD
def nQ (a_s1:(List Val)) (a_s2:(List Val)) (a_cmp:Val->Val->Option (Int)):(Int)->Option (Step (Int) (Int)):=fun s=>match s with
 | v_1=>bif (decide (v_1<((a_s1.length:Nat):Int))) then (aH a_s1 v_1).bind fun x_3=>bif (decide (((a_s2.length:Nat):Int)<=v_1)) then some (.ret (1:Int)) else
 (aH a_s2 v_1).bind fun x_5=>(a_cmp x_3 x_5).bind fun r_6=>bif (decide (r_6≠(0:Int))) then some (.ret r_6) else
 some (.next (IntKind.i64.wrap (v_1+(1:Int)))) else
 some (.exit v_1)
def iA (a_s1:(List Val)) (a_s2:(List Val)):Sum (Int) (Int)->Option ((Int))
 | .inl v_1=>bif (decide (((a_s1.length:Nat):Int)<((a_s2.length:Nat):Int))) then some (-1:Int) else
 some (0:Int)
 | .inr q=>some q
def PI (a_s1:(List Val)) (a_s2:(List Val)) (a_cmp:Val->Val->Option (Int)):Option (Int):=(ax (nQ a_s1 a_s2 a_cmp) fuel (0:Int)).bind (iA a_s1 a_s2)
theorem Xe {a_s1:(List Val)} {a_s2:(List Val)} {a_cmp:Val->Val->Option (Int)} {r:Int} {F_a_cmp:FuncId} {caps_a_cmp:List AC} (hf_a_cmp : ∀ (y0:Val) (y1:Val) (r:Int),a_cmp y0 y1=some r->Pure Tryz.prog F_a_cmp ([.agg (cV y0), .agg (cV y1)]++caps_a_cmp.map .one) (.val (.one (.int .i64 r)))) (H:PI a_s1 a_s2 a_cmp=some r):Pure Tryz.prog 179 [.one (.lst (a_s1.map cV)), .one (.lst (a_s2.map cV)), .one (.fn F_a_cmp caps_a_cmp)] (.val (.one (.int .i64 r))):=by
 unfold PI at H
 refine po_ Tryz.func179 Tryz.ntmps179 ?_
 refine bF ?_
 refine alM_ (fun s:Int=>match s with|v_1=>[(0, .one (.c (.lst (a_s1.map cV)))),(1, .one (.c (.lst (a_s2.map cV)))),(2, .one (.c (.fn F_a_cmp caps_a_cmp))),(11, .one (.c (.lst (a_s1.map cV)))),(12, .one (.c (.int .i64 ((a_s1.length:Nat):Int)))),(13, .one (.c (.int .i64 v_1)))]) (fun s=>match s with|v_1=>[]) H (fun _=>ahe _)
  (fm_ dh [] rfl bH trivial) ?_
 rintro v_1 st1 hb1 hk1
 unfold nQ at hb1
 dsimp only at hb1 ⊢
 rcases af hb1 with ⟨q_2,hb1⟩|⟨q_2,hb1⟩
 ·obtain ⟨x_3,i1z,i1,i1x,hb1⟩:=aY (f:=cV) hb1
  rcases af hb1 with ⟨q_4,hb1⟩|⟨q_4,hb1⟩
  ·cases hb1
   have hx1:iA a_s1 a_s2 (.inr (1:Int))=some _:=hk1
   unfold iA at hx1
   dsimp only at hx1
   cases hx1
   exact aD
  obtain ⟨x_5,i2z,i2,i2x,hb1⟩:=aY (f:=cV) hb1
  obtain ⟨r_6,c3,hb1⟩:=bd_ hb1
  replace c3:=hf_a_cmp _ _ _ c3
  try simp only [ag8,ag6,ag_,ag0,aC] at c3
  rcases af hb1 with ⟨q_7,hb1⟩|⟨q_7,hb1⟩
  ·cases hb1
   have hx1:iA a_s1 a_s2 (.inr r_6)=some _:=hk1
   unfold iA at hx1
   dsimp only at hx1
   cases hx1
   exact aD
  cases hb1
  refine bF ?_
  exact ⟨_,rfl,fm_ dh [_,_] rfl bH trivial⟩
 cases hb1
 have hx1:iA a_s1 a_s2 (.inl v_1)=some _:=hk1
 unfold iA at hx1
 dsimp only at hx1
 rcases af hx1 with ⟨q_8,hx1⟩|⟨q_8,hx1⟩
 ·cases hx1
  exact aD
 cases hx1
 exact aD
def Su (a_a:(List Val)) (a_b:(List Val)):Option (Int):=(PI a_a a_b (fun x0 x1=>yz x0 x1)).bind fun r_1=>some r_1
theorem aaO {a_a:(List Val)} {a_b:(List Val)} {r:Int} (H:Su a_a a_b=some r):Pure Tryz.prog 156 [.one (.lst (a_a.map cV)), .one (.lst (a_b.map cV))] (.val (.one (.int .i64 r))):=by
 unfold Su at H
 refine po_ Tryz.func156 Tryz.ntmps156 ?_
 obtain ⟨r_1,c1,H⟩:=bd_ H
 replace c1:=Xe (F_a_cmp:=168) (caps_a_cmp:=[]) (fun x0 x1 r h=>KQ h) c1
 try simp only [ag8,ag6,ag_,ag0,aC] at c1
 cases H
 exact aD
end Go.Proofs.YtcehmafobkhdbaaGreatDoor
