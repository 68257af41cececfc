/- Parts of the proof, joined. No condition. -/
import Derived.Test.YtnbnpnmkgemdeaaGreatDoorKAA
import Derived.Test.YtnbnpnmkgemdeaaGreatDoorKAG
import Derived.Test.YtnbnpnmkgemdeaaGreatDoorKAF
import Derived.Laws.StructEq
import Derived.Test.YtnbnpnmkgemdeaaGreatDoorProg
set_option linter.unusedSimpArgs false
set_option linter.unusedVariables false
namespace Go.Proofs.YtnbnpnmkgemdeaaGreatDoor
open Go.RowKit Go.MapKept
theorem TIok.flags {P:Program} {ti:TI} (h:TIok P ti) (d s:Bool):TIok P { ti with dyn:=d,soft:=s } := ⟨h.size,h.agg,h.elem,h.field,h.zero,h.bytes,h.kind,h.struct,h.zok,h.eqs⟩
structure Cx where
 P:Program
 ti:TI
 xs:K7
 row:FuncId->Nat->Bool
 frz:FuncId->Nat->List Nat
 flg:FuncId->Nat->Bool × Bool
 orc:FuncId->List PV->Option CV
 bad:FuncId->Bool
 fz:FuncId->Nat->List Nat:=fun _ _=>[]
def Tx (n:Nat):Cap->Bool
 | .ptr id _=>Nat.blt id n
 | .c _=>true
def GJ (n:Nat):List Cap->Bool
 | []=>true
 | x::xs=>Tx n x&&GJ n xs
def Uf (n:Nat):SV->Bool
 | .own _ t=>Nat.blt t n
 | .ptr id _=>Nat.blt id n
 | .sl id _ _ _=>Nat.blt id n
 | .ep id _ _ _=>Nat.blt id n
 | .mp id=>Nat.blt id n
 | .clo _ caps=>GJ n caps
 | .c _=>true
 | .emp=>true
def BD (n:Nat):List SV->Bool
 | []=>true
 | x::xs=>Uf n x&&BD n xs
def G8 (n:Nat):List (List SV)->Bool
 | []=>true
 | x::xs=>BD n x&&G8 n xs
def QY (n:Nat):AV->Bool
 | .one x=>Uf n x
 | .agg xs=>BD n xs
 | .tup _=>true
 | .tupS xs=>BD n xs
 | .undef=>true
def MK (n:Nat):List AV->Bool
 | []=>true
 | x::xs=>QY n x&&MK n xs
def Nt (n:Nat):List (AC × AV)->Bool
 | []=>true
 | x::xs=>QY n x.2&&Nt n xs
def WA (n:Nat):Ob->Bool
 | .box cs=>BD n cs
 | .row _ es _=>G8 n es
 | .map kvs=>Nt n kvs
 | .spare _ _=>true
 | .dead=>true
def FZ (n:Nat):List Ob->Bool
 | []=>true
 | x::xs=>WA n x&&FZ n xs
theorem PL {n:Nat} {x:Cap} (h:Tx n x=true):x.below n:=by
 cases x with
 | c _=>trivial
 | ptr id _=>exact Y8 h
theorem EO {n:Nat} : ∀ {xs:List Cap}, GJ n xs=true -> ∀ x∈xs,x.below n
 | [],_,x,hx=>by cases hx
 | y::xs,h,x,hx=>by
  rw [GJ,Zg] at h
  rcases Zf.1 hx with rfl|hx
  ·exact PL h.1
  ·exact EO h.2 x hx
theorem Nn {n:Nat} {x:SV} (h:Uf n x=true):x.below n:=by
 cases x with
 | c _=>trivial
 | emp=>trivial
 | own _ t=>exact Y8 h
 | ptr id _=>exact Y8 h
 | sl id _ _ _=>exact Y8 h
 | ep id _ _ _=>exact Y8 h
 | mp id=>exact Y8 h
 | clo f caps=>exact EO h
theorem tL {n:Nat} : ∀ {xs:List SV}, BD n xs=true -> ∀ x∈xs,x.below n
 | [],_,x,hx=>by cases hx
 | y::xs,h,x,hx=>by
  rw [BD,Zg] at h
  rcases Zf.1 hx with rfl|hx
  ·exact Nn h.1
  ·exact tL h.2 x hx
theorem Gl {n:Nat} : ∀ {xs:List (List SV)}, G8 n xs=true -> ∀ e∈xs, ∀ x∈e,x.below n
 | [],_,x,hx=>by cases hx
 | y::xs,h,x,hx=>by
  rw [G8,Zg] at h
  rcases Zf.1 hx with rfl|hx
  ·exact tL h.1
  ·exact Gl h.2 x hx
theorem AU {n:Nat} {x:AV} (h:QY n x=true):x.below n:=by
 cases x with
 | one x=>exact Nn h
 | agg xs=>exact tL h
 | tup _=>trivial
 | tupS xs=>exact tL h
 | undef=>trivial
theorem IB {n:Nat} : ∀ {xs:List AV}, MK n xs=true -> ∀ x∈xs,x.below n
 | [],_,x,hx=>by cases hx
 | y::xs,h,x,hx=>by
  rw [MK,Zg] at h
  rcases Zf.1 hx with rfl|hx
  ·exact AU h.1
  ·exact IB h.2 x hx
theorem Jp {n:Nat} : ∀ {xs:List (AC × AV)}, Nt n xs=true -> ∀ p∈xs,p.2.below n
 | [],_,x,hx=>by cases hx
 | y::xs,h,x,hx=>by
  rw [Nt,Zg] at h
  rcases Zf.1 hx with rfl|hx
  ·exact AU h.1
  ·exact Jp h.2 x hx
theorem RV {n:Nat} {x:Ob} (h:WA n x=true):x.below n:=by
 cases x with
 | box cs=>exact tL h
 | row _ es _=>exact Gl h
 | map kvs=>exact Jp h
 | spare _ _=>trivial
 | dead=>trivial
theorem yn {n:Nat} : ∀ {xs:List Ob}, FZ n xs=true -> ∀ x∈xs,x.below n
 | [],_,x,hx=>by cases hx
 | y::xs,h,x,hx=>by
  rw [FZ,Zg] at h
  rcases Zf.1 hx with rfl|hx
  ·exact RV h.1
  ·exact yn h.2 x hx
theorem jR {n i:Nat} (h:i<n):kX (List.range n) i=i:=by
 unfold kX
 rw [ZM,List.getElem?_range h];rfl
theorem Cap.ren_range {n:Nat} {x:Cap} (h:x.below n):x.ren (List.range n)=x:=by
 cases x with
 | c _=>rfl
 | ptr id off=>show Cap.ptr (kX _ id) off=_;rw [jR h]
theorem iw {α:Type} {f:α->α} : ∀ {l:List α}, (∀ x∈l,f x=x)->l.map f=l
 | [],_=>rfl
 | x::l,h=>by rw [Y9,h x (List.mem_cons_self ..),iw fun y hy=>h y (Zm _ hy)]
theorem SV.ren_range {n:Nat} {x:SV} (h:x.below n):x.ren (List.range n)=x:=by
 cases x with
 | c _=>rfl
 | emp=>rfl
 | own es t=>show SV.own es (kX _ t)=_;rw [jR h]
 | ptr id off=>show SV.ptr (kX _ id) off=_;rw [jR h]
 | sl id v l m=>show SV.sl (kX _ id) v l m=_;rw [jR h]
 | ep id v i o=>show SV.ep (kX _ id) v i o=_;rw [jR h]
 | mp id=>show SV.mp (kX _ id)=_;rw [jR h]
 | clo f caps=>show SV.clo f (caps.map _)=_;rw [iw fun x hx=>Cap.ren_range (h x hx)]
theorem AV.ren_range {n:Nat} {x:AV} (h:x.below n):x.ren (List.range n)=x:=by
 cases x with
 | one x=>show AV.one (x.ren _)=_;rw [SV.ren_range h]
 | agg xs=>show AV.agg (xs.map _)=_;rw [iw fun x hx=>SV.ren_range (h x hx)]
 | tup _=>rfl
 | tupS xs=>show AV.tupS (xs.map _)=_;rw [iw fun x hx=>SV.ren_range (h x hx)]
 | undef=>rfl
theorem Ob.ren_range {n:Nat} {x:Ob} (h:x.below n):x.ren (List.range n)=x:=by
 cases x with
 | box cs=>show Ob.box (cs.map _)=_;rw [iw fun x hx=>SV.ren_range (h x hx)]
 | row v es k=>show Ob.row v (es.map (List.map _)) k=_;rw [iw fun e he=>iw fun x hx=>SV.ren_range (h e he x hx)]
 | map kvs=>show Ob.map (kvs.map fun p=>(p.1,p.2.ren (List.range n)))=_;rw [iw (f:=fun p:AC × AV=>(p.1,p.2.ren (List.range n))) fun p hp=>by show (p.1,p.2.ren _)=p;rw [AV.ren_range (h p hp)]]
 | spare _ _=>rfl
 | dead=>rfl
theorem xB {n m:Nat} (h:n<=m):eU (List.range n) n m=List.range m:=by
 unfold eU zk
 rw [List.length_range, <- List.range_add,Nat.add_sub_cancel' h]
theorem JK {L L1:List Ob} (h:L.length<=L1.length) (hb : ∀ x∈L1,x.below L1.length):joinL (List.range L.length) L L1=L1:=by
 unfold joinL join
 rw [xB h,iw fun x hx=>Ob.ren_range (hb x hx),List.length_range]
 have:lm L (List.range L.length) L1=L1.take L.length:=by
  apply List.ext_getElem?
  intro i
  by_cases hi:i<L.length
  ·rw [yL _ L L1 i i List.nodup_range (fun k hk=>List.mem_range.1 hk) (List.getElem?_range hi) (by omega),Zt,if_pos hi]
  ·rw [List.getElem?_eq_none (by rw [eu];omega),List.getElem?_eq_none (by rw [ZL];omega)]
 rw [this,List.take_append_drop]
structure mZ (P:Program) (g:FuncId) (L:List Ob) (asx:List AV) (L1:List Ob) (r:AV):Prop where
 run:Run P g L asx L1 r
 obb : ∀ x∈L,x.below L.length
 argb : ∀ x∈asx,x.below L.length
 le:L.length<=L1.length
 ob1 : ∀ x∈L1,x.below L1.length
 val:r.below L1.length
theorem mZ.fits {P:Program} {g:FuncId} {L:List Ob} {asx:List AV} {L1:List Ob} {r:AV} (h:mZ P g L asx L1 r):jD (List.range L.length) L asx L:=by
 refine ⟨List.length_range,List.nodup_range,fun i x hx=>?_,h.obb,h.argb⟩
 have hi:i<L.length:=(YY.1 hx).1
 rw [jR hi,hx,Ob.ren_range (h.obb x (Y4 hx))]
abbrev CP:=FuncId->List PV->Option CV
abbrev CR:=FuncId->List Ob->List AV->Option (List Ob × AV)
def Dw:Op->Option (Operand × List Operand)
 | .call { callee := .value f,args, .. } => some (f,args.toList)
 | _=>none
def Q_ (ti:TI) (cp:CP) (cr:CR) (ρ:Operand->Option AV) (L:List Ob) (f:Operand) (args:List Operand):Option (AV × List Ob) :=
 match ρ f with
 | some (.one (.c (.fn g cs)))=>match ti.owns g with
  | false=>match dX ρ args with
   | some ps=>match cp g (ps++cs.map .one) with
    | some r=>some (r.av,L)
    | none=>none
   | none=>none
  | true=>match M3 ti f,Pk ρ args with
   | true,some vs=>match cr g L (vs++cs.map fun x => .one (.c x)) with
    | some (L1,r)=>some (r,L1)
    | none=>none
   | _,_=>none
 | some (.one (.clo g caps))=>match M3 ti f,Pk ρ args with
  | true,some vs=>match cr g L (vs++caps.map Cap.av) with
   | some (L1,r)=>some (r,L1)
   | none=>none
  | _,_=>none
 | _=>none
def Qq (P:Program) (ti:TI) (xs:K7) (rowB:Bool) (ρ:Operand->Option AV) (L:List Ob) (op:Op):Option (AV × List Ob) :=
 match bN ti op&&(!ti.soft||(Nat.beq (sk op) 0||Nat.beq (sk op) 4)) with
 | true=>Jm P ti xs rowB ρ L op
 | false=>none
def U7 (cx:Cx) (ti:TI) (cp:CP) (cr:CR) (rowB:Bool) (ρ:Operand->Option AV) (L:List Ob) (op:Op):Option (AV × List Ob) :=
 match Re ti ρ L op with
 | some v=>some (v,L)
 | none=>match Dw op with
  | some (f,args)=>match Q_ ti cp cr ρ L f args with
   | some r=>some r
   | none=>Qq cx.P ti cx.xs rowB ρ L op
  | none=>match (match rowB with|true=>none|false=>Tp ti ρ op) with
   | some v=>some (v,L)
   | none=>match rowB with
    | true=>match Qq cx.P ti cx.xs rowB ρ L op with
     | some r=>some r
     | none=>match Tp ti ρ op with
      | some v=>some (v,L)
      | none=>RU ti ρ L op
    | false=>match RU ti ρ L op with
     | some r=>some r
     | none=>Qq cx.P ti cx.xs rowB ρ L op
theorem KE {P:Program} {ti:TI} {xs:K7} {rowB:Bool} {ρ:Operand->Option AV} {L L':List Ob} {op:Op} {v:AV} (hk:sk op=4) (h:Jm P ti xs rowB ρ L op=some (v,L')):L'=L:=by
 unfold Jm at h
 split at h
 all_goals first|(exfalso;cases hk;done)|skip
 all_goals repeat' (first|(cases h;done)|(cases h;rfl)|(obtain ⟨e,_⟩:=aY h;cases e;rfl)|split at h)
theorem NY {op:Op} {f:Operand} {args:List Operand} (h:Dw op=some (f,args)) : ∃ asx ts,op = .call { callee := .value f,args:=asx,argTypes:=ts } /\ args=asx.toList:=by
 unfold Dw at h
 split at h
 ·cases h;exact ⟨_,_,rfl,rfl⟩
 ·cases h
theorem GA {P:Program} {ti:TI} {xs:K7} {rowB:Bool} {ρ:Operand->Option AV} {L L':List Ob} {op:Op} {v:AV} {K:AV->List Ob->Prop} (hti:TIok P ti) (hne:zg P xs) (h:Qq P ti xs rowB ρ L op=some (v,L')) (hK:K v L'):jP P ti ρ L K op:=by
 unfold Qq at h
 split at h
 ·rename_i h1
  rw [Zg] at h1
  refine .inr (.inr (.inr (.inr (.inr (.inr (.inr ⟨v,L',⟨h1.1,fun hs=>?_⟩,PQ hti hne h,hK⟩))))))
  have h2:=h1.2
  rw [hs,Bool.not_true,Bool.false_or,Bool.or_eq_true] at h2
  rcases h2 with h2|h2
  ·exact .inl (Nat.eq_of_beq_eq_true h2)
  ·exact .inr ⟨Nat.eq_of_beq_eq_true h2,KE (Nat.eq_of_beq_eq_true h2) h⟩
 ·cases h
theorem Fe {P:Program} {ti:TI} {ρ:Operand->Option AV} {L L1:List Ob} {op:Op} {g:FuncId} {asx:List AV} {r:AV} {K:AV->List Ob->Prop} (hp:eO ti ρ op=some (g,asx)) (h:mZ P g L asx L1 r) (hK:K r L1):jP P ti ρ L K op:=by
 refine .inr (.inr (.inr (.inr (.inr (.inr (.inl ⟨List.range L.length,g,L,asx,L1,r,?_,h.fits,h.run,?_⟩))))))
 ·rw [hp,iw fun x hx=>AV.ren_range (h.argb x hx)]
 ·rw [xB h.le,AV.ren_range h.val,JK h.le h.ob1];exact hK
theorem R_ {cx:Cx} {ti:TI} {cp:CP} {cr:CR} {rowB:Bool} {ρ:Operand->Option AV} {L L':List Ob} {op:Op} {v:AV} {K:AV->List Ob->Prop} (hti:TIok cx.P ti) (hne:zg cx.P cx.xs)
  (hcp : ∀ g ps r,cp g ps=some r->Pure cx.P g ps r) (hcr : ∀ g L asx L1 r,cr g L asx=some (L1,r)->mZ cx.P g L asx L1 r)
  (h:U7 cx ti cp cr rowB ρ L op=some (v,L')) (hK:K v L'):jP cx.P ti ρ L K op:=by
 unfold U7 at h
 split at h
 ·rename_i v' h1
  cases h
  obtain ⟨φ,h2,h3⟩:=Qg h1
  exact .inl ⟨_,φ,h2,h3,hK⟩
 ·split at h
  ·rename_i f args hc
   obtain ⟨asx,ts,rfl,rfl⟩:=NY hc
   split at h
   ·rename_i r h1
    cases h
    unfold Q_ at h1
    split at h1
    ·rename_i g cs hf
     split at h1
     ·split at h1
      ·rename_i ps hps
       split at h1
       ·rename_i r hr
        cases h1
        exact .inr (.inr (.inr (.inl ⟨g,_,r,by simp only [qR,hf,hps,Option.map_some],hcp _ _ _ hr,hK⟩)))
       ·cases h1
      ·cases h1
     ·split at h1
      ·rename_i vs hR hvs
       split at h1
       ·rename_i L1 r hr
        cases h1
        exact Fe (by simp only [eO,hf,hvs,hR]) (hcr _ _ _ _ _ hr) hK
       ·cases h1
      ·cases h1
    ·rename_i g caps hf
     split at h1
     ·rename_i vs hR hvs
      split at h1
      ·rename_i L1 r hr
       cases h1
       exact Fe (by simp only [eO,hf,hvs,hR]) (hcr _ _ _ _ _ hr) hK
      ·cases h1
     ·cases h1
    ·cases h1
   ·exact GA hti hne h hK
  ·split at h
   ·rename_i v' h1
    cases h
    cases rowB with
    | true=>cases h1
    | false =>
     obtain ⟨φ,h2,h3⟩:=MM h1
     exact .inr (.inl ⟨_,φ,h2,h3,hK⟩)
   ·split at h
    ·split at h
     ·rename_i r h1
      cases h
      exact GA hti hne h1 hK
     ·split at h
      ·rename_i v' h1
       cases h
       obtain ⟨φ,h2,h3⟩:=MM h1
       exact .inr (.inl ⟨_,φ,h2,h3,hK⟩)
      ·obtain ⟨φ,h2,h3⟩:=Nh h
       exact .inr (.inr (.inl ⟨_,_,φ,h2,h3,hK⟩))
    ·split at h
     ·rename_i r h1
      cases h
      obtain ⟨φ,h2,h3⟩:=Nh h1
      exact .inr (.inr (.inl ⟨_,_,φ,h2,h3,hK⟩))
     ·exact GA hti hne h hK
def rowOf (cx:Cx) (f:FuncId):Option Tmp->Bool
 | some d=>cx.row f d
 | none=>false
def V8 (N:Nat):Option Tmp->Bool
 | some d=>Nat.blt d N
 | none=>true
theorem Mo {N:Nat} {d:Option Tmp} (h:V8 N d=true):Ru N d:=by
 cases d with
 | none=>trivial
 | some d=>exact Y8 h
def Jl (cx:Cx) (ti:TI) (cp:CP) (cr:CR) (f:FuncId) (N:Nat) (ds:List (Option Tmp)):List Oper->Tm->List Ob->Option (Tm × List Ob)
 | [],T,L=>some (T,L)
 | o::rest,T,L=>match V8 N o.dst,iR ds T o.guard with
  | true,some true=>match U7 cx ti cp cr (rowOf cx f o.dst) (look T) L o.op with
   | some (v,L')=>Jl cx ti cp cr f N ds rest (xU T o.dst v) L'
   | none=>none
  | true,some false=>Jl cx ti cp cr f N ds rest (xU T o.dst .undef) L
  | _,_=>none
theorem yj {cx:Cx} {ti:TI} {cp:CP} {cr:CR} {f:FuncId} {N:Nat} {ds:List (Option Tmp)} (hti:TIok cx.P ti) (hne:zg cx.P cx.xs)
  (hcp : ∀ g ps r,cp g ps=some r->Pure cx.P g ps r) (hcr : ∀ g L asx L1 r,cr g L asx=some (L1,r)->mZ cx.P g L asx L1 r) {K:Tm->List Ob->Prop} :
  ∀ {l:List Oper} {T T':Tm} {L L':List Ob}, Jl cx ti cp cr f N ds l T L=some (T',L')->K T' L'->aM cx.P ti N ds K l T L
 | [],T,T',L,L',h,hK=>by cases h;exact hK
 | o::rest,T,T',L,L',h,hK=>by
  unfold Jl at h
  split at h
  ·rename_i hd hg
   split at h
   ·rename_i v L1 h1
    exact ⟨Mo hd,fO hg (R_ hti hne hcp hcr h1 (yj hti hne hcp hcr h hK))⟩
   ·cases h
  ·rename_i hd hg
   exact ⟨Mo hd,BV hg (yj hti hne hcp hcr h hK)⟩
  ·cases h
def UA:List Cap->List Nat
 | []=>[]
 | .ptr id _::l=>id::UA l
 | .c _::l=>UA l
def VU:SV->List Nat
 | .ptr id _=>[id]
 | .sl id _ _ _=>[id]
 | .clo _ caps=>UA caps
 | _=>[]
def TK:List SV->List Nat
 | []=>[]
 | x::l=>VU x++TK l
def XL:AV->List Nat
 | .one x=>VU x
 | .agg xs=>TK xs
 | _=>[]
def Mx (T:Tm) (L:List Ob) (id:Nat):Tm × List Ob :=
 match L[id]? with
 | some (.row ver es _)=>match oh es with
  | some cs=>(T.map (fun p=>(p.1,XX id ver cs p.2)),L.set id .dead)
  | none=>(T,L)
 | some (.box cs)=>match lD cs with
  | some ts=>(T.map (fun p=>(p.1,XQ id ts p.2)),L.set id .dead)
  | none=>(T,L)
 | _=>(T,L)
def Io:List Nat->Tm->List Ob->Tm × List Ob
 | [],T,L=>(T,L)
 | id::l,T,L=>match Mx T L id with
  | (T',L')=>Io l T' L'
def WG (T:Tm) (L:List Ob) (t:Nat):Tm × List Ob :=
 match T.lookup t with
 | some v=>Io (XL v) T L
 | none=>(T,L)
def PW:List Nat->Tm->List Ob->Option (Tm × List Ob)
 | [],T,L=>some (T,L)
 | t::ts,T,L=>match WG T L t with
  | (T',L')=>PW ts T' L'
section
variable {P:Program} {N n0:Nat} {Q:AX->Tm->List Ob->Prop} {c:Code}
theorem Q9 {T:Tm} {L:List Ob} {id:Nat} (k:Aw P N n0 c Q (Mx T L id).1 (Mx T L id).2):Aw P N n0 c Q T L:=by
 unfold Mx at k
 split at k
 ·rename_i hL
  split at k
  ·rename_i hn;exact xc _ hL hn k
  ·exact k
 ·rename_i hL
  split at k
  ·rename_i hn;exact GD _ hL hn k
  ·exact k
 ·exact k
theorem FE : ∀ {l:List Nat} {T:Tm} {L:List Ob}, Aw P N n0 c Q (Io l T L).1 (Io l T L).2->Aw P N n0 c Q T L
 | [],_,_,k=>k
 | id::l,T,L,k=>Q9 (FE (l:=l) k)
theorem He : ∀ {ts:List Nat} {T T':Tm} {L L':List Ob}, PW ts T L=some (T',L')->Aw P N n0 c Q T' L'->Aw P N n0 c Q T L
 | [],_,_,_,_,h,k=>by cases h;exact k
 | t::ts,T,T',L,L',h,k=>by
  unfold PW at h
  have h2:=He (ts:=ts) h k
  unfold WG at h2
  split at h2
  ·exact FE h2
  ·exact h2
end
def clean (N:Nat) (T:Tm):Tm:=(List.range N).filterMap fun t=>(T.lookup t).map fun x=>(t,x)
theorem FX {N:Nat} {T:Tm} {t:Nat} {x:AV} (h:(clean N T).lookup t=some x):T.lookup t=some x:=by
 have h1:=wW h
 unfold clean at h1
 rw [List.mem_filterMap] at h1
 obtain ⟨i,_,h2⟩:=h1
 obtain ⟨y,h3,h4⟩:=map_some h2
 cases h4
 exact h3
def IA (body:Tm->List Ob->Option (AX × Tm × List Ob)) (N:Nat):Nat->Tm->List Ob->Option (AX × Tm × List Ob)
 | 0,_,_=>none
 | n+1,T,L=>match body (clean N T) L with
  | some (.normal,T',L')=>IA body N n T' L'
  | r=>r
def TY (cx:Cx) (f:FuncId) (id:Nat):Bool->TI
 | false => { cx.ti with dyn:=true,soft:=false }
 | true => { cx.ti with dyn:=(cx.flg f id).1,soft:=(cx.flg f id).2 }
def Kn (cx:Cx) (cp:CP) (cr:CR) (f:FuncId) (N:Nat) (rs:List Nat):Code->Tm->List Ob->Option (AX × Tm × List Ob)
 | .skip,T,L=>some (.normal,T,L)
 | .label _,T,L=>some (.normal,T,L)
 | .ret,T,L=>match PW rs T L with
  | some (T',L')=>some (.ret,T',L')
  | none=>none
 | .exit id,T,L=>some (.exit id,T,L)
 | .seq x y,T,L=>match Kn cx cp cr f N rs x T L with
  | some (.normal,T',L')=>Kn cx cp cr f N rs y T' L'
  | r=>r
 | .cond c x y,T,L=>match look T c with
  | some (.one (.c (.bool b)))=>match b with
   | true=>Kn cx cp cr f N rs x T L
   | false=>Kn cx cp cr f N rs y T L
  | _=>none
 | .block id c,T,L=>match Kn cx cp cr f N rs c T L with
  | some (.exit j,T',L')=>match decide (j=id) with
   | true=>some (.normal,T',L')
   | false=>some (.exit j,T',L')
  | r=>r
 | .region id ops d,T,L=>match PW (cx.frz f id) T L with
  | some (T1,L1)=>match XJ (cx.fz f id) T1 with
   | true=>match Jl cx (TY cx f id d) cp cr f N (ops.toList.map (·.dst)) ops.toList T1 L1 with
    | some (T2,L2)=>some (.normal,T2,L2)
    | none=>none
   | false=>none
  | none=>none
 | .loop c,T,L=>IA (Kn cx cp cr f N rs c) N 1048576 T L
 | _,_,_=>none
def lq (cx:Cx) (f:FuncId):Code->Bool
 | .seq x y=>lq cx f x&&lq cx f y
 | .cond _ x y=>lq cx f x&&lq cx f y
 | .block _ c=>lq cx f c
 | .loop c=>lq cx f c
 | .region id ops true=>yB (cx.fz f id) (TY cx f id true) ops.toList
 | _=>true
structure G_ (cx:Cx):Prop where
 ti:TIok cx.P cx.ti
 ne:zg cx.P cx.xs
 mix:cx.P.follows .mixedOrders=true
 name : ∀ (f : FuncId) fn, cx.P.funcs[f]? = some fn -> (fn.name == "runtime.NumGoroutine") = false
 code : ∀ (f:FuncId) fn c,cx.P.funcs[f]?=some fn->fn.body=some c->cx.bad f=false->lq cx f c=true
 orc : ∀ g ps r,cx.orc g ps=some r->Pure cx.P g ps r
def zH (cx:Cx):List Func->Nat->Bool
 | [],_=>true
 | fn::fs,i=>(match fn.body with
  | some c=>cx.bad i||lq cx i c
  | none=>true)&&zH cx fs (i+1)
theorem FM {cx:Cx} : ∀ {fs:List Func} {i:Nat}, zH cx fs i=true -> ∀ (j:Nat) fn c,fs[j]?=some fn->fn.body=some c->cx.bad (i+j)=false->lq cx (i+j) c=true
 | [],i,h,j,fn,c,hj,_,_=>by simp at hj
 | f0::fs,i,h,0,fn,c,hj,hb,hbad=>by
  rw [zH,Zg] at h
  simp at hj;subst hj
  have h1:=h.1
  rw [hb] at h1
  rw [Nat.add_zero] at hbad ⊢
  simp only [hbad,Bool.false_or] at h1
  exact h1
 | f0::fs,i,h,j+1,fn,c,hj,hb,hbad=>by
  rw [zH,Zg] at h
  have:=FM h.2 j fn c (by simpa using hj) hb (by rwa [show i+1+j=i+(j+1) by omega])
  rwa [show i+1+j=i+(j+1) by omega] at this
def yV:List Func->Bool
 | []=>true
 | fn :: fs => !(fn.name == "runtime.NumGoroutine") && yV fs
theorem Fj : ∀ {fs : List Func}, yV fs = true -> ∀ (j : Nat) fn, fs[j]? = some fn -> (fn.name == "runtime.NumGoroutine") = false
 | [],h,j,fn,hj=>by simp at hj
 | f0::fs,h,0,fn,hj=>by
  rw [yV,Zg] at h
  simp at hj;subst hj
  simpa using h.1
 | f0::fs,h,j+1,fn,hj=>by
  rw [yV,Zg] at h
  exact Fj h.2 j fn (by simpa using hj)
theorem G_.of {cx:Cx} (ti:TIok cx.P cx.ti) (ne:zg cx.P cx.xs) (mix:cx.P.follows .mixedOrders=true) (name:yV cx.P.funcs.toList=true) (code:zH cx cx.P.funcs.toList 0=true) (orc : ∀ g ps r,cx.orc g ps=some r->Pure cx.P g ps r):G_ cx :=
 ⟨ti,ne,mix,fun f fn h=>Fj name f fn (by simpa using h),fun f fn c h hb hbad=>by have:=FM code f fn c (by simpa using h) hb (by rwa [ZG]);rwa [ZG] at this,orc⟩
theorem Be {cx:Cx} (h:G_ cx) (f:FuncId) (id:Nat) (d:Bool):TIok cx.P (TY cx f id d):=by
 cases d
 ·exact h.ti.flags _ _
 ·exact h.ti.flags _ _
section
variable {cx:Cx} {cp:CP} {cr:CR} {f:FuncId} {N n0:Nat} {rs:List Nat}
def Xq (x:AX) (T':Tm) (L':List Ob):AX->Tm->List Ob->Prop:=fun y S M=>y=x/\S=T'/\M=L'
theorem Qt {c:Code} {body:Tm->List Ob->Option (AX × Tm × List Ob)} (hb : ∀ T L x T' L',body T L=some (x,T',L')->Aw cx.P N n0 c (Xq x T' L') T L) :
  ∀ {n:Nat} {T:Tm} {L:List Ob} {x:AX} {T':Tm} {L':List Ob}, IA body N n T L=some (x,T',L')->Aw cx.P N n0 (.loop c) (Xq x T' L') T L:=by
 intro n0' T L x T' L' h
 intro hn B R0 γ0 w0 a0 hi hT
 have key : ∀ n T L0 R γ a w,n0<=L0.length->IA body N n T L0=some (x,T',L')->Inv B R γ L0 w->iI N R γ L0 T a->Ext B R0 R w0 w->yw n0 R0 R γ0 γ L L0->Code.rounds cx.P c (yK N n0 B (Xq x T' L') R0 w0 γ0 L) n a w:=by
  intro n
  induction n with
  | zero=>intro T L0 R γ a w _ hl;cases hl
  | succ n ih =>
   intro T L0 R γ a w hlo hl hI ht he hmv
   rw [rounds_succ]
   unfold IA at hl
   have htc:iI N R γ L0 (clean N T) a:=⟨ht.size,ht.defers,fun t x hx=>ht.slot t x (FX hx)⟩
   split at hl
   ·rename_i T1 L1 hb1
    refine wp_mono (hb _ _ _ _ _ hb1 hlo B R γ w a hI htc) ?_
    rintro e a1 w1 ⟨y,T2,L2,R1,γ2,rfl,⟨rfl,rfl,rfl⟩,j1,k1,e1,m1⟩
    exact ih _ _ R1 _ a1 w1 m1.lo' hl j1 k1 (he.trans e1) (hmv.trans hi.len m1)
   ·rename_i hne
    refine wp_mono (hb _ _ _ _ _ hl hlo B R γ w a hI htc) ?_
    rintro e a1 w1 ⟨y,T2,L2,R1,γ2,rfl,⟨rfl,rfl,rfl⟩,j1,k1,e1,m1⟩
    cases y with
    | normal=>exact absurd hl (hne _ _)
    | exit id=>exact ⟨.exit id,_,_,R1,γ2,rfl,⟨rfl,rfl,rfl⟩,j1,k1,he.trans e1,hmv.trans hi.len m1⟩
    | ret=>exact ⟨.ret,_,_,R1,γ2,rfl,⟨rfl,rfl,rfl⟩,j1,k1,he.trans e1,hmv.trans hi.len m1⟩
 exact wp_loop_rounds n0' (key n0' T L R0 γ0 a0 w0 hn h hi hT (Ext.refl _ _ _) (yw.of hn Mv.refl))
theorem Lj (hx:G_ cx) (hcp : ∀ g ps r,cp g ps=some r->Pure cx.P g ps r) (hcr : ∀ g L asx L1 r,cr g L asx=some (L1,r)->mZ cx.P g L asx L1 r) :
  ∀ {c:Code} {T:Tm} {L:List Ob} {x:AX} {T':Tm} {L':List Ob}, lq cx f c=true->Kn cx cp cr f N rs c T L=some (x,T',L')->Aw cx.P N n0 c (Xq x T' L') T L:=by
 intro c
 induction c with
 | skip=>intro T L x T' L' _ h;cases h;exact aw_skip ⟨rfl,rfl,rfl⟩
 | label l=>intro T L x T' L' _ h;cases h;exact Rb ⟨rfl,rfl,rfl⟩
 | ret =>
  intro T L x T' L' _ h
  unfold Kn at h
  split at h
  ·rename_i h1
   cases h
   exact He h1 (aw_ret ⟨rfl,rfl,rfl⟩)
  ·cases h
 | exit id=>intro T L x T' L' _ h;cases h;exact aw_exit ⟨rfl,rfl,rfl⟩
 | seq a b iha ihb =>
  intro T L x T' L' hc h
  rw [lq,Zg] at hc
  unfold Kn at h
  refine aw_seq ?_
  split at h
  ·rename_i T1 L1 h1
   refine Aw.mono (iha hc.1 h1) ?_
   rintro y S M ⟨rfl,rfl,rfl⟩
   exact ihb hc.2 h
  ·rename_i hne
   refine Aw.mono (iha hc.1 h) ?_
   rintro y S M ⟨rfl,rfl,rfl⟩
   cases y with
   | normal=>exact absurd h (hne _ _)
   | exit id=>exact ⟨rfl,rfl,rfl⟩
   | ret=>exact ⟨rfl,rfl,rfl⟩
 | cond c a b iha ihb =>
  intro T L x T' L' hc h
  rw [lq,Zg] at hc
  unfold Kn at h
  split at h
  ·rename_i b' hl
   refine aG hl (fun e=>?_) (fun e=>?_)
   ·subst e;exact iha hc.1 h
   ·subst e;exact ihb hc.2 h
  ·cases h
 | block id c ih =>
  intro T L x T' L' hc h
  unfold Kn at h
  refine aw_block ?_
  split at h
  ·rename_i j T1 L1 h1
   refine Aw.mono (ih hc h1) ?_
   rintro y S M ⟨rfl,rfl,rfl⟩
   show if j=id then _ else _
   split at h
   ·rename_i e;rw [if_pos (Zr e)];cases h;exact ⟨rfl,rfl,rfl⟩
   ·rename_i e;rw [if_neg (of_decide_eq_false e)];cases h;exact ⟨rfl,rfl,rfl⟩
  ·rename_i hne
   refine Aw.mono (ih hc h) ?_
   rintro y S M ⟨rfl,rfl,rfl⟩
   cases y with
   | normal=>exact ⟨rfl,rfl,rfl⟩
   | exit id=>exact absurd h (hne _ _ _)
   | ret=>exact ⟨rfl,rfl,rfl⟩
 | region id ops d =>
  intro T L x T' L' hc h
  unfold Kn at h
  split at h
  ·rename_i T1 L1 h1
   refine He h1 ?_
   split at h
   ·rename_i hz
    split at h
    ·rename_i T2 L2 h2
     cases h
     have hr:ops=ops.toList.toArray:=rfl
     rw [hr]
     cases d with
     | false=>exact aw_region (Be hx f id false) _ rfl (yj (Be hx f id false) hx.ne hcp hcr h2 ⟨rfl,rfl,rfl⟩)
     | true=>exact F6 _ (Be hx f id true) _ rfl hx.mix hc hz (yj (Be hx f id true) hx.ne hcp hcr h2 ⟨rfl,rfl,rfl⟩)
    ·cases h
   ·cases h
  ·cases h
 | loop c ih =>
  intro T L x T' L' hc h
  unfold Kn at h
  exact Qt (fun T L x T' L' hb=>ih hc hb) h
 | _=>intro T L x T' L' _ h;unfold Kn at h;cases h
end
def Hu (ti:TI) (T:Tm) (L:List Ob):ResultVar->Option PV
 | .tmp t=>(T.lookup t).bind AV.norm
 | .cell a t=>match T.lookup a with
  | some (.one (.ptr id off))=>match MC ti L t (.one (.ptr id off)) with
   | some v=>v.norm
   | none=>none
  | _=>none
def yG (ti:TI) (T:Tm) (L:List Ob):List ResultVar->Option (List PV)
 | []=>some []
 | r::rs=>match Hu ti T L r,yG ti T L rs with
  | some p,some ps=>some (p::ps)
  | _,_=>none
theorem Ky {ti:TI} {T:Tm} {L:List Ob} {r:ResultVar} {p:PV} (h:Hu ti T L r=some p):Ej (zt ti T L r) p:=by
 unfold Hu at h
 split at h
 ·rename_i t
  exact ⟨True,by show (Option.map _ _)=_;rw [h];rfl,trivial⟩
 ·unfold zt
  dsimp only
  split at h
  ·rename_i h1
   rw [h1]
   dsimp only
   split at h
   ·rename_i v h2
    obtain ⟨φ,h3,h4⟩:=Iz h2
    rw [h3]
    exact ⟨φ,by dsimp only;rw [h];rfl,h4⟩
   ·cases h
  ·cases h
theorem vZ {ti:TI} {T:Tm} {L:List Ob} : ∀ {rs:List ResultVar} {ps:List PV}, yG ti T L rs=some ps->Ej (sN ti T L rs) ps
 | [],ps,h=>by cases h;exact ⟨_,rfl,trivial⟩
 | r::rs,ps,h=>by
  unfold yG at h
  split at h
  ·rename_i h1 h2
   cases h
   obtain ⟨φ,h3,h4⟩:=Ky h1
   obtain ⟨ψ,h5,h6⟩:=vZ h2
   exact ⟨φ/\ψ,by unfold sN;rw [h3,h5],h4,h6⟩
  ·cases h
def C8:List ResultVar->List Nat
 | []=>[]
 | .tmp t::rs=>t::C8 rs
 | .cell _ _::rs=>C8 rs
def QI:AX->Bool
 | .exit _=>false
 | _=>true
theorem Cy {x:AX} (h:QI x=true):x = .normal\/x = .ret:=by
 cases x with
 | normal=>exact .inl rfl
 | ret=>exact .inr rfl
 | exit _=>cases h
def PR (cx:Cx) (cp:CP) (cr:CR):CP:=fun g ps =>
 match cx.orc g ps with
 | some r=>some r
 | none=>match cx.P.funcs[g]? with
  | some fn=>match fn.body,cx.bad g,Nat.ble ps.length fn.ntmps with
   | some c,false,true=>match Kn cx cp cr g fn.ntmps (C8 fn.results.toList) c (argT 0 ps) [] with
    | some (x,T,L)=>match QI x,yG cx.ti T L fn.results.toList with
     | true,some rs=>some (QV rs)
     | _,_=>none
    | none=>none
   | _,_,_=>none
  | none=>none
def H8 (T:Tm):List ResultVar->Option AV
 | [.tmp s, .tmp t]=>match T.lookup s,T.lookup t with
  | some (.one x),some (.one y)=>some (.tupS [x,y])
  | _,_=>none
 | _=>none
theorem L_ {T:Tm} {rs:List ResultVar} {r:AV} (h:H8 T rs=some r):uH rs T r:=by
 unfold H8 at h
 split at h
 ·split at h
  ·rename_i h1 h2
   cases h
   exact ⟨_,_,_,_,rfl,h1,h2,rfl⟩
  ·cases h
 ·cases h
def Ic (ti:TI) (T:Tm) (L:List Ob):List ResultVar->Option AV
 | [.tmp t]=>T.lookup t
 | rs=>match yG ti T L rs with
  | some ps=>some (QV ps).av
  | none=>none
theorem KC {ti:TI} {T:Tm} {L:List Ob} {rs:List ResultVar} {r:AV} (h:Ic ti T L rs=some r):yS ti rs T L r:=by
 unfold Ic at h
 split at h
 ·exact .inl ⟨_,rfl,h⟩
 ·split at h
  ·rename_i ps h1
   cases h
   obtain ⟨φ,h2,h3⟩:=vZ h1
   exact .inr ⟨QV ps,aX h2 h3 rfl,rfl⟩
  ·cases h
def Lu (ti:TI) (T:Tm) (L:List Ob) (rs:List ResultVar):Option AV :=
 match H8 T rs with
 | some r=>some r
 | none=>Ic ti T L rs
theorem OO {ti:TI} {T:Tm} {L:List Ob} {rs:List ResultVar} {r:AV} (h:Lu ti T L rs=some r):yS ti rs T L r\/uH rs T r:=by
 unfold Lu at h
 split at h
 ·rename_i h1
  cases h
  exact .inr (L_ h1)
 ·exact .inl (KC h)
def Vg (cx:Cx) (cp:CP) (cr:CR):CR:=fun g L asx =>
 match cx.P.funcs[g]? with
 | some fn=>match fn.body,cx.bad g,Nat.ble asx.length fn.ntmps,(FZ L.length L&&MK L.length asx) with
  | some c,false,true,true=>match Kn cx cp cr g fn.ntmps [] c (jG 0 asx) L with
   | some (x,T,L1)=>match QI x,Lu cx.ti T L1 fn.results.toList,Nat.ble L.length L1.length with
    | true,some r,true=>match QY L.length r&&FZ L.length (L1.take L.length) with
     | true=>some (L1.take L.length,r)
     | false=>match QY L1.length r&&FZ L1.length L1 with
      | true=>some (L1,r)
      | false=>none
    | _,_,_=>none
   | none=>none
  | _,_,_,_=>none
 | none=>none
theorem PG {cx:Cx} {cp:CP} {cr:CR} (hx:G_ cx) (hcp : ∀ g ps r,cp g ps=some r->Pure cx.P g ps r) (hcr : ∀ g L asx L1 r,cr g L asx=some (L1,r)->mZ cx.P g L asx L1 r)
  {g:FuncId} {ps:List PV} {r:CV} (h:PR cx cp cr g ps=some r):Pure cx.P g ps r:=by
 unfold PR at h
 split at h
 ·rename_i r' h1
  cases h
  exact hx.orc _ _ _ h1
 ·split at h
  ·rename_i fn hf
   split at h
   ·rename_i c hb hbad hle
    split at h
    ·rename_i x T L he
     split at h
     ·rename_i rs hend hres
      cases h
      obtain ⟨φ,h2,h3⟩:=vZ hres
      refine pa_ hx.ti hf hb (hx.name _ _ hf) rfl (Y8 hle) ?_
      refine Aw.mono (Lj hx hcp hcr (hx.code _ _ _ hf hb hbad) he) ?_
      rintro y S M ⟨rfl,rfl,rfl⟩
      exact ⟨Cy hend,aX h2 h3 rfl⟩
     ·cases h
    ·cases h
   ·cases h
  ·cases h
theorem Sm {cx:Cx} {cp:CP} {cr:CR} (hx:G_ cx) (hcp : ∀ g ps r,cp g ps=some r->Pure cx.P g ps r) (hcr : ∀ g L asx L1 r,cr g L asx=some (L1,r)->mZ cx.P g L asx L1 r)
  {g:FuncId} {L:List Ob} {asx:List AV} {L1:List Ob} {r:AV} (h:Vg cx cp cr g L asx=some (L1,r)):mZ cx.P g L asx L1 r:=by
 unfold Vg at h
 split at h
 ·rename_i fn hf
  split at h
  ·rename_i c hb hbad hle hbel
   rw [Zg] at hbel
   split at h
   ·rename_i x T L2 he
    split at h
    ·rename_i r' hend hval hlen
     have hlen:=Y8 hlen
     have main : ∀ m,L.length<=m->m<=L2.length->(∀ x∈L2.take m,x.below m)->r'.below m->mZ cx.P g L asx (L2.take m) r':=by
      intro m hm1 hm2 hob hr
      have hl:(L2.take m).length=m:=by rw [ZL];omega
      refine ⟨?_,yn hbel.1,IB hbel.2,by omega,by rw [hl];exact hob,by rw [hl];exact hr⟩
      rcases OO hval with hv|hv
      ·refine bI hx.ti hf hb (hx.name _ _ hf) rfl (Y8 hle) ?_
       refine Aw.mono (Lj hx hcp hcr (hx.code _ _ _ hf hb hbad) he) ?_
       rintro y S M ⟨rfl,rfl,rfl⟩
       exact ⟨Cy hend,⟨hv,⟨_,(List.take_append_drop m _).symm⟩,by rw [hl];exact hm1,by rw [hl];exact hob,by rw [hl];exact hr⟩⟩
      ·refine K5 hx.ti hf hb (hx.name _ _ hf) rfl (Y8 hle) ?_
       refine Aw.mono (Lj hx hcp hcr (hx.code _ _ _ hf hb hbad) he) ?_
       rintro y S M ⟨rfl,rfl,rfl⟩
       exact ⟨Cy hend,⟨hv,⟨_,(List.take_append_drop m _).symm⟩,by rw [hl];exact hm1,by rw [hl];exact hob,by rw [hl];exact hr⟩⟩
     split at h
     ·rename_i hc
      rw [Zg] at hc
      cases h
      exact main _ (Ze _) hlen (yn hc.2) (AU hc.1)
     ·split at h
      ·rename_i hc
       rw [Zg] at hc
       cases h
       have:=main _ hlen (Ze _) (by rw [List.take_length];exact yn hc.2) (AU hc.1)
       rw [List.take_length] at this
       exact this
      ·cases h
    ·cases h
   ·cases h
  ·cases h
 ·cases h
def U6 (cx:Cx):Nat->CP × CR
 | 0=>(fun _ _=>none,fun _ _ _=>none)
 | n+1=>(PR cx (U6 cx n).1 (U6 cx n).2,Vg cx (U6 cx n).1 (U6 cx n).2)
theorem v_ {cx:Cx} (hx:G_ cx) : ∀ n,(∀ g ps r,(U6 cx n).1 g ps=some r->Pure cx.P g ps r)/\(∀ g L asx L1 r,(U6 cx n).2 g L asx=some (L1,r)->mZ cx.P g L asx L1 r)
 | 0=>⟨fun g ps r h=>(by cases h),fun g L asx L1 r h=>(by cases h)⟩
 | n+1=>⟨fun g ps r h=>PG hx (v_ hx n).1 (v_ hx n).2 h,fun g L asx L1 r h=>Sm hx (v_ hx n).1 (v_ hx n).2 h⟩
theorem l9 {P:Program} {w:World} {t:TypeId} {d:TypeDesc} (ht:P.underlying t=some d) (hd:(match d with | .struct _=>true | .array _ _=>true|_=>false)=false) {xs:Array Value} {i:Nat} {v:Value} (hx:xs[i]?=some v):(part t xs i).run P w = .ok v w:=by
 cases d<;>first|(cases hd;done)|simp [part,isAgg,run_underlying ht,hx]
def TN:TypeDesc->Option Sc
 | .int k=>some (.int k)
 | .bool=>some .bool
 | .string=>some .str
 | _=>none
def U4 (s:Sc):Option TypeDesc->Bool
 | some d=>match TN d with
  | some s'=>decide (s'=s)
  | none=>false
 | none=>false
def Sb (d:Option TypeDesc):Sc->Prop
 | .int k=>d=some (.int k)
 | .bool=>d=some .bool
 | .str=>d=some .string
theorem Ta {s:Sc} {d:Option TypeDesc} (h:U4 s d=true):Sb d s:=by
 unfold U4 at h
 cases d with
 | none=>cases h
 | some d =>
  dsimp only at h
  cases hs:TN d with
  | none=>rw [hs] at h;cases h
  | some s' =>
   rw [hs] at h
   obtain rfl:s'=s:=Zr h
   unfold TN at hs
   split at hs<;>first|(cases hs;rfl)|(cases hs;done)
def Mj (P:Program):List Field->List Sc->Nat->Bool
 | [],[],_=>true
 | f :: fs, s :: sh, i => (!(f.name == "_")) && (Nat.beq f.offset i && (U4 s (P.underlying f.type) && Mj P fs sh (i + 1)))
 | _,_,_=>false
theorem BI {x:SV} {xs:List SV} {vs:List Value} (h:gN (x::xs)=some vs) : ∃ c v r,x = .c c/\Et c=some v/\gN xs=some r/\vs=v::r:=by
 unfold gN at h
 split at h
 ·rename_i e;cases e
 ·rename_i y ys e
  cases e
  split at h
  ·rename_i v r h1 h2;cases h;exact ⟨_,v,r,rfl,h1,h2,rfl⟩
  ·cases h
 ·cases h
theorem Ef {P:Program} {w:World} (d:Nat) {A B:Array Value} : ∀ (fs:List Field) (sh:List Sc) (i:Nat) (xs ys:List SV) (vs us:List Value),Mj P fs sh i=true->fE sh xs=true->fE sh ys=true->gN xs=some vs->gN ys=some us ->
  (∀ (j:Nat) v,vs[j]?=some v->A[i+j]?=some v)->(∀ (j:Nat) v,us[j]?=some v->B[i+j]?=some v)->(Op.eqFields (d+1) A B fs).run P w = .ok (cB xs ys) w:=by
 intro fs
 induction fs with
 | nil =>
  intro sh i xs ys vs us hf hx hy _ _ _ _
  cases sh with
  | nil =>
   cases xs with
   | nil=>cases ys with
    | nil=>rfl
    | cons _ _=>cases hy
   | cons _ _=>cases hx
  | cons _ _=>cases hf
 | cons f fs ih =>
  intro sh i xs ys vs us hf hx hy hv hu hA hB
  cases sh with
  | nil=>cases hf
  | cons s sh =>
   rw [Mj,Zg,Zg,Zg] at hf
   obtain ⟨h1,h2,h3,h4⟩:=hf
   have h2:=Nat.eq_of_beq_eq_true h2
   have h1 : f.name ≠ "_" := by simpa using h1
   have h3:=Ta h3
   cases xs with
   | nil=>cases s<;>cases hx
   | cons x xs =>
    cases ys with
    | nil=>cases s<;>cases hy
    | cons y ys =>
     obtain ⟨cx,v,vr,rfl,hv1,hv2,rfl⟩:=BI hv
     obtain ⟨cy,u,ur,rfl,hu1,hu2,rfl⟩:=BI hu
     have a0:=hA 0 v rfl
     have b0:=hB 0 u rfl
     rw [Nat.add_zero] at a0 b0
     have rest : ∀ (hx':fE sh xs=true) (hy':fE sh ys=true),(Op.eqFields (d+1) A B fs).run P w = .ok (cB xs ys) w:=fun hx' hy' =>
      ih sh (i+1) xs ys vr ur h4 hx' hy' hv2 hu2 (fun j v hj=>by have:=hA (j+1) v (by simpa using hj);rwa [show i+1+j=i+(j+1) by omega]) (fun j v hj=>by have:=hB (j+1) v (by simpa using hj);rwa [show i+1+j=i+(j+1) by omega])
     cases s with
     | int k =>
      unfold Sb at h3
      cases cx<;>first|(cases hx;done)|skip
      cases cy<;>first|(cases hy;done)|skip
      rename_i k1 a k2 b
      simp only [fE,Zg,decide_eq_true_eq] at hx hy
      obtain ⟨rfl,hx'⟩:=hx
      obtain ⟨rfl,hy'⟩:=hy
      cases hv1;cases hu1
      have p1:=l9 (P:=P) (w:=w) h3 rfl a0
      have p2:=l9 (P:=P) (w:=w) h3 rfl b0
      simp only [Op.eqFields,h1,h2,ne_eq,not_false_eq_true,if_true,Sem.run_bind,p1,p2,Result.andThen_ok,run_equalIn_int (P:=P) w d _ k k a b h3,Sem.run_ite,Sem.run_pure,rest hx' hy']
      cases e:(a==b)
      ·have:a≠b:=by simpa using e
       simp [cB,this]
      ·have:a=b:=by simpa using e
       simp [cB,this]
     | bool =>
      unfold Sb at h3
      cases cx<;>first|(cases hx;done)|skip
      cases cy<;>first|(cases hy;done)|skip
      rename_i a b
      simp only [fE] at hx hy
      cases hv1;cases hu1
      have p1:=l9 (P:=P) (w:=w) h3 rfl a0
      have p2:=l9 (P:=P) (w:=w) h3 rfl b0
      simp only [Op.eqFields,h1,h2,ne_eq,not_false_eq_true,if_true,Sem.run_bind,p1,p2,Result.andThen_ok,run_equalIn_bool (P:=P) w d _ a b h3,Sem.run_ite,Sem.run_pure,rest hx hy]
      cases e:(a==b)<;>simp [cB,e]
     | str =>
      unfold Sb at h3
      cases cx<;>first|(cases hx;done)|skip
      cases cy<;>first|(cases hy;done)|skip
      rename_i a b
      simp only [fE] at hx hy
      cases hv1;cases hu1
      have p1:=l9 (P:=P) (w:=w) h3 rfl a0
      have p2:=l9 (P:=P) (w:=w) h3 rfl b0
      simp only [Op.eqFields,h1,h2,ne_eq,not_false_eq_true,if_true,Sem.run_bind,p1,p2,Result.andThen_ok,run_equalIn_string (P:=P) w d _ a b h3,Sem.run_ite,Sem.run_pure,rest hx hy]
      cases e:(a.toList==b.toList)<;>simp [cB,e]
def Ms (P:Program) (t:TypeId) (sh:List Sc):Bool :=
 (match P.underlying t with
 | some (.struct fs)=>Mj P fs.toList sh 0
 | _=>false)&&(!P.stoodInHeld t && !P.eqGuardType P.depth t)
theorem NL {P:Program} {t:TypeId} {sh:List Sc} (h:Ms P t sh=true):P.eqGuardType P.depth t=false /\ ∀ xs ys,fE sh xs=true->fE sh ys=true->LB P t xs ys:=by
 rw [Ms,Zg,Zg] at h
 obtain ⟨h1,h2,h3⟩:=h
 refine ⟨by simpa using h3,fun xs ys hx hy vs us hv hu w=>?_⟩
 split at h1
 ·rename_i fs ht
  have hfs:P.fieldsOf t=fs:=by unfold Program.fieldsOf;rw [ht]
  have hm:Op.equal t (.agg vs.toArray) (.agg us.toArray)=Op.equalIn (9999+1) t (.agg vs.toArray) (.agg us.toArray):=rfl
  rw [hm,run_equalIn_struct w 9999 t _ _ (by rw [hfs];exact ht) (by simpa using h2),hfs]
  exact Ef 9998 _ sh 0 xs ys vs us h1 hx hy hv hu (fun j v hj=>by simpa using hj) (fun j v hj=>by simpa using hj)
 ·cases h1
open Go.RowKit
def YB:List (Nat × AV):=[(2, .one (.c (.int .i64 0))),(3, .one (.c (.int .i64 0))),(4, .one (.c (.bool false))),(5, .one (.c (.int .u8 0))),(9, .one (.c (.str ⟨#[]⟩))),(22, .one (.emp)),(24, .agg [.c (.int .i64 0), .c (.int .i64 0), .c (.int .i64 0)]),(30, .one (.emp)),(34, .one (.emp)),(37, .one (.emp)),(39, .agg [.emp, .emp]),(43, .one (.emp)),(45, .agg [.c (.int .i64 0), .c (.int .i64 0)]),(47, .agg [.c (.int .i64 0), .c (.int .i64 0), .emp, .c (.int .i64 0), .c (.int .i64 0), .c (.int .i64 0), .c (.int .i64 0), .c (.int .i64 0), .c (.int .i64 0)]),(55, .one (.c (.nul .func))),(57, .agg [.c (.int .i64 0), .c (.int .i64 0), .c (.str ⟨#[]⟩)]),(58, .one (.emp)),(60, .agg [.c (.int .i64 0), .c (.int .i64 0), .c (.int .i64 0), .c (.int .i64 0), .c (.str ⟨#[]⟩), .c (.str ⟨#[]⟩), .emp]),(63, .one (.emp)),(64, .one (.emp)),(66, .agg [.c (.int .i64 0), .c (.int .i64 0), .emp, .emp, .c (.int .i64 0), .c (.int .i64 0), .c (.int .i64 0), .c (.int .i64 0), .c (.str ⟨#[]⟩), .c (.str ⟨#[]⟩), .emp, .emp, .emp, .emp, .emp]),(67, .one (.emp)),(69, .one (.c (.int .i64 0))),(73, .agg [.emp, .emp]),(74, .one (.emp)),(80, .agg [.emp, .c (.int .i64 0), .c (.int .i64 0)]),(82, .one (.c (.nul .func))),(84, .agg [.c (.nul .func)]),(87, .one (.c (.nul .func))),(95, .one (.emp)),(98, .one (.emp)),(100, .agg [.emp, .emp]),(101, .one (.emp)),(106, .one (.emp)),(110, .agg [.c (.int .i64 0), .c (.int .i64 0)]),(111, .one (.c (.nul .func))),(114, .one (.c (.nul .func))),(119, .one (.emp)),(126, .one (.emp)),(133, .one (.emp)),(136, .agg [.emp, .emp]),(137, .one (.emp)),(139, .agg [.c (.int .i64 0), .c (.int .i64 0)]),(143, .agg [.c (.int .i64 0), .c (.int .i64 0)]),(147, .one (.c (.nul .func))),(148, .one (.emp)),(150, .agg [.c (.int .i64 0), .c (.int .i64 0), .c (.int .i64 0)]),(159, .one (.c (.nul .func))),(170, .one (.c (.nul .map))),(173, .one (.c (.nul .func))),(176, .one (.c (.int .u64 0))),(178, .one (.c (.nul .func))),(185, .agg [.c (.int .i64 0), .c (.bool false)]),(194, .one (.c (.nul .map))),(195, .one (.emp)),(198, .agg [.c (.int .i64 0), .c (.int .i64 0)]),(207, .one (.emp)),(209, .agg [.emp, .emp]),(216, .one (.c (.nul .ptr))),(217, .one (.emp)),(219, .agg [.c (.nul .ptr), .emp]),(229, .one (.c (.int .i64 0))),(236, .one (.c (.int .u32 0))),(238, .one (.c (.int .u64 0))),(254, .one (.c (.nul .ptr))),(257, .one (.c (.int .u64 0))),(261, .one (.c (.nul .ptr))),(278, .one (.c (.nul .ptr)))]
def Yx:List (Nat × TypeDesc):=[(2, .int .i64),(3, .int .i64),(4, .bool),(5, .int .u8),(9, .string),(22, .slice 47),(30, .slice 80),(34, .slice 3),(37, .slice 43),(43, .slice 57),(58, .slice 60),(63, .slice 198),(64, .slice 66),(67, .slice 73),(69, .int .i64),(74, .slice 110),(95, .slice 100),(98, .slice 143),(101, .slice 45),(106, .slice 39),(119, .slice 185),(126, .slice 34),(133, .slice 136),(137, .slice 139),(148, .slice 150),(170, .map 9 3),(176, .int .u64),(194, .map 9 4),(195, .slice 37),(207, .slice 209),(216, .pointer 219),(217, .slice 5),(229, .int .i64),(236, .int .u32),(238, .int .u64),(254, .pointer 5),(257, .int .u64),(261, .pointer 3),(278, .unsafePointer)]
def YF:List (Nat × List Sc):=[(24,[.int .i64, .int .i64, .int .i64]),(45,[.int .i64, .int .i64]),(57,[.int .i64, .int .i64, .str]),(110,[.int .i64, .int .i64]),(139,[.int .i64, .int .i64]),(143,[.int .i64, .int .i64]),(185,[.int .i64, .bool]),(198,[.int .i64, .int .i64])]
def tab:TI:=TI.of [(2,1),(3,1),(4,1),(5,1),(9,1),(22,1),(24,3),(30,1),(34,1),(37,1),(39,2),(43,1),(45,2),(47,9),(55,1),(57,3),(58,1),(60,7),(63,1),(64,1),(66,15),(67,1),(69,1),(73,2),(74,1),(80,3),(82,1),(84,1),(87,1),(95,1),(98,1),(100,2),(101,1),(106,1),(110,2),(111,1),(114,1),(119,1),(126,1),(133,1),(136,2),(137,1),(139,2),(143,2),(147,1),(148,1),(150,3),(159,1),(170,1),(173,1),(176,1),(178,1),(185,2),(194,1),(195,1),(198,2),(207,1),(209,2),(216,1),(217,1),(219,2),(229,1),(236,1),(238,1),(254,1),(257,1),(261,1),(278,1)] [(2,false),(3,false),(4,false),(5,false),(9,false),(22,false),(24,true),(30,false),(34,false),(37,false),(39,true),(43,false),(45,true),(47,true),(55,false),(57,true),(58,false),(60,true),(63,false),(64,false),(66,true),(67,false),(69,false),(73,true),(74,false),(80,true),(82,false),(84,true),(87,false),(95,false),(98,false),(100,true),(101,false),(106,false),(110,true),(111,false),(114,false),(119,false),(126,false),(133,false),(136,true),(137,false),(139,true),(143,true),(147,false),(148,false),(150,true),(159,false),(170,false),(173,false),(176,false),(178,false),(185,true),(194,false),(195,false),(198,true),(207,false),(209,true),(216,false),(217,false),(219,true),(229,false),(236,false),(238,false),(254,false),(257,false),(261,false),(278,false)] [(22,47),(30,80),(34,3),(37,43),(43,57),(58,60),(63,198),(64,66),(67,73),(74,110),(95,100),(98,143),(101,45),(106,39),(119,185),(126,34),(133,136),(137,139),(148,150),(195,37),(207,209),(217,5)] [(24,[(0,3),(1,3),(2,3)]),(39,[(0,34),(1,37)]),(45,[(0,3),(1,3)]),(47,[(0,3),(1,3),(2,43),(3,45),(5,45),(7,3),(8,3)]),(57,[(0,3),(1,3),(2,9)]),(60,[(0,3),(1,3),(2,57),(5,9),(6,58)]),(66,[(0,3),(1,3),(2,34),(3,37),(4,60),(11,58),(12,34),(13,63),(14,64)]),(73,[(0,34),(1,22)]),(80,[(0,43),(1,45)]),(84,[(0,82)]),(100,[(0,43),(1,98)]),(110,[(0,3),(1,3)]),(136,[(0,43),(1,101)]),(139,[(0,3),(1,3)]),(143,[(0,3),(1,3)]),(150,[(0,45),(2,3)]),(185,[(0,3),(1,4)]),(198,[(0,3),(1,3)]),(209,[(0,43),(1,43)]),(219,[(0,216),(1,217)])] YB [(2,8),(3,8),(4,1),(5,1),(9,16),(22,24),(24,24),(30,24),(34,24),(37,24),(39,48),(43,24),(45,16),(47,88),(55,8),(57,32),(58,24),(60,88),(63,24),(64,24),(66,248),(67,24),(69,8),(73,48),(74,24),(80,40),(82,8),(84,8),(87,8),(95,24),(98,24),(100,48),(101,24),(106,24),(110,16),(111,8),(114,8),(119,24),(126,24),(133,24),(136,48),(137,24),(139,16),(143,16),(147,8),(148,24),(150,24),(159,8),(170,8),(173,8),(176,8),(178,8),(185,16),(194,8),(195,24),(198,16),(207,24),(209,48),(216,8),(217,24),(219,32),(229,8),(236,4),(238,8),(254,8),(257,8),(261,8),(278,8)] Yx [24,39,45,47,57,60,66,73,80,84,100,110,136,139,143,150,185,198,209,219] [2,3,4,5,9,22,24,30,34,37,39,43,45,47,55,57,58,60,63,64,66,67,69,73,74,80,82,84,87,95,98,100,101,106,110,111,114,119,126,133,136,137,139,143,147,148,150,159,170,173,176,178,185,194,195,198,207,209,216,217,219,229,236,238,254,257,261,278] YF [0]
set_option maxRecDepth 100000 in
theorem tab_ok:TIok Tryz.prog tab:=by
 refine TI.of_ok (by kernel_rfl) (by kernel_rfl) (by kernel_rfl) (by kernel_rfl) ?_ (by kernel_rfl) ?_ (by kernel_rfl) (by kernel_rfl) ?_
 ·intro p hp
  simp only [YB,Zf,List.not_mem_nil,or_false] at hp
  rcases hp with rfl|rfl|rfl|rfl|rfl|rfl|rfl|rfl|rfl|rfl|rfl|rfl|rfl|rfl|rfl|rfl|rfl|rfl|rfl|rfl|rfl|rfl|rfl|rfl|rfl|rfl|rfl|rfl|rfl|rfl|rfl|rfl|rfl|rfl|rfl|rfl|rfl|rfl|rfl|rfl|rfl|rfl|rfl|rfl|rfl|rfl|rfl|rfl|rfl|rfl|rfl|rfl|rfl|rfl|rfl|rfl|rfl|rfl|rfl|rfl|rfl|rfl|rfl|rfl|rfl|rfl|rfl|rfl<;>kernel_rfl
 ·intro p hp
  simp only [Yx,Zf,List.not_mem_nil,or_false] at hp
  rcases hp with rfl|rfl|rfl|rfl|rfl|rfl|rfl|rfl|rfl|rfl|rfl|rfl|rfl|rfl|rfl|rfl|rfl|rfl|rfl|rfl|rfl|rfl|rfl|rfl|rfl|rfl|rfl|rfl|rfl|rfl|rfl|rfl|rfl|rfl|rfl|rfl|rfl|rfl|rfl<;>kernel_rfl
 ·intro p hp
  simp only [YF,Zf,List.not_mem_nil,or_false] at hp
  rcases hp with rfl|rfl|rfl|rfl|rfl|rfl|rfl|rfl<;>exact NL (by kernel_rfl)
def Yl:TI := { tab with soft:=true }
theorem tabS_ok:TIok Tryz.prog Yl:=⟨tab_ok.size,tab_ok.agg,tab_ok.elem,tab_ok.field,tab_ok.zero,tab_ok.bytes,tab_ok.kind,tab_ok.struct,tab_ok.zok,tab_ok.eqs⟩
theorem mixed:Tryz.prog.follows .mixedOrders=true:=by kernel_rfl
end Go.Proofs.YtnbnpnmkgemdeaaGreatDoor
