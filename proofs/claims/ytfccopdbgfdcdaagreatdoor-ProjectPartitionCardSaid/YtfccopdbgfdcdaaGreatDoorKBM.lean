/- Parts of the proof, joined. No condition. -/
import Derived.Test.YtfccopdbgfdcdaaGreatDoorKBL
import Derived.Test.YtfccopdbgfdcdaaGreatDoorKBI
import Derived.Test.YtfccopdbgfdcdaaGreatDoorKAM
set_option linter.unusedSimpArgs false
set_option linter.unusedVariables false
namespace Go.Proofs.YtfccopdbgfdcdaaGreatDoor
open Go.RowKit Go.MapKept
set_option maxRecDepth 100000
theorem st_appO {P:Program} {ti:TI} {N:Nat} {ds:List (Option Tmp)} {K:Tm→List Ob→Prop} {o:Oper} {rest:List Oper} {T:Tm} {L L':List Ob} {x y:Operand} {t tx E:TypeId} {es xs:List (List AC)} {i n k by_ d:Nat} {vx:AV} (hd:o.dst=some d) (hN:Nat.blt d N=true) (hg:gdv ds T o.guard=some true)
  (ho:o.op = .call { callee := .builtin .append,args := #[x,y],argTypes := #[t,tx] }) (hx:look T x=some (.one (.own es i))) (hy:look T y=some vx) (hl:listOf vx=some xs) (ht:ti.elem t=some E) (hsz:ti.size E=some k) (hb:ti.bytes E=some by_) (hL:L[i]?=some (.spare n k))
  (hφ:(ti.elem tx).isSome∧es.length=n∧(ti.zok E=true∧0<k)∧(∀ e∈xs,e.length=k)∧(n+xs.length)*by_≤140737488355328∧n+xs.length≤140737488355328) (hL':L.set i (.spare (n+xs.length) k)=L')
  (h:awOps P ti N ds K rest ((d, .one (.own (es++xs) i))::T) L'):awOps P ti N ds K (o::rest) T L :=
 st_lop hd hN hg (v := .one (.own (es++xs) i)) (L':=L.set i (.spare (n+xs.length) k)) (φ:=(ti.elem tx).isSome∧k=k∧es.length=n∧(ti.zok E=true∧0<k)∧(∀ e∈xs,e.length=k)∧(n+xs.length)*by_≤140737488355328∧n+xs.length≤140737488355328)
  (by rw [ho];simp [lop,hx,hy,lopApp,hl,ht,hsz,hb,hL]) ⟨hφ.1,rfl,hφ.2⟩ (by rw [hL'];exact h)
set_option maxHeartbeats 8000000 in
theorem rows_pure (l:List Fct) (hl:l.length≤19) (h : ∀ f∈l,f.row.length≤1000 ∧ ∀ v∈f.row,VOK v):Pure Tryz.prog 136 [.one (.lst (l.map cFct))] (.val (.one (.lst ((rowsP l).map cSGroupcoalesce)))):=by
 refine pa_ tabQ_ok Tryz.func136 rfl rfl Tryz.ntmps136 (by simp) ?_
 simp only [argT,PV.av,List.map_cons,List.map_nil]
 obtain ⟨n,hn⟩ : ∃ n,l.length=n:=⟨_,rfl⟩
 have hml:(((l.map cFct).length:Nat):Int)=n:=by simp [hn]
 repeat' (first
  | refine st_nil ?_
  | refine st_pop rfl rfl rfl rfl ph_ ?_
  | refine st_lop rfl rfl rfl rfl ph_ ?_
  | refine sS_ rfl rfl rfl ph_ ?_
  | refine st_lit rfl rfl rfl rfl ph_ ?_
  | refine st_skip rfl rfl rfl ?_
  | refine sk0_ rfl rfl ?_
  | (refine st_if rfl (fun hb=>?_) (fun hb=>?_)<;>(first|exact (fx_ hb).elim|rw [hb]))
  | refine aw_seq ?_
  | refine aw_region tabQ_ok _ rfl ?_
  | refine aw_drawn2 tabXS_ok _ rfl mx_ (by decide +kernel) ?_
  | (refine aw_cond rfl (fun hb=>?_) (fun hb=>?_)<;>(try exact (fx_ hb).elim))
  | refine aw_block ?_
  | refine aw_exit ?_
  | refine aw_ret ?_
  | refine aw_skip ?_
  | (refine st_sop rfl rfl rfl rfl rfl sop_makeMap ?_))
 refine aw_loop (fun i:Nat=>[(0, .one (.c (.lst (l.map cFct)))),(3, .one (.mp 0)),(4,slotC (gfoldC (l.take i))),(11, .one (.c (.lst (l.map cFct)))),(12, .one (.c (.int .i64 n))),(13, .one (.c (.int .i64 i)))]) (fun i=>objC (gfoldC (l.take i))) (fun i=>i≤n) (fun i=>n-i) 0 (by omega) (fun _ _=>Nat.zero_le _)
  (fm_ ⟨rfl,rfl,rfl,rfl,slot_int hml,rfl,trivial⟩ [] rfl ⟨trivial,(by cases (gfoldC (l.take 0))<;>first|(show 0<_;simp [objC,objN])|skip),slotC_below _,trivial,trivial,trivial,trivial⟩ (objC_below _)) ?_
 intro i hi
 have hgl:=gfoldC_len (l.take i)
 have hgm:=gfoldC_mem (l.take i)
 rw [List.length_take] at hgl
 by_cases hlt:i<n
 ·obtain ⟨f,hx⟩:=gol_ (show i<l.length by omega)
  have hfm:=List.mem_of_getElem? hx
  have hN:decide ((i:Int)<n)=true:=by simp;exact hlt
  have hnx:gfoldC (l.take (i+1))=gstepC (gfoldC (l.take i)) f:=by rw [take_succ hx];exact gfoldC_snoc _ _
  have hpv:=gPV_ok (gPV_eq f.valid)
  have hky:=keyC_pure f.row (h f hfm).1 (h f hfm).2
  have hidx:(l.map cFct)[((i:Nat):Int).toNat]?=some (cFct f):=idx_map hx
  generalize gfoldC (l.take i)=G at hgl hgm hnx
  unfold gstepC at hnx
  obtain ⟨row,lo,hi2⟩:=f
  dsimp only at hnx hky hpv
  have hcnt:l.length≤19:=hl
  repeat' (first
   | refine st_nil ?_
   | refine st_pop rfl rfl rfl rfl ph_ ?_
   | refine st_lop rfl rfl rfl rfl ph_ ?_
   | refine sS_ rfl rfl rfl ph_ ?_
   | refine st_lit rfl rfl rfl rfl ph_ ?_
   | refine st_skip rfl rfl rfl ?_
   | refine sk0_ rfl rfl ?_
   | (refine st_if rfl (fun hb=>?_) (fun hb=>?_)<;>(first|exact (fx_ hb).elim|rw [hb]))
   | refine aw_seq ?_
   | (refine aw_cond rfl (fun hb=>?_) (fun hb=>?_)<;>(try exact (fx_ hb).elim))
   | refine aw_block ?_
   | refine aw_exit ?_
   | refine aw_ret ?_
   | refine aw_skip ?_)
  refine aw_region tabQ_ok _ rfl ?_
  repeat' (first
   | refine st_nil ?_
   | rw [hN]
   | refine st_pop rfl rfl rfl rfl ph_ ?_
   | (refine st_idx rfl rfl rfl rfl rfl rfl rfl rfl hidx ?_ ?_; · exact ⟨by omega,rfl⟩)
   | refine st_lop rfl rfl rfl rfl ph_ ?_
   | refine sS_ rfl rfl rfl ph_ ?_
   | refine st_lit rfl rfl rfl rfl ph_ ?_
   | refine st_skip rfl rfl rfl ?_
   | refine sk0_ rfl rfl ?_
   | (refine st_if rfl (fun hb=>?_) (fun hb=>?_)<;>(first|exact (fx_ hb).elim|rw [hb]))
   | refine aw_seq ?_
   | (refine aw_cond rfl (fun hb=>?_) (fun hb=>?_)<;>(try exact (fx_ hb).elim))
   | refine aw_block ?_
   | refine aw_exit ?_
   | refine aw_ret ?_
   | refine aw_skip ?_)
  refine aw_region tabQ_ok _ rfl ?_
  repeat' (first
   | refine st_nil ?_
   | (refine st_storeE rfl rfl rfl rfl rfl rfl rfl ?_)
   | refine st_pop rfl rfl rfl rfl ph_ ?_
   | (refine st_idx rfl rfl rfl rfl rfl rfl rfl rfl hidx ?_ ?_; · exact ⟨by omega,rfl⟩)
   | refine st_lop rfl rfl rfl rfl ph_ ?_
   | refine sS_ rfl rfl rfl ph_ ?_
   | refine st_lit rfl rfl rfl rfl ph_ ?_
   | refine st_skip rfl rfl rfl ?_
   | refine sk0_ rfl rfl ?_
   | (refine st_if rfl (fun hb=>?_) (fun hb=>?_)<;>(first|exact (fx_ hb).elim|rw [hb]))
   | refine aw_seq ?_
   | (refine aw_cond rfl (fun hb=>?_) (fun hb=>?_)<;>(try exact (fx_ hb).elim))
   | refine aw_block ?_
   | refine aw_exit ?_
   | refine aw_ret ?_
   | refine aw_skip ?_)
  refine aw_frzE (A:=objC G) rfl (by simp only [List.map_cons,List.map_nil,un_slotC];simp only [unA,unS,if_true,List.drop_zero];rfl) ?_
  cases hv:pvalB ⟨lo,hi2⟩ with
  | false =>
   rw [hv,cond_false] at hnx
   rw [hv] at hpv
   repeat' (first
    | refine st_nil ?_
    | rw [hN]
    | refine st_pop rfl rfl rfl rfl ph_ ?_
    | (refine st_idx rfl rfl rfl rfl rfl rfl rfl rfl hidx ?_ ?_; · exact ⟨by omega,rfl⟩)
    | refine st_lop rfl rfl rfl rfl ph_ ?_
    | refine sS_ rfl rfl rfl ph_ ?_
    | refine st_lit rfl rfl rfl rfl ph_ ?_
    | refine st_skip rfl rfl rfl ?_
    | refine sk0_ rfl rfl ?_
    | refine st_call rfl rfl rfl rfl hpv rfl ?_
    | refine st_call rfl rfl rfl rfl hky rfl ?_
    | (refine st_if rfl (fun hb=>?_) (fun hb=>?_)<;>(first|exact (fx_ hb).elim|rw [hb]))
    | refine aw_seq ?_
    | refine aw_region tabQ_ok _ rfl ?_
    | refine aw_drawn2 tabXS_ok _ rfl mx_ (by decide +kernel) ?_
    | (refine aw_cond rfl (fun hb=>?_) (fun hb=>?_)<;>(try exact (fx_ hb).elim))
    | refine aw_block ?_
    | refine aw_exit ?_
    | refine aw_ret ?_
    | refine aw_skip ?_)
   exact ⟨i+1,by omega,by omega,by rw [hnx];exact fm_ ⟨rfl,rfl,rfl,rfl,rfl,slot_int (wrap_eq (by omega) (by omega)),trivial⟩ [.dead] rfl ⟨trivial,(by cases G<;>first|(show 0<_;simp [objC,objN])),slotC_below _,trivial,trivial,trivial,trivial⟩ (objC_below _)⟩
  | true =>
   rw [hv,cond_true] at hnx
   rw [hv] at hpv
   cases hf:gfind (keyC row) G with
   | some j =>
    have hjl:=gfind_lt hf
    obtain ⟨g,hg⟩:=gol_ hjl
    rw [hf] at hnx
    dsimp only at hnx
    rw [hg] at hnx
    dsimp only at hnx
    have hGn:G≠[]:=by intro e;rw [e] at hjl;simp at hjl
    have hgl2:=(hgm g (List.mem_of_getElem? hg)).1
    rw [List.length_take] at hgl2
    rw [objC_ne hGn,slotC_ne hGn]
    have ej:0+((j:Nat):Int).toNat=j:=by simp
    have hgj:(rowF 0 G)[0+((j:Nat):Int).toNat]?=some [.c (tRow g.f.row), .own (pRow g.ps) (4+3*(0+j))]:=by rw [ej];exact rowF_get G 0 j g hg
    have hLl:=objN_len hGn
    have hLj:(objN G++[Ob.dead])[4+3*(0+j)]?=some (.spare g.ps.length 2):=by
     rw [List.getElem?_append_left (by omega)]
     rw [show 4+3*(0+j)=3*j+1+1+1+1 by omega]
     exact tkC_get hg
    have hset:(objN G++[Ob.dead]).set (4+3*(0+j)) (.spare (g.ps.length+1) 2) = .map (mOf 0 G) :: .dead::gbH G :: .row (141+65536*G.length) (rowF 0 G) 2::(tkC (G.set j ⟨g.f,g.ps++[⟨lo,hi2⟩]⟩)++[.dead]):=by
     rw [List.set_append_left _ _ (by omega)]
     have e6:g.ps.length+1=(g.ps++[(⟨lo,hi2⟩:Per)]).length:=by simp
     rw [e6,show 4+3*(0+j)=3*j+1+1+1+1 by omega, ← tkC_set (g.ps++[(⟨lo,hi2⟩:Per)]) hg]
     rfl
    have hpl:(pRow g.ps).length=g.ps.length:=by simp [pRow]
    have hstr:(.map (mOf 0 G) :: .dead::gbH G :: .row (141+65536*G.length) (rowF 0 G) 2::(tkC (G.set j ⟨g.f,g.ps++[⟨lo,hi2⟩]⟩)++[Ob.dead])).set 3 (.row (141+65536*G.length) ((rowF 0 G).set (0+((j:Nat):Int).toNat) [.c (tRow g.f.row), .own (pRow g.ps++[[.int .i64 lo, .int .i64 hi2]]) (4+3*(0+j))]) 2)=objN (G.set j ⟨g.f,g.ps++[⟨lo,hi2⟩]⟩)++[.dead]:=by
     have e7:pRow g.ps++[[.int .i64 lo, .int .i64 hi2]]=pRow (g.ps++[⟨lo,hi2⟩]):=by simp [pRow,cPer]
     rw [ej,e7,rowF_set G 0 j g _ hg]
     unfold objN
     rw [gbH_set _ hg,mOf_set hg,List.length_set]
     rfl
    have hG2:G.set j ⟨g.f,g.ps++[⟨lo,hi2⟩]⟩≠[]:=by intro e;have:=congrArg List.length e;simp at this;exact hGn this
    repeat' (first
     | refine st_nil ?_
     | (refine st_ldr rfl rfl rfl rfl rfl rfl rfl (e:=[.c (tRow g.f.row), .own (pRow g.ps) (4+3*(0+j))]) (by exact hgj) rfl ?_)
     | (refine st_appO (k:=2) (by_:=16) rfl rfl rfl rfl rfl rfl rfl rfl rfl rfl (by exact hLj) ⟨rfl,hpl,⟨rfl,by decide⟩,by intro e he;simp at he;subst he;rfl,by show (_+1)*16≤_;omega,by show _+1≤_;omega⟩ (by exact hset) ?_)
     | (refine st_str rfl rfl rfl rfl rfl rfl (e:=[.c (tRow g.f.row), .own (pRow g.ps) (4+3*(0+j))]) (by exact hgj) ⟨Nat.le_refl _,rfl⟩ (by exact hstr) ?_)
     | (refine st_pop rfl rfl rfl rfl ?_ ?_; · (repeat' (first|exact trivial|rfl|exact Nat.le_of_ble_eq_true rfl|omega|(intro e he;simp at he;subst he;rfl)|apply And.intro)))
     | (refine st_lop rfl rfl rfl rfl ?_ ?_; · (repeat' (first|exact trivial|rfl|exact Nat.le_of_ble_eq_true rfl|omega|(intro e he;simp at he;subst he;rfl)|apply And.intro)))
     | (refine sS_ rfl rfl rfl ?_ ?_; · (repeat' (first|exact trivial|rfl|exact Nat.le_of_ble_eq_true rfl|omega|(intro e he;simp at he;subst he;rfl)|apply And.intro)))
     | (refine st_lit rfl rfl rfl rfl ?_ ?_; · (repeat' (first|exact trivial|rfl|exact Nat.le_of_ble_eq_true rfl|omega|(intro e he;simp at he;subst he;rfl)|apply And.intro)))
     | refine st_skip rfl rfl rfl ?_
     | refine sk0_ rfl rfl ?_
     | refine st_call rfl rfl rfl rfl hpv rfl ?_
     | refine st_call rfl rfl rfl rfl hky rfl ?_
     | (refine st_if rfl (fun hb=>?_) (fun hb=>?_)<;>(first|exact (fx_ hb).elim|rw [hb]))
     | refine aw_seq ?_
     | refine aw_region tabQ_ok _ rfl ?_
     | refine aw_drawn2 tabXS_ok _ rfl mx_ (by decide +kernel) ?_
     | (refine aw_cond rfl (fun hb=>?_) (fun hb=>?_)<;>(try exact (fx_ hb).elim))
     | refine aw_block ?_
     | refine aw_exit ?_
     | refine aw_ret ?_
     | refine aw_skip ?_
     | (refine st_sopq rfl rfl rfl rfl rfl (sop_get1 tabQ_ok hf rfl rfl rfl rfl rfl rfl) ?_))
    exact ⟨i+1,by omega,by omega,by rw [hnx,objC_ne hG2,slotC_ne hG2,List.length_set];exact fm_ ⟨rfl,rfl,rfl,rfl,rfl,slot_int (wrap_eq (by omega) (by omega)),trivial⟩ [.dead] rfl ⟨trivial,(by show 0<_;rw [objN_len hG2];omega),(by show 3<_;rw [objN_len hG2,List.length_set];omega),trivial,trivial,trivial,trivial⟩ (by rw [← objC_ne hG2];exact objC_below _)⟩
   | none =>
    rw [hf] at hnx
    dsimp only at hnx
    cases hGe:G with
    | nil =>
     rw [hGe] at hf hnx
     repeat' (first
      | refine st_nil ?_
      | (refine st_sop0 rfl rfl rfl rfl (sop_putG (G:=[]) ⟨⟨row,⟨lo,hi2⟩⟩,[⟨lo,hi2⟩]⟩ tabQ_ok hf rfl rfl rfl rfl rfl rfl rfl) ?_)
      | (refine st_sop rfl rfl rfl rfl rfl (sop_litAgg (k:=2) (E:=141) (cs:=[.c (tRow row), .emp]) tabQ_ok rfl rfl (by decide) (by decide) rfl (by decide) rfl rfl) ?_)
      | (refine st_sop rfl rfl rfl rfl rfl (sop_app0 (E:=141) (k:=2) (by_:=48) (xs:=[[.c (tRow row), .emp]]) tabQ_ok rfl rfl rfl ⟨rfl,_,rfl,Nat.le_of_ble_eq_true rfl⟩ rfl (by decide) rfl rfl rfl (by decide) (Nat.le_of_ble_eq_true rfl) (Nat.le_of_ble_eq_true rfl) (Nat.le_of_ble_eq_true rfl)) ?_)
      | (refine st_ldr rfl rfl rfl rfl rfl rfl rfl (e:=[.c (tRow row), .emp]) (by rfl) rfl ?_)
      | (refine st_str rfl rfl rfl rfl rfl rfl (e:=[.c (tRow row), .emp]) (by rfl) ⟨Nat.le_refl _,rfl⟩ rfl ?_)
      | (refine st_pop rfl rfl rfl rfl ?_ ?_; · (repeat' (first|exact trivial|rfl|exact Nat.le_of_ble_eq_true rfl|omega|(intro e he;simp at he;subst he;rfl)|decide|(simp only [List.length_cons,List.length_nil];omega)|(simp only [List.length_cons,List.length_nil,Nat.zero_add];decide)|apply And.intro)))
      | (refine st_lop rfl rfl rfl rfl ?_ ?_; · (repeat' (first|exact trivial|rfl|exact Nat.le_of_ble_eq_true rfl|omega|(intro e he;simp at he;subst he;rfl)|decide|(simp only [List.length_cons,List.length_nil];omega)|(simp only [List.length_cons,List.length_nil,Nat.zero_add];decide)|apply And.intro)))
      | (refine sS_ rfl rfl rfl ?_ ?_; · (repeat' (first|exact trivial|rfl|exact Nat.le_of_ble_eq_true rfl|omega|(intro e he;simp at he;subst he;rfl)|decide|(simp only [List.length_cons,List.length_nil];omega)|(simp only [List.length_cons,List.length_nil,Nat.zero_add];decide)|apply And.intro)))
      | (refine st_lit rfl rfl rfl rfl ?_ ?_; · (repeat' (first|exact trivial|rfl|exact Nat.le_of_ble_eq_true rfl|omega|(intro e he;simp at he;subst he;rfl)|decide|(simp only [List.length_cons,List.length_nil];omega)|(simp only [List.length_cons,List.length_nil,Nat.zero_add];decide)|apply And.intro)))
      | refine st_skip rfl rfl rfl ?_
      | refine sk0_ rfl rfl ?_
      | refine st_call rfl rfl rfl rfl hpv rfl ?_
      | refine st_call rfl rfl rfl rfl hky rfl ?_
      | (refine st_if rfl (fun hb=>?_) (fun hb=>?_)<;>(first|exact (fx_ hb).elim|rw [hb]))
      | refine aw_seq ?_
      | refine aw_region tabQ_ok _ rfl ?_
      | refine aw_drawn2 tabXS_ok _ rfl mx_ (by decide +kernel) ?_
      | (refine aw_cond rfl (fun hb=>?_) (fun hb=>?_)<;>(try exact (fx_ hb).elim))
      | refine aw_block ?_
      | refine aw_exit ?_
      | refine aw_ret ?_
      | refine aw_skip ?_
      | (refine st_sopq rfl rfl rfl rfl rfl (sop_get0 (G:=[]) tabQ_ok hf rfl rfl rfl rfl rfl rfl) ?_))
     exact ⟨i+1,by omega,by omega,by rw [hnx];exact fm_ ⟨rfl,rfl,rfl,rfl,rfl,slot_int (wrap_eq (by omega) (by omega)),trivial⟩ [] rfl ⟨trivial,(by show 0<5;omega),slotC_below _,trivial,trivial,trivial,trivial⟩ (objC_below _)⟩
    | cons g0 G0 =>
     have hGn:G≠[]:=by rw [hGe];simp
     rw [← hGe]
     rw [objC_ne hGn,slotC_ne hGn]
     have htl:=tkC_len hGn
     obtain ⟨gn,hgn⟩ : ∃ gn:GrpC,gn=⟨⟨row,⟨lo,hi2⟩⟩,[⟨lo,hi2⟩]⟩:=⟨_,rfl⟩
     have hgk:keyC gn.f.row=keyC row:=by rw [hgn]
     rw [← hgn] at hnx
     have hgbe:gbG gn=Ob.row (141+65536) [[SV.c (tRow row),SV.emp]] 2:=by rw [hgn];rfl
     have hLa:(Ob.map (mOf 0 (G++[gn]))::Ob.dead::gbH G::Ob.row (141+65536*G.length) (rowF 0 G) 2::(tkC G++[Ob.dead])).length=3+3*G.length:=by simp;omega
     have hq:((Ob.map (mOf 0 (G++[gn]))::Ob.dead::gbH G::Ob.row (141+65536*G.length) (rowF 0 G) 2::(tkC G++[Ob.dead]))++[Ob.row (141+65536) [[SV.c (tRow row),SV.emp]] 2])[3+3*G.length]?=some (Ob.row (141+65536) [[SV.c (tRow row),SV.emp]] 2):=by
      rw [List.getElem?_append_right (by rw [hLa];exact Nat.le_refl _),hLa,Nat.sub_self];rfl
     have hsrc:srcS ((Ob.map (mOf 0 (G++[gn]))::Ob.dead::gbH G::Ob.row (141+65536*G.length) (rowF 0 G) 2::(tkC G++[Ob.dead]))++[Ob.row (141+65536) [[SV.c (tRow row),SV.emp]] 2]) (.one (.sl (3+3*G.length) (141+65536) 0 1))=some [[SV.c (tRow row),SV.emp]]:=by
      simp only [srcS,hq];rfl
     have hsok:srcOK tabQ ((Ob.map (mOf 0 (G++[gn]))::Ob.dead::gbH G::Ob.row (141+65536*G.length) (rowF 0 G) 2::(tkC G++[Ob.dead]))++[Ob.row (141+65536) [[SV.c (tRow row),SV.emp]] 2]) 2 138 (.one (.sl (3+3*G.length) (141+65536) 0 1)):=⟨rfl,[[SV.c (tRow row),SV.emp]],hq,Nat.le_refl _⟩
     have hL2:((Ob.map (mOf 0 (G++[gn]))::Ob.dead::gbH G::Ob.row (141+65536*G.length) (rowF 0 G) 2::(tkC G++[Ob.dead]))++[Ob.row (141+65536) [[SV.c (tRow row),SV.emp]] 2]).set 3 (Ob.row (141+65536*G.length+65536) (rowF 0 G++[[SV.c (tRow row),SV.emp]]) 2)=Ob.map (mOf 0 (G++[gn]))::Ob.dead::gbH G::Ob.row (141+65536*G.length+65536) (rowF 0 G++[[SV.c (tRow row),SV.emp]]) 2::(tkC G++[Ob.dead,Ob.row (141+65536) [[SV.c (tRow row),SV.emp]] 2]):=by simp
     have hL2l:(Ob.map (mOf 0 (G++[gn]))::Ob.dead::gbH G::Ob.row (141+65536*G.length+65536) (rowF 0 G++[[SV.c (tRow row),SV.emp]]) 2::(tkC G++[Ob.dead,Ob.row (141+65536) [[SV.c (tRow row),SV.emp]] 2])).length=4+3*G.length:=by simp;omega
     have eG:0+((G.length:Nat):Int).toNat=G.length:=by simp
     have hgG:(rowF 0 G++[[SV.c (tRow row), .emp]])[0+((G.length:Nat):Int).toNat]?=some [SV.c (tRow row),SV.emp]:=by
      rw [eG,List.getElem?_append_right (by rw [rowF_len];exact Nat.le_refl _),rowF_len];simp
     have e10:(G++[gn]).length=G.length+1:=by simp
     have e9:141+65536*(G++[gn]).length=141+65536*G.length+65536:=by rw [e10];omega
     have hG2:G++[gn]≠[]:=by simp
     have hstr:((Ob.map (mOf 0 (G++[gn]))::Ob.dead::gbH G::Ob.row (141+65536*G.length+65536) (rowF 0 G++[[SV.c (tRow row),SV.emp]]) 2::(tkC G++[Ob.dead,Ob.row (141+65536) [[SV.c (tRow row),SV.emp]] 2]))++[Ob.spare 1 2]).set 3 (Ob.row (141+65536*G.length+65536) ((rowF 0 G++[[SV.c (tRow row), .emp]]).set (0+((G.length:Nat):Int).toNat) [SV.c (tRow row),SV.own [[.int .i64 lo, .int .i64 hi2]] (Ob.map (mOf 0 (G++[gn]))::Ob.dead::gbH G::Ob.row (141+65536*G.length+65536) (rowF 0 G++[[SV.c (tRow row),SV.emp]]) 2::(tkC G++[Ob.dead,Ob.row (141+65536) [[SV.c (tRow row),SV.emp]] 2])).length]) 2)=objN (G++[gn]):=by
      have e8:(rowF 0 G++[[SV.c (tRow row), .emp]]).set G.length [SV.c (tRow row),SV.own [[.int .i64 lo, .int .i64 hi2]] (4+3*G.length)]=rowF 0 (G++[gn]):=by
       rw [rowF_snoc,List.set_append_right _ _ (by rw [rowF_len];exact Nat.le_refl _),rowF_len,hgn]
       simp [pRow,cPer]
      rw [eG,hL2l,e8]
      unfold objN
      rw [gbH_snoc gn hGn,tkC_snoc gn hGn,e9,hgbe,hgn]
      simp [bxG]
     repeat' (first
      | refine st_nil ?_
      | (refine st_pop rfl rfl rfl rfl ?_ ?_; · (repeat' (first|exact trivial|rfl|exact Nat.le_of_ble_eq_true rfl|omega|(intro e he;simp at he;subst he;rfl)|decide|(show _<_+1;omega)|apply And.intro)))
      | (refine st_lop rfl rfl rfl rfl ?_ ?_; · (repeat' (first|exact trivial|rfl|exact Nat.le_of_ble_eq_true rfl|omega|(intro e he;simp at he;subst he;rfl)|decide|(show _<_+1;omega)|apply And.intro)))
      | (refine sS_ rfl rfl rfl ?_ ?_; · (repeat' (first|exact trivial|rfl|exact Nat.le_of_ble_eq_true rfl|omega|(intro e he;simp at he;subst he;rfl)|decide|(show _<_+1;omega)|apply And.intro)))
      | (refine st_lit rfl rfl rfl rfl ?_ ?_; · (repeat' (first|exact trivial|rfl|exact Nat.le_of_ble_eq_true rfl|omega|(intro e he;simp at he;subst he;rfl)|decide|(show _<_+1;omega)|apply And.intro)))
      | refine st_skip rfl rfl rfl ?_
      | refine sk0_ rfl rfl ?_
      | refine st_call rfl rfl rfl rfl hpv rfl ?_
      | refine st_call rfl rfl rfl rfl hky rfl ?_
      | (refine st_if rfl (fun hb=>?_) (fun hb=>?_)<;>(first|exact (fx_ hb).elim|rw [hb]))
      | refine aw_seq ?_
      | refine aw_region tabQ_ok _ rfl ?_
      | refine aw_drawn2 tabXS_ok _ rfl mx_ (by decide +kernel) ?_
      | (refine aw_cond rfl (fun hb=>?_) (fun hb=>?_)<;>(try exact (fx_ hb).elim))
      | refine aw_block ?_
      | refine aw_exit ?_
      | refine aw_ret ?_
      | refine aw_skip ?_
      | (refine st_sopq rfl rfl rfl rfl rfl (sop_get0 (G:=G) tabQ_ok hf rfl rfl rfl rfl rfl rfl) ?_))
     refine st_sop0 (L':=(Ob.map (mOf 0 (G++[gn]))::Ob.dead::gbH G::Ob.row (141+65536*G.length) (rowF 0 G) 2::(tkC G++[Ob.dead]))) rfl rfl rfl rfl (sop_putG (G:=G) (id:=0) gn tabQ_ok hf hgk rfl rfl rfl rfl rfl rfl) ?_
     repeat' (first
      | refine st_nil ?_
      | (refine st_sop0 (L':=(Ob.map (mOf 0 (G++[gn]))::Ob.dead::gbH G::Ob.row (141+65536*G.length) (rowF 0 G) 2::(tkC G++[Ob.dead]))) rfl rfl rfl rfl (sop_putG (G:=G) (id:=0) gn tabQ_ok hf hgk rfl rfl rfl rfl rfl rfl) ?_)
      | (refine st_sop (v := .one (.sl (3+3*G.length) (141+65536) 0 1)) (L':=(Ob.map (mOf 0 (G++[gn]))::Ob.dead::gbH G::Ob.row (141+65536*G.length) (rowF 0 G) 2::(tkC G++[Ob.dead]))++[Ob.row (141+65536) [[SV.c (tRow row),SV.emp]] 2]) rfl rfl rfl rfl rfl (by rw [← hLa];exact sop_litAgg (k:=2) (E:=141) (cs:=[SV.c (tRow row),SV.emp]) tabQ_ok rfl rfl (by decide) (by decide) rfl (by decide) rfl rfl) ?_)
      | (refine st_sop (v := .one (.sl 3 (141+65536*G.length+65536) 0 (G.length+1))) (L':=(Ob.map (mOf 0 (G++[gn]))::Ob.dead::gbH G::Ob.row (141+65536*G.length+65536) (rowF 0 G++[[SV.c (tRow row),SV.emp]]) 2::(tkC G++[Ob.dead,Ob.row (141+65536) [[SV.c (tRow row),SV.emp]] 2]))) rfl rfl rfl rfl rfl (by rw [← hL2];exact sop_app (k:=2) (by_:=48) (xs:=[[SV.c (tRow row),SV.emp]]) tabQ_ok rfl rfl rfl hsrc hsok rfl (by show (141+65536*G.length)%65536=141;omega) rfl rfl rfl (by decide) (rowF_len G 0) (by show (_+1)*48≤_;omega) (by show _+1≤_;omega)) ?_)
      | (refine st_ldr rfl rfl rfl rfl rfl rfl rfl (e:=[SV.c (tRow row),SV.emp]) (by exact hgG) rfl ?_)
      | (refine st_str rfl rfl rfl rfl rfl rfl (e:=[SV.c (tRow row),SV.emp]) (by exact hgG) ⟨Nat.le_refl _,rfl⟩ (by exact hstr) ?_)
      | (refine st_pop rfl rfl rfl rfl ?_ ?_; · (repeat' (first|exact trivial|rfl|exact Nat.le_of_ble_eq_true rfl|omega|(intro e he;simp at he;subst he;rfl)|decide|(show _<_+1;omega)|apply And.intro)))
      | (refine st_lop rfl rfl rfl rfl ?_ ?_; · (repeat' (first|exact trivial|rfl|exact Nat.le_of_ble_eq_true rfl|omega|(intro e he;simp at he;subst he;rfl)|decide|(show _<_+1;omega)|apply And.intro)))
      | (refine sS_ rfl rfl rfl ?_ ?_; · (repeat' (first|exact trivial|rfl|exact Nat.le_of_ble_eq_true rfl|omega|(intro e he;simp at he;subst he;rfl)|decide|(show _<_+1;omega)|apply And.intro)))
      | (refine st_lit rfl rfl rfl rfl ?_ ?_; · (repeat' (first|exact trivial|rfl|exact Nat.le_of_ble_eq_true rfl|omega|(intro e he;simp at he;subst he;rfl)|decide|(show _<_+1;omega)|apply And.intro)))
      | refine st_skip rfl rfl rfl ?_
      | refine sk0_ rfl rfl ?_
      | refine st_call rfl rfl rfl rfl hpv rfl ?_
      | refine st_call rfl rfl rfl rfl hky rfl ?_
      | (refine st_if rfl (fun hb=>?_) (fun hb=>?_)<;>(first|exact (fx_ hb).elim|rw [hb]))
      | refine aw_seq ?_
      | refine aw_region tabQ_ok _ rfl ?_
      | refine aw_drawn2 tabXS_ok _ rfl mx_ (by decide +kernel) ?_
      | (refine aw_cond rfl (fun hb=>?_) (fun hb=>?_)<;>(try exact (fx_ hb).elim))
      | refine aw_block ?_
      | refine aw_exit ?_
      | refine aw_ret ?_
      | refine aw_skip ?_
      | (refine st_sopq rfl rfl rfl rfl rfl (sop_get0 (G:=G) tabQ_ok hf rfl rfl rfl rfl rfl rfl) ?_))
     exact ⟨i+1,by omega,by omega,by rw [hnx,objC_ne hG2,slotC_ne hG2,e9,e10];exact fm_ ⟨rfl,rfl,rfl,rfl,rfl,slot_int (wrap_eq (by omega) (by omega)),trivial⟩ [] (List.append_nil _).symm ⟨trivial,(by show 0<_;rw [objN_len hG2];omega),(by show 3<_;rw [objN_len hG2,e10];omega),trivial,trivial,trivial,trivial⟩ (by rw [← objC_ne hG2];exact objC_below _)⟩
 ·have htk:l.take i=l:=List.take_of_length_le (by omega)
  have hN:decide ((i:Int)<n)=false:=by simp;omega
  rw [htk] at hgl hgm ⊢
  have hgl2:=gfoldC_len l
  have hrP:rowsP l=sortT cmpSG ((gfoldC l).map fun g=>(⟨g.f.row,g.ps⟩:SGroupcoalesce)):=rfl
  rw [hrP]
  clear hrP
  have hgm2 : ∀ g∈gfoldC l,g.f.row.length≤1000:=fun g hg=>(h _ (gfoldC_mem l g hg).2.1).1
  generalize gfoldC l=G at hgl hgm hgl2 hgm2 ⊢
  repeat' (first
   | refine st_nil ?_
   | refine st_pop rfl rfl rfl rfl ph_ ?_
   | refine st_lop rfl rfl rfl rfl ph_ ?_
   | refine sS_ rfl rfl rfl ph_ ?_
   | refine st_lit rfl rfl rfl rfl ph_ ?_
   | refine st_skip rfl rfl rfl ?_
   | refine sk0_ rfl rfl ?_
   | (refine st_if rfl (fun hb=>?_) (fun hb=>?_)<;>(first|exact (fx_ hb).elim|rw [hb]))
   | refine aw_seq ?_
   | (refine aw_cond rfl (fun hb=>?_) (fun hb=>?_)<;>(try exact (fx_ hb).elim))
   | refine aw_block ?_
   | refine aw_exit ?_
   | refine aw_ret ?_
   | refine aw_skip ?_)
  refine aw_region tabQ_ok _ rfl ?_
  repeat' (first
   | refine st_nil ?_
   | rw [hN]
   | refine st_pop rfl rfl rfl rfl ph_ ?_
   | (refine st_idx rfl rfl rfl rfl rfl rfl rfl rfl hidx ?_ ?_; · exact ⟨by omega,rfl⟩)
   | refine st_lop rfl rfl rfl rfl ph_ ?_
   | refine sS_ rfl rfl rfl ph_ ?_
   | refine st_lit rfl rfl rfl rfl ph_ ?_
   | refine st_skip rfl rfl rfl ?_
   | refine sk0_ rfl rfl ?_
   | (refine st_if rfl (fun hb=>?_) (fun hb=>?_)<;>(first|exact (fx_ hb).elim|rw [hb]))
   | refine aw_seq ?_
   | (refine aw_cond rfl (fun hb=>?_) (fun hb=>?_)<;>(try exact (fx_ hb).elim))
   | refine aw_block ?_
   | refine aw_exit ?_
   | refine aw_ret ?_
   | refine aw_skip ?_)
  cases hGe:G with
  | nil =>
   have e0:(sortT cmpSG (([]:List GrpC).map fun g=>(⟨g.f.row,g.ps⟩:SGroupcoalesce))).map cSGroupcoalesce=[]:=rfl
   rw [e0]
   repeat' (first
    | refine st_nil ?_
    | refine st_pop rfl rfl rfl rfl ph_ ?_
    | refine st_lop rfl rfl rfl rfl ph_ ?_
    | refine sS_ rfl rfl rfl ph_ ?_
    | refine st_lit rfl rfl rfl rfl ph_ ?_
    | refine st_skip rfl rfl rfl ?_
    | refine sk0_ rfl rfl ?_
    | refine st_call rfl rfl rfl rfl stable_nil rfl ?_
    | (refine st_if rfl (fun hb=>?_) (fun hb=>?_)<;>(first|exact (fx_ hb).elim|rw [hb]))
    | refine aw_seq ?_
    | refine aw_region tabQ_ok _ rfl ?_
    | refine aw_drawn2 tabXS_ok _ rfl mx_ (by decide +kernel) ?_
    | (refine aw_cond rfl (fun hb=>?_) (fun hb=>?_)<;>(try exact (fx_ hb).elim))
    | refine aw_block ?_
    | refine aw_exit ?_
    | refine aw_ret ?_
    | refine aw_skip ?_)
   exact end_ret (res_of rfl (by trivial) rfl)
  | cons g0 G0 =>
   have hGn:G≠[]:=by rw [hGe];simp
   rw [← hGe,objC_ne hGn,slotC_ne hGn]
   refine aw_normRow 3 rfl (normR_rowF G 0) ?_
   have e1:(G.map fun g=>[tRow g.f.row,AC.lst (pRow g.ps)]).map (List.map SV.c)=((G.map fun g=>(⟨g.f.row,g.ps⟩:SGroupcoalesce)).map encSG).map gCG:=by
    simp only [List.map_map];rfl
   rw [e1]
   obtain ⟨X,hX⟩ : ∃ X:List SGroupcoalesce,X=G.map fun g=>⟨g.f.row,g.ps⟩:=⟨_,rfl⟩
   have hXl:X.length=G.length:=by rw [hX];simp
   have hXr : ∀ s∈X,s.row.length≤1000:=by
    intro s hs
    rw [hX] at hs
    obtain ⟨g,hg,rfl⟩:=List.mem_map.1 hs
    exact hgm2 g hg
   rw [← hX]
   have e2:(objN G).set 3 (.row (141+65536*G.length) ((X.map encSG).map gCG) 2) = .map (mOf 0 G) :: .dead::gbH G :: .row (141+65536*G.length) ((X.map encSG).map gCG) 2::tkC G:=rfl
   rw [e2]
   have hrun:=sortS_runG 172 tcmpG (141+65536*G.length) (X.map encSG) G.length (by simp [hXl]) (by omega) (by
    intro x y hx hy
    obtain ⟨a,ha,rfl⟩:=List.mem_map.1 hx
    obtain ⟨b,hb,rfl⟩:=List.mem_map.1 hy
    have la:=hXr a ha
    have lb:=hXr b hb
    rw [tcmpG_enc]
    exact gRowsC_ok (gRowsC_eq a b (by omega) (by omega)))
   rw [isortG_enc] at hrun
   refine aw_region tabQ_ok _ rfl ?_
   repeat' (first
    | refine st_nil ?_
    | (refine st_run [3] rfl rfl rfl rfl hrun rfl (rfG3 rfl (args_below ⟨(by show 0<1;omega),trivial,trivial⟩)) rfl (jG3 (L' := .map (mOf 0 G) :: .dead::gbH G :: .row (141+65536*G.length) (((sortT cmpSG X).map encSG).map gCG) 2::tkC G) rfl) ?_)
    | refine st_pop rfl rfl rfl rfl ph_ ?_
    | refine st_lop rfl rfl rfl rfl ph_ ?_
    | refine sS_ rfl rfl rfl ph_ ?_
    | refine st_lit rfl rfl rfl rfl ph_ ?_
    | refine st_skip rfl rfl rfl ?_
    | refine sk0_ rfl rfl ?_
    | (refine st_if rfl (fun hb=>?_) (fun hb=>?_)<;>(first|exact (fx_ hb).elim|rw [hb]))
    | refine aw_seq ?_
    | (refine aw_cond rfl (fun hb=>?_) (fun hb=>?_)<;>(try exact (fx_ hb).elim))
    | refine aw_block ?_
    | refine aw_exit ?_
    | refine aw_ret ?_
    | refine aw_skip ?_)
   refine aw_freezeRow 3 (L := .map (mOf 0 G) :: .dead::gbH G :: .row (141+65536*G.length) (((sortT cmpSG X).map encSG).map gCG) 2::tkC G) rfl (normR_gCG _) ?_
   simp only [List.map_cons,List.map_nil,thA,thS,and_self,if_true,List.drop_zero]
   have e3:(((sortT cmpSG X).map encSG).map fun x=>[x.1,x.2]).take G.length=(sortT cmpSG X).map cSGroupcoalesce:=by
    rw [List.take_of_length_le (by simp [(sortT_perm cmpSG X).length_eq,hXl]),List.map_map];rfl
   rw [e3]
   repeat' (first
    | refine st_nil ?_
    | refine st_pop rfl rfl rfl rfl ph_ ?_
    | refine st_lop rfl rfl rfl rfl ph_ ?_
    | refine sS_ rfl rfl rfl ph_ ?_
    | refine st_lit rfl rfl rfl rfl ph_ ?_
    | refine st_skip rfl rfl rfl ?_
    | refine sk0_ rfl rfl ?_
    | (refine st_if rfl (fun hb=>?_) (fun hb=>?_)<;>(first|exact (fx_ hb).elim|rw [hb]))
    | refine aw_seq ?_
    | refine aw_region tabQ_ok _ rfl ?_
    | refine aw_drawn2 tabXS_ok _ rfl mx_ (by decide +kernel) ?_
    | (refine aw_cond rfl (fun hb=>?_) (fun hb=>?_)<;>(try exact (fx_ hb).elim))
    | refine aw_block ?_
    | refine aw_exit ?_
    | refine aw_ret ?_
    | refine aw_skip ?_)
   exact end_ret (res_of rfl (by trivial) rfl)
set_option maxHeartbeats 8000000
def gOfL (l:List Cnt):Option (List Stp):=bif decide (l.length≤100000) then some (ofV l) else none
theorem gOfL_ok {l:List Cnt} {r:List Stp} (H:gOfL l=some r):Pure Tryz.prog 142 [.one (.lst (l.map cCnt))] (.val (.one (.lst (r.map cStp)))):=by
 unfold gOfL at H
 obtain ⟨g,H⟩:=grd_some H
 obtain rfl:=Option.some.inj H
 exact of_pure l (of_decide_eq_true g)
def gOfR (l:List Cnt):Option (List Stp):=bif decide (l.length≤100000) then some (ofV l) else none
theorem gOfR_ok {l:List Cnt} {r:List Stp} (H:gOfR l=some r):Pure Tryz.prog 146 [.one (.lst (l.map cCnt))] (.val (.one (.lst (r.map cStp)))):=by
 unfold gOfR at H
 obtain ⟨g,H⟩:=grd_some H
 obtain rfl:=Option.some.inj H
 exact ofR_pure l (of_decide_eq_true g)
open Classical in
noncomputable def gLevL (l:List Stp):Option (List Per):=if LevOK l then some (levV l) else none
theorem gLevL_ok {l:List Stp} {r:List Per} (H:gLevL l=some r):Pure Tryz.prog 90 [.one (.lst (l.map cStp))] (.val (.one (.lst (r.map cPer)))):=by
 unfold gLevL at H
 split at H
 ·rename_i h;obtain rfl:=Option.some.inj H;exact lev_pure l h
 ·cases H
open Classical in
noncomputable def gLevR (l:List Stp):Option (List Per):=if LevOK l then some (levV l) else none
theorem gLevR_ok {l:List Stp} {r:List Per} (H:gLevR l=some r):Pure Tryz.prog 64 [.one (.lst (l.map cStp))] (.val (.one (.lst (r.map cPer)))):=by
 unfold gLevR at H
 split at H
 ·rename_i h;obtain rfl:=Option.some.inj H;exact levR_pure l h
 ·cases H
def FctsOK (l:List Fct):Prop:=l.length≤19 ∧ ∀ f∈l,f.row.length≤1000 ∧ ∀ v∈f.row,VOK v
open Classical in
noncomputable def gRowsCo (l:List Fct):Option (List SGroupcoalesce):=if FctsOK l then some (rowsP l) else none
theorem gRowsCo_ok {l:List Fct} {r:List SGroupcoalesce} (H:gRowsCo l=some r):Pure Tryz.prog 136 [.one (.lst (l.map cFct))] (.val (.one (.lst (r.map cSGroupcoalesce)))):=by
 unfold gRowsCo at H
 split at H
 ·rename_i h;obtain rfl:=Option.some.inj H;exact rows_pure l h.1 h.2
 ·cases H
noncomputable section
def gCounted_B1 (a_l:(List Per)):((List Cnt) × Int)→Option (Step ((List Cnt) × Int) ((List Stp))):=fun s=>match s with
 | (c_1,v_2)=>bif (decide (v_2<((a_l.length:Nat):Int))) then
  (getI a_l v_2).bind fun x_4=>bif (decide (c_1.length+1≤5864062014805)) then (some (.next ((c_1++[(⟨x_4,(1:Int)⟩:Cnt)]),(IntKind.i64.wrap (v_2+(1:Int)))))) else none
 else
  some (.exit (c_1,v_2))
def gCounted_K1:Sum ((List Cnt) × Int) ((List Stp))→Option (((List Stp)))
 | .inl (c_1,v_2)=>(gOfL c_1).bind fun r_5=>some r_5
 | .inr q=>some q
def gCounted (a_l:(List Per)):Option ((List Stp)):=(loopM (gCounted_B1 a_l) fuel ([],(0:Int))).bind (gCounted_K1)
theorem gCounted_ok {a_l:(List Per)} {r:(List Stp)} (H:gCounted a_l=some r):Pure Tryz.prog 91 [.one (.lst (a_l.map cPer))] (.val (.one (.lst (r.map cStp)))):=by
 unfold gCounted at H
 refine po_ Tryz.func91 Tryz.ntmps91 ?_
 repeat' (first|refine p_ rfl rfl rfl rfl rfl ?_|refine st_nil ?_|refine x_ rfl rfl rfl rfl rfl rfl rfl rfl ?_|refine l_ rfl rfl rfl rfl ?_|refine s_ rfl rfl rfl ?_|refine t_ rfl rfl rfl rfl ?_|refine k_ rfl rfl rfl ?_|refine k0_ rfl rfl ?_|refine c_ rfl rfl rfl rfl ?_|refine pick_t rfl rfl rfl rfl rfl rfl rfl ?_|refine pick_f rfl rfl rfl rfl rfl rfl rfl ?_|refine aw_seq ?_|refine aw_region tab_ok _ rfl ?_|refine aw_drawn2 tabS_ok _ rfl mx_ (by decide +kernel) ?_|refine aw_condT rfl ?_|refine aw_condF rfl ?_|refine aw_block ?_|refine aw_exit ?_|refine aw_ret ?_|refine aw_skip ?_|rw [List.length_map]|rw [mn_norm]|rw [mx_norm])
 refine aw_tok 3 3 rfl ?_
 refine alM_ (fun s:(List Cnt) × Int=>match s with|(c_1,v_2)=>[(3, .one (.own (c_1.map cCnt) 0)),(6, .one (.c (.lst (a_l.map cPer)))),(7, .one (.c (.int .i64 ((a_l.length:Nat):Int)))),(8, .one (.c (.int .i64 v_2)))]) (fun s=>match s with|(c_1,v_2)=>[.spare c_1.length 3]) H (fun _=>Nat.zero_le _)
  (fm_ ⟨rfl,rfl,rfl,rfl,trivial⟩ [] rfl ⟨by show 0<1;omega,trivial,trivial,trivial,trivial⟩ ⟨trivial,trivial⟩) ?_
 rintro ⟨c_1,v_2⟩ st1 hb1 hk1
 unfold gCounted_B1 at hb1
 dsimp only at hb1 ⊢
 rcases Bool.eq_false_or_eq_true (decide (v_2<((a_l.length:Nat):Int))) with q_3|q_3
 ·rw [q_3,cond_true] at hb1
  obtain ⟨x_4,i1,hb1⟩:=bd_ hb1
  obtain ⟨i1z,i1⟩:=getI_some i1
  have i1x:=idxI (f:=cPer) i1
  obtain ⟨g2,hb1⟩:=grd_some hb1
  replace g2:=of_decide_eq_true g2
  obtain rfl:=Option.some.inj hb1
  repeat' (first|refine p_ rfl rfl rfl rfl rfl ?_|refine st_nil ?_|refine x_ rfl rfl rfl rfl rfl rfl rfl rfl ?_|refine l_ rfl rfl rfl rfl ?_|refine s_ rfl rfl rfl ?_|refine t_ rfl rfl rfl rfl ?_|refine k_ rfl rfl rfl ?_|refine k0_ rfl rfl ?_|refine c_ rfl rfl rfl rfl ?_|refine pick_t rfl rfl rfl rfl rfl rfl rfl ?_|refine pick_f rfl rfl rfl rfl rfl rfl rfl ?_|refine aw_seq ?_|refine aw_region tab_ok _ rfl ?_|refine aw_drawn2 tabS_ok _ rfl mx_ (by decide +kernel) ?_|refine aw_condT rfl ?_|refine aw_condF rfl ?_|refine aw_block ?_|refine aw_exit ?_|refine aw_ret ?_|refine aw_skip ?_|rw [List.length_map]|rw [mn_norm]|rw [mx_norm])
  exact ⟨_,rfl,fm_ ⟨(by simp only [List.map_append,List.map_cons,List.map_nil,List.nil_append]<;>rfl),rfl,rfl,rfl,trivial⟩ [_] (by simp only [List.length_append,List.length_cons,List.length_nil,Nat.zero_add,List.map_append,List.map_cons,List.map_nil]<;>rfl) ⟨by show 0<1;omega,trivial,trivial,trivial,trivial⟩ ⟨trivial,trivial⟩⟩
 ·rw [q_3,cond_false] at hb1
  obtain rfl:=Option.some.inj hb1
  have hx1:gCounted_K1 (.inl (c_1,v_2))=some _:=hk1
  unfold gCounted_K1 at hx1
  dsimp only at hx1
  obtain ⟨r_5,c3,hx1⟩:=bd_ hx1
  replace c3:=gOfL_ok c3
  try simp only [List.map_append,List.map_cons,List.map_nil,List.nil_append,tE_eq] at c3
  obtain rfl:=Option.some.inj hx1
  exact go_
def gBag1 (a_p:(List Per)):Option ((List Per)):=bif (decide (((a_p.length:Nat):Int)=(1:Int))) then
 some a_p
 else
 (gCounted a_p).bind fun r_2=>(gLevL r_2).bind fun r_3=>some r_3
theorem gBag1_ok {a_p:(List Per)} {r:(List Per)} (H:gBag1 a_p=some r):Pure Tryz.prog 89 [.one (.lst (a_p.map cPer))] (.val (.one (.lst (r.map cPer)))):=by
 unfold gBag1 at H
 refine po_ Tryz.func89 Tryz.ntmps89 ?_
 rcases Bool.eq_false_or_eq_true (decide (((a_p.length:Nat):Int)=(1:Int))) with q_1|q_1
 ·rw [q_1,cond_true] at H
  obtain rfl:=Option.some.inj H
  exact go_
 ·rw [q_1,cond_false] at H
  obtain ⟨r_2,c1,H⟩:=bd_ H
  replace c1:=gCounted_ok c1
  try simp only [List.map_append,List.map_cons,List.map_nil,List.nil_append,tE_eq] at c1
  obtain ⟨r_3,c2,H⟩:=bd_ H
  replace c2:=gLevL_ok c2
  try simp only [List.map_append,List.map_cons,List.map_nil,List.nil_append,tE_eq] at c2
  obtain rfl:=Option.some.inj H
  exact go_
def gBuild_B4 (x_5:SGroupcoalesce) (r_6:(List Per)):((List Fct) × Int)→Option (Step ((List Fct) × Int) ((List Fct))):=fun s=>match s with
 | (out_7,v_8)=>bif (decide (v_8<((r_6.length:Nat):Int))) then
  (getI r_6 v_8).bind fun x_10=>bif (decide (x_5.row.length≤4398046511104)) then (bif (decide (out_7.length+1≤3518437208883)) then (some (.next ((out_7++[(⟨x_5.row,x_10⟩:Fct)]),(IntKind.i64.wrap (v_8+(1:Int)))))) else none) else none
 else
  some (.exit (out_7,v_8))
def gBuild_K4 (v_3:Int):Sum ((List Fct) × Int) ((List Fct))→Option (Step ((List Fct) × Int) ((List Fct)))
 | .inl (out_7,v_8)=>some (.next (out_7,(IntKind.i64.wrap (v_3+(1:Int)))))
 | .inr q=>some (.ret q)
def gBuild_B3 (a_f:(List Per)→Option ((List Per))) (r_1:(List SGroupcoalesce)):((List Fct) × Int)→Option (Step ((List Fct) × Int) ((List Fct))):=fun s=>match s with
 | (out_2,v_3)=>bif (decide (v_3<((r_1.length:Nat):Int))) then
  (getI r_1 v_3).bind fun x_5=>(a_f x_5.periods).bind fun r_6=>(loopM (gBuild_B4 x_5 r_6) fuel (out_2,(0:Int))).bind (gBuild_K4 v_3)
 else
  some (.exit (out_2,v_3))
def gBuild_K3:Sum ((List Fct) × Int) ((List Fct))→Option (((List Fct)))
 | .inl (out_2,v_3)=>some out_2
 | .inr q=>some q
def gBuild (a_l:(List Fct)) (a_f:(List Per)→Option ((List Per))):Option ((List Fct)):=(gRowsCo a_l).bind fun r_1=>(loopM (gBuild_B3 a_f r_1) fuel ([],(0:Int))).bind (gBuild_K3)
theorem gBuild_ok {a_l:(List Fct)} {a_f:(List Per)→Option ((List Per))} {r:(List Fct)} {F_a_f:FuncId} {caps_a_f:List AC} (hf_a_f : ∀ (y0:(List Per)) (r:(List Per)),a_f y0=some r→Pure Tryz.prog F_a_f ([.one (.lst (y0.map cPer))]++caps_a_f.map .one) (.val (.one (.lst (r.map cPer))))) (H:gBuild a_l a_f=some r):Pure Tryz.prog 88 [.one (.lst (a_l.map cFct)), .one (.fn F_a_f caps_a_f)] (.val (.one (.lst (r.map cFct)))):=by
 unfold gBuild at H
 refine po_ Tryz.func88 Tryz.ntmps88 ?_
 obtain ⟨r_1,c1,H⟩:=bd_ H
 replace c1:=gRowsCo_ok c1
 try simp only [List.map_append,List.map_cons,List.map_nil,List.nil_append,tE_eq] at c1
 repeat' (first|refine p_ rfl rfl rfl rfl rfl ?_|refine st_nil ?_|refine x_ rfl rfl rfl rfl rfl rfl rfl rfl ?_|refine l_ rfl rfl rfl rfl ?_|refine s_ rfl rfl rfl ?_|refine t_ rfl rfl rfl rfl ?_|refine k_ rfl rfl rfl ?_|refine k0_ rfl rfl ?_|refine c_ rfl rfl rfl rfl ?_|refine pick_t rfl rfl rfl rfl rfl rfl rfl ?_|refine pick_f rfl rfl rfl rfl rfl rfl rfl ?_|refine aw_seq ?_|refine aw_region tab_ok _ rfl ?_|refine aw_drawn2 tabS_ok _ rfl mx_ (by decide +kernel) ?_|refine aw_condT rfl ?_|refine aw_condF rfl ?_|refine aw_block ?_|refine aw_exit ?_|refine aw_ret ?_|refine aw_skip ?_|rw [List.length_map]|rw [mn_norm]|rw [mx_norm])
 refine aw_tok 5 3 rfl ?_
 refine alM_ (fun s:(List Fct) × Int=>match s with|(out_2,v_3)=>[(1, .one (.c (.fn F_a_f caps_a_f))),(5, .one (.own (out_2.map cFct) 0)),(11, .one (.c (.lst (r_1.map cSGroupcoalesce)))),(12, .one (.c (.int .i64 ((r_1.length:Nat):Int)))),(13, .one (.c (.int .i64 v_3)))]) (fun s=>match s with|(out_2,v_3)=>[.spare out_2.length 3]) H (fun _=>Nat.zero_le _)
  (fm_ ⟨rfl,rfl,rfl,rfl,rfl,trivial⟩ [] rfl ⟨trivial,by show 0<1;omega,trivial,trivial,trivial,trivial⟩ ⟨trivial,trivial⟩) ?_
 rintro ⟨out_2,v_3⟩ st3 hb3 hk3
 unfold gBuild_B3 at hb3
 dsimp only at hb3 ⊢
 rcases Bool.eq_false_or_eq_true (decide (v_3<((r_1.length:Nat):Int))) with q_4|q_4
 ·rw [q_4,cond_true] at hb3
  obtain ⟨x_5,i2,hb3⟩:=bd_ hb3
  obtain ⟨i2z,i2⟩:=getI_some i2
  have i2x:=idxI (f:=cSGroupcoalesce) i2
  obtain ⟨r_6,c3,hb3⟩:=bd_ hb3
  replace c3:=hf_a_f _ _ c3
  try simp only [List.map_append,List.map_cons,List.map_nil,List.nil_append,tE_eq] at c3
  repeat' (first|refine p_ rfl rfl rfl rfl rfl ?_|refine st_nil ?_|refine x_ rfl rfl rfl rfl rfl rfl rfl rfl ?_|refine l_ rfl rfl rfl rfl ?_|refine s_ rfl rfl rfl ?_|refine t_ rfl rfl rfl rfl ?_|refine k_ rfl rfl rfl ?_|refine k0_ rfl rfl ?_|refine c_ rfl rfl rfl rfl ?_|refine pick_t rfl rfl rfl rfl rfl rfl rfl ?_|refine pick_f rfl rfl rfl rfl rfl rfl rfl ?_|refine aw_seq ?_|refine aw_region tab_ok _ rfl ?_|refine aw_drawn2 tabS_ok _ rfl mx_ (by decide +kernel) ?_|refine aw_condT rfl ?_|refine aw_condF rfl ?_|refine aw_block ?_|refine aw_exit ?_|refine aw_ret ?_|refine aw_skip ?_|rw [List.length_map]|rw [mn_norm]|rw [mx_norm])
  refine alM_ (fun s:(List Fct) × Int=>match s with|(out_7,v_8)=>[(1, .one (.c (.fn F_a_f caps_a_f))),(5, .one (.own (out_7.map cFct) 0)),(7, .one (.ptr 1 0)),(11, .one (.c (.lst (r_1.map cSGroupcoalesce)))),(12, .one (.c (.int .i64 ((r_1.length:Nat):Int)))),(13, .one (.c (.int .i64 v_3))),(20, .one (.c (.lst (r_6.map cPer)))),(21, .one (.c (.int .i64 ((r_6.length:Nat):Int)))),(22, .one (.c (.int .i64 v_8)))]) (fun s=>match s with|(out_7,v_8)=>[.spare out_7.length 3, .box [.c (.lst (x_5.row.map cV)), .c (.lst (x_5.periods.map cPer))]]) hb3 (fun _=>Nat.zero_le _)
   (fm_ ⟨rfl,rfl,rfl,rfl,rfl,rfl,rfl,rfl,rfl,trivial⟩ [] rfl ⟨trivial,by show 0<2;omega,by show 1<2;omega,trivial,trivial,trivial,trivial,trivial,trivial,trivial⟩ ⟨trivial,ob_below (by rfl),trivial⟩) ?_
  rintro ⟨out_7,v_8⟩ st4 hb4 hk4
  unfold gBuild_B4 at hb4
  dsimp only at hb4 ⊢
  rcases Bool.eq_false_or_eq_true (decide (v_8<((r_6.length:Nat):Int))) with q_9|q_9
  ·rw [q_9,cond_true] at hb4
   obtain ⟨x_10,i4,hb4⟩:=bd_ hb4
   obtain ⟨i4z,i4⟩:=getI_some i4
   have i4x:=idxI (f:=cPer) i4
   obtain ⟨g5,hb4⟩:=grd_some hb4
   replace g5:=of_decide_eq_true g5
   obtain ⟨g6,hb4⟩:=grd_some hb4
   replace g6:=of_decide_eq_true g6
   obtain rfl:=Option.some.inj hb4
   repeat' (first|refine p_ rfl rfl rfl rfl rfl ?_|refine st_nil ?_|refine x_ rfl rfl rfl rfl rfl rfl rfl rfl ?_|refine l_ rfl rfl rfl rfl ?_|refine s_ rfl rfl rfl ?_|refine t_ rfl rfl rfl rfl ?_|refine k_ rfl rfl rfl ?_|refine k0_ rfl rfl ?_|refine c_ rfl rfl rfl rfl ?_|refine pick_t rfl rfl rfl rfl rfl rfl rfl ?_|refine pick_f rfl rfl rfl rfl rfl rfl rfl ?_|refine aw_seq ?_|refine aw_region tab_ok _ rfl ?_|refine aw_drawn2 tabS_ok _ rfl mx_ (by decide +kernel) ?_|refine aw_condT rfl ?_|refine aw_condF rfl ?_|refine aw_block ?_|refine aw_exit ?_|refine aw_ret ?_|refine aw_skip ?_|rw [List.length_map]|rw [mn_norm]|rw [mx_norm])
   exact ⟨_,rfl,fm_ ⟨rfl,(by simp only [List.map_append,List.map_cons,List.map_nil,List.nil_append]<;>rfl),rfl,rfl,rfl,rfl,rfl,rfl,rfl,trivial⟩ [_,_] (by simp only [List.length_append,List.length_cons,List.length_nil,Nat.zero_add,List.map_append,List.map_cons,List.map_nil]<;>rfl) ⟨trivial,by show 0<2;omega,by show 1<2;omega,trivial,trivial,trivial,trivial,trivial,trivial,trivial⟩ ⟨trivial,ob_below (by rfl),trivial⟩⟩
  ·rw [q_9,cond_false] at hb4
   obtain rfl:=Option.some.inj hb4
   have hx4:gBuild_K4 v_3 (.inl (out_7,v_8))=some _:=hk4
   unfold gBuild_K4 at hx4
   dsimp only at hx4
   obtain rfl:=Option.some.inj hx4
   repeat' (first|refine p_ rfl rfl rfl rfl rfl ?_|refine st_nil ?_|refine x_ rfl rfl rfl rfl rfl rfl rfl rfl ?_|refine l_ rfl rfl rfl rfl ?_|refine s_ rfl rfl rfl ?_|refine t_ rfl rfl rfl rfl ?_|refine k_ rfl rfl rfl ?_|refine k0_ rfl rfl ?_|refine c_ rfl rfl rfl rfl ?_|refine pick_t rfl rfl rfl rfl rfl rfl rfl ?_|refine pick_f rfl rfl rfl rfl rfl rfl rfl ?_|refine aw_seq ?_|refine aw_region tab_ok _ rfl ?_|refine aw_drawn2 tabS_ok _ rfl mx_ (by decide +kernel) ?_|refine aw_condT rfl ?_|refine aw_condF rfl ?_|refine aw_block ?_|refine aw_exit ?_|refine aw_ret ?_|refine aw_skip ?_|rw [List.length_map]|rw [mn_norm]|rw [mx_norm])
   exact ⟨_,rfl,fm_ ⟨rfl,(by simp only [List.map_append,List.map_cons,List.map_nil,List.nil_append]<;>rfl),rfl,rfl,rfl,trivial⟩ [_] (by simp only [List.length_append,List.length_cons,List.length_nil,Nat.zero_add,List.map_append,List.map_cons,List.map_nil]<;>rfl) ⟨trivial,by show 0<1;omega,trivial,trivial,trivial,trivial⟩ ⟨trivial,trivial⟩⟩
 ·rw [q_4,cond_false] at hb3
  obtain rfl:=Option.some.inj hb3
  have hx3:gBuild_K3 (.inl (out_2,v_3))=some _:=hk3
  unfold gBuild_K3 at hx3
  dsimp only at hx3
  obtain rfl:=Option.some.inj hx3
  exact go_
def gBag (a_l:(List Fct)):Option ((List Fct)):=(gBuild a_l (fun x0=>gBag1 x0)).bind fun r_1=>some r_1
theorem gBag_ok {a_l:(List Fct)} {r:(List Fct)} (H:gBag a_l=some r):Pure Tryz.prog 52 [.one (.lst (a_l.map cFct))] (.val (.one (.lst (r.map cFct)))):=by
 unfold gBag at H
 refine po_ Tryz.func52 Tryz.ntmps52 ?_
 obtain ⟨r_1,c1,H⟩:=bd_ H
 replace c1:=gBuild_ok (F_a_f:=89) (caps_a_f:=[]) (fun x0 r h=>gBag1_ok h) c1
 try simp only [List.map_append,List.map_cons,List.map_nil,List.nil_append,tE_eq] at c1
 obtain rfl:=Option.some.inj H
 exact go_
end
set_option maxHeartbeats 8000000
def gOrderB (rec:List (List Val)→List Ord→Option (List (List Val))) (a_l:(List (List Val))) (a_o:(List Ord)):Option ((List (List Val))):=bif (decide (((a_l.length:Nat):Int)=(0:Int))) then some [] else
 bif (decide (((a_l.length:Nat):Int)=(1:Int))) then (getI a_l (0:Int)).bind fun x_3=>bif (decide (x_3.length≤4398046511104)) then (some [x_3]) else none else
 bif (decide ((2:Int)≠0)) then ((subI a_l (0:Int) (IntKind.i64.wrap (((a_l.length:Nat):Int).tdiv (2:Int)))).bind fun s_4=>(rec s_4 a_o).bind fun r_5=>(subI a_l (IntKind.i64.wrap (((a_l.length:Nat):Int).tdiv (2:Int))) ((a_l.length:Nat):Int)).bind fun s_6=>(rec s_6 a_o).bind fun r_7=>(gMerged r_5 r_7 a_o).bind fun r_8=>some r_8) else none
theorem gOrderB_ok {rec:List (List Val)→List Ord→Option (List (List Val))}  (hrec : ∀ {x:List (List Val)} {y:List Ord} {r:List (List Val)}, rec x y=some r→Pure Tryz.prog 96 [.one (.lst (x.map (fun x=>[AC.lst (x.map cV)]))), .one (.lst (y.map cOrd))] (.val (.one (.lst (r.map (fun x=>[AC.lst (x.map cV)])))))) {a_l:(List (List Val))} {a_o:(List Ord)} {r:(List (List Val))} (H:gOrderB rec a_l a_o=some r):Pure Tryz.prog 96 [.one (.lst (a_l.map (fun x=>[AC.lst (x.map cV)]))), .one (.lst (a_o.map cOrd))] (.val (.one (.lst (r.map (fun x=>[AC.lst (x.map cV)]))))):=by
 unfold gOrderB at H
 refine po_ Tryz.func96 Tryz.ntmps96 ?_
 rcases cnd_ H with ⟨q_1,H⟩|⟨q_1,H⟩
 ·cases H
  exact go_
 rcases cnd_ H with ⟨q_2,H⟩|⟨q_2,H⟩
 ·obtain ⟨x_3,i1z,i1,i1x,H⟩:=idx_ (f:=(fun x=>[AC.lst (x.map cV)])) H
  obtain ⟨g2,H⟩:=grd_d H
  cases H
  exact go_
 obtain ⟨g3,H⟩:=grd_d H
 obtain ⟨s_4,u4,H⟩:=bd_ H
 obtain ⟨⟨u4a,u4b,u4c⟩,u4⟩:=subI_some u4
 have u4x:=subE (f:=(fun x=>[AC.lst (x.map cV)])) u4
 obtain ⟨r_5,c5,H⟩:=bd_ H
 replace c5:=hrec c5
 obtain ⟨s_6,u6,H⟩:=bd_ H
 obtain ⟨⟨u6a,u6b,u6c⟩,u6⟩:=subI_some u6
 have u6x:=subE (f:=(fun x=>[AC.lst (x.map cV)])) u6
 obtain ⟨r_7,c7,H⟩:=bd_ H
 replace c7:=hrec c7
 obtain ⟨r_8,c8,H⟩:=bd_ H
 replace c8:=gMerged_ok c8
 cases H
 repeat' (first|refine p_ rfl rfl rfl rfl rfl ?_|refine st_nil ?_|refine x_ rfl rfl rfl rfl rfl rfl rfl rfl ?_|refine l_ rfl rfl rfl rfl ?_|refine s_ rfl rfl rfl ?_|refine t_ rfl rfl rfl rfl ?_|refine k_ rfl rfl rfl ?_|refine k0_ rfl rfl ?_|refine c_ rfl rfl rfl rfl ?_|refine pick_t rfl rfl rfl rfl rfl rfl rfl ?_|refine pick_f rfl rfl rfl rfl rfl rfl rfl ?_|refine aw_seq ?_|refine aw_region tab_ok _ rfl ?_|refine aw_drawn2 tabS_ok _ rfl mx_ (by decide +kernel) ?_|refine aw_condT rfl ?_|refine aw_condF rfl ?_|refine aw_block ?_|refine aw_exit ?_|refine aw_ret ?_|refine aw_skip ?_|rw [List.length_map]|rw [mn_norm]|rw [mx_norm]|rw [u4x]|rw [u6x]|rw [show ((0:Nat):Int)=0 from rfl])
 refine end_ret (res_of rfl ?_ ?_)
 ·repeat' (first|exact trivial|rfl|exact Nat.le_of_ble_eq_true rfl|omega|apply And.intro)
 ·first|rfl|(simp only [List.map_append,List.map_cons,List.map_nil,List.nil_append]<;>rfl)
def gOrder:Nat→List (List Val)→List Ord→Option (List (List Val))
 | 0,_,_=>none
 | n+1,a,b=>gOrderB (gOrder n) a b
theorem gOrder_ok : ∀ (n:Nat) {x:List (List Val)} {y:List Ord} {r:List (List Val)}, gOrder n x y=some r→Pure Tryz.prog 96 [.one (.lst (x.map (fun x=>[AC.lst (x.map cV)]))), .one (.lst (y.map cOrd))] (.val (.one (.lst (r.map (fun x=>[AC.lst (x.map cV)])))))
 | 0,_,_,_,h=>nomatch h
 | n+1,_,_,_,h=>gOrderB_ok (gOrder_ok n) h
def gSortR (a_l:(List (List Val))):Option ((List (List Val))):=(gOrder 64 a_l ([]:(List Ord))).bind fun r_1=>some r_1
theorem gSortR_ok {a_l:(List (List Val))} {r:(List (List Val))} (H:gSortR a_l=some r):Pure Tryz.prog 61 [.one (.lst (a_l.map (fun x=>[AC.lst (x.map cV)])))] (.val (.one (.lst (r.map (fun x=>[AC.lst (x.map cV)]))))):=by
 unfold gSortR at H
 refine po_ Tryz.func61 Tryz.ntmps61 ?_
 obtain ⟨r_1,c1,H⟩:=bd_ H
 replace c1:=gOrder_ok 64 c1
 try simp only [List.map_append,List.map_cons,List.map_nil,List.nil_append,tE_eq] at c1
 cases H
 exact go_
end Go.Proofs.YtfccopdbgfdcdaaGreatDoor
