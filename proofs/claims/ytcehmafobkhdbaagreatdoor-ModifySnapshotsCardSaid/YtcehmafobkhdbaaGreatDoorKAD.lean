/- Parts of the proof, joined. No condition. -/
import Derived.Test.YtcehmafobkhdbaaGreatDoorKAA
import Derived.Test.YtcehmafobkhdbaaGreatDoorKAC
import Derived.Lib.Builder
import Derived.Laws.StructEq
set_option linter.unusedSimpArgs false
set_option linter.unusedVariables false
namespace Go.Proofs.YtcehmafobkhdbaaGreatDoor
open Go.RowKit Go.MapKept
section
variable {P:Program} {ti:TI} {B:Nat->Prop} {N:Nat} {R:PH} {γ:List Gh} {L:List Ob} {w:World} {ρ:Operand->Option AV}
theorem vH {E Eb k:Nat} {inf:TypeInfo} (hinf:P.info? E=some inf) (hz:inf.zero=some (.agg #[.pointer none, .slice none 0 0])) (hE:E<65536) (hEb:Eb<65536) (hk:0<k) :
  xQ P ρ L (.alloc E) (.one (.ep L.length (E+65536) 0 0)) (L++[.row (E+65536) [[.c (.nul .ptr), .sl (L.length+1) Eb 0 0]] 2, .row Eb [] k]):=by
 intro B R γ w ev o ho hi hρ hfv
 obtain ⟨dst,op,type,pos,after,guard⟩:=o
 simp only at ho;subst ho
 have hi0:=hi.rowTok Eb k
 have hrun:(execOp ev { dst,op := .alloc E,type,pos,after,guard }).run P w = .ok (.value (.pointer (some ⟨w.heap.size,0,none⟩))) (w.alloc (.cells #[.pointer none, .slice none 0 0] E)):=by
  simp [execOp,Instr.alloc,zeroValue,typeInfo,program,Sem.run,hinf,hz,newVar,newRow,Value.cells]
 have hm0:Mv R R γ (γ++[.arr w.heap.size 1, .none]) L (L++[.row (E+65536) [[.c (.nul .ptr), .sl (L.length+1) Eb 0 0]] 2, .row Eb [] k]):=by
  have h1:Mv R R γ (γ++[.arr w.heap.size 1]) L (L++[.row (E+65536) [[.c (.nul .ptr), .sl (L.length+1) Eb 0 0]] 2]):=Mv.push _ _ hi.len
  have h2:Mv R R (γ++[.arr w.heap.size 1]) ((γ++[.arr w.heap.size 1])++[.none]) (L++[.row (E+65536) [[.c (.nul .ptr), .sl (L.length+1) Eb 0 0]] 2]) ((L++[.row (E+65536) [[.c (.nul .ptr), .sl (L.length+1) Eb 0 0]] 2])++[.row Eb [] k]):=Mv.push _ _ (by simp [hi.len])
  have:=h1.trans h2
  simpa using this
 have gcase : ∀ j h,(γ++[Gh.arr w.heap.size 1,Gh.none])[j]?=some h->(j<L.length/\γ[j]?=some h)\/(j=L.length/\h = .arr w.heap.size 1)\/(j=L.length+1/\h = .none):=by
  intro j h hh
  by_cases hj:j<γ.length
  ·rw [ag9 hj] at hh;exact .inl ⟨by rw [<- hi.len];exact hj,hh⟩
  ·rw [ag2 (by omega)] at hh
   have hlt:=(agV.1 hh).1
   simp at hlt
   have:j-γ.length=0\/j-γ.length=1:=by omega
   rcases this with e|e<;>rw [e] at hh<;>simp at hh
   ·exact .inr (.inl ⟨by rw [<- hi.len];omega,hh.symm⟩)
   ·exact .inr (.inr ⟨by rw [<- hi.len];omega,hh.symm⟩)
 have hold : ∀ b,b<w.heap.size->(w.alloc (.cells #[.pointer none, .slice none 0 0] E)).heap[b]?=w.heap[b]?:=fun b hb=>jO w _ hb
 have esz:(w.alloc (.cells #[.pointer none, .slice none 0 0] E)).heap.size=w.heap.size+1:=by show (w.heap.push _).size=_;simp
 have hsl:(SV.sl (L.length+1) Eb 0 0).rep R (γ++[Gh.arr w.heap.size 1,Gh.none]) (L++[.row (E+65536) [[.c (.nul .ptr), .sl (L.length+1) Eb 0 0]] 2, .row Eb [] k]) (.slice none 0 0):=by
  refine ⟨⟨rfl,rfl⟩,by simp,fun ver2 es2 k2 e2=>?_⟩
  rw [ag2 (by omega)] at e2
  simp at e2
  obtain ⟨q1,q2,q3⟩:=e2
  subst q1 q2 q3
  exact ⟨ag' _,fun _=>⟨by simp, .none,by rw [ag2 (by rw [hi.len];omega),hi.len];simp,rfl,rfl,rfl⟩⟩
 refine ⟨_,R,γ++[.arr w.heap.size 1, .none], .inl ⟨_,hrun,⟨rfl,rfl⟩,by simp,fun ver2 es2 k2 e2=>?_⟩,?_,⟨Kept.alloc hi.bsz _,PH.sub_refl _,fun _ _ _=>rfl⟩,hm0⟩
 ·rw [ag2 (by omega)] at e2
  simp at e2
  obtain ⟨q1,q2,q3⟩:=e2
  subst q1 q2 q3
  exact ⟨ag' _,fun _=>⟨by simp, .arr w.heap.size 1,by rw [ag2 (by rw [hi.len];omega),hi.len];simp,rfl⟩⟩
 ·refine ⟨by simp [hi.len],fun b o' u h=>?_,fun j y h hy hh=>?_,fun j1 j2 g1 g2 h1 h2 hne b hb=>?_,fun j h b hh hb=>?_,fun b hb=>by have:=hi.bsz b hb;omega⟩
  ·have:=hi.lt h
   rw [<- hi.val _ _ _ h]
   exact World.cell?_of_block (w:=w) (hold b this)
  ·rcases gcase j h hh with ⟨hj,hh'⟩|⟨rfl,rfl⟩|⟨rfl,rfl⟩
   ·rw [ag9 hj] at hy
    exact (hi.obj j y h hy hh').mv hm0 (fun b hb=>hold b (hi.new j h b hh' hb).2) (fun _ _ _ e=>e)
   ·rw [ag2 (by omega)] at hy
    simp at hy;subst hy
    refine ⟨⟨_,E,⟨ib w _,by show (E:Nat)=(E+65536)%65536;omega,by omega⟩,rfl,fun i e j' u x he hu hx=>?_⟩,by simp,by omega,by simp,fun o=>hi.none_at o⟩
    have:i=0:=by have:=(agV.1 he).1;simpa using this
    subst this
    simp at he;subst he
    match j',hx with
    | 0,hx=>simp at hx hu;subst hx hu;exact .nul .ptr _ rfl
    | 1,hx=>simp at hx hu;subst hx hu;exact hsl
    | j'+2,hx=>simp at hx
   ·rw [ag2 (by omega)] at hy
    simp at hy;subst hy
    rfl
  ·rcases gcase j1 g1 h1 with ⟨a1,a2⟩|⟨a1,rfl⟩|⟨a1,rfl⟩<;>rcases gcase j2 g2 h2 with ⟨b1,b2⟩|⟨b1,rfl⟩|⟨b1,rfl⟩
   ·exact hi.inj j1 j2 g1 g2 a2 b2 hne b hb
   ·have:=(hi.new j1 g1 b a2 hb).2
    simp only [Gh.block,ne_eq,Option.some.injEq];omega
   ·exact fun e=>by cases e
   ·simp only [Gh.block,Option.some.injEq] at hb
    intro e;have:=(hi.new j2 g2 _ b2 e).2;omega
   ·omega
   ·exact fun e=>by cases e
   ·cases hb
   ·cases hb
   ·cases hb
  ·rcases gcase j h hh with ⟨_,b2⟩|⟨_,rfl⟩|⟨_,rfl⟩
   ·have:=hi.new j h b b2 hb
    exact ⟨this.1,by omega⟩
   ·simp only [Gh.block,Option.some.injEq] at hb;subst hb
    exact ⟨fun hB=>by have:=hi.bsz _ hB;omega,by omega⟩
   ·cases hb
theorem MQ {id ver i off k:Nat} {es:List (List SV)} {u:Value} (hL:L[id]?=some (.row ver es k)) (h:(SV.ep id ver i off).rep R γ L u):i<es.length /\ ∃ b c,γ[id]?=some (.arr b c)/\u = .pointer (some ⟨b,i*k+off,none⟩):=by
 obtain ⟨_,_,hall⟩:=h
 obtain ⟨h1,g,hg,hat⟩:=(hall _ es k hL).2 rfl
 match g,hg,hat with
 | .arr b c,hg,hat=>exact ⟨h1,b,c,hg,hat⟩
theorem Rm {e:TypeId} {s:Nat} (hs:P.cellsOf e=s) (h0:0<s) (count:Nat) (hn:1<=count):liesAt P P.depth e count 0 e 1=true:=by
 have hd:P.depth=(2*(P.types.size+Made.depth)+1)+1:=rfl
 rw [hd]
 simp only [liesAt,Bool.or_eq_true]
 left
 rw [hd]
 have:s≠0:=by omega
 simp [rowAt,hs,hn,sameLayout,this]
theorem rG {s d t:TypeId} {x:Operand} {id ver k:Nat} {es:List (List SV)} {j:TypeInfo} (hx:ρ x=some (.one (.ep id ver 0 0))) (hL:L[id]?=some (.row ver es k)) (hs:P.underlying s=some (.pointer t)) (hd:P.underlying d=some .unsafePointer) (ht:P.info? t=some j) (hj:j.size≠0) :
  xQ P ρ L (.convert s d x) (.one (.ep id ver 0 0)) L:=by
 intro B R γ w ev o ho hi hρ hfv
 obtain ⟨dst,op,type,pos,after,guard⟩:=o
 simp only at ho;subst ho
 have hx':=(hρ _ (by simp [Op.operands,Call.operands]) _ hx)
 obtain ⟨hlt,b,c,hg,hu⟩:=MQ (R:=R) hL hx'
 obtain ⟨vs,E,hb,hE,hsz,hle,hk,_,_⟩:=ku hi hL hg
 have hsh:w.shape? b=some (E,c*k):=by simp [World.shape?,hb,hsz]
 have h1:1*k<=c*k:=ahv _ (by omega)
 rw [hu] at hx'
 refine ⟨w,R,γ, .inl ⟨_,?_,hx'⟩,hi,Ext.refl _ _ _,Mv.refl⟩
 have:=Lib.run_to_unsafe (P:=P) w (⟨b,0*k+0,none⟩:Addr) hs hd ht hj hsh (by show 0*k+0<c*k;omega)
 simp only [Nat.zero_mul,ahB,Nat.add_zero] at this hu ⊢
 simp [execOp,hu,this]
theorem wh {s d:TypeId} {t:Nat} {x:Operand} {id ver k:Nat} {es:List (List SV)} {j:TypeInfo} (hx:ρ x=some (.one (.ep id ver 0 0))) (hL:L[id]?=some (.row ver es k)) (hs:P.underlying s=some .unsafePointer) (hd:P.underlying d=some (.pointer t)) (ht:P.info? t=some j) (hc:P.cellsOf t=k) (hE:ver%65536=t) :
  xQ P ρ L (.convert s d x) (.one (.ep id ver 0 0)) L:=by
 intro B R γ w ev o ho hi hρ hfv
 obtain ⟨dst,op,type,pos,after,guard⟩:=o
 simp only at ho;subst ho
 have hx':=(hρ _ (by simp [Op.operands,Call.operands]) _ hx)
 obtain ⟨hlt,b,c,hg,hu⟩:=MQ (R:=R) hL hx'
 obtain ⟨vs,E,hb,hE2,hsz,hle,hk,_,_⟩:=ku hi hL hg
 have hEt:E=t:=by rw [hE2.1];exact hE
 subst hEt
 have hsh:w.shape? b=some (E,c*k):=by simp [World.shape?,hb,hsz]
 rw [hu] at hx'
 refine ⟨w,R,γ, .inl ⟨_,?_,hx'⟩,hi,Ext.refl _ _ _,Mv.refl⟩
 have hlies:liesAt P P.depth E (c*k/P.cellsOf E) 0 E 1=true:=by
  rw [hc,Nat.mul_div_cancel _ hk]
  exact Rm hc hk c (by omega)
 have:=Lib.run_from_unsafe (P:=P) w (⟨b,0*k+0,none⟩:Addr) hs hd ht hsh (by simpa using hlies)
 simp only [Nat.zero_mul,ahB,Nat.add_zero] at this hu ⊢
 simp [execOp,hu,this]
theorem wo {f : FuncId} {fn : Func} {x : Operand} {ts : Array TypeId} {v : AV} (hx : ρ x = some v) (hf : P.funcs[f]? = some fn) (hname : (fn.name == "runtime.NumGoroutine") = false)
  (hb:fn.body.isNone=true) (hn:Extern.findNext fn=none) (he:Extern.find fn=some Extern.AbiNoEscape.same) :
  xQ P ρ L (.call { callee := .value (.func f),args := #[x],argTypes:=ts }) v L:=by
 intro B R γ w ev o ho hi hρ hfv
 obtain ⟨dst,op,type,pos,after,guard⟩:=o
 simp only at ho;subst ho
 refine ⟨w,R,γ, .inl ⟨ev x,?_,(hρ _ (by simp [Op.operands,Call.operands]) _ hx)⟩,hi,Ext.refl _ _ _,Mv.refl⟩
 have:=run_callFunc_extern hf hname hb hn he #[ev x] w
 rw [Lib.run_noEscape] at this
 simp [execOp,resolve,Deferred.ofValue,hfv.1,invoke,this,Result.andThen]
theorem Gv {t te:TypeId} (b:Option Addr) (ht:P.underlying t=some (.pointer te)):(binOp .eql t (.pointer b) (.pointer none)).run P w = .ok (.bool b.isNone) w:=by
 have h : ∀ d:Nat,(Op.equalIn (d+1) t (.pointer b) (.pointer none)).run P w = .ok b.isNone w:=fun d=>by
  cases b<;>simp [Op.equalIn,run_underlying ht]
 simp only [binOp]
 rw [Sem.run_bind,show Op.equal t (.pointer b) (.pointer none)=Op.equalIn (9999+1) t (.pointer b) (.pointer none) from rfl,h]
 simp
theorem E_ {t t' te:TypeId} {x y:Operand} (hx:ρ x=some (.one (.c (.nul .ptr)))) (hy:ρ y=some (.one (.c (.nul .ptr)))) (ht:P.underlying t=some (.pointer te)) :
  xQ P ρ L (.binOp .eql t x y t') (.one (.c (.bool true))) L:=by
 intro B R γ w ev o ho hi hρ hfv
 obtain ⟨dst,op',type,pos,after,guard⟩:=o
 simp only at ho;subst ho
 have h1:=(hρ _ (by simp [Op.operands,Call.operands]) _ hx)
 have h2:=(hρ _ (by simp [Op.operands,Call.operands]) _ hy)
 generalize hex:ev x=ux at h1
 generalize hey:ev y=uy at h2
 cases h1 with|nul _ _ e1=>cases h2 with|nul _ _ e2 =>
 subst e1 e2
 have:=Gv (P:=P) (w:=w) none ht
 exact ⟨w,R,γ, .inl ⟨.bool true,by simp [execOp,hex,hey,eqGuard,Nul.val,this], .bool true⟩,hi,Ext.refl _ _ _,Mv.refl⟩
theorem yx {t t' te:TypeId} {x y:Operand} {id ver i off k:Nat} {es:List (List SV)} (hx:ρ x=some (.one (.ep id ver i off))) (hL:L[id]?=some (.row ver es k)) (hy:ρ y=some (.one (.c (.nul .ptr)))) (ht:P.underlying t=some (.pointer te)) :
  xQ P ρ L (.binOp .eql t x y t') (.one (.c (.bool false))) L:=by
 intro B R γ w ev o ho hi hρ hfv
 obtain ⟨dst,op',type,pos,after,guard⟩:=o
 simp only at ho;subst ho
 obtain ⟨_,b,c,_,hu⟩:=MQ (R:=R) hL (hρ _ (by simp [Op.operands,Call.operands]) _ hx)
 have h2:=(hρ _ (by simp [Op.operands,Call.operands]) _ hy)
 generalize hey:ev y=uy at h2
 cases h2 with|nul _ _ e2 =>
 subst e2
 have:=Gv (P:=P) (w:=w) (some ⟨b,i*k+off,none⟩) ht
 exact ⟨w,R,γ, .inl ⟨.bool false,by simp [execOp,hu,hey,eqGuard,Nul.val,this], .bool false⟩,hi,Ext.refl _ _ _,Mv.refl⟩
theorem x9 {t t' te:TypeId} {x y:Operand} {id ver i off k:Nat} {es:List (List SV)} {j:TypeInfo} (hx:ρ x=some (.one (.ep id ver i off))) (hL:L[id]?=some (.row ver es k)) (hy:ρ y=some (.one (.ep id ver i off))) (ht:P.underlying t=some (.pointer te)) (hte:P.info? te=some j) :
  xQ P ρ L (.binOp .neq t x y t') (.one (.c (.bool false))) L:=by
 intro B R γ w ev o ho hi hρ hfv
 obtain ⟨dst,op',type,pos,after,guard⟩:=o
 simp only at ho;subst ho
 obtain ⟨_,b,c,hg,hu⟩:=MQ (R:=R) hL (hρ _ (by simp [Op.operands,Call.operands]) _ hx)
 obtain ⟨_,b',c',hg',hu'⟩:=MQ (R:=R) hL (hρ _ (by simp [Op.operands,Call.operands]) _ hy)
 rw [hg] at hg';injection hg' with hg';injection hg' with e1 e2;subst e1 e2
 refine ⟨w,R,γ, .inl ⟨.bool false,?_, .bool false⟩,hi,Ext.refl _ _ _,Mv.refl⟩
 have:=Lib.run_neq_ptr_same (P:=P) w (⟨b,i*k+off,none⟩:Addr) ht hte
 simp [execOp,hu,hu',eqGuard,this]
theorem Uq {t t' te:TypeId} {x:Operand} {vx:AV} {e:List AC} {es:List (List AC)} (hx:ρ x=some vx) (hl:fZ vx=some (e::es)) (ht:P.underlying t=some (.slice te)) :
  xQ P ρ L (.binOp .eql t x (.const (.slice none 0 0)) t') (.one (.c (.bool false))) L:=by
 intro B R γ w ev o ho hi hρ hfv
 obtain ⟨dst,op',type,pos,after,guard⟩:=o
 simp only at ho;subst ho
 have h1:=ny (hρ x (by simp [Op.operands]) _ hx) hl
 generalize hex:ev x=ux at h1
 cases h1 with
 | lst a n c _ k cv b o hn hc hk ha hr he =>
  have h0:0<n:=by rw [<- hn];simp
  have ha':=ha h0
  subst ha'
  refine ⟨w,R,γ, .inl ⟨.bool false,?_, .bool false⟩,hi,Ext.refl _ _ _,Mv.refl⟩
  have h : ∀ d:Nat,(Op.equalIn (d+1) t (.slice (some ⟨b,o,none⟩) n c) (.slice none 0 0)).run P w = .ok false w:=fun d=>by
   simp [Op.equalIn,run_underlying ht]
  have h2:(binOp .eql t (.slice (some ⟨b,o,none⟩) n c) (.slice none 0 0)).run P w = .ok (.bool false) w:=by
   simp only [binOp]
   rw [Sem.run_bind,show Op.equal t (.slice (some ⟨b,o,none⟩) n c) (.slice none 0 0)=Op.equalIn (9999+1) t (.slice (some ⟨b,o,none⟩) n c) (.slice none 0 0) from rfl,h]
   simp
  simp [execOp,hex,hfv.2,eqGuard,h2]
theorem AR {x:Operand} {ts:Array TypeId} {id ver n k:Nat} {es:List (List SV)} (hx:ρ x=some (.one (.sl id ver 0 n))) (hL:L[id]?=some (.row ver es k)) (hn:0<n) :
  xQ P ρ L (.call { callee := .builtin .unsafeSliceData,args := #[x],argTypes:=ts }) (.one (.ep id ver 0 0)) L:=by
 intro B R γ w ev o ho hi hρ hfv
 obtain ⟨dst,op',type,pos,after,guard⟩:=o
 simp only at ho;subst ho
 obtain ⟨hvc,hlt,hall⟩:=(hρ _ (by simp [Op.operands,Call.operands]) _ hx)
 obtain ⟨hle,g,hg,hat⟩:=(hall _ es k hL).2 rfl
 match g,hg,hat with
 | .none,hg,⟨_,h0,_⟩=>omega
 | .arr b c,hg,hat =>
  have hat:ev x = .slice (some ⟨b,0*k,none⟩) n (c-0):=by
   rcases hat with hat|⟨_,h0,_⟩
   ·exact hat
   ·omega
  obtain ⟨vs,E,hb,hE2,hsz,hle2,hk,_,_⟩:=ku hi hL hg
  have hc:c≠0:=by omega
  refine ⟨w,R,γ, .inl ⟨.pointer (some ⟨b,0,none⟩),?_,⟨rfl,rfl⟩,hlt,fun ver2 es2 k2 e2=>?_⟩,hi,Ext.refl _ _ _,Mv.refl⟩
  ·have:=Lib.run_unsafeSliceData_row (P:=P) w ts type (⟨b,0,none⟩:Addr) n c hc
   simp only [Nat.zero_mul,Nat.sub_zero] at hat
   simp [execOp,resolve,invoke,builtin,hat,this]
  ·rw [hL] at e2;injection e2 with e2;injection e2 with q1 q2 q3;subst q1 q2 q3
   refine ⟨ag' _,fun _=>⟨by omega, .arr b c,hg,?_⟩⟩
   simp [aft]
theorem yX {x:Operand} {ts:Array TypeId} {id ver k:Nat} (hx:ρ x=some (.one (.sl id ver 0 0))) (hL:L[id]?=some (.row ver [] k)) (hv:ver<65536) :
  xQ P ρ L (.call { callee := .builtin .unsafeSliceData,args := #[x],argTypes:=ts }) (.one (.c (.nul .ptr))) L:=by
 intro B R γ w ev o ho hi hρ hfv
 obtain ⟨dst,op',type,pos,after,guard⟩:=o
 simp only at ho;subst ho
 obtain ⟨hvc,hlt,hall⟩:=(hρ _ (by simp [Op.operands,Call.operands]) _ hx)
 obtain ⟨hle,g,hg,hat⟩:=(hall _ [] k hL).2 rfl
 match g,hg,hat with
 | .none,hg,⟨hu,h0,_⟩ =>
  exact ⟨w,R,γ, .inl ⟨.pointer none,by have:=Lib.run_unsafeSliceData_nil (P:=P) w ts type 0 0;simp [execOp,resolve,invoke,builtin,hu,this], .nul .ptr _ rfl⟩,hi,Ext.refl _ _ _,Mv.refl⟩
 | .arr b c,hg,hat =>
  obtain ⟨vs,E,hb,hE2,hsz,hle2,hk,_,_⟩:=ku hi hL hg
  omega
theorem su {x y:Operand} {pt it:TypeId} (hx:ρ x=some (.one (.c (.nul .ptr)))) (hy:ρ y=some (.one (.c (.int .i64 0)))) :
  xQ P ρ L (.call { callee := .builtin .unsafeString,args := #[x,y],argTypes := #[pt,it] }) (.one (.c (.str .empty))) L:=by
 intro B R γ w ev o ho hi hρ hfv
 obtain ⟨dst,op',type,pos,after,guard⟩:=o
 simp only at ho;subst ho
 have h1:=(hρ _ (by simp [Op.operands,Call.operands]) _ hx)
 have h2:=(hρ _ (by simp [Op.operands,Call.operands]) _ hy)
 generalize hex:ev x=ux at h1
 generalize hey:ev y=uy at h2
 cases h1 with|nul _ _ e1 =>
 cases h2
 subst e1
 have:=Lib.run_unsafeString_none (P:=P) w pt it type none
 exact ⟨w,R,γ, .inl ⟨.string .empty,by simp [execOp,resolve,invoke,builtin,hex,hey,Nul.val,this], .str _⟩,hi,Ext.refl _ _ _,Mv.refl⟩
theorem uV {x y:Operand} {pt it:TypeId} {E id ver:Nat} {s:ByteArray} (hx:ρ x=some (.one (.ep id ver 0 0))) (hy:ρ y=some (.one (.c (.int .i64 s.size)))) (hL:L[id]?=some (.row ver (bJ s) 1)) (hE:ver%65536=E) (hp:P.underlying pt=some (.pointer E)) (hc:P.cellsOf E=1)
  (h0:0<s.size) (h63:s.size<=9223372036854775807) :
  xQ P ρ L (.call { callee := .builtin .unsafeString,args := #[x,y],argTypes := #[pt,it] }) (.one (.c (.str s))) (L.set id .dead):=by
 intro B R γ w ev o ho hi hρ hfv
 obtain ⟨dst,op',type,pos,after,guard⟩:=o
 simp only at ho;subst ho
 obtain ⟨_,b,c,hg,hu⟩:=MQ (R:=R) hL (hρ _ (by simp [Op.operands,Call.operands]) _ hx)
 have h2:=(hρ _ (by simp [Op.operands,Call.operands]) _ hy)
 generalize hey:ev y=uy at h2
 cases h2
 obtain ⟨vs,E2,hb,hE2,hsz,hle,hk,hcells,hRn⟩:=ku hi hL hg
 have hEt:E2=E:=by rw [hE2.1];exact hE
 subst hEt
 have hlen:(bJ s).length=s.size:=by unfold bJ;rw [ag7];simp
 have hdl:s.data.toList.length=s.size:=by simp
 have hsh:w.shape? b=some (E2,c*1):=by simp [World.shape?,hb,hsz]
 have hrun:=Lib.run_unsafeString_row (P:=P) w pt it type E2 hp hc b (c*1) hsh s.data.toList (by intro e;rw [e] at hdl;simp at hdl;omega) (by rw [hdl];omega) (by rw [hdl];omega) (fun j x hj=>by
  have hjl:=(agV.1 hj).1
  rw [Addr.add_mid,ahB,cob_ hb]
  have hjv:j<vs.size:=by rw [hsz];omega
  have hbr:(bJ s)[j]?=some [.c (.int .u8 x.toNat)]:=by unfold bJ;rw [ahg,hj];rfl
  have:=hcells.rep j _ 0 vs[j] _ hbr (by
   rw [Nat.mul_one,Nat.add_zero,ahn,if_pos (by omega)]
   simp [hjv]) rfl
  rw [ahi hjv]
  generalize vs[j]=vj at this
  cases this
  rfl)
 rw [hdl] at hrun
 have hfr : ∀ m,0<m->((∀ b',b'≠b->(w.freeze ⟨b,0,none⟩ m).heap[b']?=w.heap[b']?)/\(w.freeze ⟨b,0,none⟩ m).heap.size=w.heap.size)/\(w.freeze ⟨b,0,none⟩ m).os=w.os/\(w.freeze ⟨b,0,none⟩ m).tape=w.tape/\(w.freeze ⟨b,0,none⟩ m).output=w.output:=by
  intro m hm
  have:m≠0:=by omega
  refine ⟨⟨fun b' hne=>?_,?_⟩,?_,?_,?_⟩<;>simp only [World.freeze,hb]<;>simp [this]
  rw [Array.getElem?_modify]
  simp [Ne.symm hne]
 obtain ⟨⟨hfz,hfs⟩,f1,f2,f3⟩:=hfr s.size h0
 obtain ⟨i1,i2⟩:=hi.kill hL hg rfl (fun b e=>by cases e) (R':=R) (w':=w.freeze ⟨b,0,none⟩ s.size) (PH.sub_refl _) hfz hfs (fun _ _ _=>rfl) (fun o u e=>by rw [hRn o] at e;cases e)
 have hnb:=(hi.new id _ b hg rfl).1
 refine ⟨_,R,_, .inl ⟨.string s,?_, .str s⟩,i1,⟨⟨?_,?_,?_,by omega,fun b' hb'=>hfz b' (fun e=>hnb (by rw [<- e];exact hb'))⟩,PH.sub_refl _,fun _ _ _=>rfl⟩,i2⟩
 ·have hs:(⟨s.data.toList.toArray⟩:ByteArray)=s:=by cases s;simp
  rw [hs] at hrun
  simp only [Nat.zero_mul,ahB,Nat.add_zero] at hu
  simp [execOp,resolve,invoke,builtin,hu,hey,hrun]
 ·exact f1
 ·exact f2
 ·exact f3
end
open Go.RowKit
def oO:List (List SV)->Option (List (List AC))
 | []=>some []
 | e::es=>match ni e,oO es with
  | some x,some xs=>some (x::xs)
  | _,_=>none
theorem zI : ∀ {es:List (List SV)} {cs:List (List AC)}, oO es=some cs->es.length=cs.length
 | [],cs,h=>by injection h with h;subst h;rfl
 | e::es,cs,h=>by
  unfold oO at h
  split at h
  ·rename_i x xs hx hxs;injection h with h;subst h;simp [zI hxs]
  ·cases h
theorem ut : ∀ {es:List (List SV)} {cs:List (List AC)}, oO es=some cs -> ∀ (i:Nat) c,cs[i]?=some c -> ∃ e,es[i]?=some e/\ni e=some c
 | [],cs,h=>by injection h with h;subst h;intro i c hc;simp at hc
 | e::es,cs,h=>by
  unfold oO at h
  split at h
  ·rename_i x xs hx hxs
   injection h with h;subst h
   intro i c hc
   cases i with
   | zero=>simp at hc;subst hc;exact ⟨e,rfl,hx⟩
   | succ i=>simp at hc;obtain ⟨e',h1,h2⟩:=ut hxs i c hc;exact ⟨e',by simpa using h1,h2⟩
  ·cases h
theorem GV : ∀ (cs:List (List AC)),oO (cs.map (List.map SV.c))=some cs
 | []=>rfl
 | c::cs=>by
  have h1 : ∀ l:List AC,ni (l.map SV.c)=some l:=by
   intro l
   induction l with
   | nil=>rfl
   | cons x l ih=>simp [ni,SV.norm,ih]
  simp [oO,h1,GV cs]
section
variable {P:Program} {ti:TI} {B:Nat->Prop} {N n0:Nat} {R:PH} {γ:List Gh} {L:List Ob} {T:Tm} {w:World} {Q:AX->Tm->List Ob->Prop}
end
section
variable {P:Program} {ti:TI} {N n0:Nat} {L:List Ob} {T:Tm} {Q:AX->Tm->List Ob->Prop}
theorem Gi {B:Nat->Prop} {R:PH} {γ:List Gh} {w:World} (hi:Inv B R γ L w) {id ver k:Nat} {es:List (List SV)} {cs:List (List AC)} (hL:L[id]?=some (.row ver es k)) (hn:oO es=some cs) :
  ∃ R' γ',Inv B R' γ' (L.set id .dead) w/\Ext B R R' w w/\Mv R R' γ γ' L (L.set id .dead) /\ ∀ lo n u,(SV.sl id ver lo n).rep R γ L u->bP R' u (.lst ((cs.drop lo).take n)):=by
 have hlt:id<L.length:=(agV.1 hL).1
 obtain ⟨g,hg⟩ : ∃ g,γ[id]?=some g:=⟨_,ag4 (by rw [hi.len];exact hlt)⟩
 have hob:=hi.obj id _ _ hL hg
 have hlc:=zI hn
 match g,hg,hob with
 | .none,hg,hob =>
  have he:es=[]:=hob
  subst he
  injection hn with hn;subst hn
  have hm:Mv R R γ (γ.set id .none) L (L.set id .dead):=Mv.setOb (PH.sub_refl _) hi.len hL (fun b e=>by rw [hg] at e;cases e) (fun _ _ e=>by cases e) (fun _ _ _ e=>by cases e)
  have hgs:γ.set id .none=γ:=by
   apply List.ext_getElem?
   intro j
   by_cases hj:j=id
   ·subst hj;rw [ahc (by rw [hi.len];exact hlt),hg]
   ·rw [ahd (Ne.symm hj)]
  rw [hgs] at hm
  refine ⟨R,γ,⟨by simp [hi.len],hi.val,fun j y h hy hh=>?_,hi.inj,hi.new,hi.bsz⟩,Ext.refl _ _ _,hm,fun lo n u hu=>?_⟩
  ·by_cases hj:j=id
   ·subst hj
    rw [ahc hlt] at hy;injection hy with hy;subst hy
    rw [hg] at hh;injection hh with hh;subst hh
    trivial
   ·rw [ahd (Ne.symm hj)] at hy
    exact (hi.obj j y h hy hh).mv hm (fun _ _=>rfl) (fun _ _ _ e=>e)
  ·obtain ⟨_,_,hall⟩:=hu
   obtain ⟨_,g',hg',hat⟩:=(hall _ [] k hL).2 rfl
   rw [hg] at hg';injection hg' with hg';subst hg'
   obtain ⟨rfl,rfl,rfl⟩:=hat
   exact gp _ _ _
 | .arr b c,hg,hob =>
  obtain ⟨vs,E,hb,hE,hsz,hle,hk,hcells,hRn⟩:=ku hi hL hg
  have hle2:es.length*k<=c*k:=ahv _ hle
  have hsub0 : ∀ b' o u,R b' o=some u->(if b'=b/\o<es.length*k then vs[o]? else R b' o)=some u:=by
   intro b' o u h
   by_cases hc:b'=b/\o<es.length*k
   ·exfalso;rw [hc.1,hRn] at h;cases h
   ·rw [if_neg hc];exact h
  let R':PH:=R.put (fun b' o=>if b'=b/\o<es.length*k then vs[o]? else R b' o) hsub0
  have hsub:PH.sub R R':=hsub0
  obtain ⟨i1,i2⟩:=hi.kill hL hg rfl (fun b e=>by cases e) (R':=R') (w':=w) hsub (fun _ _=>rfl) rfl (fun b' o hne=>by show (if b'=b/\o<es.length*k then vs[o]? else R b' o)=R b' o;rw [if_neg (fun h=>hne h.1)])
   (fun o u h=>by
    have h:(if b=b/\o<es.length*k then vs[o]? else R b o)=some u:=h
    rw [cob_ hb]
    by_cases hc:b=b/\o<es.length*k
    ·rw [if_pos hc] at h;exact h
    ·rw [if_neg hc,hRn] at h;cases h)
  have hnb:=(hi.new id _ b hg rfl).1
  refine ⟨R',γ.set id .none,i1,⟨Kept.refl _ _,hsub,fun b' o hb'=>?_⟩,i2,fun lo n u hu=>?_⟩
  ·show (if b'=b/\o<es.length*k then vs[o]? else R b' o)=R b' o
   rw [if_neg (fun h=>hnb (by rw [<- h.1];exact hb'))]
  ·obtain ⟨_,_,hall⟩:=hu
   obtain ⟨hln,g',hg',hat⟩:=(hall _ es k hL).2 rfl
   rw [hg] at hg';injection hg' with hg';subst hg'
   have hlen:((cs.drop lo).take n).length=n:=by simp;omega
   have hcv : ∃ a c',u = .slice a n c'/\n<=c'/\(0<n->a=some ⟨b,lo*k,none⟩):=by
    rcases hat with hat|⟨q1,q2,a,q3⟩
    ·exact ⟨_,_,hat,by omega,fun _=>rfl⟩
    ·exact ⟨a,0,by rw [q3,q2],by omega,fun h=>by omega⟩
   obtain ⟨a,c',rfl,hnc,ha⟩:=hcv
   have h1:lo*k+n*k<=es.length*k:=by rw [<- Nat.add_mul];exact ahv _ hln
   have getc : ∀ (i:Nat) e,((cs.drop lo).take n)[i]?=some e->i<n /\ ∃ y,es[lo+i]?=some y/\ni y=some e:=by
    intro i e he
    rw [ahn] at he
    split at he
    ·rename_i hin
     rw [ahF] at he
     obtain ⟨y,g1,g2⟩:=ut hn (lo+i) e he
     exact ⟨hin,y,g1,g2⟩
    ·cases he
   refine .lst a n c' _ k (fun j=>(vs[lo*k+j]?).getD Go.undef) b (lo*k) hlen hnc (fun e he=>?_) ha (fun j hj=>?_) (fun i e j x he hx=>?_)
   ·obtain ⟨i,hi'⟩:=List.mem_iff_getElem?.1 he
    obtain ⟨_,y,g1,g2⟩:=getc i e hi'
    rw [kF g2];exact hcells.wide y (ag1 g1)
   ·have hlt2:lo*k+j<vs.size:=by omega
    show (if b=b/\lo*k+j<es.length*k then vs[lo*k+j]? else R b (lo*k+j))=_
    rw [if_pos ⟨rfl,by omega⟩,ahi hlt2];rfl
   ·obtain ⟨hin,y,g1,g2⟩:=getc i e he
    have hjk:j<k:=by rw [<- hcells.wide y (ag1 g1), <- kF g2];exact (agV.1 hx).1
    have hlt3:=xE hin hjk
    have hlt2:lo*k+(i*k+j)<vs.size:=by omega
    have hyj:j<y.length:=by rw [hcells.wide y (ag1 g1)];exact hjk
    have hr:=hcells.rep (lo+i) y j vs[lo*k+(i*k+j)] _ g1 (by
     rw [ahn,if_pos (by rw [Nat.add_mul];omega),Nat.add_mul,Nat.add_assoc]
     simp [hlt2]) (ag4 hyj)
    have:=SV.norm_rep hr (qm g2 j _ _ (ag4 hyj) hx)
    show bP R' ((vs[lo*k+(i*k+j)]?).getD Go.undef) x
    rw [ahi hlt2]
    exact bP.mono hsub this
end
def OI (id:Nat) (ts:List AC):Cap->Cap
 | .ptr i off=>if i=id then .c (.ref (ts.drop off)) else .ptr i off
 | .c x => .c x
def Ns (id:Nat) (ts:List AC):SV->SV
 | .ptr i off=>if i=id then .c (.ref (ts.drop off)) else .ptr i off
 | .clo f caps=>match iF (caps.map (OI id ts)) with
  | some cs => .c (.fn f cs)
  | none => .clo f (caps.map (OI id ts))
 | x=>x
def Md (id:Nat) (ts:List AC):AV->AV
 | .one x => .one (Ns id ts x)
 | .agg xs => .agg (xs.map (Ns id ts))
 | v=>v
section
variable {P:Program} {ti:TI} {B:Nat->Prop} {N n0:Nat} {R:PH} {γ:List Gh} {L:List Ob} {T:Tm} {w:World} {Q:AX->Tm->List Ob->Prop}
theorem KY (hi:Inv B R γ L w) {id:Nat} {cs:List SV} {ts:List AC} (hL:L[id]?=some (.box cs)) (hn:ni cs=some ts) :
  ∃ R',Inv B R' γ (L.set id .dead) w/\Ext B R R' w w/\Mv R R' γ γ L (L.set id .dead) /\ ∀ off u,(SV.ptr id off).rep R γ L u->bP R' u (.ref (ts.drop off)):=by
 have hlt:id<L.length:=(agV.1 hL).1
 obtain ⟨g,hg⟩ : ∃ g,γ[id]?=some g:=⟨_,ag4 (by rw [hi.len];exact hlt)⟩
 have hob:=hi.obj id _ _ hL hg
 match g,hg,hob with
 | .box b,hg,hob =>
  obtain ⟨⟨vs,E,hb,hsz,hrep⟩,hRn⟩:=hob
  have hsub0 : ∀ b' o u,R b' o=some u->(if b'=b then vs[o]? else R b' o)=some u:=by
   intro b' o u h
   by_cases hc:b'=b
   ·exfalso;rw [hc,hRn] at h;cases h
   ·rw [if_neg hc];exact h
  let R':PH:=R.put (fun b' o=>if b'=b then vs[o]? else R b' o) hsub0
  have hsub:PH.sub R R':=hsub0
  have hR' : ∀ o,R' b o=vs[o]?:=fun o=>by show (if b=b then vs[o]? else R b o)=_;rw [if_pos rfl]
  have hRo : ∀ b' o,b'≠b->R' b' o=R b' o:=fun b' o h=>by show (if b'=b then vs[o]? else R b' o)=_;rw [if_neg h]
  have hkeep : ∀ (t:Nat) x,(L.set id .dead)[t]?=some x->x ≠ .dead->L[t]?=some x:=by
   intro t x hx hne
   by_cases ht:t=id
   ·subst ht;rw [ahc hlt] at hx;injection hx with hx;exact absurd hx.symm hne
   ·rwa [ahd (Ne.symm ht)] at hx
  have hm:Mv R R' γ γ L (L.set id .dead):=⟨hsub0,by simp,fun t n' k _ h=>⟨n',hkeep t _ h (fun e=>by cases e),ag' _,fun _=>rfl⟩,fun t ver es k _ h=>⟨ver,es,hkeep t _ h (fun e=>by cases e),ag' _,fun _=>⟨rfl,rfl⟩⟩,fun _ _ h=>h⟩
  have hnb:=(hi.new id _ b hg rfl).1
  refine ⟨R',⟨by simp [hi.len],fun b' o u h=>?_,fun j y h hy hh=>?_,hi.inj,hi.new,hi.bsz⟩,⟨Kept.refl _ _,hsub0,fun b' o hb'=>hRo b' o (fun e=>hnb (e▸hb'))⟩,hm,fun off u hu=>?_⟩
  ·by_cases hc:b'=b
   ·subst hc;rw [hR'] at h;rw [cob_ hb];exact h
   ·rw [hRo _ _ hc] at h;exact hi.val _ _ _ h
  ·by_cases hj:j=id
   ·subst hj
    rw [ahc hlt] at hy;injection hy with hy;subst hy
    rw [hg] at hh;injection hh with hh;subst hh
    trivial
   ·rw [ahd (Ne.symm hj)] at hy
    exact (hi.obj j y h hy hh).mv hm (fun _ _=>rfl) (fun b' o hb' e=>by rw [hRo b' o (fun e'=>hi.inj j id h _ hh hg hj b' hb' (by rw [e'];rfl))];exact e)
  ·obtain ⟨b2,rfl,hb2⟩:=hu
   rw [hg] at hb2;injection hb2 with hb2;injection hb2 with hb2;subst hb2
   have hlen:=kF hn
   refine .ref b off (ts.drop off) (fun j=>(vs[off+j]?).getD Go.undef) (fun j hj=>?_) (fun j x hx=>?_)
   ·have hlt2:off+j<vs.size:=by rw [List.length_drop] at hj;omega
    rw [hR',ahi hlt2];rfl
   ·rw [ahF] at hx
    have hlt3:off+j<ts.length:=(agV.1 hx).1
    have hlt2:off+j<vs.size:=by omega
    have hcj:off+j<cs.length:=by omega
    show bP R' ((vs[off+j]?).getD Go.undef) x
    rw [ahi hlt2]
    exact bP.mono hsub (SV.norm_rep (hrep (off+j) _ _ (ahi hlt2) (ag4 hcj)) (qm hn (off+j) _ _ (ag4 hcj) hx))
theorem ab8 {R':PH} {L':List Ob} {id:Nat} {ts:List AC} (hS : ∀ off u,(SV.ptr id off).rep R γ L u->bP R' u (.ref (ts.drop off))) (hM:Mv R R' γ γ L L') {x:Cap} {u:Value} (h:x.rep R γ u):(OI id ts x).rep R' γ u:=by
 cases x with
 | c x=>exact Cap.mv hM.sub hM.ptr h
 | ptr i off =>
  unfold OI
  dsimp only
  split
  ·rename_i e;subst e;exact hS off u h
  ·exact Cap.mv hM.sub hM.ptr h
theorem Ve {R':PH} {L':List Ob} {id:Nat} {ts:List AC} (hS : ∀ off u,(SV.ptr id off).rep R γ L u->bP R' u (.ref (ts.drop off))) (hM:Mv R R' γ γ L L') {x:SV} {u:Value} (h:x.rep R γ L u):(Ns id ts x).rep R' γ L' u:=by
 cases x with
 | ptr i off =>
  unfold Ns
  dsimp only
  split
  ·rename_i e;subst e;exact hS off u h
  ·exact SV.mv hM h
 | clo f caps =>
  obtain ⟨vs,rfl,hsz,hc⟩:=h
  have hc' : ∀ (j:Nat) u x,vs[j]?=some u->(caps.map (OI id ts))[j]?=some x->x.rep R' γ u:=by
   intro j u x hu hx
   rw [ahg] at hx
   cases hy:caps[j]? with
   | none=>rw [hy] at hx;cases hx
   | some y=>rw [hy] at hx;cases hx;exact ab8 hS hM (hc j u y hu hy)
  unfold Ns
  dsimp only
  split
  ·rename_i cs hcs
   have hl:=EN hcs
   rw [ag7] at hl
   exact .fn f vs cs (by rw [hsz,hl]) (fun j v x hv hx=>hc' j v (.c x) hv (Fz hcs j x hx))
  ·exact ⟨vs,rfl,by rw [hsz,ag7],hc'⟩
 | c x=>exact SV.mv hM h
 | emp=>exact SV.mv (x := .emp) hM h
 | own es t=>exact SV.mv (x := .own es t) hM h
 | sl i v l n=>exact SV.mv (x := .sl i v l n) hM h
 | ep i v j o=>exact SV.mv (x := .ep i v j o) hM h
 | mp i=>exact SV.mv (x := .mp i) hM h
theorem acl {R':PH} {L':List Ob} {id:Nat} {ts:List AC} (hS : ∀ off u,(SV.ptr id off).rep R γ L u->bP R' u (.ref (ts.drop off))) (hM:Mv R R' γ γ L L') {x:AV} {u:Value} (h:x.rep R γ L u):(Md id ts x).rep R' γ L' u:=by
 cases x with
 | one x=>exact Ve hS hM h
 | agg xs =>
  obtain ⟨vs,rfl,hsz,hc⟩:=h
  refine ⟨vs,rfl,by rw [hsz,ag7],fun j u x hu hx=>?_⟩
  rw [ahg] at hx
  cases hy:xs[j]? with
  | none=>rw [hy] at hx;cases hx
  | some y=>rw [hy] at hx;cases hx;exact Ve hS hM (hc j u y hu hy)
 | tup ps=>exact AV.mv (x := .tup ps) hM h
 | tupS xs=>exact AV.mv (x := .tupS xs) hM h
 | undef=>exact AV.mv (x := .undef) hM h
theorem y7 {f:AV->AV} : ∀ {T:Tm} {t:Nat} {x:AV}, (T.map fun p=>(p.1,f p.2)).lookup t=some x -> ∃ y,T.lookup t=some y/\x=f y
 | [],t,x,h=>by cases h
 | p::T,t,x,h=>by
  rw [ag6,List.lookup_cons] at h
  rw [List.lookup_cons]
  by_cases e:t=p.1
  ·subst e;simp at h;exact ⟨p.2,by simp,h.symm⟩
  ·have e':(t==p.1)=false:=by simpa using e
   rw [e'] at h ⊢
   exact y7 h
theorem bI {c:Code} (id:Nat) {cs:List SV} {ts:List AC} (hL:L[id]?=some (.box cs)) (hn:ni cs=some ts) (h:Aw P N n0 c Q (T.map fun p=>(p.1,Md id ts p.2)) (L.set id .dead)):Aw P N n0 c Q T L:=by
 intro hn0 B R γ w a hi hT
 obtain ⟨R',hI,hE,hM,hS⟩:=KY hi hL hn
 refine wp_mono (h (by simpa using hn0) B R' γ w a hI ?_) fun _ _ _ hh=>hh.ext hE hi.len (Er.of hn0 hM)
 refine ⟨hT.size,hT.defers,fun t x hx=>?_⟩
 obtain ⟨y,hy,rfl⟩:=y7 hx
 obtain ⟨u,h1,h2⟩:=hT.slot t y hy
 exact ⟨u,h1,acl hS hM h2⟩
def thS (id ver:Nat) (cs:List (List AC)):SV->SV
 | .sl id' ver' lo n=>if id'=id/\ver'=ver then .c (.lst ((cs.drop lo).take n)) else .sl id' ver' lo n
 | x=>x
def thA (id ver:Nat) (cs:List (List AC)):AV->AV
 | .one x => .one (thS id ver cs x)
 | .agg xs => .agg (xs.map (thS id ver cs))
 | v=>v
theorem UX {R':PH} {γ':List Gh} {L':List Ob} {id ver:Nat} {cs:List (List AC)} (hS : ∀ lo n u,(SV.sl id ver lo n).rep R γ L u->bP R' u (.lst ((cs.drop lo).take n))) (hM:Mv R R' γ γ' L L') {x:SV} {u:Value} (h:x.rep R γ L u):(thS id ver cs x).rep R' γ' L' u:=by
 cases x with
 | sl i v l n =>
  unfold thS
  dsimp only
  split
  ·rename_i e;obtain ⟨rfl,rfl⟩:=e;exact hS l n u h
  ·exact SV.mv hM h
 | c x=>exact SV.mv hM h
 | emp=>exact SV.mv (x := .emp) hM h
 | own es t=>exact SV.mv (x := .own es t) hM h
 | ptr i o=>exact SV.mv (x := .ptr i o) hM h
 | ep i v j o=>exact SV.mv (x := .ep i v j o) hM h
 | mp i=>exact SV.mv (x := .mp i) hM h
 | clo f caps=>exact SV.mv (x := .clo f caps) hM h
theorem wM {c:Code} (id:Nat) {ver k:Nat} {es:List (List SV)} {cs:List (List AC)} (hL:L[id]?=some (.row ver es k)) (hn:oO es=some cs) (h:Aw P N n0 c Q (T.map fun p=>(p.1,thA id ver cs p.2)) (L.set id .dead)):Aw P N n0 c Q T L:=by
 intro hn0 B R γ w a hi hT
 obtain ⟨R',γ',hI,hE,hM,hS⟩:=Gi hi hL hn
 refine wp_mono (h (by simpa using hn0) B R' γ' w a hI ?_) fun _ _ _ hh=>hh.ext hE hi.len (Er.of hn0 hM)
 refine ⟨hT.size,hT.defers,fun t x hx=>?_⟩
 obtain ⟨y,hy,rfl⟩:=y7 hx
 obtain ⟨u,h1,h2⟩:=hT.slot t y hy
 refine ⟨u,h1,?_⟩
 cases y with
 | one x=>exact UX hS hM h2
 | agg xs =>
  obtain ⟨vs,rfl,hsz,hc⟩:=h2
  refine ⟨vs,rfl,by rw [hsz,ag7],fun j u x hu hx=>?_⟩
  rw [ahg] at hx
  cases hy:xs[j]? with
  | none=>rw [hy] at hx;cases hx
  | some y=>rw [hy] at hx;cases hx;exact UX hS hM (hc j u y hu hy)
 | tup ps=>exact AV.mv (x := .tup ps) hM h2
 | tupS xs=>exact AV.mv (x := .tupS xs) hM h2
 | undef=>exact AV.mv (x := .undef) hM h2
end
def ck {α:Type} (v:α) (φ:Prop) [Decidable φ]:Option α:=if φ then some v else none
theorem bA {α:Type} {v r:α} {φ:Prop} [Decidable φ] (h:ck v φ=some r):v=r/\φ:=by
 unfold ck at h
 split at h
 ·exact ⟨ahq h,by assumption⟩
 ·cases h
def Lu {α:Type} (f:Option (α × Prop)) (r:α):Prop := ∃ φ,f=some (r,φ)/\φ
theorem nk {α:Type} {v r:α} (h:some v=some r):Lu (some (v,True)) r:=by
 cases h;exact ⟨_,rfl,trivial⟩
theorem l6 {α:Type} {v r:α} {φ:Prop} [Decidable φ] (h:ck v φ=some r):Lu (some (v,φ)) r:=by
 obtain ⟨rfl,hφ⟩:=bA h
 exact ⟨_,rfl,hφ⟩
def isStr:Option TypeDesc->Bool
 | some .string=>true
 | _=>false
theorem mD {d:Option TypeDesc} (h:isStr d=true):d=some .string:=by
 unfold isStr at h;split at h
 ·rfl
 ·cases h
def GZ:Option TypeDesc->Bool
 | some .bool=>true
 | _=>false
theorem MB {d:Option TypeDesc} (h:GZ d=true):d=some .bool:=by
 unfold GZ at h;split at h
 ·rfl
 ·cases h
def Gd (k:Nat):List (List AC)->Bool
 | []=>true
 | e::es=>Nat.beq e.length k&&Gd k es
theorem uY {k:Nat} : ∀ {es:List (List AC)}, Gd k es=true -> ∀ e∈es,e.length=k
 | [],_,e,he=>by cases he
 | x::es,h,e,he=>by
  rw [Gd,ahb] at h
  rcases aha.1 he with rfl|he
  ·exact Nat.eq_of_beq_eq_true h.1
  ·exact uY h.2 e he
def afx (op:BinOp) (k:IntKind) (a b:Int):Option AC :=
 match op with
 | .add=>some (.int k (k.wrap (a+b)))
 | .sub=>some (.int k (k.wrap (a-b)))
 | .mul=>some (.int k (k.wrap (a*b)))
 | .quo=>ck (.int k (k.wrap (a.tdiv b))) (b≠0)
 | .rem=>ck (.int k (a.tmod b)) (b≠0)
 | .eql=>some (.bool (decide (a=b)))
 | .neq=>some (.bool (decide (a≠b)))
 | .lss=>some (.bool (decide (a<b)))
 | .leq=>some (.bool (decide (a<=b)))
 | .gtr=>some (.bool (decide (b<a)))
 | .geq=>some (.bool (decide (b<=a)))
 | .and=>some (.int k (k.wrap (BitVec.ofInt k.bits a &&& BitVec.ofInt k.bits b).toNat))
 | .or=>some (.int k (k.wrap (BitVec.ofInt k.bits a ||| BitVec.ofInt k.bits b).toNat))
 | _=>none
theorem acM {op:BinOp} {k:IntKind} {a b:Int} {r:AC} (h:afx op k a b=some r):Lu (aaA op k a b) r:=by
 cases op<;>first|exact nk h|exact l6 h|cases h
def shB (op:BinOp) (k:IntKind) (a b:Int):Option (Option AC) :=
 match op with
 | .shl=>some (ck (.int k (k.wrap (a*2 ^ (min b.toNat k.bits)))) (0<=b))
 | .shr=>some (ck (.int k (a.fdiv (2 ^ (min b.toNat k.bits)))) (0<=b))
 | _=>none
def ae' (op:BinOp) (a b:ByteArray):Option AC :=
 match op with
 | .add=>ck (.str (a++b)) (a.size+b.size<=9223372036854775807)
 | .eql=>some (.bool (a.toList==b.toList))
 | .neq=>some (.bool (!(a.toList==b.toList)))
 | .lss=>some (.bool (Op.bytesLess a.toList b.toList))
 | .leq=>some (.bool (Op.bytesLess a.toList b.toList||a.toList==b.toList))
 | .gtr=>some (.bool (!(Op.bytesLess a.toList b.toList||a.toList==b.toList)))
 | .geq=>some (.bool (!Op.bytesLess a.toList b.toList))
 | _=>none
theorem abD {op:BinOp} {a b:ByteArray} {r:AC} (h:ae' op a b=some r):Lu (aaY op a b) r:=by
 cases op<;>first|exact nk h|exact l6 h|cases h
def ad5 (ti:TI) (op:BinOp) (t:TypeId):AV->AV->Option AV
 | .one (.c (.int k a)), .one (.c (.int k' b))=>match shB op k a b with
  | some r=>r.map fun r => .one (.c r)
  | none=>match decide (k=k') with
   | true=>(afx op k a b).map fun r => .one (.c r)
   | false=>none
 | .one (.c (.str a)), .one (.c (.str b))=>(ae' op a b).map fun r => .one (.c r)
 | .one (.c (.bool a)), .one (.c (.bool b))=>match op with
  | .eql=>ck (.one (.c (.bool (a==b)))) (GZ (ti.kind t)=true)
  | .neq=>ck (.one (.c (.bool (!(a==b))))) (GZ (ti.kind t)=true)
  | _=>none
 | .agg xs, .agg ys=>match ti.eqs t with
  | some sh=>match op with
   | .eql=>ck (.one (.c (.bool (dL xs ys)))) (iE sh xs=true/\iE sh ys=true)
   | .neq=>ck (.one (.c (.bool (!dL xs ys)))) (iE sh xs=true/\iE sh ys=true)
   | _=>none
  | none=>none
 | _,_=>none
theorem map_some {α β:Type} {o:Option α} {f:α->β} {r:β} (h:o.map f=some r) : ∃ a,o=some a/\f a=r:=by
 cases o with
 | none=>cases h
 | some a=>exact ⟨a,rfl,ahq h⟩
theorem acj {ti:TI} {op:BinOp} {t:TypeId} {x y v:AV} (h:ad5 ti op t x y=some v):Lu (Ck ti op t x y) v:=by
 unfold ad5 at h
 split at h
 ·rename_i k a k' b
  unfold Ck
  cases op
  case shl=>obtain ⟨r,h1,rfl⟩:=map_some h;obtain ⟨rfl,hφ⟩:=bA h1;exact ⟨_,rfl,hφ⟩
  case shr=>obtain ⟨r,h1,rfl⟩:=map_some h;obtain ⟨rfl,hφ⟩:=bA h1;exact ⟨_,rfl,hφ⟩
  all_goals
   simp only [shB,aem] at h ⊢
   split at h
   ·rename_i hk
    obtain ⟨r,h1,rfl⟩:=map_some h
    obtain ⟨φ,h2,hφ⟩:=acM h1
    rw [hk,h2]
    exact ⟨_,rfl,hφ⟩
   ·cases h
 ·obtain ⟨r,h1,rfl⟩:=map_some h
  obtain ⟨φ,h2,hφ⟩:=abD h1
  unfold Ck
  dsimp only
  rw [h2]
  exact ⟨_,rfl,hφ⟩
 ·split at h
  ·obtain ⟨rfl,hφ⟩:=bA h;exact ⟨_,rfl,MB hφ⟩
  ·obtain ⟨rfl,hφ⟩:=bA h;exact ⟨_,rfl,MB hφ⟩
  ·cases h
 ·unfold Ck
  dsimp only
  split at h
  ·rename_i sh hs
   rw [hs]
   split at h
   ·exact l6 h
   ·exact l6 h
   ·cases h
  ·cases h
 ·cases h
def U8 (ti:TI) (L:List Ob) (t:TypeId):AV->Option AV
 | .one (.c (.ref cs))=>match ti.agg t,ti.size t with
  | some false,_=>match cs with
   | x::_=>some (.one (.c x))
   | []=>none
  | some true,some n=>ck (.agg ((cs.take n).map .c)) (n<=cs.length)
  | _,_=>none
 | .one (.ptr id off)=>match L[id]? with
  | some (.box cs)=>match ti.agg t,ti.size t with
   | some false,_=>match cs[off]? with
    | some x=>some (.one x)
    | none=>none
   | some true,some n=>ck (.agg ((cs.drop off).take n)) (off+n<=cs.length)
   | _,_=>none
  | _=>none
 | .one (.ep id ver i o)=>match L[id]? with
  | some (.row ver' es _)=>match es[i]?,ti.agg t,ti.size t with
   | some e,some false,_=>match e[o]? with
    | some x=>ck (.one x) (ver=ver')
    | none=>none
   | some e,some true,some n=>ck (.agg ((e.drop o).take n)) (ver=ver'/\o+n<=e.length)
   | _,_,_=>none
  | _=>none
 | _=>none
theorem Qd {ti:TI} {L:List Ob} {t:TypeId} {x v:AV} (h:U8 ti L t x=some v):Lu (lq ti L t x) v:=by
 unfold U8 at h
 unfold lq
 split at h
 ·dsimp only
  split at h
  ·rename_i h1
   rw [h1]
   split at h
   ·exact nk h
   ·cases h
  ·rename_i h1 h2
   rw [h1,h2]
   exact l6 h
  ·cases h
 ·dsimp only
  split at h
  ·rename_i h0
   rw [h0]
   dsimp only
   split at h
   ·rename_i h1
    rw [h1]
    dsimp only
    split at h
    ·rename_i h2
     rw [h2]
     exact nk h
    ·cases h
   ·rename_i h1 h2
    rw [h1,h2]
    exact l6 h
   ·cases h
  ·cases h
 ·dsimp only
  split at h
  ·rename_i h0
   rw [h0]
   dsimp only
   split at h
   ·rename_i h1 h2
    rw [h1,h2]
    dsimp only
    split at h
    ·rename_i h3
     rw [h3]
     exact l6 h
    ·cases h
   ·rename_i h1 h2 h3
    rw [h1,h2,h3]
    exact l6 h
   ·cases h
  ·cases h
 ·cases h
def Bn (ti:TI) (s:TypeId) (i0:Nat):AV->Option AV
 | .one (.c (.ref cs))=>match ti.field s i0 with
  | some (o,t)=>match ti.size t with
   | some (_+1)=>ck (.one (.c (.ref (cs.drop o)))) (o<=cs.length)
   | _=>none
  | none=>none
 | .one (.ptr id off)=>match ti.field s i0 with
  | some (o,t)=>match ti.size t with
   | some (_+1)=>some (.one (.ptr id (off+o)))
   | _=>none
  | none=>none
 | _=>none
theorem LD {ti:TI} {s:TypeId} {i0:Nat} {x v:AV} (h:Bn ti s i0 x=some v):Lu (mK ti s i0 x) v:=by
 unfold Bn at h
 unfold mK
 split at h
 ·dsimp only
  split at h
  ·rename_i h0
   rw [h0]
   dsimp only
   split at h
   ·rename_i h1
    rw [h1]
    exact l6 h
   ·cases h
  ·cases h
 ·dsimp only
  split at h
  ·rename_i h0
   rw [h0]
   dsimp only
   split at h
   ·rename_i h1
    rw [h1]
    exact nk h
   ·cases h
  ·cases h
 ·cases h
def UA (ti:TI) (s:TypeId) (i:Nat):AV->Option AV
 | .agg xs=>match ti.field s i with
  | some (o,t)=>match ti.agg t,ti.size t with
   | some false,_=>match xs[o]? with
    | some x=>some (.one x)
    | none=>none
   | some true,some n=>ck (.agg ((xs.drop o).take n)) (o+n<=xs.length)
   | _,_=>none
  | none=>none
 | _=>none
theorem XH {ti:TI} {s:TypeId} {i:Nat} {x v:AV} (h:UA ti s i x=some v):Lu (yo ti s i x) v:=by
 unfold UA at h
 unfold yo
 split at h
 ·dsimp only
  split at h
  ·rename_i h0
   rw [h0]
   dsimp only
   split at h
   ·rename_i h1
    rw [h1]
    dsimp only
    split at h
    ·rename_i h2
     rw [h2]
     exact nk h
    ·cases h
   ·rename_i h1 h2
    rw [h1,h2]
    exact l6 h
   ·cases h
  ·cases h
 ·cases h
def FD (ti:TI) (L:List Ob) (s:TypeId) (i0 id ver i off:Nat):Option AV :=
 match L[id]?,ti.field s i0 with
 | some (.row ver' _ _),some (o,t)=>match ti.size t with
  | some (_+1)=>ck (.one (.ep id ver i (off+o))) (ver=ver')
  | _=>none
 | _,_=>none
theorem NZ {ti:TI} {L:List Ob} {s:TypeId} {i0 id ver i off:Nat} {v:AV} (h:FD ti L s i0 id ver i off=some v):Lu (iH ti L s i0 id ver i off) v:=by
 unfold FD at h
 unfold iH
 split at h
 ·rename_i h0 h1
  rw [h0,h1]
  dsimp only
  split at h
  ·rename_i h2
   rw [h2]
   exact l6 h
  ·cases h
 ·cases h
def OU (ti:TI) (L:List Ob) (t:TypeId) (id ver n:Nat):Option AV :=
 match L[id]? with
 | some (.row ver' _ _)=>ck (.one (.c (.int .i64 n))) (ver=ver'/\(ti.elem t).isSome=true)
 | _=>none
theorem UT {ti:TI} {L:List Ob} {t:TypeId} {id ver n:Nat} {v:AV} (h:OU ti L t id ver n=some v):Lu (ma ti L t id ver n) v:=by
 unfold OU at h
 unfold ma
 split at h
 ·rename_i h0
  rw [h0]
  exact l6 h
 ·cases h
def ER (ti:TI) (L:List Ob) (t:TypeId) (id ver lo n:Nat) (ix:AV):Option AV :=
 match L[id]?,ix,(ti.elem t).bind ti.size with
 | some (.row ver' _ k'), .one (.c (.int _ i)),some k=>ck (.one (.ep id ver (lo+i.toNat) 0)) ((ver=ver'/\k=k')/\0<=i/\i<n)
 | _,_,_=>none
theorem Ol {ti:TI} {L:List Ob} {t:TypeId} {id ver lo n:Nat} {ix v:AV} (h:ER ti L t id ver lo n ix=some v):Lu (iG ti L t id ver lo n ix) v:=by
 unfold ER at h
 unfold iG
 split at h
 ·rename_i h0 h1
  rw [h0,h1]
  exact l6 h
 ·cases h
def Bl (ti:TI) (t:TypeId) (x ix:AV):Option AV :=
 match fZ x,ix,(ti.elem t).bind ti.size with
 | some es, .one (.c (.int _ i)),some k=>match es[i.toNat]? with
  | some e=>ck (.one (.c (.ref e))) (0<=i/\e.length=k)
  | none=>none
 | _,_,_=>none
theorem Lg {ti:TI} {t:TypeId} {x ix v:AV} (h:Bl ti t x ix=some v):Lu (jZ ti t x ix) v:=by
 unfold Bl at h
 unfold jZ
 split at h
 ·rename_i h0 h1
  rw [h0,h1]
  dsimp only
  split at h
  ·rename_i h2
   rw [h2]
   exact l6 h
  ·cases h
 ·cases h
def indexB (ti:TI) (t:TypeId) (x ix:AV):Option AV :=
 match x,ix with
 | .one (.c (.str s)), .one (.c (.int _ i))=>match s[i.toNat]? with
  | some b=>ck (.one (.c (.int .u8 b.toNat))) (0<=i/\isStr (ti.kind t)=true)
  | none=>none
 | .agg zs, .one (.c (.int _ i))=>match ti.kind t with
  | some (.array n e)=>match ti.agg e,ti.size e with
   | some false,some k=>match zs[i.toNat*k]? with
    | some x=>ck (.one x) (0<=i/\i<(n:Int))
    | none=>none
   | some true,some k=>ck (.agg ((zs.drop (i.toNat*k)).take k)) ((0<=i/\i<(n:Int))/\i.toNat*k+k<=zs.length)
   | _,_=>none
  | _=>none
 | _,_=>none
theorem Yq {ti:TI} {t:TypeId} {x ix v:AV} (h:indexB ti t x ix=some v):Lu (rE ti t x ix) v:=by
 unfold indexB at h
 unfold rE
 split at h
 ·dsimp only
  split at h
  ·rename_i h2
   rw [h2]
   obtain ⟨rfl,h3,h4⟩:=bA h
   exact ⟨_,rfl,h3,mD h4⟩
  ·cases h
 ·dsimp only
  split at h
  ·rename_i hk
   rw [hk]
   dsimp only
   split at h
   ·rename_i ha hs
    rw [ha,hs]
    dsimp only
    split at h
    ·rename_i hx
     rw [hx]
     exact l6 h
    ·cases h
   ·rename_i ha hs
    rw [ha,hs]
    exact l6 h
   ·cases h
  ·cases h
 ·cases h
def sliceB (ti:TI) (L:List Ob) (t:TypeId) (x:AV) (lo hi:Option AV):Option AV :=
 match x with
 | .one (.c (.str s))=>match pQ 0 lo,pQ s.size hi with
  | some l,some h=>ck (.one (.c (.str (s.extract l.toNat h.toNat)))) (0<=l/\l<=h/\h<=s.size/\isStr (ti.kind t)=true)
  | _,_=>none
 | .one (.sl id ver lo0 n)=>match L[id]?,(ti.elem t).bind ti.size with
  | some (.row ver' _ k'),some k=>match pQ 0 lo,pQ n hi with
   | some l,some h=>ck (.one (.sl id ver (lo0+l.toNat) (h.toNat-l.toNat))) (ver=ver'/\k=k'/\0<=l/\l<=h/\h<=n)
   | _,_=>none
  | _,_=>none
 | _=>match fZ x,(ti.elem t).bind ti.size with
  | some es,some k=>match pQ 0 lo,pQ es.length hi with
   | some l,some h=>ck (.one (.c (.lst ((es.take h.toNat).drop l.toNat)))) (0<=l/\l<=h/\h<=es.length/\Gd k es=true)
   | _,_=>none
  | _,_=>none
theorem zP {ti:TI} {L:List Ob} {t:TypeId} {x v:AV} {lo hi:Option AV} (h:sliceB ti L t x lo hi=some v):Lu (iC ti L t x lo hi) v:=by
 unfold sliceB at h
 split at h
 ·unfold iC
  dsimp only
  split at h
  ·rename_i h0 h1
   rw [h0,h1]
   obtain ⟨rfl,h3,h4,h5,h6⟩:=bA h
   exact ⟨_,rfl,h3,h4,h5,mD h6⟩
  ·cases h
 ·unfold iC
  dsimp only
  split at h
  ·rename_i h0 h1
   rw [h0,h1]
   dsimp only
   split at h
   ·rename_i h2 h3
    rw [h2,h3]
    exact l6 h
   ·cases h
  ·cases h
 ·rename_i n1 n2
  unfold iC
  split
  ·rename_i s;exact absurd rfl (n1 s)
  ·rename_i a b c d;exact absurd rfl (n2 a b c d)
  ·split at h
   ·rename_i h0 h1
    rw [h0,h1]
    dsimp only
    split at h
    ·rename_i h2 h3
     rw [h2,h3]
     obtain ⟨rfl,h3,h4,h5,h6⟩:=bA h
     exact ⟨_,rfl,h3,h4,h5,uY h6⟩
    ·cases h
   ·cases h
def aen (ti:TI) (t:TypeId) (x:AV):Option AV :=
 match x with
 | .one (.c (.str s))=>ck (.one (.c (.int .i64 s.size))) (isStr (ti.kind t)=true)
 | _=>match fZ x with
  | some es=>ck (.one (.c (.int .i64 es.length))) ((ti.elem t).isSome=true)
  | none=>none
theorem abC {ti:TI} {t:TypeId} {x v:AV} (h:aen ti t x=some v):Lu (KS ti t x) v:=by
 unfold aen at h
 split at h
 ·obtain ⟨rfl,h1⟩:=bA h
  exact ⟨_,rfl,mD h1⟩
 ·rename_i n1
  unfold KS
  split
  ·rename_i s;exact absurd rfl (n1 s)
  ·split at h
   ·rename_i h0
    rw [h0]
    exact l6 h
   ·cases h
def IU (ti:TI) (t:TypeId):List SV->List (Nat × Option AV)->Option (List SV)
 | zs,[]=>some zs
 | zs,(i,v)::ps=>match v.bind AV.cells,ES ti t i with
  | some xs,some (o,ty)=>match IU ti t (splice zs o xs) ps with
   | some r=>ck r (ti.size ty=some xs.length/\o+xs.length<=zs.length)
   | none=>none
  | _,_=>none
theorem Ny {ti:TI} {t:TypeId} : ∀ {ps:List (Nat × Option AV)} {zs r:List SV}, IU ti t zs ps=some r->Lu (qH ti t zs ps) r
 | [],zs,r,h=>nk h
 | (i,v)::ps,zs,r,h=>by
  unfold IU at h
  unfold qH
  split at h
  ·rename_i h0 h1
   rw [h0,h1]
   dsimp only
   split at h
   ·rename_i r' h2
    obtain ⟨φ,h3,h4⟩:=Ny h2
    rw [h3]
    obtain ⟨rfl,h5⟩:=bA h
    exact ⟨_,rfl,h5,h4⟩
   ·cases h
  ·cases h
def aan (ti:TI) (ρ:Operand->Option AV) (L:List Ob):Op->Option AV
 | .move x=>ρ x
 | .assign x=>ρ x
 | .pick c a b=>match ρ c,ρ a,ρ b with
  | some (.one (.c (.bool t))),some va,some vb=>some (if t=true then va else vb)
  | _,_,_=>none
 | .binOp op t x y _=>match ρ x,ρ y with
  | some va,some vb=>ad5 ti op t va vb
  | _,_=>none
 | .unOp op _ x=>match op,ρ x with
  | .not,some (.one (.c (.bool b)))=>some (.one (.c (.bool !b)))
  | .neg,some (.one (.c (.int k n)))=>some (.one (.c (.int k (k.wrap (0-n)))))
  | _,_=>none
 | .convert src dst x=>match ρ x with
  | some (.one (.c (.int _ n)))=>match ti.kind dst with
   | some (.int k)=>ck (.one (.c (.int k (k.wrap n)))) ((ti.kind src).isSome=true)
   | _=>none
  | some (.one (.c (.str s)))=>ck (.one (.c (.str s))) (isStr (ti.kind dst)=true/\(ti.kind src).isSome=true)
  | _=>none
 | .load t p=>(ρ p).bind (U8 ti L t)
 | .fieldAddr s x i=>match ρ x with
  | some (.one (.ep id ver i0 off))=>FD ti L s i id ver i0 off
  | some vx=>Bn ti s i vx
  | none=>none
 | .field s x i=>(ρ x).bind (UA ti s i)
 | .indexAddr t x ix=>match ρ x,ρ ix with
  | some (.one (.sl id ver lo n)),some vi=>ER ti L t id ver lo n vi
  | some vx,some vi=>Bl ti t vx vi
  | _,_=>none
 | .index t x ix=>match ρ x,ρ ix with
  | some vx,some vi=>indexB ti t vx vi
  | _,_=>none
 | .extract t i=>match ρ t with
  | some (.tup ps)=>match ps[i]? with
   | some p=>some p.av
   | none=>none
  | _=>none
 | .nilCheck x=>match ρ x with
  | some (.one (.c (.ref cs)))=>some (.one (.c (.ref cs)))
  | some (.one (.ptr id off))=>some (.one (.ptr id off))
  | some (.one (.ep id ver i o))=>match L[id]? with
   | some (.row ver' _ _)=>ck (.one (.ep id ver i o)) (ver=ver')
   | _=>none
  | some (.one (.clo f cs))=>some (.one (.clo f cs))
  | some (.one (.c (.fn f cs)))=>some (.one (.c (.fn f cs)))
  | _=>none
 | .slice t x lo hi none=>match ρ x,lo.map ρ,hi.map ρ with
  | some v,none,none=>sliceB ti L t v none none
  | some v,some (some l),none=>sliceB ti L t v (some l) none
  | some v,none,some (some h)=>sliceB ti L t v none (some h)
  | some v,some (some l),some (some h)=>sliceB ti L t v (some l) (some h)
  | _,_,_=>none
 | .call { callee := .builtin .len,args,argTypes } => match args.toList,argTypes.toList with
  | [x],[t]=>match ρ x with
   | some (.one (.sl id ver _ n))=>OU ti L t id ver n
   | some vx=>aen ti t vx
   | none=>none
  | _,_=>none
 | .call { callee := .builtin .min,args, .. } => match args.toList.map ρ with
  | [some (.one (.c (.int k a))),some (.one (.c (.int _ b)))]=>some (.one (.c (.int k (if b<a then b else a))))
  | _=>none
 | .call { callee := .builtin .max,args, .. } => match args.toList.map ρ with
  | [some (.one (.c (.int k a))),some (.one (.c (.int _ b)))]=>some (.one (.c (.int k (if b > a then b else a))))
  | _=>none
 | .build t parts=>match ti.zero t with
  | some (.agg zs)=>((IU ti t zs (parts.toList.map fun p=>(p.1,ρ p.2))).bind fun r=>ck (AV.agg r) (bok ti t=true))
  | _=>none
 | .makeFunc (.func f) first captured=>match first.toList,K9 (captured.toList.map ρ) with
  | [],some cs=>some (.one (.c (.fn f cs)))
  | _,_=>none
 | _=>none
theorem aa4 {ti:TI} {ρ:Operand->Option AV} {L:List Ob} {op:Op} {v:AV} (h:aan ti ρ L op=some v):Lu (pop ti ρ L op) v:=by
 unfold aan at h
 split at h
 ·unfold pop;dsimp only;rw [h];exact ⟨_,rfl,trivial⟩
 ·unfold pop;dsimp only;rw [h];exact ⟨_,rfl,trivial⟩
 ·unfold pop
  dsimp only
  split at h
  ·rename_i h0 h1 h2
   rw [h0,h1,h2]
   exact nk h
  ·cases h
 ·unfold pop
  dsimp only
  split at h
  ·rename_i h0 h1
   rw [h0,h1]
   exact acj h
  ·cases h
 ·unfold pop
  dsimp only
  split at h
  ·rename_i h0
   rw [h0]
   exact nk h
  ·rename_i h0
   rw [h0]
   exact nk h
  ·cases h
 ·unfold pop
  dsimp only
  split at h
  ·rename_i h0
   rw [h0]
   dsimp only
   split at h
   ·rename_i h1
    rw [h1]
    exact l6 h
   ·cases h
  ·rename_i h0
   rw [h0]
   obtain ⟨rfl,h1,h2⟩:=bA h
   exact ⟨_,rfl,mD h1,h2⟩
  ·cases h
 ·rename_i t p
  unfold pop
  dsimp only
  cases hp:ρ p with
  | none=>rw [hp] at h;cases h
  | some x=>rw [hp] at h;exact Qd h
 ·unfold pop
  dsimp only
  split at h
  ·rename_i h0
   rw [h0]
   exact NZ h
  ·rename_i vx hn h0
   rw [h0]
   split
   ·rename_i e;cases e;exact (hn _ _ _ _ rfl).elim
   ·rename_i e;cases e;exact LD h
   ·rename_i e;cases e
  ·cases h
 ·rename_i s x i
  unfold pop
  dsimp only
  cases hp:ρ x with
  | none=>rw [hp] at h;cases h
  | some x=>rw [hp] at h;exact XH h
 ·unfold pop
  dsimp only
  split at h
  ·rename_i h0 h1
   rw [h0,h1]
   exact Ol h
  ·rename_i vx vi hn h0 h1
   rw [h0,h1]
   split
   ·rename_i e1 e2;cases e1;exact (hn _ _ _ _ rfl).elim
   ·rename_i e1 e2;cases e1;cases e2;exact Lg h
   ·rename_i hm;exact (hm _ _ rfl rfl).elim
  ·cases h
 ·unfold pop
  dsimp only
  split at h
  ·rename_i h0 h1
   rw [h0,h1]
   exact Yq h
  ·cases h
 ·unfold pop
  dsimp only
  split at h
  ·rename_i h0
   rw [h0]
   dsimp only
   split at h
   ·rename_i h1
    rw [h1]
    exact nk h
   ·cases h
  ·cases h
 ·unfold pop
  dsimp only
  split at h
  ·rename_i h0;rw [h0];exact nk h
  ·rename_i h0;rw [h0];exact nk h
  ·rename_i h0
   rw [h0]
   dsimp only
   split at h
   ·rename_i h1
    rw [h1]
    exact l6 h
   ·cases h
  ·rename_i h0;rw [h0];exact nk h
  ·rename_i h0;rw [h0];exact nk h
  ·cases h
 ·unfold pop
  dsimp only
  split at h
  ·rename_i h0 h1 h2;rw [h0,h1,h2];exact zP h
  ·rename_i h0 h1 h2;rw [h0,h1,h2];exact zP h
  ·rename_i h0 h1 h2;rw [h0,h1,h2];exact zP h
  ·rename_i h0 h1 h2;rw [h0,h1,h2];exact zP h
  ·cases h
 ·unfold pop
  dsimp only
  split at h
  ·rename_i h0 h1
   rw [h0,h1]
   dsimp only
   split at h
   ·rename_i h2
    rw [h2]
    exact UT h
   ·rename_i vx hn h2
    rw [h2]
    split
    ·rename_i e;cases e;exact (hn _ _ _ _ rfl).elim
    ·rename_i e;cases e;exact abC h
    ·rename_i e;cases e
   ·cases h
  ·cases h
 ·unfold pop
  dsimp only
  split at h
  ·rename_i h0
   rw [h0]
   exact nk h
  ·cases h
 ·unfold pop
  dsimp only
  split at h
  ·rename_i h0
   rw [h0]
   exact nk h
  ·cases h
 ·rename_i t parts
  unfold pop
  dsimp only
  split at h
  ·rename_i zs h0
   rw [h0]
   dsimp only
   cases hb:IU ti t zs (parts.toList.map fun p=>(p.1,ρ p.2)) with
   | none=>rw [hb] at h;cases h
   | some r =>
    rw [hb] at h
    obtain ⟨rfl,h1⟩:=bA h
    obtain ⟨φ,h2,h3⟩:=Ny hb
    rw [h2]
    exact ⟨_,rfl,h1,h3⟩
  ·cases h
 ·unfold pop
  dsimp only
  split at h
  ·rename_i h0 h1
   rw [h0,h1]
   exact nk h
  ·cases h
 ·cases h
def JS (ρ:Operand->Option AV):List (Nat × Operand)->Nat->Option (List (List SV))
 | [],_=>some []
 | (i,x)::ps,j=>match decide (i=j),(ρ x).bind AV.cells,JS ρ ps (j+1) with
  | true,some p,some es=>some (p::es)
  | _,_,_=>none
section
variable {P:Program} {ti:TI} {B:Nat->Prop} {R:PH} {γ:List Gh} {L:List Ob} {w:World} {ρ:Operand->Option AV}
theorem JA {ev:Operand->Value} : ∀ (ps:List (Nat × Operand)) (hρ : ∀ p∈ps, ∀ v,ρ p.2=some v->v.rep R γ L (ev p.2)) (j:Nat) (es:List (List SV)),JS ρ ps j=some es ->
  ∃ vs:List Value,(ps.map fun p=>(p.1,ev p.2))=(vs.zipIdx j).map (fun x=>(x.2,x.1))/\vs.length=es.length /\
   (∀ (i:Nat) v e,vs[i]?=some v->es[i]?=some e->LQ R γ L e v.cells)
 | [],hρ,j,es,h=>by injection h with h;subst h;exact ⟨[],rfl,rfl,fun i v e hv=>by simp at hv⟩
 | (i,x)::ps,hρ,j,es,h=>by
  unfold JS at h
  split at h
  ·rename_i p es' hij hp hes
   obtain rfl:=ahm hij
   injection h with h;subst h
   obtain ⟨vs,h1,h2,h3⟩:=JA ps (fun p hp=>hρ p (ahh _ hp)) (i+1) es' hes
   cases hx:ρ x with
   | none=>simp [hx] at hp
   | some vx =>
    simp only [hx,agU] at hp
    have hr:=cells_rep (hρ (i,x) (ahG ..) _ hx) hp
    refine ⟨ev x::vs,by simp [List.zipIdx_cons,h1],by simp [h2],fun q v e hv he=>?_⟩
    cases q with
    | zero=>simp at hv he;subst hv he;exact hr
    | succ q=>exact h3 q v e (by simpa using hv) (by simpa using he)
  ·cases h
theorem TN (hti:TIok P ti) {t:TypeId} {E k len:Nat} {parts:Array (Nat × Operand)} {es:List (List SV)} (ht:ti.elem t=some E) (hE:E<65536) (hk:ti.size E=some k) (hzk:ti.zok E=true) (hes:JS ρ parts.toList 0=some es) (hlen:es.length=len) (h0:0<len) (hek : ∀ e∈es,e.length=k) (hk0:0<k) (hsm:len*k<=16777216) :
  xQ P ρ L (.buildSlice t len parts) (.one (.sl L.length (E+65536) 0 len)) (L++[.row (E+65536) es k]):=by
 intro B R γ w ev o ho hi hρ hfv
 obtain ⟨dst,op,type,pos,after,guard⟩:=o
 simp only at ho;subst ho
 have hk:=hti.size _ _ hk
 have hu:=qA hti ht
 obtain ⟨vs,e1,e2,e3⟩:=JA (ev:=ev) parts.toList (fun p hp v hv=>hρ p.2 (by simp only [Op.operands,List.mem_toArray,aht];exact ⟨p,hp,rfl⟩) v hv) _ _ hes
 have hparts:(parts.map fun p=>(p.1,ev p.2)).toList=(vs.zipIdx 0).map fun x=>(x.2,x.1):=by rw [Array.toList_map,e1]
 obtain ⟨i,z,hi1,hi2,hi3,hi4⟩:=hti.zok _ hzk _ hk
 have hcs : ∀ v∈vs,v.cells.size=k:=by
  intro v hv
  obtain ⟨q,hq⟩:=List.mem_iff_getElem?.1 hv
  have hlt:q<es.length:=by rw [<- e2];exact (agV.1 hq).1
  have he:es[q]?=some es[q]:=ag4 hlt
  rw [(e3 q v _ hq he).1]
  exact hek _ (List.getElem_mem hlt)
 have hne : ¬ len*i.size=0:=by
  rw [hi3]
  intro e
  rcases Nat.mul_eq_zero.1 e with e|e<;>omega
 have hrun:=run_buildSlice (P:=P) w t E len (parts.map fun p=>(p.1,ev p.2)) (vs.flatMap fun v=>v.cells.toList).toArray i z hu hi1 hi2 (by rw [hi3];omega) hne (by
  rw [hparts,hi3]
  exact Go.Great.fill_whole hk0 vs _ hcs (by simp;rw [e2,hlen]))
 have hm:Mv R R γ (γ++[.arr w.heap.size len]) L (L++[.row (E+65536) es k]):=Mv.push _ _ hi.len
 refine ⟨_,R,_, .inl ⟨.slice (some ⟨w.heap.size,0,none⟩) len len,by simp only [execOp,Sem.run_bind];rw [hrun];rfl,⟨rfl,rfl⟩,by simp,fun ver2 es2 k2 e2'=>?_⟩,?_,⟨Kept.alloc hi.bsz _,PH.sub_refl _,fun _ _ _=>rfl⟩,hm⟩
 ·rw [ag2 (by omega)] at e2'
  simp at e2'
  obtain ⟨q1,q2,q3⟩:=e2'
  subst q1 q2 q3
  exact ⟨ag' _,fun _=>⟨by omega, .arr w.heap.size len,by rw [<- hi.len];simp, .inl (by simp)⟩⟩
 ·have hsz:(vs.flatMap fun v=>v.cells.toList).toArray.size=len*k:=by rw [List.size_toArray,Ju k vs hcs,e2,hlen]
  refine hi.push _ _ _ rfl ⟨⟨_,E,⟨ib w _,by show (E:Nat)=(E+65536)%65536;omega,by omega⟩,hsz,fun q e j u x he hu hx=>?_⟩,by omega,hk0,hek,fun o=>hi.none_at o⟩
  have hqlt:q<vs.length:=by rw [e2];exact (agV.1 he).1
  have hv:vs[q]?=some vs[q]:=ag4 hqlt
  have hjk:j<k:=by rw [<- hek e (ag1 he)];exact (agV.1 hx).1
  have h3:=e3 q _ e hv he
  rw [List.getElem?_toArray,flat_get k vs hcs q _ hv j hjk] at hu
  exact SV.mv hm (h3.2 j u x hu hx)
end
section
variable {P:Program} {ti:TI} {ρ:Operand->Option AV} {L:List Ob}
theorem Lm (z:Array Value) (n i:Nat) (h:i<n):(madeCells z n)[i]?=some z[i%z.size]! := by
 simp [madeCells,h]
theorem FB (hti:TIok P ti) {l c:Operand} {t:TypeId} {E k by_:Nat} {m:Int} {kl kc:IntKind} {zs:List SV} {zv:AV} (hl:ρ l=some (.one (.c (.int kl m)))) (hc:ρ c=some (.one (.c (.int kc m)))) (ht:ti.elem t=some E) (hE:E<65536) (hsz:ti.size E=some k) (hzo:ti.zok E=true) (hzv:ti.zero E=some zv) (hcz:zv.cells=some zs) (hby:ti.bytes E=some by_)
  (hk:0<k) (h0:0<=m) (hb1:(by_:Int)*m<=281474976710656) (hb2:m<=9223372036854775807) :
  xQ P ρ L (.makeSlice t l c) (.one (.sl L.length (E+65536) 0 m.toNat)) (L++[.row (E+65536) (List.replicate m.toNat zs) k]):=by
 intro B R γ w ev o ho hi hρ hfv
 obtain ⟨dst,op,type,pos,after,guard⟩:=o
 simp only at ho;subst ho
 obtain ⟨inf,z,hinf,hzz,hisz,hzc⟩:=hti.zok _ hzo _ (hti.size _ _ hsz)
 have hbytes:inf.bytes=by_:=by have hby':=hti.bytes _ _ hby;unfold uf at hby';rw [hinf] at hby';simpa using hby'
 have hzo':AV.ofVal z=some zv:=by have:=hti.zero _ _ hzv;unfold zeroOf at this;rw [hinf] at this;simpa [hzz] using this
 have hlv:=(hρ _ (by simp [Op.operands,Call.operands]) _ hl)
 have hcv:=(hρ _ (by simp [Op.operands,Call.operands]) _ hc)
 generalize hle:ev l=lv at hlv
 generalize hce:ev c=cv at hcv
 cases hlv;cases hcv
 have hrun:=run_make (P:=P) w t E inf z (qA hti ht) hinf hzz kl kc m m h0 (Int.le_refl _) (by rw [hbytes];exact hb1) hb2
 have hm:Mv R R γ (γ++[.arr w.heap.size m.toNat]) L (L++[.row (E+65536) (List.replicate m.toNat zs) k]):=Mv.push _ _ hi.len
 have hcr:=cells_rep (R:=R) (γ:=γ++[.arr w.heap.size m.toNat]) (L:=L++[.row (E+65536) (List.replicate m.toNat zs) k]) (AV.ofVal_rep hzo') hcz
 have hzl:zs.length=k:=by have:=hcr.1;rw [hzc] at this;omega
 refine ⟨w.alloc (.cells (madeCells z.cells (m.toNat*inf.size)) E),R,_, .inl ⟨.slice (some ⟨w.heap.size,0,none⟩) m.toNat m.toNat,by simp [execOp,hle,hce,hrun],⟨rfl,rfl⟩,by simp,fun ver2 es2 k2 e2=>?_⟩,?_,⟨Kept.alloc hi.bsz _,PH.sub_refl _,fun _ _ _=>rfl⟩,hm⟩
 ·rw [ag2 (by omega)] at e2
  simp at e2
  obtain ⟨q1,q2,q3⟩:=e2
  subst q1 q2 q3
  refine ⟨ag' _,fun _=>⟨by simp, .arr w.heap.size m.toNat,by rw [<- hi.len];simp, .inl ?_⟩⟩
  simp
 ·refine hi.push _ _ _ rfl ⟨⟨_,E,⟨ib w _,by show (E:Nat)=(E+65536)%65536;omega,by show 65536<=(E:Nat)+65536;omega⟩,by rw [size_madeCells,hisz],fun i e j u x he hu hx=>?_⟩,by simp,hk,fun e he=>?_,fun o=>hi.none_at o⟩
  ·rw [List.getElem?_replicate] at he
   split at he
   ·rename_i him
    obtain rfl:=ahq he
    have hj:j<k:=by rw [<- hzl];exact (agV.1 hx).1
    have hlt:i*k+j<m.toNat*inf.size:=by rw [hisz];exact xE him hj
    rw [Lm _ _ _ hlt,hzc,Nat.add_comm,Nat.add_mul_mod_self_right,Nat.mod_eq_of_lt hj] at hu
    have hj2:j<z.cells.size:=by rw [hzc];exact hj
    refine hcr.2 j u x ?_ hx
    rw [<- hu,ahi hj2,getElem!_pos z.cells j hj2]
   ·cases he
  ·rw [List.eq_of_mem_replicate he];exact hzl
end
def ab_ (ti:TI) (ρ:Operand->Option AV):Op->Option AV
 | .buildSlice t len parts=>match tC ρ parts.toList 0,ti.elem t with
  | some es,some E=>match ti.size E with
   | some k=>match len with
    | 0=>ck (.one .emp) (es.isEmpty=true)
    | n+1=>ck (.one (.c (.lst es))) (es.length=n+1/\Gd k es=true/\0<k/\(n+1)*k<=16777216/\ti.zok E=true)
   | none=>none
  | _,_=>none
 | _=>none
theorem U4 {ti:TI} {ρ:Operand->Option AV} {op:Op} {v:AV} (h:ab_ ti ρ op=some v):Lu (AQ ti ρ op) v:=by
 unfold ab_ at h
 split at h
 ·rename_i t len parts
  show Lu (Fj ti ρ t len parts.toList) v
  unfold Fj
  split at h
  ·rename_i h0 h1
   rw [h0,h1]
   dsimp only
   split at h
   ·rename_i h2
    rw [h2]
    dsimp only
    split at h
    ·obtain ⟨rfl,h3⟩:=bA h
     rw [if_pos rfl]
     exact ⟨_,rfl,List.isEmpty_iff.1 h3⟩
    ·obtain ⟨rfl,h3,h4,h5,h6,h7⟩:=bA h
     rw [if_neg (Nat.succ_ne_zero _)]
     exact ⟨_,rfl,h3,uY h4,h5,h6,h7⟩
   ·cases h
  ·cases h
 ·cases h
def adC (ti:TI) (L:List Ob) (t tx:TypeId) (s x:AV):Option (AV × List Ob) :=
 match fZ x,ti.elem t with
 | some xs,some E=>match ti.size E,ti.bytes E with
  | some k,some by_=>match s with
   | .one .emp=>ck (.one (.own xs L.length),L++[.spare xs.length k]) ((ti.elem tx).isSome=true/\0<k/\ti.zok E=true/\Gd k xs=true/\xs.length*by_<=140737488355328/\xs.length<=140737488355328)
   | .one (.own es i)=>match L[i]? with
    | some (.spare n k')=>ck (.one (.own (es++xs) i),L.set i (.spare (n+xs.length) k)) ((ti.elem tx).isSome=true/\k'=k/\es.length=n/\(ti.zok E=true/\0<k)/\Gd k xs=true/\(n+xs.length)*by_<=140737488355328/\n+xs.length<=140737488355328)
    | _=>none
   | _=>none
  | _,_=>none
 | _,_=>none
def afO {α β:Type} (f:Option (α × β × Prop)) (a:α) (b:β):Prop := ∃ φ,f=some (a,b,φ)/\φ
theorem acO {ti:TI} {L L':List Ob} {t tx:TypeId} {s x v:AV} (h:adC ti L t tx s x=some (v,L')):afO (Bw ti L t tx s x) v L':=by
 unfold adC at h
 unfold Bw
 split at h
 ·rename_i h0 h1
  rw [h0,h1]
  dsimp only
  split at h
  ·rename_i h2 h3
   rw [h2,h3]
   dsimp only
   split at h
   ·obtain ⟨e,h4,h5,h6,h7,h8⟩:=bA h
    cases e
    exact ⟨_,rfl,h4,h5,h6,uY h7,h8⟩
   ·dsimp only
    split at h
    ·rename_i h4
     rw [h4]
     obtain ⟨e,h5,h6,h7,h8,h9,h10⟩:=bA h
     cases e
     exact ⟨_,rfl,h5,h6,h7,h8,uY h9,h10⟩
    ·cases h
   ·cases h
  ·cases h
 ·cases h
def acK (ti:TI) (ρ:Operand->Option AV) (L:List Ob):Op->Option (AV × List Ob)
 | .alloc E=>match (ti.zero E).bind AV.cells with
  | some zs=>some (.one (.ptr L.length 0),L++[.box zs])
  | none=>none
 | .box _ x=>match (ρ x).bind AV.cells with
  | some xs=>some (.one (.ptr L.length 0),L++[.box xs])
  | none=>none
 | .store t p x=>match ρ p,(ρ x).bind AV.cells with
  | some (.one (.ptr id off)),some xs=>match L[id]? with
   | some (.box cs)=>ck (.undef,L.set id (.box (splice cs off xs))) (off+xs.length<=cs.length/\ti.size t=some xs.length)
   | _=>none
  | some (.one (.ep id ver i o)),some xs=>match L[id]? with
   | some (.row ver' es k)=>match es[i]? with
    | some e=>ck (.undef,L.set id (.row ver' (es.set i (splice e o xs)) k)) (ver=ver'/\o+xs.length<=e.length/\ti.size t=some xs.length)
    | none=>none
   | _=>none
  | _,_=>none
 | .call { callee := .builtin .append,args,argTypes } => match args.toList,argTypes.toList with
  | [s,x],[t,tx]=>match ρ s,ρ x with
   | some vs,some vx=>adC ti L t tx vs vx
   | _,_=>none
  | _,_=>none
 | _=>none
theorem V_ {ti:TI} {ρ:Operand->Option AV} {L L':List Ob} {op:Op} {v:AV} (h:acK ti ρ L op=some (v,L')):afO (He ti ρ L op) v L':=by
 unfold acK at h
 split at h
 ·unfold He
  dsimp only
  split at h
  ·rename_i h0
   rw [h0];cases h;exact ⟨_,rfl,trivial⟩
  ·cases h
 ·unfold He
  dsimp only
  split at h
  ·rename_i h0
   rw [h0];cases h;exact ⟨_,rfl,trivial⟩
  ·cases h
 ·unfold He
  dsimp only
  split at h
  ·rename_i h0 h1
   rw [h0,h1]
   dsimp only
   split at h
   ·rename_i h2
    rw [h2]
    obtain ⟨e,h3⟩:=bA h
    cases e
    exact ⟨_,rfl,h3⟩
   ·cases h
  ·rename_i h0 h1
   rw [h0,h1]
   dsimp only
   split at h
   ·rename_i h2
    rw [h2]
    dsimp only
    split at h
    ·rename_i h3
     rw [h3]
     obtain ⟨e,h4⟩:=bA h
     cases e
     exact ⟨_,rfl,h4⟩
    ·cases h
   ·cases h
  ·cases h
 ·unfold He
  dsimp only
  split at h
  ·rename_i h0 h1
   rw [h0,h1]
   dsimp only
   split at h
   ·rename_i h2 h3
    rw [h2,h3]
    exact acO h
   ·cases h
  ·cases h
 ·cases h
def rf:List (AC × AV)->Bool
 | []=>true
 | p::kvs=>match p.1 with
  | .str _=>rf kvs
  | _=>false
theorem oV : ∀ {kvs:List (AC × AV)}, rf kvs=true->strKeys kvs
 | [],_,p,hp=>by cases hp
 | q::kvs,h,p,hp=>by
  unfold rf at h
  split at h
  ·rename_i s hs
   rcases aha.1 hp with rfl|hp
   ·exact ⟨s,hs⟩
   ·exact oV h p hp
  ·cases h
def Zk:Option TypeDesc->Option (TypeId × TypeId)
 | some (.map k e)=>some (k,e)
 | _=>none
theorem OY {d:Option TypeDesc} {k e:TypeId} (h:Zk d=some (k,e)):d=some (.map k e):=by
 unfold Zk at h
 split at h
 ·cases h;rfl
 ·cases h
def QL:Option TypeDesc->Option TypeId
 | some (.pointer e)=>some e
 | _=>none
theorem z_ {d:Option TypeDesc} {e:TypeId} (h:QL d=some e):d=some (.pointer e):=by
 unfold QL at h
 split at h
 ·cases h;rfl
 ·cases h
def adW:Option TypeDesc->Option TypeId
 | some (.slice e)=>some e
 | _=>none
theorem acs {d:Option TypeDesc} {e:TypeId} (h:adW d=some e):d=some (.slice e):=by
 unfold adW at h
 split at h
 ·cases h;rfl
 ·cases h
def Vr:Option TypeDesc->Bool
 | some .unsafePointer=>true
 | _=>false
theorem RB {d:Option TypeDesc} (h:Vr d=true):d=some .unsafePointer:=by
 unfold Vr at h
 split at h
 ·rfl
 ·cases h
def acr (ti:TI) (L:List Ob) (k:Nat) (tx:TypeId):AV->Bool
 | .one (.c (.str _))=>decide (k=1)&&isStr (ti.kind tx)
 | .one (.sl id ver lo n)=>(ti.elem tx).isSome&&(match L[id]? with
  | some (.row ver' es k')=>decide (ver=ver')&&(decide (k=k')&&decide (lo+n<=es.length))
  | _=>false)
 | x=>(ti.elem tx).isSome&&(match fZ x with
  | some es=>Gd k es
  | none=>false)
theorem V4 {ti:TI} {L:List Ob} {k:Nat} {tx:TypeId} {x:AV} (h:acr ti L k tx x=true):KP ti L k tx x:=by
 unfold acr at h
 split at h
 ·rw [ahb] at h
  exact ⟨ahm h.1,mD h.2⟩
 ·rw [ahb] at h
  obtain ⟨h1,h2⟩:=h
  split at h2
  ·rename_i h3
   rw [ahb,ahb] at h2
   obtain ⟨h4,h5,h6⟩:=h2
   obtain rfl:=ahm h4
   obtain rfl:=ahm h5
   exact ⟨h1,_,h3,ahm h6⟩
  ·cases h2
 ·rename_i n1 n2
  rw [ahb] at h
  obtain ⟨h1,h2⟩:=h
  unfold KP
  split
  ·rename_i s;exact absurd rfl (n1 s)
  ·rename_i a b c d;exact absurd rfl (n2 a b c d)
  ·split at h2
   ·rename_i h3;exact ⟨h1,_,h3,uY h2⟩
   ·cases h2
def bytesOf:List (List SV)->Option (List UInt8)
 | []=>some []
 | [.c (.int .u8 n)]::es=>match bytesOf es with
  | some bs=>if n=(UInt8.ofNat n.toNat).toNat then some (UInt8.ofNat n.toNat::bs) else none
  | none=>none
 | _=>none
theorem JC : ∀ {es:List (List SV)} {bs:List UInt8}, bytesOf es=some bs->es=bs.map fun b=>[.c (.int .u8 b.toNat)]
 | [],bs,h=>by cases h;rfl
 | e::es,bs,h=>by
  unfold bytesOf at h
  split at h
  ·rename_i e1;cases e1
  ·rename_i n es' e1
   cases e1
   split at h
   ·rename_i bs' h1
    split at h
    ·rename_i h2
     cases h
     rw [ag6, <- JC h1, <- h2]
    ·cases h
   ·cases h
  ·cases h
def PP (k:Nat):List (List SV)->Bool
 | []=>true
 | e::es=>Nat.beq e.length k&&PP k es
theorem M7 {k:Nat} : ∀ {es:List (List SV)}, PP k es=true -> ∀ e∈es,e.length=k
 | [],_,e,he=>by cases he
 | x::es,h,e,he=>by
  rw [PP,ahb] at h
  rcases aha.1 he with rfl|he
  ·exact Nat.eq_of_beq_eq_true h.1
  ·exact M7 h.2 e he
def xS (a b:ByteArray):Int:=Extern.BytealgCompare.cmp a b
theorem Tk {P : Program} {ρ : Operand -> Option AV} {L : List Ob} {f : FuncId} {fn : Func} {x y : Operand} {ts : Array TypeId} {a b : ByteArray} (hx : ρ x = some (.one (.c (.str a)))) (hy : ρ y = some (.one (.c (.str b)))) (hf : P.funcs[f]? = some fn) (hname : (fn.name == "runtime.NumGoroutine") = false)
  (hb:fn.body.isNone=true) (hn:Extern.findNext fn=none) (he:Extern.find fn=some Extern.BytealgCompare.compare) :
  xQ P ρ L (.call { callee := .value (.func f),args := #[x,y],argTypes:=ts }) (.one (.c (.int .i64 (xS a b)))) L:=by
 intro B R γ w ev o ho hi hρ hfv
 obtain ⟨dst,op,type,pos,after,guard⟩:=o
 simp only at ho;subst ho
 have h1:=hρ x (by simp [Op.operands,Call.operands]) _ hx
 have h2:=hρ y (by simp [Op.operands,Call.operands]) _ hy
 generalize hex:ev x=ux at h1
 generalize hey:ev y=uy at h2
 cases h1;cases h2
 refine ⟨w,R,γ, .inl ⟨.int .i64 (xS a b),?_, .int _ _⟩,hi,Ext.refl _ _ _,Mv.refl⟩
 have:=run_callFunc_extern hf hname hb hn he #[.string a, .string b] w
 have h3:(Extern.BytealgCompare.compare #[.string a, .string b]).run P w = .ok (.int .i64 (xS a b)) w:=rfl
 rw [h3] at this
 simp [execOp,resolve,Deferred.ofValue,hfv.1,hex,hey,invoke,this,Result.andThen]
structure SN where
 noEsc:FuncId
 cmpS:FuncId
def R9 (P:Program) (ti:TI) (xs:SN) (rowB:Bool) (ρ:Operand->Option AV) (L:List Ob):Op->Option (AV × List Ob)
 | .makeMap _ none=>some (.one (.mp L.length),L++[.map []])
 | .buildSlice t len parts=>match JS ρ parts.toList 0,ti.elem t with
  | some es,some E=>match ti.size E with
   | some k=>ck (.one (.sl L.length (E+65536) 0 len),L++[.row (E+65536) es k]) (rowB=true/\E<65536/\ti.zok E=true/\es.length=len/\0<len/\PP k es=true/\0<k/\len*k<=16777216)
   | none=>none
  | _,_=>none
 | .lookup t x k ok=>match ρ x,ρ k,Zk (ti.kind t) with
  | some (.one (.mp id)),some (.one (.c (.str s))),some (kt,et)=>match L[id]?,ti.zero et with
   | some (.map kvs),some z=>match ok with
    | false=>ck (vK kvs s z,L) (rf kvs=true/\isStr (ti.kind kt)=true)
    | true=>match (vK kvs s z).norm with
     | some p=>ck (.tup [p, .one (.bool (AA s kvs).isSome)],L) (rf kvs=true/\isStr (ti.kind kt)=true)
     | none=>none
   | _,_=>none
  | _,_,_=>none
 | .mapUpdate t x k y=>match ρ x,ρ k,ρ y,Zk (ti.kind t) with
  | some (.one (.mp id)),some (.one (.c (.str s))),some v,some (kt,_)=>match L[id]? with
   | some (.map kvs)=>ck (.undef,L.set id (.map (La kvs s v))) (rf kvs=true/\isStr (ti.kind kt)=true)
   | _=>none
  | _,_,_,_=>none
 | .mapEntry t x k=>match ρ x,ρ k,Zk (ti.kind t) with
  | some (.one (.mp id)),some (.one (.c (.str s))),some (kt,et)=>match L[id]?,ti.zero et with
   | some (.map kvs),some z=>match (vK kvs s z).norm with
    | some p=>ck (.tup [p, .one (.int .i64 (Pb kvs s))],L.set id (.map (La kvs s (vK kvs s z)))) (rf kvs=true/\isStr (ti.kind kt)=true)
    | none=>none
   | _,_=>none
  | _,_,_=>none
 | .entryStore _ x k y=>match ρ x,ρ k,ρ y with
  | some (.one (.mp id)),some (.one (.c (.int .i64 i))),some v=>match L[id]? with
   | some (.map kvs)=>match kvs[i.toNat]? with
    | some q=>ck (.undef,L.set id (.map (kvs.set i.toNat (q.1,v)))) (0<=i)
    | none=>none
   | _=>none
  | _,_,_=>none
 | .makeFunc (.func f) first captured=>match first.toList,Ed ρ captured.toList with
  | [],some caps=>some (.one (.clo f caps),L)
  | _,_=>none
 | .call { callee := .builtin .append,args,argTypes } => match args.toList,argTypes.toList with
  | [s,x],[t,tx]=>match ρ s,ρ x,ti.elem t with
   | some (.one (.sl id ver 0 n)),some vx,some E=>match L[id]?,Qp L vx,ti.size E,ti.bytes E with
    | some (.row ver' es k'),some xs,some k,some by_=>ck (.one (.sl id (ver+65536) 0 (n+xs.length)),L.set id (.row (ver+65536) (es++xs) k)) ((ver'=ver/\k'=k/\acr ti L k tx vx=true/\ver%65536=E)/\ti.zok E=true/\0<k/\es.length=n/\(n+xs.length)*by_<=140737488355328/\n+xs.length<=140737488355328)
    | _,_,_,_=>none
   | some (.one .emp),some vx,some E=>match Qp L vx,ti.size E,ti.bytes E with
    | some xs,some k,some by_=>ck (.one (.sl L.length (E+65536) 0 xs.length),L++[.row (E+65536) xs k]) ((rowB=true/\acr ti L k tx vx=true/\E<65536)/\ti.zok E=true/\0<k/\0<xs.length/\xs.length*by_<=140737488355328/\xs.length<=140737488355328)
    | _,_,_=>none
   | _,_,_=>none
  | _,_=>none
 | .makeSlice t l c=>match ρ l,ρ c,ti.elem t with
  | some (.one (.c (.int _ l))),some (.one (.c (.int _ m))),some E=>match ti.size E,ti.bytes E with
   | some k,some by_=>match rowB with
    | true=>match decide (l=0),(ti.zero E).bind AV.cells with
     | true,_=>ck (.one (.sl L.length (E+65536) 0 0),L++[.row (E+65536) [] k]) ((l=0/\E<65536)/\ti.zok E=true/\0<k/\0<=m/\(by_:Int)*m<=281474976710656/\m<=9223372036854775807)
     | false,some zs=>ck (.one (.sl L.length (E+65536) 0 m.toNat),L++[.row (E+65536) (List.replicate m.toNat zs) k]) ((l=m/\E<65536)/\ti.zok E=true/\0<k/\0<=m/\(by_:Int)*m<=281474976710656/\m<=9223372036854775807)
     | false,none=>none
    | false=>ck (.one (.own [] L.length),L++[.spare 0 k]) (l=0/\ti.zok E=true/\0<k/\0<=m/\(by_:Int)*m<=281474976710656/\m<=9223372036854775807)
   | _,_=>none
  | _,_,_=>none
 | .alloc E=>match P.info? E,ti.field E 1 with
  | some inf,some (1,ts)=>match inf.zero,ti.elem ts with
   | some (.agg vs),some Eb=>match vs.toList,ti.size Eb with
    | [.pointer none, .slice none 0 0],some k=>ck (.one (.ep L.length (E+65536) 0 0),L++[.row (E+65536) [[.c (.nul .ptr), .sl (L.length+1) Eb 0 0]] 2, .row Eb [] k]) (rowB=true/\E<65536/\Eb<65536/\0<k)
    | _,_=>none
   | _,_=>none
  | _,_=>none
 | .convert s d x=>match ρ x with
  | some (.one (.ep id ver 0 0))=>match L[id]? with
   | some (.row ver' es k)=>match QL (ti.kind s),Vr (ti.kind d),QL (ti.kind d),Vr (ti.kind s) with
    | some t,true,_,_=>match ti.size t with
     | some (_+1)=>ck (.one (.ep id ver 0 0),L) (ver'=ver)
     | _=>none
    | _,_,some t,true=>ck (.one (.ep id ver 0 0),L) (ver'=ver/\(ti.size t).isSome=true/\P.cellsOf t=k/\ver%65536=t)
    | _,_,_,_=>none
   | _=>none
  | _=>none
 | .binOp op t x y _=>match op,ρ x with
  | .eql,some (.one (.c (.nul .ptr)))=>match ρ y,QL (ti.kind t) with
   | some (.one (.c (.nul .ptr))),some _=>some (.one (.c (.bool true)),L)
   | _,_=>none
  | .eql,some (.one (.ep id ver i off))=>match ρ y,QL (ti.kind t),L[id]? with
   | some (.one (.c (.nul .ptr))),some _,some (.row ver' es k)=>ck (.one (.c (.bool false)),L) (ver'=ver)
   | _,_,_=>none
  | .neq,some (.one (.ep id ver i off))=>match ρ y,QL (ti.kind t),L[id]? with
   | some (.one (.ep id2 ver2 i2 off2)),some te,some (.row ver' es k)=>ck (.one (.c (.bool false)),L) (ver'=ver/\id2=id/\ver2=ver/\i2=i/\off2=off/\(ti.size te).isSome=true)
   | _,_,_=>none
  | .eql,some vx=>match fZ vx,y,adW (ti.kind t) with
   | some (_::_), .const (.slice none 0 0),some _=>some (.one (.c (.bool false)),L)
   | _,_,_=>none
  | _,_=>none
 | .call { callee := .builtin .unsafeSliceData,args, .. } => match args.toList with
  | [x]=>match ρ x with
   | some (.one (.sl id ver 0 (n+1)))=>match L[id]? with
    | some (.row ver' _ _)=>ck (.one (.ep id ver 0 0),L) (ver'=ver)
    | _=>none
   | some (.one (.sl id ver 0 0))=>match L[id]? with
    | some (.row ver' [] _)=>ck (.one (.c (.nul .ptr)),L) (ver'=ver/\ver<65536)
    | _=>none
   | _=>none
  | _=>none
 | .call { callee := .builtin .unsafeString,args,argTypes } => match args.toList,argTypes.toList with
  | [x,y],[pt,_]=>match ρ x,ρ y with
   | some (.one (.c (.nul .ptr))),some (.one (.c (.int .i64 n)))=>ck (.one (.c (.str .empty)),L) (n=0)
   | some (.one (.ep id ver 0 0)),some (.one (.c (.int .i64 n)))=>match L[id]?,QL (ti.kind pt) with
    | some (.row ver' es 1),some E=>match bytesOf es with
     | some bs=>ck (.one (.c (.str ⟨bs.toArray⟩)),L.set id .dead) ((ver'=ver/\n=bs.length)/\ver%65536=E/\P.cellsOf E=1/\0<bs.length/\bs.length<=9223372036854775807)
     | none=>none
    | _,_=>none
   | _,_=>none
  | _,_=>none
 | .call { callee := .value (.func f),args, .. } => match args.toList with
  | [x]=>match ρ x with
   | some v=>ck (v,L) (f=xs.noEsc)
   | none=>none
  | [x,y]=>match ρ x,ρ y with
   | some (.one (.c (.str a))),some (.one (.c (.str b)))=>ck (.one (.c (.int .i64 (xS a b))),L) (f=xs.cmpS)
   | _,_=>none
  | _=>none
 | _=>none
def ZN (P : Program) (f : FuncId) : Prop := ∃ fn, P.funcs[f]? = some fn /\ (fn.name == "runtime.NumGoroutine") = false /\ fn.body.isNone = true /\ Extern.findNext fn = none /\ Extern.find fn = some Extern.AbiNoEscape.same
def adu (P : Program) (f : FuncId) : Prop := ∃ fn, P.funcs[f]? = some fn /\ (fn.name == "runtime.NumGoroutine") = false /\ fn.body.isNone = true /\ Extern.findNext fn = none /\ Extern.find fn = some Extern.BytealgCompare.compare
structure ET (P:Program) (xs:SN):Prop where
 noEsc:ZN P xs.noEsc
 cmpS:adu P xs.cmpS
theorem BN {P:Program} {t:TypeId} {n:Nat} (h:jc P t=some n) : ∃ j,P.info? t=some j/\j.size=n:=by
 unfold jc at h
 exact map_some h
theorem ZW {P:Program} {ti:TI} {xs:SN} {rowB:Bool} {ρ:Operand->Option AV} {L L':List Ob} {op:Op} {v:AV} (hti:TIok P ti) (hne:ET P xs) (h:R9 P ti xs rowB ρ L op=some (v,L')):xQ P ρ L op v L':=by
 unfold R9 at h
 split at h
 ·cases h;exact Gq
 ·split at h
  ·rename_i es E hes hE
   split at h
   ·rename_i k hk
    obtain ⟨e,h1,h2,h3,h4,h5,h6,h7,h8⟩:=bA h
    cases e
    exact TN hti hE h2 hk h3 hes h4 h5 (M7 h6) h7 h8
   ·cases h
  ·cases h
 ·split at h
  ·rename_i id s kt et hx hk hm
   have ht:=hti.kind _ _ (OY hm)
   split at h
   ·rename_i kvs z hL hz
    have hz:=hti.zero _ _ hz
    split at h
    ·obtain ⟨e,h1,h2⟩:=bA h
     cases e
     exact TM hx hk hL (oV h1) ht (hti.kind _ _ (mD h2)) hz
    ·split at h
     ·rename_i p hp
      obtain ⟨e,h1,h2⟩:=bA h
      cases e
      exact tJ hx hk hL (oV h1) ht (hti.kind _ _ (mD h2)) hz hp
     ·cases h
   ·cases h
  ·cases h
 ·split at h
  ·rename_i id s v' kt et hx hk hy hm
   have ht:=hti.kind _ _ (OY hm)
   split at h
   ·rename_i kvs hL
    obtain ⟨e,h1,h2⟩:=bA h
    cases e
    exact Ba hx hk hy hL (oV h1) ht (hti.kind _ _ (mD h2))
   ·cases h
  ·cases h
 ·split at h
  ·rename_i id s kt et hx hk hm
   have ht:=hti.kind _ _ (OY hm)
   split at h
   ·rename_i kvs z hL hz
    have hz:=hti.zero _ _ hz
    split at h
    ·rename_i p hp
     obtain ⟨e,h1,h2⟩:=bA h
     cases e
     exact Ot hx hk hL (oV h1) ht (hti.kind _ _ (mD h2)) hz hp
    ·cases h
   ·cases h
  ·cases h
 ·split at h
  ·rename_i id i v' hx hk hy
   split at h
   ·rename_i kvs hL
    split at h
    ·rename_i q hq
     obtain ⟨e,h1⟩:=bA h
     cases e
     exact Ka hx (by rw [hk,Int.toNat_of_nonneg h1]) hy hL hq
    ·cases h
   ·cases h
  ·cases h
 ·rename_i f first captured
  split at h
  ·rename_i caps h1 h2
   cases h
   obtain rfl:first = #[]:=by cases first;simp at h1;subst h1;rfl
   exact Og h2
  ·cases h
 ·rename_i args ts
  split at h
  ·rename_i s x t tx ha hts
   obtain rfl:args = #[s,x]:=by cases args;simp at ha;subst ha;rfl
   obtain rfl:ts = #[t,tx]:=by cases ts;simp at hts;subst hts;rfl
   split at h
   ·rename_i id ver n vx E hs hx hE
    split at h
    ·rename_i ver' es k' xs k by_ hL hsrc hk hby
     obtain ⟨e,⟨h1,h2,h3,h4⟩,h5,h6,h7,h8,h9⟩:=bA h
     cases e;subst h1;subst h2
     exact zJ hti hs hx hL hsrc (V4 h3) hE h4 hk h5 hby h6 h7 h8 h9
    ·cases h
   ·rename_i vx E hs hx hE
    split at h
    ·rename_i xs k by_ hsrc hk hby
     obtain ⟨e,⟨h1,h2,h3⟩,h5,h6,h7,h8,h9⟩:=bA h
     cases e
     exact QT hti hs hx hsrc (V4 h2) hE h3 hk h5 hby h6 h7 h8 h9
    ·cases h
   ·cases h
  ·cases h
 ·split at h
  ·rename_i l m E hl hc hE
   split at h
   ·rename_i k by_ hk hby
    split at h
    ·split at h
     ·obtain ⟨e,⟨h1,h2⟩,h3,h4,h5,h6,h7⟩:=bA h
      cases e;subst h1
      exact Qo hti hl hc hE h2 hk h3 hby h4 h5 h6 h7
     ·rename_i zs _ hz
      obtain ⟨e,⟨h1,h2⟩,h3,h4,h5,h6,h7⟩:=bA h
      cases e;subst h1
      obtain ⟨zv,hzv,hcz⟩:=Option.bind_eq_some_iff.1 hz
      exact FB hti hl hc hE h2 hk h3 hzv hcz hby h4 h5 h6 h7
     ·cases h
    ·obtain ⟨e,h1,h3,h4,h5,h6,h7⟩:=bA h
     cases e;subst h1
     exact sO hti hl hc hE hk h3 hby h4 h5 h6 h7
   ·cases h
  ·cases h
 ·split at h
  ·rename_i inf ts hi hf
   split at h
   ·rename_i vs Eb hz hEb
    split at h
    ·rename_i k hv hk
     obtain ⟨e,h1,h2,h3,h4⟩:=bA h
     cases e
     exact vH hi (by rw [hz];cases vs;simp at hv;subst hv;rfl) h2 h3 h4
    ·cases h
   ·cases h
  ·cases h
 ·split at h
  ·rename_i id ver hx
   split at h
   ·rename_i ver' es k hL
    split at h
    ·rename_i t _ h1 h2
     split at h
     ·rename_i n hn
      obtain ⟨e,h4⟩:=bA h
      cases e;subst h4
      obtain ⟨j,hj,hs⟩:=BN (hti.size _ _ hn)
      exact rG hx hL (hti.kind _ _ (z_ h1)) (hti.kind _ _ (RB h2)) hj (by rw [hs];exact Nat.succ_ne_zero _)
     ·cases h
    ·rename_i t h1 h2 _
     obtain ⟨e,h4,h5,h6,h7⟩:=bA h
     cases e;subst h4
     obtain ⟨n,hn⟩:=ahA.1 h5
     obtain ⟨j,hj,hs⟩:=BN (hti.size _ _ hn)
     exact wh hx hL (hti.kind _ _ (RB h2)) (hti.kind _ _ (z_ h1)) hj h6 h7
    ·cases h
   ·cases h
  ·cases h
 ·split at h
  ·rename_i hx
   split at h
   ·rename_i te hy hm
    cases h
    exact E_ hx hy (hti.kind _ _ (z_ hm))
   ·cases h
  ·rename_i hx
   split at h
   ·rename_i te ver' es k hy hm hL
    obtain ⟨e,h4⟩:=bA h
    cases e;subst h4
    exact yx hx hL hy (hti.kind _ _ (z_ hm))
   ·cases h
  ·rename_i hx
   split at h
   ·rename_i te ver' es k hy hm hL
    obtain ⟨e,h4,h5,h6,h7,h8,h9⟩:=bA h
    cases e;subst h4;subst h5;subst h6;subst h7;subst h8
    obtain ⟨n,hn⟩:=ahA.1 h9
    obtain ⟨j,hj,hs⟩:=BN (hti.size _ _ hn)
    exact x9 hx hL hy (hti.kind _ _ (z_ hm)) hj
   ·cases h
  ·rename_i vx hx
   split at h
   ·rename_i hl hm
    cases h
    exact Uq hx hl (hti.kind _ _ (acs hm))
   ·cases h
  ·cases h
 ·rename_i args ts
  split at h
  ·rename_i x ha
   obtain rfl:args = #[x]:=by cases args;simp at ha;subst ha;rfl
   split at h
   ·rename_i id ver n hx
    split at h
    ·rename_i ver' es k hL
     obtain ⟨e,h4⟩:=bA h
     cases e;subst h4
     exact AR hx hL (Nat.succ_pos _)
    ·cases h
   ·rename_i id ver hx
    split at h
    ·rename_i ver' k hL
     obtain ⟨e,h4,h5⟩:=bA h
     cases e;subst h4
     exact yX hx hL h5
    ·cases h
   ·cases h
  ·cases h
 ·rename_i args ts
  split at h
  ·rename_i x y pt it ha hts
   obtain rfl:args = #[x,y]:=by cases args;simp at ha;subst ha;rfl
   obtain rfl:ts = #[pt,it]:=by cases ts;simp at hts;subst hts;rfl
   split at h
   ·rename_i n hx hy
    obtain ⟨e,h4⟩:=bA h
    cases e;subst h4
    exact su hx hy
   ·rename_i id ver n hx hy
    split at h
    ·rename_i ver' es E hL hm
     split at h
     ·rename_i bs hb
      obtain ⟨e,⟨h4,h5⟩,h6,h7,h8,h9⟩:=bA h
      cases e;subst h4;subst h5
      refine uV hx hy ?_ h6 (hti.kind _ _ (z_ hm)) h7 h8 h9
      rw [hL,JC hb];rfl
     ·cases h
    ·cases h
   ·cases h
  ·cases h
 ·rename_i f args ts
  split at h
  ·rename_i x ha
   obtain rfl:args = #[x]:=by cases args;simp at ha;subst ha;rfl
   split at h
   ·rename_i v' hx
    obtain ⟨e,h4⟩:=bA h
    cases e;subst h4
    obtain ⟨fn,h1,h2,h3,h5,h6⟩:=hne.noEsc
    exact wo hx h1 h2 h3 h5 h6
   ·cases h
  ·rename_i x y ha
   obtain rfl:args = #[x,y]:=by cases args;simp at ha;subst ha;rfl
   split at h
   ·rename_i a b hx hy
    obtain ⟨e,h4⟩:=bA h
    cases e;subst h4
    obtain ⟨fn,h1,h2,h3,h5,h6⟩:=hne.cmpS
    exact Tk hx hy h1 h2 h3 h5 h6
   ·cases h
  ·cases h
 ·cases h
theorem TIok.flags {P:Program} {ti:TI} (h:TIok P ti) (d s:Bool):TIok P { ti with dyn:=d,soft:=s } := ⟨h.size,h.agg,h.elem,h.field,h.zero,h.bytes,h.kind,h.struct,h.zok,h.eqs⟩
structure Cx where
 P:Program
 ti:TI
 xs:SN
 row:FuncId->Nat->Bool
 frz:FuncId->Nat->List Nat
 flg:FuncId->Nat->Bool × Bool
 orc:FuncId->List PV->Option CV
 bad:FuncId->Bool
 fz:FuncId->Nat->List Nat:=fun _ _=>[]
def ac_ (n:Nat):Cap->Bool
 | .ptr id _=>Nat.blt id n
 | .c _=>true
def Pk (n:Nat):List Cap->Bool
 | []=>true
 | x::xs=>ac_ n x&&Pk n xs
def adM (n:Nat):SV->Bool
 | .own _ t=>Nat.blt t n
 | .ptr id _=>Nat.blt id n
 | .sl id _ _ _=>Nat.blt id n
 | .ep id _ _ _=>Nat.blt id n
 | .mp id=>Nat.blt id n
 | .clo _ caps=>Pk n caps
 | .c _=>true
 | .emp=>true
def Ij (n:Nat):List SV->Bool
 | []=>true
 | x::xs=>adM n x&&Ij n xs
def OD (n:Nat):List (List SV)->Bool
 | []=>true
 | x::xs=>Ij n x&&OD n xs
def abf (n:Nat):AV->Bool
 | .one x=>adM n x
 | .agg xs=>Ij n xs
 | .tup _=>true
 | .tupS xs=>Ij n xs
 | .undef=>true
def KJ (n:Nat):List AV->Bool
 | []=>true
 | x::xs=>abf n x&&KJ n xs
def Vz (n:Nat):List (AC × AV)->Bool
 | []=>true
 | x::xs=>abf n x.2&&Vz n xs
def aeU (n:Nat):Ob->Bool
 | .box cs=>Ij n cs
 | .row _ es _=>OD n es
 | .map kvs=>Vz n kvs
 | .spare _ _=>true
 | .dead=>true
def Nn (n:Nat):List Ob->Bool
 | []=>true
 | x::xs=>aeU n x&&Nn n xs
theorem aaf {n:Nat} {x:Cap} (h:ac_ n x=true):x.below n:=by
 cases x with
 | c _=>trivial
 | ptr id _=>exact ag5 h
theorem MH {n:Nat} : ∀ {xs:List Cap}, Pk n xs=true -> ∀ x∈xs,x.below n
 | [],_,x,hx=>by cases hx
 | y::xs,h,x,hx=>by
  rw [Pk,ahb] at h
  rcases aha.1 hx with rfl|hx
  ·exact aaf h.1
  ·exact MH h.2 x hx
theorem VK {n:Nat} {x:SV} (h:adM n x=true):x.below n:=by
 cases x with
 | c _=>trivial
 | emp=>trivial
 | own _ t=>exact ag5 h
 | ptr id _=>exact ag5 h
 | sl id _ _ _=>exact ag5 h
 | ep id _ _ _=>exact ag5 h
 | mp id=>exact ag5 h
 | clo f caps=>exact MH h
theorem xX {n:Nat} : ∀ {xs:List SV}, Ij n xs=true -> ∀ x∈xs,x.below n
 | [],_,x,hx=>by cases hx
 | y::xs,h,x,hx=>by
  rw [Ij,ahb] at h
  rcases aha.1 hx with rfl|hx
  ·exact VK h.1
  ·exact xX h.2 x hx
theorem MS {n:Nat} : ∀ {xs:List (List SV)}, OD n xs=true -> ∀ e∈xs, ∀ x∈e,x.below n
 | [],_,x,hx=>by cases hx
 | y::xs,h,x,hx=>by
  rw [OD,ahb] at h
  rcases aha.1 hx with rfl|hx
  ·exact xX h.1
  ·exact MS h.2 x hx
theorem p8 {n:Nat} {x:AV} (h:abf n x=true):x.below n:=by
 cases x with
 | one x=>exact VK h
 | agg xs=>exact xX h
 | tup _=>trivial
 | tupS xs=>exact xX h
 | undef=>trivial
theorem yL {n:Nat} : ∀ {xs:List AV}, KJ n xs=true -> ∀ x∈xs,x.below n
 | [],_,x,hx=>by cases hx
 | y::xs,h,x,hx=>by
  rw [KJ,ahb] at h
  rcases aha.1 hx with rfl|hx
  ·exact p8 h.1
  ·exact yL h.2 x hx
theorem Ru {n:Nat} : ∀ {xs:List (AC × AV)}, Vz n xs=true -> ∀ p∈xs,p.2.below n
 | [],_,x,hx=>by cases hx
 | y::xs,h,x,hx=>by
  rw [Vz,ahb] at h
  rcases aha.1 hx with rfl|hx
  ·exact p8 h.1
  ·exact Ru h.2 x hx
theorem abA {n:Nat} {x:Ob} (h:aeU n x=true):x.below n:=by
 cases x with
 | box cs=>exact xX h
 | row _ es _=>exact MS h
 | map kvs=>exact Ru h
 | spare _ _=>trivial
 | dead=>trivial
theorem o8 {n:Nat} : ∀ {xs:List Ob}, Nn n xs=true -> ∀ x∈xs,x.below n
 | [],_,x,hx=>by cases hx
 | y::xs,h,x,hx=>by
  rw [Nn,ahb] at h
  rcases aha.1 hx with rfl|hx
  ·exact abA h.1
  ·exact o8 h.2 x hx
theorem nz {n i:Nat} (h:i<n):nC (List.range n) i=i:=by
 unfold nC
 rw [ahL,List.getElem?_range h];rfl
theorem Cap.ren_range {n:Nat} {x:Cap} (h:x.below n):x.ren (List.range n)=x:=by
 cases x with
 | c _=>rfl
 | ptr id off=>show Cap.ptr (nC _ id) off=_;rw [nz h]
theorem kW {α:Type} {f:α->α} : ∀ {l:List α}, (∀ x∈l,f x=x)->l.map f=l
 | [],_=>rfl
 | x::l,h=>by rw [ag6,h x (ahG ..),kW fun y hy=>h y (ahh _ hy)]
theorem SV.ren_range {n:Nat} {x:SV} (h:x.below n):x.ren (List.range n)=x:=by
 cases x with
 | c _=>rfl
 | emp=>rfl
 | own es t=>show SV.own es (nC _ t)=_;rw [nz h]
 | ptr id off=>show SV.ptr (nC _ id) off=_;rw [nz h]
 | sl id v l m=>show SV.sl (nC _ id) v l m=_;rw [nz h]
 | ep id v i o=>show SV.ep (nC _ id) v i o=_;rw [nz h]
 | mp id=>show SV.mp (nC _ id)=_;rw [nz h]
 | clo f caps=>show SV.clo f (caps.map _)=_;rw [kW fun x hx=>Cap.ren_range (h x hx)]
theorem AV.ren_range {n:Nat} {x:AV} (h:x.below n):x.ren (List.range n)=x:=by
 cases x with
 | one x=>show AV.one (x.ren _)=_;rw [SV.ren_range h]
 | agg xs=>show AV.agg (xs.map _)=_;rw [kW fun x hx=>SV.ren_range (h x hx)]
 | tup _=>rfl
 | tupS xs=>show AV.tupS (xs.map _)=_;rw [kW fun x hx=>SV.ren_range (h x hx)]
 | undef=>rfl
theorem Ob.ren_range {n:Nat} {x:Ob} (h:x.below n):x.ren (List.range n)=x:=by
 cases x with
 | box cs=>show Ob.box (cs.map _)=_;rw [kW fun x hx=>SV.ren_range (h x hx)]
 | row v es k=>show Ob.row v (es.map (List.map _)) k=_;rw [kW fun e he=>kW fun x hx=>SV.ren_range (h e he x hx)]
 | map kvs=>show Ob.map (kvs.map fun p=>(p.1,p.2.ren (List.range n)))=_;rw [kW (f:=fun p:AC × AV=>(p.1,p.2.ren (List.range n))) fun p hp=>by show (p.1,p.2.ren _)=p;rw [AV.ren_range (h p hp)]]
 | spare _ _=>rfl
 | dead=>rfl
theorem Dh {n m:Nat} (h:n<=m):dR (List.range n) n m=List.range m:=by
 unfold dR mE
 rw [List.length_range, <- List.range_add,Nat.add_sub_cancel' h]
theorem Rb {L L1:List Ob} (h:L.length<=L1.length) (hb : ∀ x∈L1,x.below L1.length):joinL (List.range L.length) L L1=L1:=by
 unfold joinL join
 rw [Dh h,kW fun x hx=>Ob.ren_range (hb x hx),List.length_range]
 have:jV L (List.range L.length) L1=L1.take L.length:=by
  apply List.ext_getElem?
  intro i
  by_cases hi:i<L.length
  ·rw [FO _ L L1 i i List.nodup_range (fun k hk=>List.mem_range.1 hk) (List.getElem?_range hi) (by omega),ahn,if_pos hi]
  ·rw [ahH (by rw [gU];omega),ahH (by rw [ahK];omega)]
 rw [this,ahE]
structure qR (P:Program) (g:FuncId) (L:List Ob) (asx:List AV) (L1:List Ob) (r:AV):Prop where
 run:Run P g L asx L1 r
 obb : ∀ x∈L,x.below L.length
 argb : ∀ x∈asx,x.below L.length
 le:L.length<=L1.length
 ob1 : ∀ x∈L1,x.below L1.length
 val:r.below L1.length
theorem qR.fits {P:Program} {g:FuncId} {L:List Ob} {asx:List AV} {L1:List Ob} {r:AV} (h:qR P g L asx L1 r):nX (List.range L.length) L asx L:=by
 refine ⟨List.length_range,List.nodup_range,fun i x hx=>?_,h.obb,h.argb⟩
 have hi:i<L.length:=(agV.1 hx).1
 rw [nz hi,hx,Ob.ren_range (h.obb x (ag1 hx))]
abbrev CP:=FuncId->List PV->Option CV
abbrev CR:=FuncId->List Ob->List AV->Option (List Ob × AV)
def Ip:Op->Option (Operand × List Operand)
 | .call { callee := .value f,args, .. } => some (f,args.toList)
 | _=>none
def Zv (ti:TI) (cp:CP) (cr:CR) (ρ:Operand->Option AV) (L:List Ob) (f:Operand) (args:List Operand):Option (AV × List Ob) :=
 match ρ f with
 | some (.one (.c (.fn g cs)))=>match ti.owns g with
  | false=>match gL ρ args with
   | some ps=>match cp g (ps++cs.map .one) with
    | some r=>some (r.av,L)
    | none=>none
   | none=>none
  | true=>match Vu ti f,YK ρ args with
   | true,some vs=>match cr g L (vs++cs.map fun x => .one (.c x)) with
    | some (L1,r)=>some (r,L1)
    | none=>none
   | _,_=>none
 | some (.one (.clo g caps))=>match Vu ti f,YK ρ args with
  | true,some vs=>match cr g L (vs++caps.map Cap.av) with
   | some (L1,r)=>some (r,L1)
   | none=>none
  | _,_=>none
 | _=>none
def Zc (P:Program) (ti:TI) (xs:SN) (rowB:Bool) (ρ:Operand->Option AV) (L:List Ob) (op:Op):Option (AV × List Ob) :=
 match cK ti op&&(!ti.soft||(Nat.beq (sk op) 0||Nat.beq (sk op) 4)) with
 | true=>R9 P ti xs rowB ρ L op
 | false=>none
def adq (cx:Cx) (ti:TI) (cp:CP) (cr:CR) (rowB:Bool) (ρ:Operand->Option AV) (L:List Ob) (op:Op):Option (AV × List Ob) :=
 match aan ti ρ L op with
 | some v=>some (v,L)
 | none=>match Ip op with
  | some (f,args)=>match Zv ti cp cr ρ L f args with
   | some r=>some r
   | none=>Zc cx.P ti cx.xs rowB ρ L op
  | none=>match (match rowB with|true=>none|false=>ab_ ti ρ op) with
   | some v=>some (v,L)
   | none=>match rowB with
    | true=>match Zc cx.P ti cx.xs rowB ρ L op with
     | some r=>some r
     | none=>match ab_ ti ρ op with
      | some v=>some (v,L)
      | none=>acK ti ρ L op
    | false=>match acK ti ρ L op with
     | some r=>some r
     | none=>Zc cx.P ti cx.xs rowB ρ L op
theorem TW {P:Program} {ti:TI} {xs:SN} {rowB:Bool} {ρ:Operand->Option AV} {L L':List Ob} {op:Op} {v:AV} (hk:sk op=4) (h:R9 P ti xs rowB ρ L op=some (v,L')):L'=L:=by
 unfold R9 at h
 split at h
 all_goals first|(exfalso;cases hk;done)|skip
 all_goals repeat' (first|(cases h;done)|(cases h;rfl)|(obtain ⟨e,_⟩:=bA h;cases e;rfl)|split at h)
theorem XM {op:Op} {f:Operand} {args:List Operand} (h:Ip op=some (f,args)) : ∃ asx ts,op = .call { callee := .value f,args:=asx,argTypes:=ts } /\ args=asx.toList:=by
 unfold Ip at h
 split at h
 ·cases h;exact ⟨_,_,rfl,rfl⟩
 ·cases h
theorem O_ {P:Program} {ti:TI} {xs:SN} {rowB:Bool} {ρ:Operand->Option AV} {L L':List Ob} {op:Op} {v:AV} {K:AV->List Ob->Prop} (hti:TIok P ti) (hne:ET P xs) (h:Zc P ti xs rowB ρ L op=some (v,L')) (hK:K v L'):nM P ti ρ L K op:=by
 unfold Zc at h
 split at h
 ·rename_i h1
  rw [ahb] at h1
  refine .inr (.inr (.inr (.inr (.inr (.inr (.inr ⟨v,L',⟨h1.1,fun hs=>?_⟩,ZW hti hne h,hK⟩))))))
  have h2:=h1.2
  rw [hs,Bool.not_true,Bool.false_or,Bool.or_eq_true] at h2
  rcases h2 with h2|h2
  ·exact .inl (Nat.eq_of_beq_eq_true h2)
  ·exact .inr ⟨Nat.eq_of_beq_eq_true h2,TW (Nat.eq_of_beq_eq_true h2) h⟩
 ·cases h
theorem NA {P:Program} {ti:TI} {ρ:Operand->Option AV} {L L1:List Ob} {op:Op} {g:FuncId} {asx:List AV} {r:AV} {K:AV->List Ob->Prop} (hp:fJ ti ρ op=some (g,asx)) (h:qR P g L asx L1 r) (hK:K r L1):nM P ti ρ L K op:=by
 refine .inr (.inr (.inr (.inr (.inr (.inr (.inl ⟨List.range L.length,g,L,asx,L1,r,?_,h.fits,h.run,?_⟩))))))
 ·rw [hp,kW fun x hx=>AV.ren_range (h.argb x hx)]
 ·rw [Dh h.le,AV.ren_range h.val,Rb h.le h.ob1];exact hK
theorem abY {cx:Cx} {ti:TI} {cp:CP} {cr:CR} {rowB:Bool} {ρ:Operand->Option AV} {L L':List Ob} {op:Op} {v:AV} {K:AV->List Ob->Prop} (hti:TIok cx.P ti) (hne:ET cx.P cx.xs)
  (hcp : ∀ g ps r,cp g ps=some r->Pure cx.P g ps r) (hcr : ∀ g L asx L1 r,cr g L asx=some (L1,r)->qR cx.P g L asx L1 r)
  (h:adq cx ti cp cr rowB ρ L op=some (v,L')) (hK:K v L'):nM cx.P ti ρ L K op:=by
 unfold adq at h
 split at h
 ·rename_i v' h1
  cases h
  obtain ⟨φ,h2,h3⟩:=aa4 h1
  exact .inl ⟨_,φ,h2,h3,hK⟩
 ·split at h
  ·rename_i f args hc
   obtain ⟨asx,ts,rfl,rfl⟩:=XM hc
   split at h
   ·rename_i r h1
    cases h
    unfold Zv at h1
    split at h1
    ·rename_i g cs hf
     split at h1
     ·split at h1
      ·rename_i ps hps
       split at h1
       ·rename_i r hr
        cases h1
        exact .inr (.inr (.inr (.inl ⟨g,_,r,by simp only [xA,hf,hps,Option.map_some],hcp _ _ _ hr,hK⟩)))
       ·cases h1
      ·cases h1
     ·split at h1
      ·rename_i vs hR hvs
       split at h1
       ·rename_i L1 r hr
        cases h1
        exact NA (by simp only [fJ,hf,hvs,hR]) (hcr _ _ _ _ _ hr) hK
       ·cases h1
      ·cases h1
    ·rename_i g caps hf
     split at h1
     ·rename_i vs hR hvs
      split at h1
      ·rename_i L1 r hr
       cases h1
       exact NA (by simp only [fJ,hf,hvs,hR]) (hcr _ _ _ _ _ hr) hK
      ·cases h1
     ·cases h1
    ·cases h1
   ·exact O_ hti hne h hK
  ·split at h
   ·rename_i v' h1
    cases h
    cases rowB with
    | true=>cases h1
    | false =>
     obtain ⟨φ,h2,h3⟩:=U4 h1
     exact .inr (.inl ⟨_,φ,h2,h3,hK⟩)
   ·split at h
    ·split at h
     ·rename_i r h1
      cases h
      exact O_ hti hne h1 hK
     ·split at h
      ·rename_i v' h1
       cases h
       obtain ⟨φ,h2,h3⟩:=U4 h1
       exact .inr (.inl ⟨_,φ,h2,h3,hK⟩)
      ·obtain ⟨φ,h2,h3⟩:=V_ h
       exact .inr (.inr (.inl ⟨_,_,φ,h2,h3,hK⟩))
    ·split at h
     ·rename_i r h1
      cases h
      obtain ⟨φ,h2,h3⟩:=V_ h1
      exact .inr (.inr (.inl ⟨_,_,φ,h2,h3,hK⟩))
     ·exact O_ hti hne h hK
def rowOf (cx:Cx) (f:FuncId):Option Tmp->Bool
 | some d=>cx.row f d
 | none=>false
def ae6 (N:Nat):Option Tmp->Bool
 | some d=>Nat.blt d N
 | none=>true
theorem Vj {N:Nat} {d:Option Tmp} (h:ae6 N d=true):dOK N d:=by
 cases d with
 | none=>trivial
 | some d=>exact ag5 h
def QY (cx:Cx) (ti:TI) (cp:CP) (cr:CR) (f:FuncId) (N:Nat) (ds:List (Option Tmp)):List Oper->Tm->List Ob->Option (Tm × List Ob)
 | [],T,L=>some (T,L)
 | o::rest,T,L=>match ae6 N o.dst,kJ ds T o.guard with
  | true,some true=>match adq cx ti cp cr (rowOf cx f o.dst) (look T) L o.op with
   | some (v,L')=>QY cx ti cp cr f N ds rest (Et T o.dst v) L'
   | none=>none
  | true,some false=>QY cx ti cp cr f N ds rest (Et T o.dst .undef) L
  | _,_=>none
theorem Ev {cx:Cx} {ti:TI} {cp:CP} {cr:CR} {f:FuncId} {N:Nat} {ds:List (Option Tmp)} (hti:TIok cx.P ti) (hne:ET cx.P cx.xs)
  (hcp : ∀ g ps r,cp g ps=some r->Pure cx.P g ps r) (hcr : ∀ g L asx L1 r,cr g L asx=some (L1,r)->qR cx.P g L asx L1 r) {K:Tm->List Ob->Prop} :
  ∀ {l:List Oper} {T T':Tm} {L L':List Ob}, QY cx ti cp cr f N ds l T L=some (T',L')->K T' L'->aQ cx.P ti N ds K l T L
 | [],T,T',L,L',h,hK=>by cases h;exact hK
 | o::rest,T,T',L,L',h,hK=>by
  unfold QY at h
  split at h
  ·rename_i hd hg
   split at h
   ·rename_i v L1 h1
    exact ⟨Vj hd,iJ hg (abY hti hne hcp hcr h1 (Ev hti hne hcp hcr h hK))⟩
   ·cases h
  ·rename_i hd hg
   exact ⟨Vj hd,JB hg (Ev hti hne hcp hcr h hK)⟩
  ·cases h
def adB:List Cap->List Nat
 | []=>[]
 | .ptr id _::l=>id::adB l
 | .c _::l=>adB l
def aeV:SV->List Nat
 | .ptr id _=>[id]
 | .sl id _ _ _=>[id]
 | .clo _ caps=>adB caps
 | _=>[]
def ac2:List SV->List Nat
 | []=>[]
 | x::l=>aeV x++ac2 l
def ags:AV->List Nat
 | .one x=>aeV x
 | .agg xs=>ac2 xs
 | _=>[]
def VC (T:Tm) (L:List Ob) (id:Nat):Tm × List Ob :=
 match L[id]? with
 | some (.row ver es _)=>match oO es with
  | some cs=>(T.map (fun p=>(p.1,thA id ver cs p.2)),L.set id .dead)
  | none=>(T,L)
 | some (.box cs)=>match ni cs with
  | some ts=>(T.map (fun p=>(p.1,Md id ts p.2)),L.set id .dead)
  | none=>(T,L)
 | _=>(T,L)
def Oo:List Nat->Tm->List Ob->Tm × List Ob
 | [],T,L=>(T,L)
 | id::l,T,L=>match VC T L id with
  | (T',L')=>Oo l T' L'
def afl (T:Tm) (L:List Ob) (t:Nat):Tm × List Ob :=
 match T.lookup t with
 | some v=>Oo (ags v) T L
 | none=>(T,L)
def YT:List Nat->Tm->List Ob->Option (Tm × List Ob)
 | [],T,L=>some (T,L)
 | t::ts,T,L=>match afl T L t with
  | (T',L')=>YT ts T' L'
section
variable {P:Program} {N n0:Nat} {Q:AX->Tm->List Ob->Prop} {c:Code}
theorem aaL {T:Tm} {L:List Ob} {id:Nat} (k:Aw P N n0 c Q (VC T L id).1 (VC T L id).2):Aw P N n0 c Q T L:=by
 unfold VC at k
 split at k
 ·rename_i hL
  split at k
  ·rename_i hn;exact wM _ hL hn k
  ·exact k
 ·rename_i hL
  split at k
  ·rename_i hn;exact bI _ hL hn k
  ·exact k
 ·exact k
theorem M_ : ∀ {l:List Nat} {T:Tm} {L:List Ob}, Aw P N n0 c Q (Oo l T L).1 (Oo l T L).2->Aw P N n0 c Q T L
 | [],_,_,k=>k
 | id::l,T,L,k=>aaL (M_ (l:=l) k)
theorem Ov : ∀ {ts:List Nat} {T T':Tm} {L L':List Ob}, YT ts T L=some (T',L')->Aw P N n0 c Q T' L'->Aw P N n0 c Q T L
 | [],_,_,_,_,h,k=>by cases h;exact k
 | t::ts,T,T',L,L',h,k=>by
  unfold YT at h
  have h2:=Ov (ts:=ts) h k
  unfold afl at h2
  split at h2
  ·exact M_ h2
  ·exact h2
end
def clean (N:Nat) (T:Tm):Tm:=(List.range N).filterMap fun t=>(T.lookup t).map fun x=>(t,x)
theorem Mt {N:Nat} {T:Tm} {t:Nat} {x:AV} (h:(clean N T).lookup t=some x):T.lookup t=some x:=by
 have h1:=Bp h
 unfold clean at h1
 rw [List.mem_filterMap] at h1
 obtain ⟨i,_,h2⟩:=h1
 obtain ⟨y,h3,h4⟩:=map_some h2
 cases h4
 exact h3
def Sl (body:Tm->List Ob->Option (AX × Tm × List Ob)) (N:Nat):Nat->Tm->List Ob->Option (AX × Tm × List Ob)
 | 0,_,_=>none
 | n+1,T,L=>match body (clean N T) L with
  | some (.normal,T',L')=>Sl body N n T' L'
  | r=>r
def adR (cx:Cx) (f:FuncId) (id:Nat):Bool->TI
 | false => { cx.ti with dyn:=true,soft:=false }
 | true => { cx.ti with dyn:=(cx.flg f id).1,soft:=(cx.flg f id).2 }
def Sz (cx:Cx) (cp:CP) (cr:CR) (f:FuncId) (N:Nat) (rs:List Nat):Code->Tm->List Ob->Option (AX × Tm × List Ob)
 | .skip,T,L=>some (.normal,T,L)
 | .label _,T,L=>some (.normal,T,L)
 | .ret,T,L=>match YT rs T L with
  | some (T',L')=>some (.ret,T',L')
  | none=>none
 | .exit id,T,L=>some (.exit id,T,L)
 | .seq x y,T,L=>match Sz cx cp cr f N rs x T L with
  | some (.normal,T',L')=>Sz cx cp cr f N rs y T' L'
  | r=>r
 | .cond c x y,T,L=>match look T c with
  | some (.one (.c (.bool b)))=>match b with
   | true=>Sz cx cp cr f N rs x T L
   | false=>Sz cx cp cr f N rs y T L
  | _=>none
 | .block id c,T,L=>match Sz cx cp cr f N rs c T L with
  | some (.exit j,T',L')=>match decide (j=id) with
   | true=>some (.normal,T',L')
   | false=>some (.exit j,T',L')
  | r=>r
 | .region id ops d,T,L=>match YT (cx.frz f id) T L with
  | some (T1,L1)=>match fzB (cx.fz f id) T1 with
   | true=>match QY cx (adR cx f id d) cp cr f N (ops.toList.map (·.dst)) ops.toList T1 L1 with
    | some (T2,L2)=>some (.normal,T2,L2)
    | none=>none
   | false=>none
  | none=>none
 | .loop c,T,L=>Sl (Sz cx cp cr f N rs c) N 1048576 T L
 | _,_,_=>none
def pJ (cx:Cx) (f:FuncId):Code->Bool
 | .seq x y=>pJ cx f x&&pJ cx f y
 | .cond _ x y=>pJ cx f x&&pJ cx f y
 | .block _ c=>pJ cx f c
 | .loop c=>pJ cx f c
 | .region id ops true=>Ef (cx.fz f id) (adR cx f id true) ops.toList
 | _=>true
structure I1 (cx:Cx):Prop where
 ti:TIok cx.P cx.ti
 ne:ET cx.P cx.xs
 mix:cx.P.follows .mixedOrders=true
 name : ∀ (f : FuncId) fn, cx.P.funcs[f]? = some fn -> (fn.name == "runtime.NumGoroutine") = false
 code : ∀ (f:FuncId) fn c,cx.P.funcs[f]?=some fn->fn.body=some c->cx.bad f=false->pJ cx f c=true
 orc : ∀ g ps r,cx.orc g ps=some r->Pure cx.P g ps r
def Cw (cx:Cx):List Func->Nat->Bool
 | [],_=>true
 | fn::fs,i=>(match fn.body with
  | some c=>cx.bad i||pJ cx i c
  | none=>true)&&Cw cx fs (i+1)
theorem Mf {cx:Cx} : ∀ {fs:List Func} {i:Nat}, Cw cx fs i=true -> ∀ (j:Nat) fn c,fs[j]?=some fn->fn.body=some c->cx.bad (i+j)=false->pJ cx (i+j) c=true
 | [],i,h,j,fn,c,hj,_,_=>by simp at hj
 | f0::fs,i,h,0,fn,c,hj,hb,hbad=>by
  rw [Cw,ahb] at h
  simp at hj;subst hj
  have h1:=h.1
  rw [hb] at h1
  rw [Nat.add_zero] at hbad ⊢
  simp only [hbad,Bool.false_or] at h1
  exact h1
 | f0::fs,i,h,j+1,fn,c,hj,hb,hbad=>by
  rw [Cw,ahb] at h
  have:=Mf h.2 j fn c (by simpa using hj) hb (by rwa [show i+1+j=i+(j+1) by omega])
  rwa [show i+1+j=i+(j+1) by omega] at this
def Cr:List Func->Bool
 | []=>true
 | fn :: fs => !(fn.name == "runtime.NumGoroutine") && Cr fs
theorem NB : ∀ {fs : List Func}, Cr fs = true -> ∀ (j : Nat) fn, fs[j]? = some fn -> (fn.name == "runtime.NumGoroutine") = false
 | [],h,j,fn,hj=>by simp at hj
 | f0::fs,h,0,fn,hj=>by
  rw [Cr,ahb] at h
  simp at hj;subst hj
  simpa using h.1
 | f0::fs,h,j+1,fn,hj=>by
  rw [Cr,ahb] at h
  exact NB h.2 j fn (by simpa using hj)
theorem I1.of {cx:Cx} (ti:TIok cx.P cx.ti) (ne:ET cx.P cx.xs) (mix:cx.P.follows .mixedOrders=true) (name:Cr cx.P.funcs.toList=true) (code:Cw cx cx.P.funcs.toList 0=true) (orc : ∀ g ps r,cx.orc g ps=some r->Pure cx.P g ps r):I1 cx :=
 ⟨ti,ne,mix,fun f fn h=>NB name f fn (by simpa using h),fun f fn c h hb hbad=>by have:=Mf code f fn c (by simpa using h) hb (by rwa [ahB]);rwa [ahB] at this,orc⟩
theorem G9 {cx:Cx} (h:I1 cx) (f:FuncId) (id:Nat) (d:Bool):TIok cx.P (adR cx f id d):=by
 cases d
 ·exact h.ti.flags _ _
 ·exact h.ti.flags _ _
section
variable {cx:Cx} {cp:CP} {cr:CR} {f:FuncId} {N n0:Nat} {rs:List Nat}
def AtE (x:AX) (T':Tm) (L':List Ob):AX->Tm->List Ob->Prop:=fun y S M=>y=x/\S=T'/\M=L'
theorem YY {c:Code} {body:Tm->List Ob->Option (AX × Tm × List Ob)} (hb : ∀ T L x T' L',body T L=some (x,T',L')->Aw cx.P N n0 c (AtE x T' L') T L) :
  ∀ {n:Nat} {T:Tm} {L:List Ob} {x:AX} {T':Tm} {L':List Ob}, Sl body N n T L=some (x,T',L')->Aw cx.P N n0 (.loop c) (AtE x T' L') T L:=by
 intro n0' T L x T' L' h
 intro hn B R0 γ0 w0 a0 hi hT
 have key : ∀ n T L0 R γ a w,n0<=L0.length->Sl body N n T L0=some (x,T',L')->Inv B R γ L0 w->lW N R γ L0 T a->Ext B R0 R w0 w->Er n0 R0 R γ0 γ L L0->Code.rounds cx.P c (Fh N n0 B (AtE x T' L') R0 w0 γ0 L) n a w:=by
  intro n
  induction n with
  | zero=>intro T L0 R γ a w _ hl;cases hl
  | succ n ih =>
   intro T L0 R γ a w hlo hl hI ht he hmv
   rw [rounds_succ]
   unfold Sl at hl
   have htc:lW N R γ L0 (clean N T) a:=⟨ht.size,ht.defers,fun t x hx=>ht.slot t x (Mt hx)⟩
   split at hl
   ·rename_i T1 L1 hb1
    refine wp_mono (hb _ _ _ _ _ hb1 hlo B R γ w a hI htc) ?_
    rintro e a1 w1 ⟨y,T2,L2,R1,γ2,rfl,⟨rfl,rfl,rfl⟩,j1,k1,e1,m1⟩
    exact ih _ _ R1 _ a1 w1 m1.lo' hl j1 k1 (he.trans e1) (hmv.trans hi.len m1)
   ·rename_i hne
    refine wp_mono (hb _ _ _ _ _ hl hlo B R γ w a hI htc) ?_
    rintro e a1 w1 ⟨y,T2,L2,R1,γ2,rfl,⟨rfl,rfl,rfl⟩,j1,k1,e1,m1⟩
    cases y with
    | normal=>exact absurd hl (hne _ _)
    | exit id=>exact ⟨.exit id,_,_,R1,γ2,rfl,⟨rfl,rfl,rfl⟩,j1,k1,he.trans e1,hmv.trans hi.len m1⟩
    | ret=>exact ⟨.ret,_,_,R1,γ2,rfl,⟨rfl,rfl,rfl⟩,j1,k1,he.trans e1,hmv.trans hi.len m1⟩
 exact wp_loop_rounds n0' (key n0' T L R0 γ0 a0 w0 hn h hi hT (Ext.refl _ _ _) (Er.of hn Mv.refl))
theorem SC (hx:I1 cx) (hcp : ∀ g ps r,cp g ps=some r->Pure cx.P g ps r) (hcr : ∀ g L asx L1 r,cr g L asx=some (L1,r)->qR cx.P g L asx L1 r) :
  ∀ {c:Code} {T:Tm} {L:List Ob} {x:AX} {T':Tm} {L':List Ob}, pJ cx f c=true->Sz cx cp cr f N rs c T L=some (x,T',L')->Aw cx.P N n0 c (AtE x T' L') T L:=by
 intro c
 induction c with
 | skip=>intro T L x T' L' _ h;cases h;exact aw_skip ⟨rfl,rfl,rfl⟩
 | label l=>intro T L x T' L' _ h;cases h;exact Zt ⟨rfl,rfl,rfl⟩
 | ret =>
  intro T L x T' L' _ h
  unfold Sz at h
  split at h
  ·rename_i h1
   cases h
   exact Ov h1 (aw_ret ⟨rfl,rfl,rfl⟩)
  ·cases h
 | exit id=>intro T L x T' L' _ h;cases h;exact aw_exit ⟨rfl,rfl,rfl⟩
 | seq a b iha ihb =>
  intro T L x T' L' hc h
  rw [pJ,ahb] at hc
  unfold Sz at h
  refine aw_seq ?_
  split at h
  ·rename_i T1 L1 h1
   refine Aw.mono (iha hc.1 h1) ?_
   rintro y S M ⟨rfl,rfl,rfl⟩
   exact ihb hc.2 h
  ·rename_i hne
   refine Aw.mono (iha hc.1 h) ?_
   rintro y S M ⟨rfl,rfl,rfl⟩
   cases y with
   | normal=>exact absurd h (hne _ _)
   | exit id=>exact ⟨rfl,rfl,rfl⟩
   | ret=>exact ⟨rfl,rfl,rfl⟩
 | cond c a b iha ihb =>
  intro T L x T' L' hc h
  rw [pJ,ahb] at hc
  unfold Sz at h
  split at h
  ·rename_i b' hl
   refine aU hl (fun e=>?_) (fun e=>?_)
   ·subst e;exact iha hc.1 h
   ·subst e;exact ihb hc.2 h
  ·cases h
 | block id c ih =>
  intro T L x T' L' hc h
  unfold Sz at h
  refine aw_block ?_
  split at h
  ·rename_i j T1 L1 h1
   refine Aw.mono (ih hc h1) ?_
   rintro y S M ⟨rfl,rfl,rfl⟩
   show if j=id then _ else _
   split at h
   ·rename_i e;rw [if_pos (ahm e)];cases h;exact ⟨rfl,rfl,rfl⟩
   ·rename_i e;rw [if_neg (of_decide_eq_false e)];cases h;exact ⟨rfl,rfl,rfl⟩
  ·rename_i hne
   refine Aw.mono (ih hc h) ?_
   rintro y S M ⟨rfl,rfl,rfl⟩
   cases y with
   | normal=>exact ⟨rfl,rfl,rfl⟩
   | exit id=>exact absurd h (hne _ _ _)
   | ret=>exact ⟨rfl,rfl,rfl⟩
 | region id ops d =>
  intro T L x T' L' hc h
  unfold Sz at h
  split at h
  ·rename_i T1 L1 h1
   refine Ov h1 ?_
   split at h
   ·rename_i hz
    split at h
    ·rename_i T2 L2 h2
     cases h
     have hr:ops=ops.toList.toArray:=rfl
     rw [hr]
     cases d with
     | false=>exact aw_region (G9 hx f id false) _ rfl (Ev (G9 hx f id false) hx.ne hcp hcr h2 ⟨rfl,rfl,rfl⟩)
     | true=>exact uR _ (G9 hx f id true) _ rfl hx.mix hc hz (Ev (G9 hx f id true) hx.ne hcp hcr h2 ⟨rfl,rfl,rfl⟩)
    ·cases h
   ·cases h
  ·cases h
 | loop c ih =>
  intro T L x T' L' hc h
  unfold Sz at h
  exact YY (fun T L x T' L' hb=>ih hc hb) h
 | _=>intro T L x T' L' _ h;unfold Sz at h;cases h
end
def N8 (ti:TI) (T:Tm) (L:List Ob):ResultVar->Option PV
 | .tmp t=>(T.lookup t).bind AV.norm
 | .cell a t=>match T.lookup a with
  | some (.one (.ptr id off))=>match U8 ti L t (.one (.ptr id off)) with
   | some v=>v.norm
   | none=>none
  | _=>none
def Eh (ti:TI) (T:Tm) (L:List Ob):List ResultVar->Option (List PV)
 | []=>some []
 | r::rs=>match N8 ti T L r,Eh ti T L rs with
  | some p,some ps=>some (p::ps)
  | _,_=>none
theorem Tg {ti:TI} {T:Tm} {L:List Ob} {r:ResultVar} {p:PV} (h:N8 ti T L r=some p):Lu (FL ti T L r) p:=by
 unfold N8 at h
 split at h
 ·rename_i t
  exact ⟨True,by show (Option.map _ _)=_;rw [h];rfl,trivial⟩
 ·unfold FL
  dsimp only
  split at h
  ·rename_i h1
   rw [h1]
   dsimp only
   split at h
   ·rename_i v h2
    obtain ⟨φ,h3,h4⟩:=Qd h2
    rw [h3]
    exact ⟨φ,by dsimp only;rw [h];rfl,h4⟩
   ·cases h
  ·cases h
theorem BH {ti:TI} {T:Tm} {L:List Ob} : ∀ {rs:List ResultVar} {ps:List PV}, Eh ti T L rs=some ps->Lu (yb ti T L rs) ps
 | [],ps,h=>by cases h;exact ⟨_,rfl,trivial⟩
 | r::rs,ps,h=>by
  unfold Eh at h
  split at h
  ·rename_i h1 h2
   cases h
   obtain ⟨φ,h3,h4⟩:=Tg h1
   obtain ⟨ψ,h5,h6⟩:=BH h2
   exact ⟨φ/\ψ,by unfold yb;rw [h3,h5],h4,h6⟩
  ·cases h
def JP:List ResultVar->List Nat
 | []=>[]
 | .tmp t::rs=>t::JP rs
 | .cell _ _::rs=>JP rs
def Y_:AX->Bool
 | .exit _=>false
 | _=>true
theorem J3 {x:AX} (h:Y_ x=true):x = .normal\/x = .ret:=by
 cases x with
 | normal=>exact .inl rfl
 | ret=>exact .inr rfl
 | exit _=>cases h
def Y9 (cx:Cx) (cp:CP) (cr:CR):CP:=fun g ps =>
 match cx.orc g ps with
 | some r=>some r
 | none=>match cx.P.funcs[g]? with
  | some fn=>match fn.body,cx.bad g,Nat.ble ps.length fn.ntmps with
   | some c,false,true=>match Sz cx cp cr g fn.ntmps (JP fn.results.toList) c (argT 0 ps) [] with
    | some (x,T,L)=>match Y_ x,Eh cx.ti T L fn.results.toList with
     | true,some rs=>some (Y7 rs)
     | _,_=>none
    | none=>none
   | _,_,_=>none
  | none=>none
def Px (T:Tm):List ResultVar->Option AV
 | [.tmp s, .tmp t]=>match T.lookup s,T.lookup t with
  | some (.one x),some (.one y)=>some (.tupS [x,y])
  | _,_=>none
 | _=>none
theorem Us {T:Tm} {rs:List ResultVar} {r:AV} (h:Px T rs=some r):zY rs T r:=by
 unfold Px at h
 split at h
 ·split at h
  ·rename_i h1 h2
   cases h
   exact ⟨_,_,_,_,rfl,h1,h2,rfl⟩
  ·cases h
 ·cases h
def O4 (ti:TI) (T:Tm) (L:List Ob):List ResultVar->Option AV
 | [.tmp t]=>T.lookup t
 | rs=>match Eh ti T L rs with
  | some ps=>some (Y7 ps).av
  | none=>none
theorem TF {ti:TI} {T:Tm} {L:List Ob} {rs:List ResultVar} {r:AV} (h:O4 ti T L rs=some r):Fx ti rs T L r:=by
 unfold O4 at h
 split at h
 ·exact .inl ⟨_,rfl,h⟩
 ·split at h
  ·rename_i ps h1
   cases h
   obtain ⟨φ,h2,h3⟩:=BH h1
   exact .inr ⟨Y7 ps,bZ h2 h3 rfl,rfl⟩
  ·cases h
def UJ (ti:TI) (T:Tm) (L:List Ob) (rs:List ResultVar):Option AV :=
 match Px T rs with
 | some r=>some r
 | none=>O4 ti T L rs
theorem Yt {ti:TI} {T:Tm} {L:List Ob} {rs:List ResultVar} {r:AV} (h:UJ ti T L rs=some r):Fx ti rs T L r\/zY rs T r:=by
 unfold UJ at h
 split at h
 ·rename_i h1
  cases h
  exact .inr (Us h1)
 ·exact .inl (TF h)
def adb (cx:Cx) (cp:CP) (cr:CR):CR:=fun g L asx =>
 match cx.P.funcs[g]? with
 | some fn=>match fn.body,cx.bad g,Nat.ble asx.length fn.ntmps,(Nn L.length L&&KJ L.length asx) with
  | some c,false,true,true=>match Sz cx cp cr g fn.ntmps [] c (kP 0 asx) L with
   | some (x,T,L1)=>match Y_ x,UJ cx.ti T L1 fn.results.toList,Nat.ble L.length L1.length with
    | true,some r,true=>match abf L.length r&&Nn L.length (L1.take L.length) with
     | true=>some (L1.take L.length,r)
     | false=>match abf L1.length r&&Nn L1.length L1 with
      | true=>some (L1,r)
      | false=>none
    | _,_,_=>none
   | none=>none
  | _,_,_,_=>none
 | none=>none
theorem aar {cx:Cx} {cp:CP} {cr:CR} (hx:I1 cx) (hcp : ∀ g ps r,cp g ps=some r->Pure cx.P g ps r) (hcr : ∀ g L asx L1 r,cr g L asx=some (L1,r)->qR cx.P g L asx L1 r)
  {g:FuncId} {ps:List PV} {r:CV} (h:Y9 cx cp cr g ps=some r):Pure cx.P g ps r:=by
 unfold Y9 at h
 split at h
 ·rename_i r' h1
  cases h
  exact hx.orc _ _ _ h1
 ·split at h
  ·rename_i fn hf
   split at h
   ·rename_i c hb hbad hle
    split at h
    ·rename_i x T L he
     split at h
     ·rename_i rs hend hres
      cases h
      obtain ⟨φ,h2,h3⟩:=BH hres
      refine pa_ hx.ti hf hb (hx.name _ _ hf) rfl (ag5 hle) ?_
      refine Aw.mono (SC hx hcp hcr (hx.code _ _ _ hf hb hbad) he) ?_
      rintro y S M ⟨rfl,rfl,rfl⟩
      exact ⟨J3 hend,bZ h2 h3 rfl⟩
     ·cases h
    ·cases h
   ·cases h
  ·cases h
theorem acw {cx:Cx} {cp:CP} {cr:CR} (hx:I1 cx) (hcp : ∀ g ps r,cp g ps=some r->Pure cx.P g ps r) (hcr : ∀ g L asx L1 r,cr g L asx=some (L1,r)->qR cx.P g L asx L1 r)
  {g:FuncId} {L:List Ob} {asx:List AV} {L1:List Ob} {r:AV} (h:adb cx cp cr g L asx=some (L1,r)):qR cx.P g L asx L1 r:=by
 unfold adb at h
 split at h
 ·rename_i fn hf
  split at h
  ·rename_i c hb hbad hle hbel
   rw [ahb] at hbel
   split at h
   ·rename_i x T L2 he
    split at h
    ·rename_i r' hend hval hlen
     have hlen:=ag5 hlen
     have main : ∀ m,L.length<=m->m<=L2.length->(∀ x∈L2.take m,x.below m)->r'.below m->qR cx.P g L asx (L2.take m) r':=by
      intro m hm1 hm2 hob hr
      have hl:(L2.take m).length=m:=by rw [ahK];omega
      refine ⟨?_,o8 hbel.1,yL hbel.2,by omega,by rw [hl];exact hob,by rw [hl];exact hr⟩
      rcases Yt hval with hv|hv
      ·refine bN hx.ti hf hb (hx.name _ _ hf) rfl (ag5 hle) ?_
       refine Aw.mono (SC hx hcp hcr (hx.code _ _ _ hf hb hbad) he) ?_
       rintro y S M ⟨rfl,rfl,rfl⟩
       exact ⟨J3 hend,⟨hv,⟨_,(ahE m _).symm⟩,by rw [hl];exact hm1,by rw [hl];exact hob,by rw [hl];exact hr⟩⟩
      ·refine Ik hx.ti hf hb (hx.name _ _ hf) rfl (ag5 hle) ?_
       refine Aw.mono (SC hx hcp hcr (hx.code _ _ _ hf hb hbad) he) ?_
       rintro y S M ⟨rfl,rfl,rfl⟩
       exact ⟨J3 hend,⟨hv,⟨_,(ahE m _).symm⟩,by rw [hl];exact hm1,by rw [hl];exact hob,by rw [hl];exact hr⟩⟩
     split at h
     ·rename_i hc
      rw [ahb] at hc
      cases h
      exact main _ (ag' _) hlen (o8 hc.2) (p8 hc.1)
     ·split at h
      ·rename_i hc
       rw [ahb] at hc
       cases h
       have:=main _ hlen (ag' _) (by rw [List.take_length];exact o8 hc.2) (p8 hc.1)
       rw [List.take_length] at this
       exact this
      ·cases h
    ·cases h
   ·cases h
  ·cases h
 ·cases h
def evF (cx:Cx):Nat->CP × CR
 | 0=>(fun _ _=>none,fun _ _ _=>none)
 | n+1=>(Y9 cx (evF cx n).1 (evF cx n).2,adb cx (evF cx n).1 (evF cx n).2)
theorem Ci {cx:Cx} (hx:I1 cx) : ∀ n,(∀ g ps r,(evF cx n).1 g ps=some r->Pure cx.P g ps r)/\(∀ g L asx L1 r,(evF cx n).2 g L asx=some (L1,r)->qR cx.P g L asx L1 r)
 | 0=>⟨fun g ps r h=>(by cases h),fun g L asx L1 r h=>(by cases h)⟩
 | n+1=>⟨fun g ps r h=>aar hx (Ci hx n).1 (Ci hx n).2 h,fun g L asx L1 r h=>acw hx (Ci hx n).1 (Ci hx n).2 h⟩
theorem qp {P:Program} {w:World} {t:TypeId} {d:TypeDesc} (ht:P.underlying t=some d) (hd:(match d with | .struct _=>true | .array _ _=>true|_=>false)=false) {xs:Array Value} {i:Nat} {v:Value} (hx:xs[i]?=some v):(part t xs i).run P w = .ok v w:=by
 cases d<;>first|(cases hd;done)|simp [part,isAgg,run_underlying ht,hx]
def aec:TypeDesc->Option Sc
 | .int k=>some (.int k)
 | .bool=>some .bool
 | .string=>some .str
 | _=>none
def adO (s:Sc):Option TypeDesc->Bool
 | some d=>match aec d with
  | some s'=>decide (s'=s)
  | none=>false
 | none=>false
def abk (d:Option TypeDesc):Sc->Prop
 | .int k=>d=some (.int k)
 | .bool=>d=some .bool
 | .str=>d=some .string
theorem abE {s:Sc} {d:Option TypeDesc} (h:adO s d=true):abk d s:=by
 unfold adO at h
 cases d with
 | none=>cases h
 | some d =>
  dsimp only at h
  cases hs:aec d with
  | none=>rw [hs] at h;cases h
  | some s' =>
   rw [hs] at h
   obtain rfl:s'=s:=ahm h
   unfold aec at hs
   split at hs<;>first|(cases hs;rfl)|(cases hs;done)
def U3 (P:Program):List Field->List Sc->Nat->Bool
 | [],[],_=>true
 | f :: fs, s :: sh, i => (!(f.name == "_")) && (Nat.beq f.offset i && (adO s (P.underlying f.type) && U3 P fs sh (i + 1)))
 | _,_,_=>false
theorem J8 {x:SV} {xs:List SV} {vs:List Value} (h:jJ (x::xs)=some vs) : ∃ c v r,x = .c c/\LY c=some v/\jJ xs=some r/\vs=v::r:=by
 unfold jJ at h
 split at h
 ·rename_i e;cases e
 ·rename_i y ys e
  cases e
  split at h
  ·rename_i v r h1 h2;cases h;exact ⟨_,v,r,rfl,h1,h2,rfl⟩
  ·cases h
 ·cases h
theorem LZ {P:Program} {w:World} (d:Nat) {A B:Array Value} : ∀ (fs:List Field) (sh:List Sc) (i:Nat) (xs ys:List SV) (vs us:List Value),U3 P fs sh i=true->iE sh xs=true->iE sh ys=true->jJ xs=some vs->jJ ys=some us ->
  (∀ (j:Nat) v,vs[j]?=some v->A[i+j]?=some v)->(∀ (j:Nat) v,us[j]?=some v->B[i+j]?=some v)->(Op.eqFields (d+1) A B fs).run P w = .ok (dL xs ys) w:=by
 intro fs
 induction fs with
 | nil =>
  intro sh i xs ys vs us hf hx hy _ _ _ _
  cases sh with
  | nil =>
   cases xs with
   | nil=>cases ys with
    | nil=>rfl
    | cons _ _=>cases hy
   | cons _ _=>cases hx
  | cons _ _=>cases hf
 | cons f fs ih =>
  intro sh i xs ys vs us hf hx hy hv hu hA hB
  cases sh with
  | nil=>cases hf
  | cons s sh =>
   rw [U3,ahb,ahb,ahb] at hf
   obtain ⟨h1,h2,h3,h4⟩:=hf
   have h2:=Nat.eq_of_beq_eq_true h2
   have h1 : f.name ≠ "_" := by simpa using h1
   have h3:=abE h3
   cases xs with
   | nil=>cases s<;>cases hx
   | cons x xs =>
    cases ys with
    | nil=>cases s<;>cases hy
    | cons y ys =>
     obtain ⟨cx,v,vr,rfl,hv1,hv2,rfl⟩:=J8 hv
     obtain ⟨cy,u,ur,rfl,hu1,hu2,rfl⟩:=J8 hu
     have a0:=hA 0 v rfl
     have b0:=hB 0 u rfl
     rw [Nat.add_zero] at a0 b0
     have rest : ∀ (hx':iE sh xs=true) (hy':iE sh ys=true),(Op.eqFields (d+1) A B fs).run P w = .ok (dL xs ys) w:=fun hx' hy' =>
      ih sh (i+1) xs ys vr ur h4 hx' hy' hv2 hu2 (fun j v hj=>by have:=hA (j+1) v (by simpa using hj);rwa [show i+1+j=i+(j+1) by omega]) (fun j v hj=>by have:=hB (j+1) v (by simpa using hj);rwa [show i+1+j=i+(j+1) by omega])
     cases s with
     | int k =>
      unfold abk at h3
      cases cx<;>first|(cases hx;done)|skip
      cases cy<;>first|(cases hy;done)|skip
      rename_i k1 a k2 b
      simp only [iE,ahb,decide_eq_true_eq] at hx hy
      obtain ⟨rfl,hx'⟩:=hx
      obtain ⟨rfl,hy'⟩:=hy
      cases hv1;cases hu1
      have p1:=qp (P:=P) (w:=w) h3 rfl a0
      have p2:=qp (P:=P) (w:=w) h3 rfl b0
      simp only [Op.eqFields,h1,h2,ne_eq,not_false_eq_true,if_true,Sem.run_bind,p1,p2,Result.andThen_ok,run_equalIn_int (P:=P) w d _ k k a b h3,Sem.run_ite,Sem.run_pure,rest hx' hy']
      cases e:(a==b)
      ·have:a≠b:=by simpa using e
       simp [dL,this]
      ·have:a=b:=by simpa using e
       simp [dL,this]
     | bool =>
      unfold abk at h3
      cases cx<;>first|(cases hx;done)|skip
      cases cy<;>first|(cases hy;done)|skip
      rename_i a b
      simp only [iE] at hx hy
      cases hv1;cases hu1
      have p1:=qp (P:=P) (w:=w) h3 rfl a0
      have p2:=qp (P:=P) (w:=w) h3 rfl b0
      simp only [Op.eqFields,h1,h2,ne_eq,not_false_eq_true,if_true,Sem.run_bind,p1,p2,Result.andThen_ok,run_equalIn_bool (P:=P) w d _ a b h3,Sem.run_ite,Sem.run_pure,rest hx hy]
      cases e:(a==b)<;>simp [dL,e]
     | str =>
      unfold abk at h3
      cases cx<;>first|(cases hx;done)|skip
      cases cy<;>first|(cases hy;done)|skip
      rename_i a b
      simp only [iE] at hx hy
      cases hv1;cases hu1
      have p1:=qp (P:=P) (w:=w) h3 rfl a0
      have p2:=qp (P:=P) (w:=w) h3 rfl b0
      simp only [Op.eqFields,h1,h2,ne_eq,not_false_eq_true,if_true,Sem.run_bind,p1,p2,Result.andThen_ok,run_equalIn_string (P:=P) w d _ a b h3,Sem.run_ite,Sem.run_pure,rest hx hy]
      cases e:(a.toList==b.toList)<;>simp [dL,e]
def UW (P:Program) (t:TypeId) (sh:List Sc):Bool :=
 (match P.underlying t with
 | some (.struct fs)=>U3 P fs.toList sh 0
 | _=>false)&&(!P.stoodInHeld t && !P.eqGuardType P.depth t)
theorem YA {P:Program} {t:TypeId} {sh:List Sc} (h:UW P t sh=true):P.eqGuardType P.depth t=false /\ ∀ xs ys,iE sh xs=true->iE sh ys=true->Ty P t xs ys:=by
 rw [UW,ahb,ahb] at h
 obtain ⟨h1,h2,h3⟩:=h
 refine ⟨by simpa using h3,fun xs ys hx hy vs us hv hu w=>?_⟩
 split at h1
 ·rename_i fs ht
  have hfs:P.fieldsOf t=fs:=by unfold Program.fieldsOf;rw [ht]
  have hm:Op.equal t (.agg vs.toArray) (.agg us.toArray)=Op.equalIn (9999+1) t (.agg vs.toArray) (.agg us.toArray):=rfl
  rw [hm,run_equalIn_struct w 9999 t _ _ (by rw [hfs];exact ht) (by simpa using h2),hfs]
  exact LZ 9998 _ sh 0 xs ys vs us h1 hx hy hv hu (fun j v hj=>by simpa using hj) (fun j v hj=>by simpa using hj)
 ·cases h1
end Go.Proofs.YtcehmafobkhdbaaGreatDoor
