/- Parts. No condition. -/
import Derived.Test.YtlcceppoloaecaaGreatDoorKAR
import Derived.Test.YtlcceppoloaecaaGreatDoorKAX
set_option linter.unusedSimpArgs false
set_option linter.unusedVariables false
namespace Go.Proofs.YtlcceppoloaecaaGreatDoor.St
open Go.RowKit Go.Shelf Go.Lib Go.Sort
set_option maxHeartbeats 400000 in
theorem cmp_eq (a b:Int)(w:World):Calls Tryz.prog 41 #[.int .i64 a,.int .i64 b] w λe w'=>e = .returned (.int .i64 (Hl a b))∧w=w':=by
 go_enter Tryz.func41,Tryz.ntmps41
 go_wp2
 all_goals
  go_ret
  exact⟨sK (by unfold Hl;(repeat' split)<;>first|rfl|omega),rfl⟩
def or2 (a b:Int):Int:=if a=0 then b else a
set_option maxHeartbeats 1000000 in
theorem amC (a b:Int)(nb c:Nat)(w:World)(c1:w.cell? ⟨nb,0,none⟩=some (.int .i64 a))(c2:w.cell? ⟨nb,1,none⟩=some (.int .i64 b)) :
  Calls Tryz.prog 206 #[.slice (some ⟨nb,0,none⟩) 2 c] w λe w'=>e = .returned (.int .i64 (or2 a b))∧w=w':=by
 by_cases ha:a=0
 ·have hab:(a !=0)=false:=by simpa using ha
  by_cases hb:b=0
  ·have hbb:(b !=0)=false:=by simpa using hb
   have HF:=Lib.hid (show or2 a b=0 by unfold or2;rw[if_pos ha,hb]);clear ha hb
   go_enter Tryz.func206,Tryz.ntmps206
   go_wp2;refine wp_loop_rounds 3 ?_;rw[rounds_succ];go_wp2;rw[rounds_succ];go_wp2;rw[rounds_succ];go_wp2
   go_ret
   exact⟨sK (by rw[HF.out]),rfl⟩
  ·have hbb:(b !=0)=true:=by simpa using hb
   have HF:=Lib.hid (show or2 a b=b by unfold or2;rw[if_pos ha]);clear ha hb
   go_enter Tryz.func206,Tryz.ntmps206
   go_wp2;refine wp_loop_rounds 2 ?_;rw[rounds_succ];go_wp2;rw[rounds_succ];go_wp2
   go_ret
   exact⟨sK (by rw[HF.out]),rfl⟩
 ·have hab:(a !=0)=true:=by simpa using ha
  have HF:=Lib.hid (show or2 a b=a by unfold or2;rw[if_neg ha]);clear ha
  go_enter Tryz.func206,Tryz.ntmps206
  go_wp2;refine wp_loop_rounds 1 ?_;rw[rounds_succ];go_wp2
  go_ret
  exact⟨sK (by rw[HF.out]),rfl⟩
theorem BN (W:World)(a b c:Obj):World.drew (((W.alloc a).alloc b).alloc c)=grow (W.drewN 1) #[a,b,c]:=by
 rw[alloc_eq_grow,alloc_eq_grow,alloc_eq_grow,grow_grow,grow_grow];rfl
theorem acH (w:World)(cs:Array Value)(E:TypeId)(nb j:Nat)(h:nb=w.heap.size):(w.alloc (.cells cs E)).cell? ⟨nb,j,none⟩=cs[j]?:=by subst h;exact cell_of_row _ _ j _ _ _ (heap_alloc_new w _)
def cfP (x y:Int×Int):Int:=or2 (Hl x.1 y.1) (Hl x.2 y.2)
set_option maxRecDepth 100000 in
set_option maxHeartbeats 2000000 in
theorem afy (x y:Int×Int)(W:World):Calls Tryz.prog 205 #[.agg (e2 x).toArray,.agg (e2 y).toArray] W λe w'=>e = .returned (.int .i64 (cfP x y))∧∃ q os',w'=grow (W.drewN q) os':=by
 obtain⟨x1,x2⟩:=x;obtain⟨y1,y2⟩:=y;show Calls Tryz.prog 205 #[.agg #[.int .i64 x1,.int .i64 x2],.agg #[.int .i64 y1,.int .i64 y2]] W _;have HF:=Lib.hid (show cfP (x1,x2) (y1,y2)=or2 (Hl x1 y1) (Hl x2 y2)from rfl);generalize cfP (x1,x2) (y1,y2)=R at HF ⊢;have hc1:=λw=>cmp_eq x1 y1 w
 have hc2:=λw=>cmp_eq x2 y2 w
 generalize Hl x1 y1=a at hc1 HF;generalize Hl x2 y2=b at hc2 HF
 go_enter Tryz.func205,Tryz.ntmps205
 go_wp2_with fail
 go_region_held3 (λw'=>w'.cell? ⟨W.heap.size,0,none⟩=some (.int .i64 x1)∧w'.cell? ⟨W.heap.size,1,none⟩=some (.int .i64 x2)∧w'.cell? ⟨W.heap.size+1,0,none⟩=some (.int .i64 y1)∧w'.cell? ⟨W.heap.size+1,1,none⟩=some (.int .i64 y2))
  (first|go_keep)
  (first
   |(go_at_call 41;((with_reducible refine(hc1 _).mono ?_);rintro e w' ⟨rfl,rfl⟩))
   |(go_at_call 41;((with_reducible refine(hc2 _).mono ?_);rintro e w' ⟨rfl,rfl⟩))
   |(go_at_call 206;refine(amC a b _ _ _ ?_ ?_).mono ?_;(exact acH _ _ _ _ _ m5);(exact acH _ _ _ _ _ m5);rintro e w' ⟨rfl,rfl⟩))
 go_wp2_with fail
 go_ret
 exact⟨by rw[HF.out];rfl,1,_,BN _ _ _ _⟩
theorem acW (a b:Int):(Hl a b<0↔a<b)∧(Hl a b=0↔a=b):=by
 unfold Hl;split
 ·constructor<;>constructor<;>intro h<;>omega
 ·split
  ·constructor<;>constructor<;>intro h<;>omega
  ·constructor<;>constructor<;>intro h<;>omega
theorem MG (x y:Int×Int):cfP x y<0↔(x.1<y.1∨(x.1=y.1∧x.2<y.2)):=by
 obtain⟨h1,h2⟩:=acW x.1 y.1;obtain⟨h3,h4⟩:=acW x.2 y.2;unfold cfP or2;split
 ·rw[h3];omega
 ·rw[h1];omega
theorem an9:SWO (ltOf cfP) where
 irrefl x:=by unfold ltOf;simp[MG]
 trans x y z h1 h2:=by unfold ltOf at *;simp[MG]at *;omega
 ntrans x y z h1 h2:=by unfold ltOf at *;simp[MG]at *;omega
def dM (x y:Int×Int):Prop:=x.1<y.1∨(x.1=y.1∧x.2≤y.2)
theorem vv (base:Nat)(A:Option Addr)(n c:Nat)(l:List (Int×Int))(w:World)(ho:Own e2 2 53 w base (.slice A n c) l)(hn:n≤1000000000)(hbase:base≤w.heap.size) :
  Calls Tryz.prog 204 #[.slice A n c,.func (.func 205) #[] #[]] w λe w'=>e = .returned (.tuple #[])∧∃ l',l'.Perm l∧l'.Pairwise dM∧Own e2 2 53 w' base (.slice A n c) l'∧Below base w w':=by
 have hcon:=I6 (E:=53) Tryz.sortPeriod Tryz.isAgg53 Tryz.sizeOf53 (enc:=e2) dU oQ cfP an9 205 (enters_of Tryz.func205 k7 rfl) afy base A n c l w ho hn hbase;change Calls Tryz.prog 204 _ _ _ at hcon;refine hcon.mono λe w' ⟨he,l',hp,hs,hown,hb⟩=>⟨he,l',hp,hs.imp λ{x y} h=>?_,hown,hb⟩
 rw[MG]at h;unfold dM;omega
