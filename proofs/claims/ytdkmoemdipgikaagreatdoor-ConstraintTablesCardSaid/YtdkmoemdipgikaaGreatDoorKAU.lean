/- Parts. No condition. -/
import Derived.Test.YtdkmoemdipgikaaGreatDoorKAT
import Derived.Deep.LoopGhost
set_option linter.unusedSimpArgs false
set_option linter.unusedVariables false
namespace Go.Proofs.YtdkmoemdipgikaaGreatDoor.St
open Go.RowKit
theorem aeE {l:List (Int×Int)}{x t z:Int}(h:∀ p∈l,p.2<=z)(ht:t<=z):∀ p∈eL l (x,t),p.2<=z:=by
 intro p hp;unfold eL at hp;split at hp
 ·rename_i q hq
  have hq2:=h q (List.mem_of_getLast? hq);split at hp
  ·rcases amY.1 hp with e|e
   ·exact h p (List.dropLast_subset l e)
   ·simp at e;subst e;simp;omega
  ·rcases amY.1 hp with e|e
   ·exact h p e
   ·simp at e;subst e;exact ht
 ·rcases amY.1 hp with e|e
  ·exact h p e
  ·simp at e;subst e;exact ht
theorem adB {l:List (Int×Int)}(ha:Asc l)(v:Int):∀ (k:Nat) (x y:Int),l[k]?=some (x,y) ->∀ p∈xJ l v k,p.2<=x
 |0,x,y,_=>by intro p hp;simp[xJ]at hp
 |k+1,x,y,hx=>by
  intro p hp;have hk:k<l.length:=by have:=(amw.1 hx).1;omega
  obtain⟨x0,y0,hx0⟩:∃ x0 y0,l[k]?=some (x0,y0):=⟨l[k].1,l[k].2,by rw[amF hk]⟩;have ih:=adB ha v k x0 y0 hx0;have hlt:x0<x:=ha k (k+1) _ _ m0 hx0 hx;rw[yc hx0,hx]at hp;simp only[Option.map_some,Option.getD_some]at hp;unfold cW at hp;split at hp
  ·exact aeE (fun q hq=>by have:=ih q hq;omega) (Int.le_refl _) p hp
  ·have:=ih p hp;omega
theorem Ji {l:List (Int×Int)}{x0 y0 x t:Int}(hq:l.getLast?=some (x0,y0))(hle:y0<=x)(ht:x<t):eL l (x,t)=if y0=x then l.set (l.length-1) (x0,t)else l++[(x,t)]:=by
 unfold eL;rw[hq];simp only;by_cases e:y0=x
 ·rw[if_pos m0,if_pos e,show max y0 t=t by omega]
  have hne:l≠[]:=by intro h;subst h;simp at hq
  have hl:l=l.dropLast++[(x0,y0)]:=by
   have:=List.dropLast_concat_getLast hne;rw[List.getLast?_eq_some_getLast hne]at hq;injection hq with hq
   rw[<- hq];exact this.symm
  rw[hl];simp
 ·rw[if_neg m0,if_neg e]
def ex (st:List (Int×Int)):List Int:=st.flatMap fun p=>List.replicate p.2.toNat p.1
def BJ (E:List Int)(a:Int)(n:Nat):List Int:=E.take n++List.replicate (n-E.length) a
section
variable {α β:Type} {enc:α->List Value} {enc':β->List Value} {k k':Nat} {W W1:World} {E E':TypeId} {base base':Nat} {v v':Value} {l:List α} {l':List β}
theorem Own.ne (h:Own enc k E W base v l)(h':Own enc' k' E' W base' v' l')(hne:E≠E'):v.ownBlock=none\/v.ownBlock≠v'.ownBlock:=by
 rcases h.2 with⟨hv,_⟩|⟨g,cap,cur,hv,_,hh,_⟩
 ·exact .inl (by rw[hv];rfl)
 ·right
  rcases h'.2 with⟨hv',_⟩|⟨g',cap',cur',hv',_,hh',_⟩
  ·rw[hv,hv'];simp[Value.ownBlock]
  ·rw[hv,hv']
   intro e;have:g=g':=by simpa[Value.ownBlock]using e
   subst this;rw[hh]at hh';injection hh' with hh'
   injection hh' with _ ht
   exact hne ht
theorem Own.pop {g n c:Nat}{x:α}(hk:∀ x,(enc x).length=k)(h:Own enc k E W base (.slice (some ⟨g,0,none⟩) n c) (l++[x])):Own enc k E W base (.slice (some ⟨g,0,none⟩) (n-1) c) l:=by
 have hl:=h.len;simp at hl;subst hl;have h2:W.ownsRow base E k (.slice (some ⟨g,0,none⟩) (l.length+1) c) (l.length+1) (l.flatMap enc++enc x):=by
  have:=h;unfold Own at this;rw[List.flatMap_append,amE]at this;simpa using this
 have:=ownsRow_pop (by rw[gx hk]) h2;exact this
end
structure Lv (w0 W:World)(B:Nat)(h:Int)(sv:Value)(st:List (Int×Int))(ov:Value)(out:List (Int×Int)):Prop where
 hgt:W.heap[B+2]?=some (.cells #[.int .i64 h] 3 (0,0))
 stk:W.heap[B+1]?=some (.cells #[sv] 214 (0,0))
 sown:Own e2 2 216 W (B+3) sv st
 ou:W.heap[B]?=some (.cells #[ov] 91 (0,0))
 oown:Own e2 2 45 W (B+3) ov out
 bel:Below B w0 W
 siz:B+3<=W.heap.size
section
variable {w0 W W1:World} {B:Nat} {h h':Int} {sv ov v:Value} {st out:List (Int × Int)}
theorem Lv.alloc (H:Lv w0 W B h sv st ov out)(o:Obj):Lv w0 (W.alloc o) B h sv st ov out:=by
 obtain⟨h1,h2,h3,h4,h5,h6,h7⟩:=H;exact⟨by rw[Below.heap_alloc _ _ _ m0];exact h1,by rw[Below.heap_alloc _ _ _ m0];exact h2,h3.alloc _,by rw[Below.heap_alloc _ _ _ m0];exact h4,h5.alloc _,h6.alloc m0 _,by simp;omega⟩
theorem Lv.drewN (H:Lv w0 W B h sv st ov out)(q:Nat):Lv w0 (W.drewN q) B h sv st ov out:=by
 obtain⟨h1,h2,h3,h4,h5,h6,h7⟩:=H;exact⟨h1,h2,h3,h4,h5,bdr h6 q,h7⟩
theorem Lv.drew (H:Lv w0 W B h sv st ov out):Lv w0 W.drew B h sv st ov out:=by
 obtain⟨h1,h2,h3,h4,h5,h6,h7⟩:=H;exact⟨h1,h2,h3,h4,h5,h6.drew,h7⟩
end
