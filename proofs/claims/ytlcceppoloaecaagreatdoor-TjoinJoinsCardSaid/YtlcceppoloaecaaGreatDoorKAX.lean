/- Parts. No condition. -/
import Derived.Test.YtlcceppoloaecaaGreatDoorKAW
import Derived.Deep.LoopGhost
set_option linter.unusedSimpArgs false
set_option linter.unusedVariables false
namespace Go.Proofs.YtlcceppoloaecaaGreatDoor.St
open _root_.List (replicate)
open Go.RowKit
theorem aeR {l:List (Int×Int)}{x t z:Int}(h:∀ p∈l,p.2<=z)(ht:t<=z):∀ p∈fh l (x,t),p.2<=z:=by
 intro p hp;unfold fh at hp;split at hp
 ·rename_i q hq
  have hq2:=h q (List.mem_of_getLast? hq);split at hp
  ·obtain e|e:=aqS.1 hp
   ·exact h p (List.dropLast_subset l e)
   ·simp at e;subst e;simp;omega
  ·obtain e|e:=aqS.1 hp
   ·exact h p e
   ·simp at e;subst e;exact ht
 ·obtain e|e:=aqS.1 hp
  ·exact h p e
  ·simp at e;subst e;exact ht
theorem agi {l:List (Int×Int)}(ha:Asc l)(v:Int):∀ (k:Nat) (x y:Int),l[k]?=some (x,y) ->∀ p∈HB l v k,p.2<=x
 |0,x,y,_=>by intro p hp;simp[HB]at hp
 |k+1,x,y,hx=>by
  intro p hp;have hk:k<l.length:=by have:=(aqp.1 hx).1;omega
  obtain⟨x0,y0,hx0⟩:∃ x0 y0,l[k]?=some (x0,y0):=⟨l[k].1,l[k].2,by rw[aqz hk]⟩;have ih:=agi ha v k x0 y0 hx0;have hlt:x0<x:=ha k (k+1) _ _ m0 hx0 hx;rw[Dn hx0,hx]at hp;simp only[Option.map_some,Option.getD_some]at hp;unfold cF at hp;split at hp
  ·exact aeR (λq hq=>by have:=ih q hq;omega) (Int.le_refl _) p hp
  ·have:=ih p hp;omega
theorem IG {l:List (Int×Int)}{x0 y0 x t:Int}(hq:l.getLast?=some (x0,y0))(hle:y0<=x)(ht:x<t):fh l (x,t)=if y0=x then l.set (l.length-1) (x0,t)else l++[(x,t)]:=by
 unfold fh;rw[hq];simp only;by_cases e:y0=x
 ·rw[if_pos m0,if_pos e,show max y0 t=t by omega]
  have hne:l≠[]:=by intro h;subst h;simp at hq
  have hl:l=l.dropLast++[(x0,y0)]:=by
   have:=List.dropLast_concat_getLast hne;rw[List.getLast?_eq_some_getLast hne]at hq;injection hq with hq
   rw[<- hq];exact this.symm
  rw[hl];simp
 ·rw[if_neg m0,if_neg e]
def ex (st:List (Int×Int)):List Int:=st.flatMap λp=>replicate p.2.toNat p.1
theorem Ix (st:List (Int×Int))(f m:Int):ex (st++[(f,m)])=ex st++replicate m.toNat f:=by simp[ex]
def yT (E:List Int)(a:Int)(n:Nat):List Int:=E.take n++replicate (n-E.length) a
theorem Lh {E X:List Int}{f:Int}{a m k:Nat}(h:E.take a=X++replicate m f)(ha:a<=E.length)(hk:k<=m) :
  E.take (a-k)=X++replicate (m-k) f/\E.drop (a-k)=replicate k f++E.drop a:=by
 have hl:X.length+m=a:=by have:=congrArg List.length h;simp at this;omega
 have h1:E.take (a-k)=X++replicate (m-k) f:=by
  have:E.take (a-k)=(E.take a).take (a-k):=by rw[List.take_take];congr 1;omega
  rw[this,h,List.take_append,aq5 m0,List.take_replicate];congr 2;omega
 refine⟨h1,?_⟩;have h2:E=(X++replicate m f)++E.drop a:=by rw[<- h,ara]
 have h3:E.drop (a-k)=((X++replicate m f)++E.drop a).drop (a-k):=by rw[<- h2]
 rw[h3,List.drop_append_of_le_length m8,List.drop_append,List.drop_of_length_le m0,aqv,List.drop_replicate];congr 2;omega
theorem zh {st:List (Int×Int)}(h:∀ p∈st,0<p.2):st.length<=(ex st).length:=by
 induction st with
 |nil=>simp
 |cons p st ih =>
  have h1:=h p m5;have h2:=ih λq hq=>h q (by simp[hq])
  simp[ex]at h2 ⊢;have:1<=p.2.toNat:=m0
  omega
section
variable {α β:Type} {enc:α->List Value} {enc':β->List Value} {k k':Nat} {W W1:World} {E E':TypeId} {base base':Nat} {v v':Value} {l:List α} {l':List β}
theorem Own.ne (h:Own enc k E W base v l)(h':Own enc' k' E' W base' v' l')(hne:E≠E'):v.ownBlock=none\/v.ownBlock≠v'.ownBlock:=by
 obtain⟨hv,_⟩|⟨g,cap,cur,hv,_,hh,_⟩:=h.2
 ·exact .inl (by rw[hv];rfl)
 ·right
  obtain⟨hv',_⟩|⟨g',cap',cur',hv',_,hh',_⟩:=h'.2
  ·rw[hv,hv'];simp[Value.ownBlock]
  ·rw[hv,hv']
   intro e;have:g=g':=by simpa[Value.ownBlock]using e
   subst this;rw[hh]at hh';injection hh' with hh'
   injection hh' with _ ht
   exact hne ht
theorem Own.other (h:Own enc k E W base v l)(h':Own enc' k' E' W base' v' l')(hne:E≠E')(hg:W.grownBy W1 v'.ownBlock):Own enc k E W1 base v l :=
 World.ownsRow.kept h hg (h.ne h' hne)
theorem Own.setBelow (h:Own enc k E W base v l){b o:Nat}(hb:b<base)(u:Value):Own enc k E (W.setCell ⟨b,o,none⟩ u) base v l:=ownsRow_setCell_below h (a:=⟨b,o,none⟩) hb u
theorem Own.setOther (h:Own enc k E W base v l){n c g o:Nat}(h':Own enc' k' E' W base' (.slice (some ⟨g,0,none⟩) n c) l')(hne:E≠E')(u:Value):Own enc k E (W.setCell ⟨g,o,none⟩ u) base v l:=by
 obtain e|e:=h.ne h' hne
 ·refine ownsRow_setCell_other h (a:=⟨g,o,none⟩) ?_ u
  rw[e];simp
 ·exact ownsRow_setCell_other h (a:=⟨g,o,none⟩) e u
theorem Own.pop {g n c:Nat}{x:α}(hk:∀ x,(enc x).length=k)(h:Own enc k E W base (.slice (some ⟨g,0,none⟩) n c) (l++[x])):Own enc k E W base (.slice (some ⟨g,0,none⟩) (n-1) c) l:=by
 have hl:=h.len;simp at hl;subst hl;have h2:W.ownsRow base E k (.slice (some ⟨g,0,none⟩) (l.length+1) c) (l.length+1) (l.flatMap enc++enc x):=by
  have:=h;unfold Own at this;rw[List.flatMap_append,aqy]at this;simpa using this
 have:=ownsRow_pop (by rw[dE hk]) h2;exact this
end
structure Lv (w0 W:World)(B:Nat)(h:Int)(sv:Value)(st:List (Int×Int))(ov:Value)(out:List (Int×Int)):Prop where
 hgt:W.heap[B+2]?=some (.cells #[.int .i64 h] 3 (0,0))
 stk:W.heap[B+1]?=some (.cells #[sv] 195 (0,0))
 sown:Own e2 2 197 W (B+3) sv st
 ou:W.heap[B]?=some (.cells #[ov] 83 (0,0))
 oown:Own e2 2 53 W (B+3) ov out
 bel:Below B w0 W
 siz:B+3<=W.heap.size
section
variable {w0 W W1:World} {B:Nat} {h h':Int} {sv ov v:Value} {st out:List (Int × Int)}
theorem Lv.alloc (H:Lv w0 W B h sv st ov out)(o:Obj):Lv w0 (W.alloc o) B h sv st ov out:=by
 obtain⟨h1,h2,h3,h4,h5,h6,h7⟩:=H;exact⟨by rw[Below.heap_alloc _ _ _ m0];exact h1,by rw[Below.heap_alloc _ _ _ m0];exact h2,h3.alloc _,by rw[Below.heap_alloc _ _ _ m0];exact h4,h5.alloc _,h6.alloc m0 _,by simp;omega⟩
theorem Lv.drewN (H:Lv w0 W B h sv st ov out)(q:Nat):Lv w0 (W.drewN q) B h sv st ov out:=by
 obtain⟨h1,h2,h3,h4,h5,h6,h7⟩:=H;exact⟨h1,h2,h3,h4,h5,bdr h6 q,h7⟩
theorem Lv.drew (H:Lv w0 W B h sv st ov out):Lv w0 W.drew B h sv st ov out:=by
 obtain⟨h1,h2,h3,h4,h5,h6,h7⟩:=H;exact⟨h1,h2,h3,h4,h5,h6.drew,h7⟩
theorem Lv.setH (H:Lv w0 W B h sv st ov out)(h':Int):Lv w0 (W.setCell ⟨B+2,0,none⟩ (.int .i64 h')) B h' sv st ov out:=by
 obtain⟨h1,h2,h3,h4,h5,h6,h7⟩:=H;exact⟨one_setCell h1,by rw[Below.heap_setCell _ _ _ _ (by show B+1≠B+2;omega)];exact h2,h3.setBelow m0 _,by rw[Below.heap_setCell _ _ _ _ (by show B≠B+2;omega)];exact h4,h5.setBelow m0 _,h6.setCell (p:=⟨B+2,0,none⟩) (by show B<=B+2;omega) _,by simpa[World.setCell]using h7⟩
theorem Lv.setS {st':List (Int×Int)}(H:Lv w0 W B h sv st ov out)(hg:W.grownBy W1 sv.ownBlock)(ho1:Own e2 2 197 W1 (B+3) v st'):Lv w0 (W1.setCell ⟨B+1,0,none⟩ v) B h v st' ov out:=by
 obtain⟨h1,h2,h3,h4,h5,h6,h7⟩:=H;have hb:=h3.grown h7 hg;have h5':=h5.other h3 m9 hg;exact⟨by rw[Below.heap_setCell _ _ _ _ (by show B+2≠B+1;omega),hb.block _ m0];exact h1,one_setCell (by rw[hb.block _ m0];exact h2),ho1.setBelow m0 _,
  by rw[Below.heap_setCell _ _ _ _ (by show B≠B+1;omega),hb.block _ m0];exact h4,h5'.setBelow m0 _,
  (h6.trans (hb.mono m0)).setCell (p:=⟨B+1,0,none⟩) (by show B<=B+1;omega) _,by have:=hb.size;simp[World.setCell];omega⟩
theorem Lv.setO {out':List (Int×Int)}(H:Lv w0 W B h sv st ov out)(hg:W.grownBy W1 ov.ownBlock)(ho1:Own e2 2 53 W1 (B+3) v out'):Lv w0 (W1.setCell ⟨B,0,none⟩ v) B h sv st v out':=by
 obtain⟨h1,h2,h3,h4,h5,h6,h7⟩:=H;have hb:=h5.grown h7 hg;have h3':=h3.other h5 m9 hg;exact⟨by rw[Below.heap_setCell _ _ _ _ (by show B+2≠B;omega),hb.block _ m0];exact h1,
  by rw[Below.heap_setCell _ _ _ _ (by show B+1≠B;omega),hb.block _ m0];exact h2,h3'.setBelow m0 _,
  one_setCell (by rw[hb.block _ m0];exact h4),ho1.setBelow m0 _,
  (h6.trans (hb.mono m0)).setCell (p:=⟨B,0,none⟩) (aqG _) _,by have:=hb.size;simp[World.setCell];omega⟩
theorem Lv.setTop {g n1 c1 i:Nat}{f m m':Int}(H:Lv w0 W B h (.slice (some ⟨g,0,none⟩) n1 c1) st ov out)(hg:B+3<=g)(hx:st[i]?=some (f,m)) :
  Lv w0 (W.setCell ⟨g,i*2+1,none⟩ (.int .i64 m')) B h (.slice (some ⟨g,0,none⟩) n1 c1) (st.set i (f,m')) ov out:=by
 obtain⟨h1,h2,h3,h4,h5,h6,h7⟩:=H;have h8:=h3.stored (i:=i) (j:=1) (u := .int .i64 m') (x':=(f,m')) dU m0 hx rfl;exact⟨by rw[Below.heap_setCell _ _ _ _ (by show B+2≠g;omega)];exact h1,by rw[Below.heap_setCell _ _ _ _ (by show B+1≠g;omega)];exact h2,h8,
  by rw[Below.heap_setCell _ _ _ _ (by show B≠g;omega)];exact h4,h5.setOther h3 m9 _,h6.setCell (p:=⟨g,i*2+1,none⟩) (by show B<=g;omega) _,by simpa[World.setCell]using h7⟩
theorem Lv.popS {g n1 c1:Nat}{x:Int×Int}(H:Lv w0 W B h (.slice (some ⟨g,0,none⟩) n1 c1) (st++[x]) ov out) :
  Lv w0 (W.setCell ⟨B+1,0,none⟩ (.slice (some ⟨g,0,none⟩) (n1-1) c1)) B h (.slice (some ⟨g,0,none⟩) (n1-1) c1) st ov out:=by
 obtain⟨h1,h2,h3,h4,h5,h6,h7⟩:=H;exact⟨by rw[Below.heap_setCell _ _ _ _ (by show B+2≠B+1;omega)];exact h1,one_setCell h2,(h3.pop dU).setBelow m0 _,
  by rw[Below.heap_setCell _ _ _ _ (by show B≠B+1;omega)];exact h4,h5.setBelow m0 _,h6.setCell (p:=⟨B+1,0,none⟩) (by show B<=B+1;omega) _,by simpa[World.setCell]using h7⟩
end
