/- Parts. No condition. -/
import Derived.Test.YtdkmoemdipgikaaGreatDoorProg
import Derived.WalkKit
import Derived.WalkSpells
import Derived.WalkLawsBesides
import Derived.Deep.QuietTactic
import Derived.BigQuiet
import Derived.Deep.DeepFit
import Derived.Deep.RegionHeld3
import Derived.Deep.AppendLies
import Derived.Maps.AppendAt
import Derived.Laws.AppendOwnNone
import Derived.Lib.Hide
set_option linter.unusedSimpArgs false
set_option linter.unusedVariables false
namespace Go.Proofs
theorem t7S:True:=trivial
theorem m0S {p:Prop}(h:p:=by omega):p:=h
theorem m5S {p:Prop}(h:p:=by simp):p:=h
theorem m8S {p:Prop}(h:p:=by simp;omega):p:=h
theorem m9S {p:Prop}(h:p:=by decide):p:=h
theorem k7S {p:Prop}(h:p:=by kernel_rfl):p:=h
theorem r5S {p:Prop}(h:p:=by rfl):p:=h
end Go.Proofs
namespace Go.Proofs.YtdkmoemdipgikaaGreatDoor.St
open Go.RowKit
section
variable {α:Type} {enc:α→List Value} {k:Nat} {w w':World} {B B' n:Nat} {A:Option Addr} {l:List α}
def Rd (enc:α→List Value)(k:Nat)(w:World)(B:Nat)(A:Option Addr)(n:Nat)(l:List α):Prop :=
 l.length=n∧(0<n→∃ b o,A=some ⟨b,o,none⟩∧b<B∧∀ i x,l[i]?=some x→∀ j u,(enc x)[j]?=some u→w.cell? ⟨b,o+i*k+j,none⟩=some u)
theorem Rd.len (h:Rd enc k w B A n l):l.length=n:=h.1
theorem Rd.nil (w:World)(B:Nat)(A:Option Addr):Rd enc k w B A 0 ([]:List α):=⟨rfl,fun h=>absurd h m0S⟩
theorem Rd.keep (h:Rd enc k w B A n l)(hk:∀ p:Addr,p.block<B→w'.cell? p=w.cell? p):Rd enc k w' B A n l :=
 ⟨h.1,fun hn=>by
  obtain⟨b,o,e,hb,hc⟩:=h.2 hn;exact⟨b,o,e,hb,fun i x hx j u hu=>(hk _ hb).trans (hc i x hx j u hu)⟩⟩
theorem Rd.below (h:Rd enc k w B A n l)(hb:Below B w w'):Rd enc k w' B A n l:=h.keep fun _ hp=>hb.cell hp
theorem Rd.more (h:Rd enc k w B A n l)(hB:B≤B'):Rd enc k w B' A n l :=
 ⟨h.1,fun hn=>by
  obtain⟨b,o,e,hb,hc⟩:=h.2 hn;exact⟨b,o,e,m0S,hc⟩⟩
theorem Rd.drewN (h:Rd enc k w B A n l)(q:Nat):Rd enc k (w.drewN q) B A n l:=h
theorem Rd.later (h:Rd enc k w w.heap.size A n l)(hb:Below w.heap.size w w'):Rd enc k w' w'.heap.size A n l:=(h.below hb).more hb.size
theorem Rd.alloc (h:Rd enc k w B A n l)(hB:B≤w.heap.size)(o:Obj):Rd enc k (w.alloc o) B A n l:=h.keep fun p hp=>World.cell?_alloc_lt w o p m0S
def Own (enc:α→List Value)(k:Nat)(E:TypeId)(w:World)(base:Nat)(v:Value)(l:List α):Prop :=
 w.ownsRow base E k v l.length (l.flatMap enc)
variable {E:TypeId} {base:Nat} {v:Value}
theorem kT (hk:∀ x,(enc x).length=k):∀ (l:List α) (i:Nat) (x:α),l[i]?=some x→∀ j,j<k→(l.flatMap enc)[i*k+j]?=(enc x)[j]?
 |[],i,x,h,j,hj=>by simp at h
 |y::l,0,x,h,j,hj=>by
  simp at h;subst h;rw[List.flatMap_cons,List.getElem?_append_left (by rw[hk];omega)];simp
 |y::l,i+1,x,h,j,hj=>by
  have h':l[i]?=some x:=by simpa using h
  have hj':k≤(i+1)*k+j:=by rw[Nat.succ_mul];omega
  rw[List.flatMap_cons,List.getElem?_append_right (by rw[hk];omega),hk,← kT hk l i x h' j hj];congr 1;rw[Nat.succ_mul];omega
theorem gx (hk:∀ x,(enc x).length=k):∀ l:List α,(l.flatMap enc).length=l.length*k
 |[]=>by simp
 |y::ys=>by rw[List.flatMap_cons,List.length_append,hk,gx hk ys,List.length_cons,Nat.succ_mul];omega
theorem Own.rd {c:Nat}(hk:∀ x,(enc x).length=k)(h:Own enc k E w base (.slice A n c) l):l.length=n∧Rd enc k w w.heap.size A n l:=by
 have hrow:=h;unfold Own at h;have hn:l.length=n:=by
  rcases h.2 with⟨hv,hx⟩|⟨g,cap,cur,hv,_⟩
  ·injection hv with h1 h2 h3
   omega
  ·injection hv with h1 h2 h3
   omega
 refine⟨hn,hn,fun hpos=>?_⟩;obtain⟨g,cap,hv,_,hlt⟩:=h.form m0S;have hA:A=some ⟨g,0,none⟩:=by injection hv
 subst hA;refine⟨g,0,rfl,hlt,fun i x hx j u hu=>?_⟩;have hj:j<k:=by rw[← hk x];exact(List.getElem?_eq_some_iff.1 hu).1
 have:=h.cells (g:=g) rfl (i*k+j) u (by rw[kT hk l i x hx j hj];exact hu);rw[← this];congr 1;unfold Addr.add;split
 ·rename_i h0;simp[h0]
 ·simp
theorem Own.nil (w:World)(base:Nat):Own enc k E w base (.slice none 0 0) ([]:List α):=World.ownsRow_nil _ _ _ _
theorem Own.form (h:Own enc k E w base v l):∃ A c,v = .slice A l.length c:=by
 rcases h.2 with⟨hv,hx⟩|⟨g,cap,cur,hv,_⟩
 ·exact⟨none,0,by rw[hv,hx]⟩
 ·exact⟨_,_,hv⟩
theorem Own.mono {base':Nat}(h:Own enc k E w base v l)(hb:base'≤base):Own enc k E w base' v l:=by
 refine⟨h.1,?_⟩;rcases h.2 with hv|⟨g,cap,cur,hv,hg,r⟩
 ·exact .inl hv
 ·exact .inr ⟨g,cap,cur,hv,m0S,r⟩
theorem Own.kept {C:Nat}(h:Own enc k E w base v l)(hb:Below C w w')(hc:∀ g,v.ownBlock=some g→g<C):Own enc k E w' base v l:=by
 refine⟨h.1,?_⟩;rcases h.2 with hv|⟨g,cap,cur,hv,hg,hh,r⟩
 ·exact .inl hv
 ·exact .inr ⟨g,cap,cur,hv,hg,by rw[hb.block g (hc g (by rw[hv];rfl))];exact hh,r⟩
theorem Own.later (h:Own enc k E w base v l)(hb:Below w.heap.size w w'):Own enc k E w' base v l :=
 h.kept hb fun g hg=>(World.ownsRow.lt h g hg).2
theorem Own.alloc (h:Own enc k E w base v l)(o:Obj):Own enc k E (w.alloc o) base v l:=World.ownsRow.alloc h o
theorem Own.drew (h:Own enc k E w base v l):Own enc k E w.drew base v l:=h
theorem Own.drewN (h:Own enc k E w base v l)(q:Nat):Own enc k E (w.drewN q) base v l:=h
theorem wH (w:World)(o:Obj):Below w.heap.size w (w.alloc o):=(Below.refl _ _).alloc (Nat.le_refl _) o
theorem below_drewN (w:World)(B q:Nat):Below B w (w.drewN q):=⟨rfl,rfl,rfl,Nat.le_refl _,fun _ _=>rfl⟩
theorem bdr {B:Nat}{a w:World}(h:Below B a w)(q:Nat):Below B a (w.drewN q):=h.trans (below_drewN _ _ _)
def Gr (w w':World):Prop:=Below w.heap.size w w'
theorem Gr.out (h:Gr w w'):Below w.heap.size w w':=h
theorem Gr.refl (w:World):Gr w w:=Below.refl _ _
theorem Gr.trans {a b c:World}(h:Gr a b)(g:Gr b c):Gr a c:=Below.trans h (Below.mono g (Below.size h))
theorem Gr.alloc (w:World)(o:Obj):Gr w (w.alloc o):=wH w o
theorem Gr.allocR {a w:World}(h:Gr a w)(o:Obj):Gr a (w.alloc o):=h.trans (Gr.alloc w o)
theorem Gr.drewR {a w:World}(h:Gr a w):Gr a w.drew:=Below.drew h
theorem Gr.drewNR {a w:World}(h:Gr a w)(q:Nat):Gr a (w.drewN q):=bdr h q
theorem Gr.size (h:Gr w w'):w.heap.size≤w'.heap.size:=Below.size h
theorem Gr.below {C:Nat}(h:Gr w w')(hC:C≤w.heap.size):Below C w w':=Below.mono h hC
theorem Gr.cells (h:Gr w w'):(∀ b o,b<w.heap.size→w'.cell? ⟨b,o,none⟩=w.cell? ⟨b,o,none⟩)∧(∀ b o,b<w.heap.size→w'.frozen? ⟨b,o,none⟩=w.frozen? ⟨b,o,none⟩) :=
 ⟨fun b o hb=>Below.cell h (p:=⟨b,o,none⟩) hb,fun b o hb=>Below.frozen h (p:=⟨b,o,none⟩) hb⟩
theorem Rd.gr (h:Rd enc k w w.heap.size A n l)(hg:Gr w w'):Rd enc k w' w'.heap.size A n l:=h.later hg
theorem Own.gr (h:Own enc k E w base v l)(hg:Gr w w'):Own enc k E w' base v l:=h.later hg
theorem Own.rds {c:Nat}(hk:∀ x,(enc x).length=k)(h:Own enc k E w base (.slice A n c) l):Rd enc k w w.heap.size A n l:=(h.rd hk).2
theorem Own.len {c:Nat}(h:Own enc k E w base (.slice A n c) l):l.length=n:=by
 obtain⟨A',c',hv⟩:=h.form;injection hv with h1 h2 h3
 exact h2.symm
theorem AA {a b:Bool}(h:a=true↔b=true):Ending.returned (.bool a) = .returned (.bool b):=by rw[Bool.eq_iff_iff.2 h]
theorem qO {q:IntKind}{a b:Int}(h:a=b):Ending.returned (.int q a) = .returned (.int q b):=by rw[h]
theorem FT {P:Program}{o:Oper}{a:Act}{K:Act→World→Prop}{Q:Exit→Act→World→Prop}(s x:Operand)(t:TypeId)
  (ho:o.op = .call { callee := .builtin .append,args :=#[s,x],argTypes :=#[t,t] })
  (i:TypeInfo) (z:Value) (bytes:Nat) (ht:P.underlying t=some (.slice E)) (hi:P.info? E=some i) (hz:i.zero=some z)
  (hsize:i.size=k) (hby:i.bytes=bytes) (hzs:z.cells.size=k) (hsz:0<k) (hk:∀ x,(enc x).length=k) (h1:∀ x,∀ u∈enc x,u.oneCell'=true)
  (v:Value) (l:List α) (hs:a.eval s=v) (hown:Own enc k E w base v l) (ad:Addr) (m c:Nat) (xs:List α) (hm:xs.length=m) (hx:a.eval x = .slice (some ad) m c) (hcell:∀ j u,(xs.flatMap enc)[j]?=some u→w.cell? (ad.add j)=some u)
  (hlen:(l.length+m)*bytes≤140737488355328) (hmm:l.length+m≤140737488355328) (hbase:base≤w.heap.size)
  (h:∀ A n c w',Own enc k E w' base (.slice A n c) (l++xs)→w.grownBy w' v.ownBlock→K (a.put o.dst (.slice A n c)) w'):o.wp P a w K Q:=by
 have hfl:(xs.flatMap enc).length=m*k:=by rw[gx hk,hm]
 refine wp_append_own _ s x t ho base E i z k bytes ht hi hz hsize hby hzs hsz v l.length (l.flatMap enc) hs hown ad m c (xs.flatMap enc) hx hfl hcell ?_ (by unfold maxLen;omega) hlen hbase ?_
 ·intro u hu
  obtain⟨y,hy,hu⟩:=List.mem_flatMap.1 hu;exact h1 y u hu
 ·intro v' w' hown' hg _
  have hown2:Own enc k E w' base v' (l++xs):=by
   unfold Own;rw[List.length_append,List.flatMap_append,hm];exact hown'
  obtain⟨A,c',rfl⟩:=hown2.form;exact h A _ c' w' hown2 hg
theorem Own.grown {w':World}{v:Value}{l:List α}(h:Own enc k E w base v l)(hbase:base≤w.heap.size)(hg:w.grownBy w' v.ownBlock):Below base w w':=(Below.refl _ _).grown hg hbase (fun g hg'=>(World.ownsRow.lt h g hg').1)
theorem FH {P:Program}{o:Oper}{a:Act}{K:Act→World→Prop}{Q:Exit→Act→World→Prop}(s x:Operand)(t:TypeId)
  (ho:o.op = .call { callee := .builtin .append,args :=#[s,x],argTypes :=#[t,t] })
  (i:TypeInfo) (z:Value) (bytes:Nat) (ht:P.underlying t=some (.slice E)) (hi:P.info? E=some i) (hz:i.zero=some z)
  (hsize:i.size=k) (hby:i.bytes=bytes) (hzs:z.cells.size=k) (hsz:0<k) (hk:∀ x,(enc x).length=k) (h1:∀ x,∀ u∈enc x,u.oneCell'=true)
  (v:Value) (l:List α) (hs:a.eval s=v) (hown:Own enc k E w base v l) (ad:Addr) (m c:Nat) (xs:List α) (hm:xs.length=m) (hx:a.eval x = .slice (some ad) m c) (hcell:∀ j u,(xs.flatMap enc)[j]?=some u→w.cell? (ad.add j)=some u)
  (hlen:(l.length+m)*bytes≤140737488355328) (hmm:l.length+m≤140737488355328) (hbase:base≤w.heap.size)
  (h:∀ A n c w',Own enc k E w' base (.slice A n c) (l++xs)→Below base w w'→K (a.put o.dst (.slice A n c)) w'):o.wp P a w K Q :=
 FT s x t ho i z bytes ht hi hz hsize hby hzs hsz hk h1 v l hs hown ad m c xs hm hx hcell hlen hmm hbase fun A n c w' h2 h3=>h A n c w' h2 (hown.grown hbase h3)
theorem add_zero (b j:Nat):(Addr.add ⟨b,0,none⟩ j)=⟨b,j,none⟩:=by unfold Addr.add;split<;>simp_all
theorem Eh (w:World)(E:TypeId)(cs:Array Value)(xs:List Value)(h:cs=xs.toArray):∀ j u,xs[j]?=some u→(w.alloc (.cells cs E)).cell? ((⟨w.heap.size,0,none⟩:Addr).add j)=some u:=by
 subst h;intro j u hu;have hb:(w.alloc (.cells xs.toArray E)).heap[w.heap.size]?=some (.cells xs.toArray E (0,0)):=heap_alloc_new w _;rw[add_zero,cell_of_row _ _ j _ _ _ hb];simpa using hu
theorem oj {P:Program}{ops:Array Oper}{rest:List Oper}{o:Oper}{a:Act}{Q:Exit→Act→World→Prop}{cs:Array Value}(hgd:o.guard=none)(s x:Operand)(t:TypeId)
  (ho:o.op = .call { callee := .builtin .append,args :=#[s,x],argTypes :=#[t,t] })
  (i:TypeInfo) (z:Value) (bytes:Nat) (ht:P.underlying t=some (.slice E)) (hi:P.info? E=some i) (hz:i.zero=some z)
  (hsize:i.size=k) (hby:i.bytes=bytes) (hzs:z.cells.size=k) (hsz:0<k) (hk:∀ x,(enc x).length=k) (h1:∀ x,∀ u∈enc x,u.oneCell'=true)
  (v:Value) (l:List α) (hs:a.eval s=v) (hown:Own enc k E w base v l) (xs:List α) (c:Nat) (hx:a.eval x = .slice (some ⟨w.heap.size,0,none⟩) xs.length c) (hcs:cs=(xs.flatMap enc).toArray)
  (hlen:(l.length+xs.length)*bytes≤140737488355328) (hm:l.length+xs.length≤140737488355328) (hbase:base≤w.heap.size)
  (h:∀ A n c w',Own enc k E w' base (.slice A n c) (l++xs)→Below base w w'→wpList P ops Q rest (a.put o.dst (.slice A n c)) w') :
  wpList P ops Q (o::rest) a (w.alloc (.cells cs E)):=by
 refine wpList_plain hgd fun _ hK=>?_
 refine FH s x t ho i z bytes ht hi hz hsize hby hzs hsz hk h1 v l hs (hown.alloc _) ⟨w.heap.size,0,none⟩ _ c xs rfl hx (Eh w E cs _ hcs) hlen hm m8S ?_;intro A n c' w' h2 h3;exact hK _ _ (h A n c' w' h2 (((Below.refl _ _).alloc hbase _).trans h3))
end
def e2 (x:Int×Int):List Value:=[.int .i64 x.1,.int .i64 x.2]
def e1 (x:Int):List Value:=[.int .i64 x]
def e3 (x:(Int×Int)×Int):List Value:=[.int .i64 x.1.1,.int .i64 x.1.2,.int .i64 x.2]
theorem dy (x:Int×Int):(e2 x).length=2:=rfl
theorem GM (x:(Int×Int)×Int):(e3 x).length=3:=rfl
theorem lS (x:Int×Int):∀ u∈e2 x,u.oneCell'=true:=by intro u hu;simp[e2]at hu;rcases hu with rfl|rfl<;>rfl
section
variable {w:World} {B n i:Nat} {A:Option Addr}
theorem Rd.at2 {l:List (Int×Int)}(h:Rd e2 2 w B A n l)(hi:i<n):∃ b o x y,A=some ⟨b,o,none⟩∧b<B∧l[i]?=some (x,y)∧w.cell? ⟨b,o+i*2,none⟩=some (.int .i64 x)∧w.cell? ⟨b,o+i*2+1,none⟩=some (.int .i64 y):=by
 obtain⟨b,o,e,hb,hc⟩:=h.2 m0S;have hx:l[i]?=some (l[i]'(by have:=h.1;omega)):=List.getElem?_eq_getElem _;exact⟨b,o,_,_,e,hb,hx,hc i _ hx 0 _ rfl,hc i _ hx 1 _ rfl⟩
theorem Rd.at3 {l:List ((Int×Int)×Int)}(h:Rd e3 3 w B A n l)(hi:i<n):∃ b o x y z,A=some ⟨b,o,none⟩∧b<B∧l[i]?=some ((x,y),z)∧
  w.cell? ⟨b,o+i*3,none⟩=some (.int .i64 x)∧w.cell? ⟨b,o+i*3+1,none⟩=some (.int .i64 y)∧w.cell? ⟨b,o+i*3+2,none⟩=some (.int .i64 z):=by
 obtain⟨b,o,e,hb,hc⟩:=h.2 m0S;have hx:l[i]?=some (l[i]'(by have:=h.1;omega)):=List.getElem?_eq_getElem _;exact⟨b,o,_,_,_,e,hb,hx,hc i _ hx 0 _ rfl,hc i _ hx 1 _ rfl,hc i _ hx 2 _ rfl⟩
end
