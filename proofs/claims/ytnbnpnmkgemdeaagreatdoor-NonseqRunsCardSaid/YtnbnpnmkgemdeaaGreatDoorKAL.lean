/- Parts. No condition. -/
import Derived.Test.YtnbnpnmkgemdeaaGreatDoorProg
import Derived.WalkKit
import Derived.WalkSpells
import Derived.WalkLawsBesides
import Derived.Deep.QuietTactic
import Derived.BigQuiet
import Derived.Deep.DeepFit
import Derived.Deep.RegionHeld3
import Derived.Deep.AppendLies
import Derived.Maps.AppendAt
import Derived.Laws.AppendOwnNone
import Derived.Lib.Hide
set_option linter.unusedSimpArgs false
set_option linter.unusedVariables false
namespace Go.Proofs
theorem t7S:True:=trivial
theorem m0S {p:Prop}(h:p:=by omega):p:=h
theorem m5S {p:Prop}(h:p:=by simp):p:=h
theorem m8S {p:Prop}(h:p:=by simp;omega):p:=h
theorem m9S {p:Prop}(h:p:=by decide):p:=h
theorem k7S {p:Prop}(h:p:=by kernel_rfl):p:=h
theorem r5S {p:Prop}(h:p:=by rfl):p:=h
end Go.Proofs
namespace Go.Proofs.YtnbnpnmkgemdeaaGreatDoor.St
open Go.RowKit
section
variable {α:Type} {enc:α→List Value} {k:Nat} {w w':World} {B B' n:Nat} {A:Option Addr} {l:List α}
def Rd (enc:α→List Value)(k:Nat)(w:World)(B:Nat)(A:Option Addr)(n:Nat)(l:List α):Prop :=
 l.length=n∧(0<n→∃ b o,A=some ⟨b,o,none⟩∧b<B∧∀ i x,l[i]?=some x→∀ j u,(enc x)[j]?=some u→w.cell? ⟨b,o+i*k+j,none⟩=some u)
theorem Rd.len (h:Rd enc k w B A n l):l.length=n:=h.1
theorem Rd.nil (w:World)(B:Nat)(A:Option Addr):Rd enc k w B A 0 ([]:List α):=⟨rfl,λh=>absurd h m0S⟩
theorem Rd.keep (h:Rd enc k w B A n l)(hk:∀ p:Addr,p.block<B→w'.cell? p=w.cell? p):Rd enc k w' B A n l :=
 ⟨h.1,λhn=>by
  obtain⟨b,o,e,hb,hc⟩:=h.2 hn;exact⟨b,o,e,hb,λi x hx j u hu=>(hk _ hb).trans (hc i x hx j u hu)⟩⟩
theorem Rd.below (h:Rd enc k w B A n l)(hb:Below B w w'):Rd enc k w' B A n l:=h.keep λ_ hp=>hb.cell hp
theorem Rd.more (h:Rd enc k w B A n l)(hB:B≤B'):Rd enc k w B' A n l :=
 ⟨h.1,λhn=>by
  obtain⟨b,o,e,hb,hc⟩:=h.2 hn;exact⟨b,o,e,m0S,hc⟩⟩
theorem Rd.drewN (h:Rd enc k w B A n l)(q:Nat):Rd enc k (w.drewN q) B A n l:=h
theorem Rd.later (h:Rd enc k w w.heap.size A n l)(hb:Below w.heap.size w w'):Rd enc k w' w'.heap.size A n l:=(h.below hb).more hb.size
theorem Rd.alloc (h:Rd enc k w B A n l)(hB:B≤w.heap.size)(o:Obj):Rd enc k (w.alloc o) B A n l:=h.keep λp hp=>World.cell?_alloc_lt w o p m0S
def Own (enc:α→List Value)(k:Nat)(E:TypeId)(w:World)(base:Nat)(v:Value)(l:List α):Prop :=
 w.ownsRow base E k v l.length (l.flatMap enc)
variable {E:TypeId} {base:Nat} {v:Value}
theorem Own.nil (w:World)(base:Nat):Own enc k E w base (.slice none 0 0) ([]:List α):=World.ownsRow_nil _ _ _ _
theorem Own.form (h:Own enc k E w base v l):∃ A c,v = .slice A l.length c:=by
 obtain⟨hv,hx⟩|⟨g,cap,cur,hv,_⟩:=h.2
 .exact⟨none,0,by rw[hv,hx]⟩
 .exact⟨_,_,hv⟩
theorem Own.mono {base':Nat}(h:Own enc k E w base v l)(hb:base'≤base):Own enc k E w base' v l:=by
 refine⟨h.1,?_⟩;obtain hv|⟨g,cap,cur,hv,hg,r⟩:=h.2
 .exact .inl hv
 .exact .inr ⟨g,cap,cur,hv,m0S,r⟩
theorem Own.kept {C:Nat}(h:Own enc k E w base v l)(hb:Below C w w')(hc:∀ g,v.ownBlock=some g→g<C):Own enc k E w' base v l:=by
 refine⟨h.1,?_⟩;obtain hv|⟨g,cap,cur,hv,hg,hh,r⟩:=h.2
 .exact .inl hv
 .exact .inr ⟨g,cap,cur,hv,hg,by rw[hb.block g (hc g (by rw[hv];rfl))];exact hh,r⟩
theorem Own.later (h:Own enc k E w base v l)(hb:Below w.heap.size w w'):Own enc k E w' base v l :=
 h.kept hb λg hg=>(World.ownsRow.lt h g hg).2
theorem Own.alloc (h:Own enc k E w base v l)(o:Obj):Own enc k E (w.alloc o) base v l:=World.ownsRow.alloc h o
theorem Own.drew (h:Own enc k E w base v l):Own enc k E w.drew base v l:=h
theorem Own.drewN (h:Own enc k E w base v l)(q:Nat):Own enc k E (w.drewN q) base v l:=h
theorem Hw (w:World)(o:Obj):Below w.heap.size w (w.alloc o):=(Below.refl _ _).alloc (Nat.le_refl _) o
theorem below_drewN (w:World)(B q:Nat):Below B w (w.drewN q):=⟨rfl,rfl,rfl,Nat.le_refl _,λ_ _=>rfl⟩
theorem bdr {B:Nat}{a w:World}(h:Below B a w)(q:Nat):Below B a (w.drewN q):=h.trans (below_drewN _ _ _)
def Gr (w w':World):Prop:=Below w.heap.size w w'
theorem Gr.out (h:Gr w w'):Below w.heap.size w w':=h
theorem Gr.refl (w:World):Gr w w:=Below.refl _ _
theorem Gr.trans {a b c:World}(h:Gr a b)(g:Gr b c):Gr a c:=Below.trans h (Below.mono g (Below.size h))
theorem Gr.alloc (w:World)(o:Obj):Gr w (w.alloc o):=Hw w o
theorem Gr.allocR {a w:World}(h:Gr a w)(o:Obj):Gr a (w.alloc o):=h.trans (Gr.alloc w o)
theorem Gr.drewR {a w:World}(h:Gr a w):Gr a w.drew:=Below.drew h
theorem Gr.drewNR {a w:World}(h:Gr a w)(q:Nat):Gr a (w.drewN q):=bdr h q
theorem Gr.size (h:Gr w w'):w.heap.size≤w'.heap.size:=Below.size h
theorem Gr.below {C:Nat}(h:Gr w w')(hC:C≤w.heap.size):Below C w w':=Below.mono h hC
theorem Gr.cells (h:Gr w w'):(∀ b o,b<w.heap.size→w'.cell? ⟨b,o,none⟩=w.cell? ⟨b,o,none⟩)∧(∀ b o,b<w.heap.size→w'.frozen? ⟨b,o,none⟩=w.frozen? ⟨b,o,none⟩) :=
 ⟨λb o hb=>Below.cell h (p:=⟨b,o,none⟩) hb,λb o hb=>Below.frozen h (p:=⟨b,o,none⟩) hb⟩
theorem Own.len {c:Nat}(h:Own enc k E w base (.slice A n c) l):l.length=n:=by
 obtain⟨A',c',hv⟩:=h.form;injection hv with h1 h2 h3
 exact h2.symm
theorem add_zero (b j:Nat):(Addr.add ⟨b,0,none⟩ j)=⟨b,j,none⟩:=by unfold Addr.add;split<;>simp_all
end
def e2 (x:Int×Int):List Value:=[.int .i64 x.1,.int .i64 x.2]
def e1 (x:Int):List Value:=[.int .i64 x]
def e3 (x:(Int×Int)×Int):List Value:=[.int .i64 x.1.1,.int .i64 x.1.2,.int .i64 x.2]
