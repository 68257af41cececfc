/- Parts of the proof, joined. No condition. -/
import Derived.Test.YtlcceppoloaecaaGreatDoorKAA
import Derived.Test.YtlcceppoloaecaaGreatDoorKBH
import Derived.Test.YtlcceppoloaecaaGreatDoorKAK
import Derived.Test.YtlcceppoloaecaaGreatDoorKAJ
import Derived.Test.YtlcceppoloaecaaGreatDoorKBJ
set_option linter.unusedSimpArgs false
set_option linter.unusedVariables false
namespace Go.Proofs.YtlcceppoloaecaaGreatDoor
open Go.RowKit Go.MapKept
def holdB (rel:Int) (p q:bD):Bool:=(ay p&&ay q)&&decide (bF p q=rel)
theorem wB {q:aV->Bool} {v:Int} {b:List aV} {body:(List bA × Int)->Option (Step (List bA × Int) (List bA))}
  (h1 : ∀ (j:Nat) y out,b[j]?=some y->out.length<=1000000000->body (out,(j:Int))=bif q y then some (.next (out++[(⟨v,(j:Int)⟩:bA)],((j+1:Nat):Int))) else some (.next (out,((j+1:Nat):Int))))
  (h2 : ∀ out,body (out,((b.length:Nat):Int))=some (.exit (out,((b.length:Nat):Int)))) :
  ∀ (n j:Nat) (out:List bA),j<=b.length->b.length-j<n->out.length+(b.length-j)<=1000000000->az body n (out,(j:Int))=some (.inl (out++lS q v (b.drop j) j,((b.length:Nat):Int)))
 | 0,j,out,_,h,_=>by omega
 | n+1,j,out,hj,hn,ho=>by
  rw [az]
  by_cases hlt:j<b.length
  ·obtain ⟨y,hy⟩:=gol_ hlt
   have hd:b.drop j=y::b.drop (j+1):=by rw [VH hlt,(Vb.1 hy).2]
   rw [h1 j y out hy (by omega),hd,lS,fV]
   cases q y with
   | false =>
    have:=wB h1 h2 n (j+1) out (by omega) (by omega) (by omega)
    exact this
   | true =>
    have:=wB h1 h2 n (j+1) (out++[⟨v,(j:Int)⟩]) (by omega) (by omega) (by rw [Vk];simp;omega)
    rw [VD] at this
    exact this
  ·have:j=b.length:=by omega
   subst this
   rw [h2]
   show some (Sum.inl _)=_
   rw [List.drop_length,lS,fV,Vr,VJ]
theorem vz {q:aV->aV->Bool} {a b:List aV} {body:(List bA × Int)->Option (Step (List bA × Int) (List bA))} (hb:b.length<=1000)
  (h1 : ∀ (i:Nat) x out,a[i]?=some x->out.length<=100000000->body (out,(i:Int))=some (.next (out++lS (q x) (i:Int) b 0,((i+1:Nat):Int))))
  (h2 : ∀ out,body (out,((a.length:Nat):Int))=some (.exit (out,((a.length:Nat):Int)))) :
  ∀ (n i:Nat) (out:List bA),i<=a.length->a.length-i<n->out.length+(a.length-i)*1000<=100000000->az body n (out,(i:Int))=some (.inl (out++cO q b (a.drop i) i,((a.length:Nat):Int)))
 | 0,i,out,_,h,_=>by omega
 | n+1,i,out,hi,hn,ho=>by
  rw [az]
  by_cases hlt:i<a.length
  ·obtain ⟨x,hx⟩:=gol_ hlt
   have hd:a.drop i=x::a.drop (i+1):=by rw [VH hlt,(Vb.1 hx).2]
   have hm:(a.length-i)*1000=(a.length-(i+1))*1000+1000:=by
    rw [show a.length-i=a.length-(i+1)+1 by omega,Nat.add_mul]
   have hl:(lS (q x) (i:Int) b 0).length<=b.length:=by unfold lS;rw [Vo];exact qP _ _ _
   rw [h1 i x out hx (by omega),hd,cO]
   have:=vz hb h1 h2 n (i+1) (out++lS (q x) (i:Int) b 0) (by omega) (by omega) (by rw [Vk];omega)
   rw [VD] at this
   exact this
  ·have:i=a.length:=by omega
   subst this
   rw [h2]
   show some (Sum.inl _)=_
   rw [List.drop_length,cO,VJ]
def xk (rel:Int) (x y:aV):Bool:=holdB rel x.valid y.valid
def Ai (x y:aV):Bool:=yK x.valid y.valid
theorem NV (p q:bD):J_ p q=some (yK p q):=by
 unfold J_ yK
 rw [show dM p=MC p from rfl,show dM q=MC q from rfl,nP,nP,Va]
 cases ay p with
 | false=>rfl
 | true =>
  rw [Ve,Va]
  cases ay q with
  | false=>rfl
  | true =>
   rw [Ve]
   cases decide (p.lo<q.hi)<;>rfl
theorem Nj (rel:Int) (p q:bD):rD rel p q=some (holdB rel p q):=by
 unfold rD holdB
 rw [MZ,Va]
 cases hp:ay p<;>cases hq:ay q<;>rfl
theorem NA (rel:Int) (p q:bD):lY rel p q=some (holdB rel p q):=by
 rw [qc];unfold holdB;rw [Bool.and_assoc (ay p)]
theorem z_ (rel:Int) (a b:List aV) (ha:a.length<=1000) (hb:b.length<=1000):r_ a b rel=some (cO (xk rel) b a 0):=by
 have h:az (jZ a b rel) fuel ([],((0:Nat):Int))=some (.inl ([]++cO (xk rel) b (a.drop 0) 0,((a.length:Nat):Int))):=by
  refine vz hb ?_ ?_ fuel 0 [] (Vx _) (by unfold fuel;omega) (by simp;omega)
  ·intro i x out hx ho
   have hi:=(Vb.1 hx).1
   have hin:az (kD b rel (i:Int) x) fuel (out,((0:Nat):Int))=some (.inl (out++lS (xk rel x) (i:Int) (b.drop 0) 0,((b.length:Nat):Int))):=by
    refine wB ?_ ?_ fuel 0 out (Vx _) (by unfold fuel;omega) (by omega)
    ·intro j y out hy ho
     have hj:=(Vb.1 hy).1
     unfold kD
     dsimp only
     rw [bM hy,Ve,gn_ hy,Va,Nj,Va,Vg (show out.length+1<=8796093022208 by omega),Ve,wrapN (by omega)]
     rfl
    ·intro out
     unfold kD
     dsimp only
     rw [lF_,Vd]
   unfold jZ
   dsimp only
   rw [bM hx,Ve,gn_ hx,Va]
   erw [hin]
   rw [Va]
   unfold oH
   dsimp only
   rw [wrapN (by omega),List.drop_zero]
  ·intro out
   unfold jZ
   dsimp only
   rw [lF_,Vd]
 unfold r_
 erw [h]
 rfl
theorem EK (rel:Int) (a b:List aV) (ha:a.length<=1000) (hb:b.length<=1000):qK a b rel=some (cO (xk rel) b a 0):=by
 have h:az (jo a b rel) fuel ([],((0:Nat):Int))=some (.inl ([]++cO (xk rel) b (a.drop 0) 0,((a.length:Nat):Int))):=by
  refine vz hb ?_ ?_ fuel 0 [] (Vx _) (by unfold fuel;omega) (by simp;omega)
  ·intro i x out hx ho
   have hi:=(Vb.1 hx).1
   have hin:az (jg a b rel (i:Int)) fuel (out,((0:Nat):Int))=some (.inl (out++lS (xk rel x) (i:Int) (b.drop 0) 0,((b.length:Nat):Int))):=by
    refine wB ?_ ?_ fuel 0 out (Vx _) (by unfold fuel;omega) (by omega)
    ·intro j y out hy ho
     have hj:=(Vb.1 hy).1
     unfold jg
     dsimp only
     rw [bM hy,Ve,gn_ hx,Va,gn_ hy,Va,NA,Va,Vg (show out.length+1<=8796093022208 by omega),Ve,wrapN (by omega)]
     rfl
    ·intro out
     unfold jg
     dsimp only
     rw [lF_,Vd]
   unfold jo
   dsimp only
   rw [bM hx,Ve]
   erw [hin]
   rw [Va]
   unfold lF
   dsimp only
   rw [wrapN (by omega),List.drop_zero]
  ·intro out
   unfold jo
   dsimp only
   rw [lF_,Vd]
 unfold qK
 erw [h]
 rfl
theorem E5 (a b:List aV) (ha:a.length<=1000) (hb:b.length<=1000):qO a b=some (cO Ai b a 0):=by
 have h:az (iY a b) fuel ([],((0:Nat):Int))=some (.inl ([]++cO Ai b (a.drop 0) 0,((a.length:Nat):Int))):=by
  refine vz hb ?_ ?_ fuel 0 [] (Vx _) (by unfold fuel;omega) (by simp;omega)
  ·intro i x out hx ho
   have hi:=(Vb.1 hx).1
   have hin:az (iX a b (i:Int)) fuel (out,((0:Nat):Int))=some (.inl (out++lS (Ai x) (i:Int) (b.drop 0) 0,((b.length:Nat):Int))):=by
    refine wB ?_ ?_ fuel 0 out (Vx _) (by unfold fuel;omega) (by omega)
    ·intro j y out hy ho
     have hj:=(Vb.1 hy).1
     unfold iX
     dsimp only
     rw [bM hy,Ve,gn_ hx,Va,gn_ hy,Va,NV,Va,Vg (show out.length+1<=8796093022208 by omega),Ve,wrapN (by omega)]
     rfl
    ·intro out
     unfold iX
     dsimp only
     rw [lF_,Vd]
   unfold iY
   dsimp only
   rw [bM hx,Ve]
   erw [hin]
   rw [Va]
   unfold lN
   dsimp only
   rw [wrapN (by omega),List.drop_zero]
  ·intro out
   unfold iY
   dsimp only
   rw [lF_,Vd]
 unfold qO
 erw [h]
 rfl
theorem uA (l:List bA) (hl:l.length<=1000000):um l l=some true:=by
 unfold um
 rw [show decide (((l.length:Nat):Int)≠((l.length:Nat):Int))=false by simp,Vd]
 have h : ∀ (n j:Nat),j<=l.length->l.length-j<n->az (gM l l) n ((j:Nat):Int)=some (.inl ((l.length:Nat):Int)):=by
  intro n
  induction n with
  | zero=>intro j _ h;omega
  | succ n ih =>
   intro j hj hn
   rw [az]
   by_cases hlt:j<l.length
   ·obtain ⟨y,hy⟩:=gol_ hlt
    have:gM l l ((j:Nat):Int)=some (.next (((j+1:Nat)):Int)):=by
     unfold gM
     dsimp only
     rw [bM hy,Ve,gn_ hy,Va,Va,show bz [SV.c (.int .i64 y.a), .c (.int .i64 y.b)] [.c (.int .i64 y.a), .c (.int .i64 y.b)]=true by simp [bz],wrapN (by omega)]
     rfl
    rw [this]
    exact ih (j+1) (by omega) (by omega)
   ·have:j=l.length:=by omega
    subst this
    have:gM l l ((l.length:Nat):Int)=some (.exit ((l.length:Nat):Int)):=by
     unfold gM
     dsimp only
     rw [lF_,Vd]
    rw [this]
 have h0:=h fuel 0 (Vx _) (by unfold fuel;omega)
 rw [show ((0:Nat):Int)=0 from rfl] at h0
 rw [h0]
 rfl
end Go.Proofs.YtlcceppoloaecaaGreatDoor
namespace Go.Proofs.YtlcceppoloaecaaGreatDoor.Aw
open Go.RowKit Go.MapKept
set_option maxRecDepth 100000
def Uw:List PV:=[.one (.lst [[.lst [[.int .i64 1, .int .i64 1, .str ⟨#[]⟩]], .int .i64 0, .int .i64 6],[.lst [[.int .i64 1, .int .i64 2, .str ⟨#[]⟩]], .int .i64 3, .int .i64 9]]), .one (.lst [[.lst [[.int .i64 1, .int .i64 1, .str ⟨#[]⟩]], .int .i64 4, .int .i64 8],[.lst [[.int .i64 1, .int .i64 1, .str ⟨#[]⟩]], .int .i64 5, .int .i64 7]])]
def Uk:CV := .val (.one (.lst [[.int .i64 0, .int .i64 0],[.int .i64 0, .int .i64 1],[.int .i64 1, .int .i64 0],[.int .i64 1, .int .i64 1]]))
theorem Uu:(Jw cx 64).1 12 Uw=some Uk:=by kernel_rfl
theorem Sz:Pure Tryz.prog 12 Uw Uk:=(iw uT 64).1 _ _ _ Uu
def TS:List PV:=[.one (.lst [[.lst [[.int .i64 1, .int .i64 1, .str ⟨#[]⟩]], .int .i64 0, .int .i64 6],[.lst [[.int .i64 1, .int .i64 2, .str ⟨#[]⟩]], .int .i64 3, .int .i64 9]]), .one (.lst [[.lst [[.int .i64 1, .int .i64 1, .str ⟨#[]⟩]], .int .i64 4, .int .i64 8],[.lst [[.int .i64 1, .int .i64 1, .str ⟨#[]⟩]], .int .i64 5, .int .i64 7]]), .one (.int .i64 8)]
def Uo:CV := .val (.one (.lst [[.int .i64 1, .int .i64 0],[.int .i64 1, .int .i64 1]]))
theorem Us:(Jw cx 64).1 14 TS=some Uo:=by kernel_rfl
theorem Q7:Pure Tryz.prog 14 TS Uo:=(iw uT 64).1 _ _ _ Us
def UC:List PV:=[.agg [.lst [[.int .i64 1]], .lst [[.lst [[.int .i64 1, .int .i64 1, .str ⟨#[]⟩]], .int .i64 0, .int .i64 6],[.lst [[.int .i64 1, .int .i64 2, .str ⟨#[]⟩]], .int .i64 3, .int .i64 9]]], .agg [.lst [[.int .i64 1]], .lst [[.lst [[.int .i64 1, .int .i64 1, .str ⟨#[]⟩]], .int .i64 4, .int .i64 8],[.lst [[.int .i64 1, .int .i64 1, .str ⟨#[]⟩]], .int .i64 5, .int .i64 7]]], .agg [.int .i64 7, .int .i64 0, .int .i64 0, .int .i64 0, .str ⟨#[]⟩, .str ⟨#[]⟩, .lst [[.int .i64 2, .int .i64 0, .int .i64 0, .int .i64 0, .str ⟨#[]⟩, .str ⟨#[]⟩, .lst []],[.int .i64 2, .int .i64 1, .int .i64 0, .int .i64 0, .str ⟨#[]⟩, .str ⟨#[]⟩, .lst []]]]]
def T_:CV := .val (.agg [.lst [[.int .i64 1]], .lst [[.lst [[.int .i64 1, .int .i64 1, .str ⟨#[]⟩]], .int .i64 4, .int .i64 6]]])
theorem rune:(Jw cx 64).1 22 UC=some T_:=by kernel_rfl
theorem Rx:Pure Tryz.prog 22 UC T_:=(iw uT 64).1 _ _ _ rune
end Go.Proofs.YtlcceppoloaecaaGreatDoor.Aw
