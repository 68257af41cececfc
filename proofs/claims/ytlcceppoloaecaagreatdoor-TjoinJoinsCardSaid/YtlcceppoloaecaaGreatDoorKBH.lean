/- Parts of the proof, joined. No condition. -/
import Derived.Test.YtlcceppoloaecaaGreatDoorKAA
import Derived.Test.YtlcceppoloaecaaGreatDoorKBG
import Derived.Test.YtlcceppoloaecaaGreatDoorKAL
import Derived.Test.YtlcceppoloaecaaGreatDoorKAJ
import Derived.Lib.Bytealg
import Derived.Test.YtlcceppoloaecaaGreatDoorKAI
set_option linter.unusedSimpArgs false
set_option linter.unusedVariables false
namespace Go.Proofs.YtlcceppoloaecaaGreatDoor
open Go.RowKit Go.MapKept
set_option maxRecDepth 100000
section
variable {P:Program} {ti:TI} {B:Nat->Prop} {R:PH} {γ:List Gh} {L:List Ob} {w:World} {ρ:Operand->Option AV}
theorem M3 (hti:TIok P ti) {t:TypeId} {E k:Nat} {y:Operand} {cs:List SV} (hy:ρ y=some (.agg cs)) (hl:cs.length=k) (hk:0<k) (hk2:k<=1000) (ht:ti.elem t=some E) (hE:E<65536) (hsz:ti.size E=some k) (hzo:ti.zok E=true) :
  yU P ρ L (.buildSlice t 1 #[(0,y)]) (.one (.sl L.length (E+65536) 0 1)) (L++[.row (E+65536) [cs] k]):=by
 intro B R γ w ev o ho hi hρ hfv
 obtain ⟨dst,op,type,pos,after,guard⟩:=o
 simp only at ho;subst ho
 obtain ⟨vs,hev,hvs,hrep⟩:=hρ y (by simp [Op.operands]) _ hy
 obtain ⟨i,z,hi1,hi2,hi3,hi4⟩:=hti.zok _ hzo _ (hti.size _ _ hsz)
 have hb:=run_buildSlice (P:=P) w t E 1 #[(0,ev y)] vs i z (pW hti ht) hi1 hi2 (by rw [hi3];omega) (by rw [hi3];omega) (by
  have h1:=Go.Great.fill_whole hk [ev y] ((Array.range (1*i.size)).map (z.cells[· % z.cells.size]!)) (by intro v hv;rw [aqF.1 hv,hev];show vs.size=k;omega) (by simp [hi3])
  have h2:([ev y].flatMap fun v=>v.cells.toList).toArray=vs:=by rw [hev];simp [Value.cells]
  rw [h2,hi3] at h1
  rw [hi3]
  exact h1)
 have hrun:(execOp ev { dst,op := .buildSlice t 1 #[(0,y)],type,pos,after,guard }).run P w = .ok (.value (.slice (some ⟨w.heap.size,0,none⟩) 1 1)) (w.alloc (.cells vs E)):=by
  simp [execOp,hb]
 have hm:Mv R R γ (γ++[.arr w.heap.size 1]) L (L++[.row (E+65536) [cs] k]):=Mv.push _ _ hi.len
 refine ⟨_,R,_, .inl ⟨_,hrun,⟨rfl,rfl⟩,by simp,fun ver2 es2 k2 e2=>?_⟩,?_,⟨Kept.alloc hi.bsz _,PH.sub_refl _,fun _ _ _=>rfl⟩,hm⟩
 ·rw [ap7 (by omega)] at e2
  simp at e2
  obtain ⟨q1,q2,q3⟩:=e2
  subst q1 q2
  exact ⟨aqe _,fun _=>⟨by simp, .arr w.heap.size 1,by rw [<- hi.len];simp, .inl (by rw [Nat.zero_mul])⟩⟩
 ·refine hi.push _ _ _ rfl ⟨⟨_,E,⟨gD w _,by show (E:Nat)=(E+65536)%65536;omega,by omega⟩,by omega,fun i e j u x he hu hx=>?_⟩,by simp,by omega,by simp [hl],fun o=>hi.none_at o⟩
  have hi0:i=0:=by have:=(ap0.1 he).1;simpa using this
  subst hi0
  simp at he;subst he
  exact SV.mv hm (hrep j u x (by simpa using hu) hx)
end
structure bV where
 f:aC
 ps:List aP
abbrev aD (p:aP):Bool:=decide (0<=p.lo)&&decide (p.lo<p.hi)&&decide (p.hi<=1099511627776)
theorem lm (p:aP):YJ p=some (aD p):=by
 unfold YJ aD
 cases h1:decide (0<=p.lo)<;>cases h2:decide (p.lo<p.hi)<;>cases h3:decide (p.hi<=1099511627776)<;>simp_all
def iQ (s:ByteArray):List bV->Option Nat
 | []=>none
 | g::r=>if s=eQ g.f.row then some 0 else (iQ s r).map (· + 1)
def wJ:Nat->List bV->List (AC × AV)
 | _,[]=>[]
 | k,g::r=>(.str (eQ g.f.row), .one (.c (.int .i64 k)))::wJ (k+1) r
theorem GY : ∀ (G:List bV) (k:Nat),strKeys (wJ k G)
 | [],_=>by intro p hp;cases hp
 | g::r,k=>by
  intro p hp
  rcases aqf.1 hp with rfl|hp
  ·exact ⟨_,rfl⟩
  ·exact GY r (k+1) p hp
theorem xg (s:ByteArray) : ∀ (G:List bV) (k:Nat),DI s (wJ k G)=iQ s G
 | [],_=>rfl
 | g::r,k=>by
  simp only [wJ,DI,iQ]
  rw [xg s r (k+1)]
theorem ab6 : ∀ (G:List bV) (k i:Nat),i<G.length -> ∃ q,(wJ k G)[i]?=some q/\q.2 = .one (.c (.int .i64 ((k+i:Nat):Int)))
 | [],_,_,h=>by simp at h
 | g::r,k,0,_=>⟨_,rfl,by simp⟩
 | g::r,k,i+1,h=>by
  obtain ⟨q,h1,h2⟩:=ab6 r (k+1) i (by simpa using h)
  exact ⟨q,by simpa [wJ] using h1,by rw [h2,show k+1+i=k+(i+1) by omega]⟩
theorem PU {s:ByteArray} : ∀ {G:List bV} {i:Nat}, iQ s G=some i->i<G.length
 | [],_,h=>by simp [iQ] at h
 | g::r,i,h=>by
  unfold iQ at h
  split at h
  ·injection h with h;subst h;simp
  ·cases hr:iQ s r with
   | none=>rw [hr] at h;cases h
   | some j=>rw [hr] at h;injection h with h;subst h;have:=PU hr;simp;omega
theorem afB {s:ByteArray} {G:List bV} {i:Nat} {z:AV} (h:iQ s G=some i):wy (wJ 0 G) s z = .one (.c (.int .i64 i)):=by
 obtain ⟨q,h1,h2⟩:=ab6 G 0 i (PU h)
 unfold wy
 rw [xg,h]
 simp only [h1,h2,aqH]
theorem afn {s:ByteArray} {G:List bV} {z:AV} (h:iQ s G=none):wy (wJ 0 G) s z=z:=by
 unfold wy
 rw [xg,h]
theorem Xd : ∀ (G:List bV) (k:Nat) (g:bV),wJ k (G++[g])=wJ k G++[(.str (eQ g.f.row), .one (.c (.int .i64 ((k+G.length:Nat):Int))))]
 | [],k,g=>by simp [wJ]
 | x::r,k,g=>by
  have:=Xd r (k+1) g
  simp only [List.cons_append,wJ,this,aqk,show k+1+r.length=k+(r.length+1) by omega]
theorem aff {s:ByteArray} {G:List bV} (h:iQ s G=none) (g:bV) (hg:eQ g.f.row=s):QF (wJ 0 G) s (.one (.c (.int .i64 (G.length:Nat))))=wJ 0 (G++[g]):=by
 unfold QF
 rw [xg,h,Xd,hg,aqH]
theorem aj4 {G:List bV} {i:Nat} {g:bV} (hg:G[i]?=some g) (ps:List aP) : ∀ k,wJ k (G.set i ⟨g.f,ps⟩)=wJ k G:=by
 induction G generalizing i with
 | nil=>intro k;rfl
 | cons x r ih =>
  intro k
  cases i with
  | zero=>simp at hg;subst hg;rfl
  | succ i=>simp only [List.set_cons_succ,wJ];rw [ih (by simpa using hg)]
theorem aiw {P:Program} {ti:TI} {ρ:Operand->Option AV} {L:List Ob} {t kt et:TypeId} {x k:Operand} {s:ByteArray} {id:Nat} {G:List bV} {i:Nat} (hti:TIok P ti) (hf:iQ s G=some i) (hx:ρ x=some (.one (.mp id))) (hk:ρ k=some (.one (.c (.str s)))) (hL:L[id]?=some (.map (wJ 0 G)))
  (ht:ti.kind t=some (.map kt et)) (hkt:ti.kind kt=some .string) (hz:ti.zero et=some (.one (.c (.int .i64 0)))):yU P ρ L (.lookup t x k true) (.tup [.one (.int .i64 i), .one (.bool true)]) L:=by
 have:=vv (P:=P) hx hk hL (GY G 0) (hti.kind _ _ ht) (hti.kind _ _ hkt) (hti.zero _ _ hz) (p := .one (.int .i64 i)) (by rw [afB hf];rfl)
 rw [xg,hf] at this
 exact this
theorem Nh {P:Program} {ti:TI} {ρ:Operand->Option AV} {L:List Ob} {t kt et:TypeId} {x k:Operand} {s:ByteArray} {id:Nat} {G:List bV} (hti:TIok P ti) (hf:iQ s G=none) (hx:ρ x=some (.one (.mp id))) (hk:ρ k=some (.one (.c (.str s)))) (hL:L[id]?=some (.map (wJ 0 G)))
  (ht:ti.kind t=some (.map kt et)) (hkt:ti.kind kt=some .string) (hz:ti.zero et=some (.one (.c (.int .i64 0)))):yU P ρ L (.lookup t x k true) (.tup [.one (.int .i64 0), .one (.bool false)]) L:=by
 have:=vv (P:=P) hx hk hL (GY G 0) (hti.kind _ _ ht) (hti.kind _ _ hkt) (hti.zero _ _ hz) (p := .one (.int .i64 0)) (by rw [afn hf];rfl)
 rw [xg,hf] at this
 exact this
theorem Pi {P:Program} {ti:TI} {ρ:Operand->Option AV} {L:List Ob} {t kt et:TypeId} {x k y:Operand} {s:ByteArray} {id:Nat} {G:List bV} (g:bV) (hti:TIok P ti) (hf:iQ s G=none) (hg:eQ g.f.row=s) (hx:ρ x=some (.one (.mp id))) (hk:ρ k=some (.one (.c (.str s)))) (hy:ρ y=some (.one (.c (.int .i64 (G.length:Nat))))) (hL:L[id]?=some (.map (wJ 0 G)))
  (ht:ti.kind t=some (.map kt et)) (hkt:ti.kind kt=some .string):yU P ρ L (.mapUpdate t x k y) .undef (L.set id (.map (wJ 0 (G++[g])))):=by
 have:=D_ (P:=P) hx hk hy hL (GY G 0) (hti.kind _ _ ht) (hti.kind _ _ hkt)
 rw [aff hf g hg] at this
 exact this
def jK (G:List bV) (f:aC):List bV:=bif aD f.valid then (match iQ (eQ f.row) G with
 | some i=>match G[i]? with
  | some g=>G.set i ⟨g.f,g.ps++[f.valid]⟩
  | none=>G
 | none=>G++[⟨f,[f.valid]⟩]) else G
def fK (l:List aC):List bV:=l.foldl jK []
theorem Y4 (l:List aC) (f:aC):fK (l++[f])=jK (fK l) f:=by unfold fK;rw [List.foldl_append];rfl
theorem ZI (G:List bV) (f:aC):(jK G f).length<=G.length+1:=by
 unfold jK
 cases aD f.valid with
 | false=>rw [ap1];omega
 | true =>
  rw [ap2]
  split
  ·split
   ·rw [List.length_set];omega
   ·omega
  ·simp
theorem Ew (l:List aC):(fK l).length<=l.length:=by
 have : ∀ (l:List aC) (G:List bV),(l.foldl jK G).length<=G.length+l.length:=by
  intro l
  induction l with
  | nil=>intro G;simp
  | cons f l ih=>intro G;have h1:=ih (jK G f);have h2:=ZI G f;rw [aqP,aqk];omega
 have:=this l []
 simpa [fK] using this
theorem Qf (l:List aC) : ∀ g∈fK l,g.ps.length<=l.length/\g.f∈l/\(∀ p∈g.ps,aD p=true):=by
 have : ∀ (l:List aC) (G:List bV) (b:Nat) (l0:List aC),(∀ g∈G,g.ps.length<=b/\g.f∈l0/\(∀ p∈g.ps,aD p=true)) -> ∀ g∈l.foldl jK G,g.ps.length<=b+l.length/\g.f∈l0++l/\(∀ p∈g.ps,aD p=true):=by
  intro l
  induction l with
  | nil=>intro G b l0 h g hg;simpa using h g hg
  | cons f l ih =>
   intro G b l0 h g hg
   rw [aqP] at hg
   have hst : ∀ g∈jK G f,g.ps.length<=b+1/\g.f∈l0++[f]/\(∀ p∈g.ps,aD p=true):=by
    intro g hg
    unfold jK at hg
    cases hv:aD f.valid with
    | false=>rw [hv,ap1] at hg;obtain ⟨a1,a2,a3⟩:=h g hg;exact ⟨by omega,aqr.2 (.inl a2),a3⟩
    | true =>
     rw [hv,ap2] at hg
     split at hg
     ·split at hg
      ·rename_i i _ g0 hg0
       rcases List.mem_or_eq_of_mem_set hg with hg|rfl
       ·obtain ⟨a1,a2,a3⟩:=h g hg;exact ⟨by omega,aqr.2 (.inl a2),a3⟩
       ·obtain ⟨a1,a2,a3⟩:=h g0 (ap6 hg0)
        refine ⟨by simp;omega,aqr.2 (.inl a2),fun p hp=>?_⟩
        rcases aqr.1 hp with hp|hp
        ·exact a3 p hp
        ·rw [aqF.1 hp];exact hv
      ·obtain ⟨a1,a2,a3⟩:=h g hg;exact ⟨by omega,aqr.2 (.inl a2),a3⟩
     ·rcases aqr.1 hg with hg|hg
      ·obtain ⟨a1,a2,a3⟩:=h g hg;exact ⟨by omega,aqr.2 (.inl a2),a3⟩
      ·rw [aqF.1 hg]
       exact ⟨by simp,by simp,fun p hp=>by rw [aqF.1 hp];exact hv⟩
   obtain ⟨a1,a2,a3⟩:=ih (jK G f) (b+1) (l0++[f]) hst g hg
   exact ⟨by rw [aqk];omega,by simpa using a2,a3⟩
 intro g hg
 have:=this l [] 0 [] (fun g hg=>by cases hg) g hg
 simpa using this
abbrev jT:=AC × AC
def xx (x:jT):List SV:=[.c x.1, .c x.2]
theorem ed (n v k:Nat) (l:List jT):(Ob.row v (l.map xx) k).below n:=by
 intro e he x hx
 obtain ⟨y,_,rfl⟩:=aqz.1 he
 simp only [xx,aqf,List.not_mem_nil,or_false] at hx
 rcases hx with rfl|rfl<;>trivial
theorem Gy (σ:List Nat) (v k:Nat) (l:List jT):(Ob.row v (l.map xx) k).ren σ=Ob.row v (l.map xx) k:=by
 simp only [Ob.ren,List.map_map];rfl
theorem ado (l:List jT):iC (l.map xx)=some (l.map fun x=>[x.1,x.2]):=by
 have:=nA (l.map fun x=>[x.1,x.2])
 rw [List.map_map] at this
 exact this
def aoi:TI := { We with dyn:=true }
theorem dR:TIok Tryz.prog aoi:=⟨aj.size,aj.agg,aj.elem,aj.field,aj.zero,aj.bytes,aj.kind,aj.struct,aj.zok,aj.eqs⟩
def bxG (_:bV):Ob := .dead
def gbG (g:bV):Ob := .row (194+65536) [[.c (dM g.f.row), .emp]] 2
theorem ZL (g:bV) (n:Nat):(gbG g).below n:=by
 intro e he x hx
 rw [aqF.1 he] at hx
 rcases aqf.1 hx with rfl|hx
 ·trivial
 ·rcases aqf.1 hx with rfl|hx
  ·trivial
  ·cases hx
def DJ (ps:List aP):List (List AC):=ps.map bv
def jr:Nat->List bV->List (List SV)
 | _,[]=>[]
 | k,g::r=>[.c (dM g.f.row), .own (DJ g.ps) (4+3*k)]::jr (k+1) r
def tlC:List bV->List Ob
 | []=>[]
 | g::r=>bxG g::gbG g :: .spare g.ps.length 2::tlC r
def Fx:List bV->List Ob
 | []=>[]
 | g::r => .spare g.ps.length 2::tlC r
def LC:List bV->Ob
 | [] => .dead
 | g::_=>gbG g
def Bp (G:List bV):List Ob := .map (wJ 0 G) :: .dead::LC G :: .row (194+65536*G.length) (jr 0 G) 2::Fx G
theorem ajq {G:List bV} {i:Nat} {g:bV} (ps:List aP) (h:G[i]?=some g):LC (G.set i ⟨g.f,ps⟩)=LC G:=by
 cases G with
 | nil=>rfl
 | cons x r =>
  cases i with
  | zero=>simp at h;subst h;rfl
  | succ i=>rfl
theorem ah' {G:List bV} (g:bV) (h:G≠[]):LC (G++[g])=LC G:=by cases G with
 | nil=>exact absurd rfl h
 | cons x r=>rfl
theorem aeP (G:List bV) (n:Nat):(LC G).below n:=by cases G with
 | nil=>trivial
 | cons x r=>exact ZL x n
def V8:List bV->List Ob
 | []=>[.map []]
 | g::r=>Bp (g::r)
theorem zb {G:List bV} (h:G≠[]):V8 G=Bp G:=by cases G with
 | nil=>exact absurd rfl h
 | cons g r=>rfl
theorem xc : ∀ (G:List bV) (k:Nat),(jr k G).length=G.length
 | [],_=>rfl
 | g::r,k=>by simp [jr,xc r]
theorem X6 : ∀ (G:List bV) (k i:Nat) (g:bV),G[i]?=some g->(jr k G)[i]?=some [.c (dM g.f.row), .own (DJ g.ps) (4+3*(k+i))]
 | [],_,_,_,h=>by simp at h
 | x::r,k,0,g,h=>by simp at h;subst h;rfl
 | x::r,k,i+1,g,h=>by
  have:=X6 r (k+1) i g (by simpa using h)
  simp only [jr,List.getElem?_cons_succ]
  rw [this,show k+1+i=k+(i+1) by omega]
theorem Y9 : ∀ (G:List bV) (k i:Nat) (g:bV) (ps:List aP),G[i]?=some g->(jr k G).set i [.c (dM g.f.row), .own (DJ ps) (4+3*(k+i))]=jr k (G.set i ⟨g.f,ps⟩)
 | [],_,_,_,_,h=>by simp at h
 | x::r,k,0,g,ps,h=>by simp at h;subst h;simp [jr]
 | x::r,k,i+1,g,ps,h=>by
  have:=Y9 r (k+1) i g ps (by simpa using h)
  rw [show k+1+i=k+(i+1) by omega] at this
  simp only [jr,List.set_cons_succ,this]
theorem Ri : ∀ (G:List bV) (k:Nat) (g:bV),jr k (G++[g])=jr k G++[[.c (dM g.f.row), .own (DJ g.ps) (4+3*(k+G.length))]]
 | [],k,g=>rfl
 | x::r,k,g=>by
  have:=Ri r (k+1) g
  simp only [List.cons_append,jr,this,aqk,show k+1+r.length=k+(r.length+1) by omega]
theorem MS : ∀ (G:List bV) (k n:Nat),4+3*(k+G.length)<=n+2 -> ∀ e∈jr k G, ∀ x∈e,x.below n
 | [],_,_,_=>by intro e he;cases he
 | g::r,k,n,h=>by
  intro e he x hx
  simp only [aqk] at h
  rcases aqf.1 he with rfl|he
  ·rcases aqf.1 hx with rfl|hx
   ·trivial
   ·rcases aqf.1 hx with rfl|hx
    ·show 4+3*k<n;omega
    ·cases hx
  ·exact MS r (k+1) n (by omega) e he x hx
theorem OA : ∀ (G:List bV) (k:Nat),iC (jr k G)=some (G.map fun g=>[dM g.f.row, .lst (DJ g.ps)])
 | [],_=>rfl
 | g::r,k=>by
  have:=OA r (k+1)
  simp only [jr,iC,mV,SV.norm,this,ap']
theorem acy : ∀ r:List bV,(tlC r).length=3*r.length
 | []=>rfl
 | g::r=>by simp [tlC,acy r];omega
theorem abK : ∀ (r:List bV) (i:Nat) (g:bV),r[i]?=some g->(tlC r)[3*i+2]?=some (.spare g.ps.length 2)
 | [],_,_,h=>by simp at h
 | x::r,0,g,h=>by simp at h;subst h;rfl
 | x::r,i+1,g,h=>by
  have:=abK r i g (by simpa using h)
  rw [show 3*(i+1)+2=(3*i+2)+1+1+1 by omega];simpa [tlC] using this
theorem acT : ∀ (r:List bV) (i:Nat) (g:bV) (ps:List aP),r[i]?=some g->(tlC r).set (3*i+2) (.spare ps.length 2)=tlC (r.set i ⟨g.f,ps⟩)
 | [],_,_,_,h=>by simp at h
 | x::r,0,g,ps,h=>by simp at h;subst h;simp [tlC,bxG,gbG]
 | x::r,i+1,g,ps,h=>by
  have:=acT r i g ps (by simpa using h)
  rw [show 3*(i+1)+2=(3*i+2)+1+1+1 by omega];simp only [tlC,List.set_cons_succ,this]
theorem Yx : ∀ (r:List bV) (g:bV),tlC (r++[g])=tlC r++[bxG g,gbG g, .spare g.ps.length 2]
 | [],g=>rfl
 | x::r,g=>by simp [tlC,Yx r g]
theorem ac7 {G:List bV} (h:G≠[]):(Fx G).length+2=3*G.length:=by
 cases G with
 | nil=>exact absurd rfl h
 | cons g r=>simp [Fx,acy];omega
theorem ai3 {G:List bV} {i:Nat} {g:bV} (h:G[i]?=some g):(Fx G)[3*i]?=some (.spare g.ps.length 2):=by
 cases G with
 | nil=>simp at h
 | cons x r =>
  cases i with
  | zero=>simp at h;subst h;rfl
  | succ i =>
   have:=abK r i g (by simpa using h)
   rw [show 3*(i+1)=(3*i+2)+1 by omega];simpa [Fx] using this
theorem ajL {G:List bV} {i:Nat} {g:bV} (ps:List aP) (h:G[i]?=some g):(Fx G).set (3*i) (.spare ps.length 2)=Fx (G.set i ⟨g.f,ps⟩):=by
 cases G with
 | nil=>simp at h
 | cons x r =>
  cases i with
  | zero=>simp at h;subst h;simp [Fx]
  | succ i =>
   have:=acT r i g ps (by simpa using h)
   rw [show 3*(i+1)=(3*i+2)+1 by omega];simp only [Fx,List.set_cons_succ,this]
theorem aic {G:List bV} (g:bV) (h:G≠[]):Fx (G++[g])=Fx G++[bxG g,gbG g, .spare g.ps.length 2]:=by
 cases G with
 | nil=>exact absurd rfl h
 | cons x r=>simp [Fx,Yx]
theorem tZ {G:List bV} (h:G≠[]):(Bp G).length=2+3*G.length:=by
 have h1:=ac7 h
 simp [Bp];omega
theorem Cv : ∀ {n:Nat} {L:List Ob}, (∀ x∈L,x.below n)->vJ n L
 | _,[],_=>trivial
 | n,x::L,h=>⟨h x (by simp),Cv fun y hy=>h y (aqm _ hy)⟩
theorem aex (g:bV) (n:Nat):(gbG g).below n:=by
 intro e he x hx
 rw [aqF.1 he] at hx
 rcases aqf.1 hx with rfl|hx
 ·trivial
 ·rcases aqf.1 hx with rfl|hx
  ·trivial
  ·cases hx
theorem afw (g:bV) (n:Nat):(bxG g).below n:=trivial
theorem Q_ : ∀ (G:List bV) (k n:Nat),(Ob.map (wJ k G)).below n:=by
 intro G
 induction G with
 | nil=>intro k n p hp;cases hp
 | cons g r ih =>
  intro k n p hp
  rcases aqf.1 hp with rfl|hp
  ·trivial
  ·exact ih (k+1) n p hp
theorem R6 (n:Nat) : ∀ (r:List bV), ∀ x∈tlC r,x.below n
 | [],x,h=>by cases h
 | g::r,x,h=>by
  simp only [tlC,aqf] at h
  rcases h with rfl|rfl|rfl|h
  ·exact afw g n
  ·exact aex g n
  ·trivial
  ·exact R6 n r x h
theorem tN (G:List bV):vJ (V8 G).length (V8 G):=by
 cases G with
 | nil=>exact ⟨Q_ [] 0 _,trivial⟩
 | cons g r =>
  have hl:=tZ (G:=g::r) (by simp)
  refine Cv fun x hx=>?_
  show x.below (Bp (g::r)).length
  rw [hl]
  have hx:x∈Bp (g::r):=hx
  simp only [Bp,Fx,aqf] at hx
  rcases hx with rfl|rfl|rfl|rfl|rfl|hx
  ·exact Q_ _ 0 _
  ·trivial
  ·exact aeP _ _
  ·exact MS (g::r) 0 _ (by simp only [aqk];omega)
  ·trivial
  ·exact R6 _ r x hx
def XF:List bV->AV
 | [] => .one .emp
 | g::r => .one (.sl 3 (194+65536*(g::r).length) 0 (g::r).length)
theorem Ae {G:List bV} (h:G≠[]):XF G = .one (.sl 3 (194+65536*G.length) 0 G.length):=by
 cases G with
 | nil=>exact absurd rfl h
 | cons g r=>rfl
theorem Av (G:List bV):(XF G).below (V8 G).length:=by
 cases G with
 | nil=>trivial
 | cons g r =>
  show 3<(Bp (g::r)).length
  rw [tZ (by simp)];simp;omega
theorem ahO (id:Nat) (ts:List AC) (G:List bV):unA id ts (XF G)=XF G:=by cases G<;>rfl
section
variable {P:Program} {ti:TI} {N n0:Nat} {ds:List (Option Tmp)} {K:Tm->List Ob->Prop} {rest:List Oper} {o:Oper} {T T':Tm} {A:List Ob} {Q:AX->Tm->List Ob->Prop}
theorem adw {t:TypeId} {p q:Operand} {cs xs:List SV} (hd:o.dst=none) (hg:kH ds T o.guard=some true) (ho:o.op = .store t p q) (hp:look T p=some (.one (.ptr A.length 0))) (hq:(look T q).bind AV.cells=some xs) (hlen:xs.length=cs.length) (hsz:ti.size t=some xs.length) (h:aX P ti N ds K rest T (A++[.box xs])):aX P ti N ds K (o::rest) T (A++[.box cs]):=by
 refine sS_ hd hg (v := .undef) (L':=A++[.box xs]) (φ:=0+xs.length<=cs.length/\ti.size t=some xs.length) ?_ ⟨by omega,hsz⟩ h
 rw [ho]
 have e1:(A++[Ob.box cs])[A.length]?=some (.box cs):=by simp
 have e2:splice cs 0 xs=xs:=by unfold splice;simp [hlen]
 have e3:(A++[Ob.box cs]).set A.length (.box xs)=A++[.box xs]:=by rw [List.set_append_right _ _ (aqe _),Nat.sub_self];rfl
 simp only [K9,hp,hq,e1,e2,e3]
theorem ajA {c:Code} {cs:List SV} {ts:List AC} (hn:mV cs=some ts) (hT:(T.map fun p=>(p.1,unA A.length ts p.2))=T') (h:Aw P N n0 c Q T' (A++[.dead])):Aw P N n0 c Q T (A++[.box cs]):=by
 refine bu A.length (by simp) hn ?_
 rw [hT,List.set_append_right _ _ (aqe _),Nat.sub_self]
 exact h
end
structure KT {α:Type} (c:α->α->Int):Prop where
 refl : ∀ a,c a a=0
 zero : ∀ a b,c a b=0->a=b
 anti : ∀ a b,c a b<0↔0<c b a
 trans : ∀ a b d,c a b<0->c b d<0->c a d<0
theorem tCi_:KT lX:=by
 refine ⟨fun a=>by simp [lX],fun a b h=>?_,fun a b=>?_,fun a b d h1 h2=>?_⟩
 ·unfold lX at h;split at h
  ·omega
  ·split at h<;>omega
 ·unfold lX;split<;>split<;>(try split)<;>omega
 ·unfold lX at *
  split at h1
  ·split at h2
   ·rw [if_pos (by omega)];omega
   ·split at h2<;>omega
  ·split at h1<;>omega
def um {α:Type} (c:α->α->Int):List α->List α->Int
 | [],[]=>0
 | [],_::_ => -1
 | _::_,[]=>1
 | a::xs,b::ys=>if c a b≠0 then c a b else um c xs ys
theorem WW {α:Type} {c:α->α->Int} (h:KT c):KT (um c):=by
 refine ⟨?_,?_,?_,?_⟩
 ·intro a
  induction a with
  | nil=>rfl
  | cons x a ih=>simp [um,h.refl x,ih]
 ·intro a
  induction a with
  | nil=>intro b hb;cases b with
   | nil=>rfl
   | cons _ _=>simp [um] at hb
  | cons x a ih =>
   intro b hb
   cases b with
   | nil=>simp [um] at hb
   | cons y b =>
    unfold um at hb
    split at hb
    ·rename_i h0;exact absurd hb h0
    ·rename_i h0
     have:=h.zero x y (by simpa using h0)
     subst this
     rw [ih b hb]
 ·intro a
  induction a with
  | nil=>intro b;cases b with
   | nil=>simp [um]
   | cons _ _=>simp [um]
  | cons x a ih =>
   intro b
   cases b with
   | nil=>simp [um]
   | cons y b =>
    unfold um
    by_cases h0:c x y=0
    ·have:=h.zero x y h0
     subst this
     simp only [h.refl,ne_eq,not_true_eq_false,if_false]
     exact ih b
    ·have h1:c y x≠0:=fun e=>h0 (by rw [h.zero y x e];exact h.refl x)
     rw [if_pos h0,if_pos h1]
     exact h.anti x y
 ·intro a
  induction a with
  | nil =>
   intro b d h1 h2
   cases b with
   | nil=>simp [um] at h1
   | cons y b=>cases d with
    | nil=>simp [um] at h2
    | cons _ _=>simp [um]
  | cons x a ih =>
   intro b d h1 h2
   cases b with
   | nil=>simp [um] at h1
   | cons y b =>
    cases d with
    | nil=>simp [um] at h2
    | cons z d =>
     unfold um at h1 h2 ⊢
     by_cases e1:c x y=0
     ·have:=h.zero x y e1
      subst this
      rw [if_neg (by simpa using e1)] at h1
      by_cases e2:c x z=0
      ·rw [if_neg (by simpa using e2)] at h2 ⊢
       exact ih b d h1 h2
      ·rw [if_pos e2] at h2 ⊢
       exact h2
     ·rw [if_pos e1] at h1
      by_cases e2:c y z=0
      ·have:=h.zero y z e2
       subst this
       rw [if_pos e1];exact h1
      ·rw [if_pos e2] at h2
       have:=h.trans x y z h1 h2
       rw [if_pos (by omega)];exact this
theorem vZ : ∀ a b:List Val,cO a b=um Ac a b
 | [],[]=>rfl
 | [],_::_=>rfl
 | _::_,[]=>rfl
 | a::xs,b::ys=>by rw [cO,um,vZ xs ys]
def KU (x y:UInt8):Int:=if x<y then -1 else if y<x then 1 else 0
theorem ad1:KT KU:=by
 have key : ∀ x y:UInt8,KU x y=lX ((x.toNat:Nat):Int) ((y.toNat:Nat):Int):=by
  intro x y
  unfold KU lX
  simp only [UInt8.lt_iff_toNat_lt,Int.ofNat_lt]
 refine ⟨fun a=>by rw [key];exact tCi_.refl _,fun a b h=>?_,fun a b=>by rw [key,key];exact tCi_.anti _ _,fun a b d h1 h2=>by rw [key] at *;exact tCi_.trans _ _ _ h1 h2⟩
 rw [key] at h
 have:=tCi_.zero _ _ h
 exact UInt8.toNat_inj.1 (by omega)
theorem Ky : ∀ a b:List UInt8,Lib.compareBytes a b=um KU a b
 | [],[]=>rfl
 | [],_::_=>rfl
 | _::_,[]=>rfl
 | x::a,y::b=>by
  have e:um KU (x::a) (y::b)=if KU x y≠0 then KU x y else um KU a b:=rfl
  rw [e, <- Ky a b]
  have e2:Lib.compareBytes (x::a) (y::b)=if x<y then -1 else if y<x then 1 else Lib.compareBytes a b:=by rw [Lib.compareBytes]
  rw [e2]
  by_cases h1:x<y
  ·simp [h1,KU]
  ·by_cases h2:y<x
   ·simp [h1,h2,KU]
   ·simp [h1,h2,KU]
theorem Dg:KT Ab:=by
 have key : ∀ a b:ByteArray,Ab a b=um KU a.data.toList b.data.toList:=by
  intro a b
  unfold Ab
  rw [Lib.cmp_eq,Ky]
 have t:=WW ad1
 refine ⟨fun a=>by rw [key];exact t.refl _,fun a b h=>?_,fun a b=>by rw [key,key];exact t.anti _ _,fun a b d h1 h2=>by rw [key] at *;exact t.trans _ _ _ h1 h2⟩
 rw [key] at h
 have:=t.zero _ _ h
 obtain ⟨⟨a⟩⟩:=a
 obtain ⟨⟨b⟩⟩:=b
 simp at this
 rw [this]
theorem aeg:KT Ac:=by
 refine ⟨?_,?_,?_,?_⟩
 ·intro a;simp [Ac,tCi_.refl,Dg.refl]
 ·intro a b h
  obtain ⟨k,n,t⟩:=a
  obtain ⟨k',n',t'⟩:=b
  unfold Ac at h
  dsimp only at h
  split at h
  ·rename_i e;exact absurd h e
  ·rename_i e1
   split at h
   ·rename_i e;exact absurd h e
   ·rename_i e2
    have k1:=tCi_.zero _ _ (show lX k k'=0 by simpa using e1)
    have k2:=tCi_.zero _ _ (show lX n n'=0 by simpa using e2)
    have k3:=Dg.zero _ _ h
    subst k1 k2 k3;rfl
 ·intro a b
  unfold Ac
  by_cases e1:lX a.kind b.kind=0
  ·have k:=tCi_.zero _ _ e1
   rw [k]
   simp only [tCi_.refl,ne_eq,not_true_eq_false,if_false]
   by_cases e2:lX a.int b.int=0
   ·have k2:=tCi_.zero _ _ e2
    rw [k2]
    simp only [tCi_.refl,ne_eq,not_true_eq_false,if_false]
    exact Dg.anti _ _
   ·have e2':lX b.int a.int≠0:=fun e=>e2 (by rw [tCi_.zero _ _ e];exact tCi_.refl _)
    rw [if_pos e2,if_pos e2']
    exact tCi_.anti _ _
  ·have e1':lX b.kind a.kind≠0:=fun e=>e1 (by rw [tCi_.zero _ _ e];exact tCi_.refl _)
   rw [if_pos e1,if_pos e1']
   exact tCi_.anti _ _
 ·intro a b d h1 h2
  unfold Ac at *
  by_cases e1:lX a.kind b.kind=0
  ·have k:=tCi_.zero _ _ e1
   rw [k] at h1 ⊢
   simp only [tCi_.refl,ne_eq,not_true_eq_false,if_false] at h1
   by_cases f1:lX b.kind d.kind=0
   ·rw [if_neg (by simpa using f1)] at h2 ⊢
    by_cases e2:lX a.int b.int=0
    ·have k2:=tCi_.zero _ _ e2
     rw [k2] at h1 ⊢
     simp only [tCi_.refl,ne_eq,not_true_eq_false,if_false] at h1
     by_cases f2:lX b.int d.int=0
     ·rw [if_neg (by simpa using f2)] at h2 ⊢
      exact Dg.trans _ _ _ h1 h2
     ·rw [if_pos f2] at h2 ⊢;exact h2
    ·rw [if_pos e2] at h1
     by_cases f2:lX b.int d.int=0
     ·have k2:=tCi_.zero _ _ f2
      rw [<- k2,if_pos e2];exact h1
     ·rw [if_pos f2] at h2
      have:=tCi_.trans _ _ _ h1 h2
      rw [if_pos (by omega)];exact this
   ·rw [if_pos f1] at h2 ⊢;exact h2
  ·rw [if_pos e1] at h1
   by_cases f1:lX b.kind d.kind=0
   ·have k:=tCi_.zero _ _ f1
    rw [<- k,if_pos e1];exact h1
   ·rw [if_pos f1] at h2
    have:=tCi_.trans _ _ _ h1 h2
    rw [if_pos (by omega)];exact this
theorem tCr_:KT cO:=by
 have t:=WW aeg
 exact ⟨fun a=>by rw [vZ];exact t.refl _,fun a b h=>t.zero _ _ (by rw [<- vZ];exact h),fun a b=>by rw [vZ,vZ];exact t.anti _ _,fun a b d h1 h2=>by rw [vZ] at *;exact t.trans _ _ _ h1 h2⟩
section
variable {α:Type} {c:α->α->Int}
def Asc (c:α->α->Int) (l:List α):Prop:=l.Pairwise fun a b=>c a b<=0
theorem KT.le_trans (h:KT c) {a b d:α} (h1:c a b<=0) (h2:c b d<=0):c a d<=0:=by
 by_cases e1:c a b=0
 ·rw [h.zero a b e1];exact h2
 ·by_cases e2:c b d=0
  ·rw [<- h.zero b d e2];exact h1
  ·have:=h.trans a b d (by omega) (by omega);omega
theorem KT.total (h:KT c) (a b:α):c a b<=0\/c b a<=0:=by
 by_cases e:c a b<=0
 ·exact .inl e
 ·have:=(h.anti b a).2 (by omega);exact .inr (by omega)
theorem Eg (h:KT c) : ∀ {l m:List α}, Asc c l->Asc c m->l.Perm m->l=m
 | [],m,_,_,hp=>by rw [List.Perm.nil_eq hp]
 | x::l,[],_,_,hp=>by have:=hp.length_eq;simp at this
 | x::l,y::m,hl,hm,hp=>by
  have hx:x∈y::m:=hp.mem_iff.1 (aqM ..)
  have hy:y∈x::l:=hp.mem_iff.2 (aqM ..)
  rw [Asc,aqV] at hl hm
  have e:x=y:=by
   rcases aqf.1 hx with e|hx
   ·exact e
   ·rcases aqf.1 hy with e|hy
    ·exact e.symm
    ·have h1:=hm.1 x hx
     have h2:=hl.1 y hy
     by_cases e0:c x y=0
     ·exact h.zero _ _ e0
     ·have:=(h.anti x y).1 (by omega);omega
  subst e
  rw [Eg h hl.2 hm.2 (List.Perm.cons_inv hp)]
end
theorem WG (x y:Int):Tu x y=some (lX x y):=by
 unfold Tu Pt lX
 by_cases h1:x<y
 ·simp [h1]
 ·by_cases h2:y<x
  ·simp [h1,h2]
  ·simp [h1,h2]
def orS (_:Unit) (x:Int):Option (Sum Unit Int):=if x≠0 then some (.inr x) else some (.inl ())
theorem ao3 (a b c:Int):gOr [a,b,c]=some (if a≠0 then a else if b≠0 then b else c):=by
 unfold gOr
 rw [dI (l:=[a,b,c]) (mk:=fun (_:Unit) i=>i) (f:=orS) ?_ ?_ (by unfold fuel;simp) ()]
 ·unfold orS
  by_cases h1:a=0
  ·by_cases h2:b=0
   ·by_cases h3:c=0
    ·simp [d_,NI,ym,h1,h2,h3]
    ·simp [d_,NI,ym,h1,h2,h3]
   ·simp [d_,NI,ym,h1,h2]
  ·simp [d_,NI,ym,h1]
 ·intro s i x hx
  have hi:i<3:=(ap0.1 hx).1
  unfold UQ orS
  dsimp only
  rw [bf hx,ap2,gn_ hx]
  simp only [apZ]
  rw [wrapN (by omega)]
  by_cases h:x=0
  ·simp [h,w_]
  ·simp [h,w_]
 ·intro s
  unfold UQ
  dsimp only
  rw [lF_,ap1]
theorem GZ (v w:Val):Bc v w=some (Ac v w):=by
 unfold Bc
 rw [WG,WG]
 simp only [apZ]
 rw [ao3]
 rfl
theorem Y5 : ∀ (b:List Val),cO [] b=if b=[] then 0 else -1
 | []=>rfl
 | _::_=>rfl
theorem TE {a b:List Val} (ha:a.length<=4000000000000) (hb:b.length<=4000000000000) : ∀ (n i:Nat),i<=a.length->i<=b.length->a.length-i<n->(az (og a b fun x0 x1=>Bc x0 x1) n (i:Int)).bind (iL a b)=some (cO (a.drop i) (b.drop i))
 | 0,_,_,_,h=>by omega
 | n+1,i,h1,h2,hn=>by
  rw [az]
  by_cases hlt:i<a.length
  ·obtain ⟨x,hx⟩:=gol_ hlt
   have ex:=(ap0.1 hx).2
   have eb:og a b (fun x0 x1=>Bc x0 x1) (i:Int)=bif (decide (((b.length:Nat):Int)<=(i:Int))) then some (.ret (1:Int)) else (aT b (i:Int)).bind fun x_5=>(Bc x x_5).bind fun r_6=>bif (decide (r_6≠(0:Int))) then some (.ret r_6) else some (.next (IntKind.i64.wrap ((i:Int)+(1:Int)))):=by
    unfold og
    dsimp only
    rw [bf hx,ap2,gn_ hx]
    rfl
   rw [eb,aqv hlt,ex]
   by_cases hlb:i<b.length
   ·obtain ⟨y,hy⟩:=gol_ hlb
    have ey:=(ap0.1 hy).2
    rw [aqv hlb,ey,show decide (((b.length:Nat):Int)<=(i:Int))=false from ap3 (by omega),ap1,gn_ hy,cO]
    simp only [apZ,GZ]
    by_cases h:Ac x y=0
    ·simp only [h,ne_eq,not_true_eq_false,decide_false,ap1,if_false]
     rw [wrapN (by omega)]
     have k:=TE ha hb n (i+1) (by omega) (by omega) (by omega)
     simp only [GZ] at k
     exact k
    ·simp [h,iL]
   ·have:i=b.length:=by omega
    subst this
    rw [aqU,show decide (((b.length:Nat):Int)<=((b.length:Nat):Int))=true from ap4 (by omega),ap2]
    rfl
  ·have:i=a.length:=by omega
   subst this
   have eb:og a b (fun x0 x1=>Bc x0 x1) ((a.length:Nat):Int)=some (.exit ((a.length:Nat):Int)):=by
    unfold og
    dsimp only
    rw [lF_,ap1]
   rw [eb,aqU,Y5]
   show iL a b (.inl ((a.length:Nat):Int))=_
   unfold iL
   by_cases h:a.length<b.length
   ·rw [show decide (((a.length:Nat):Int)<((b.length:Nat):Int))=true from ap4 (by omega),ap2,if_neg (by rw [List.drop_eq_nil_iff];omega)]
   ·rw [show decide (((a.length:Nat):Int)<((b.length:Nat):Int))=false from ap3 (by omega),ap1,if_pos (by rw [List.drop_eq_nil_iff];omega)]
theorem ah5 (a b:List Val) (ha:a.length<=4000000000000) (hb:b.length<=4000000000000):Y6 a b=some (cO a b):=by
 unfold Y6 UF
 have:=TE ha hb fuel 0 (aqj _) (aqj _) (by unfold fuel;omega)
 rw [show (((0:Nat):Int))=0 from rfl] at this
 rw [this];rfl
theorem bytesLess_eq : ∀ a b:List UInt8,Op.bytesLess a b=decide (Lib.compareBytes a b<0)/\(a==b)=decide (Lib.compareBytes a b=0)
 | [],[]=>⟨rfl,rfl⟩
 | [],_::_=>⟨rfl,rfl⟩
 | _::_,[]=>⟨rfl,rfl⟩
 | x::a,y::b=>by
  have e2:Lib.compareBytes (x::a) (y::b)=if x<y then -1 else if y<x then 1 else Lib.compareBytes a b:=by rw [Lib.compareBytes]
  have e3:Op.bytesLess (x::a) (y::b)=(decide (x<y)||(x==y&&Op.bytesLess a b)):=by rw [Op.bytesLess]
  obtain ⟨i1,i2⟩:=bytesLess_eq a b
  rw [e2,e3,List.cons_beq_cons,i1,i2]
  by_cases h1:x<y
  ·have hne:x≠y:=fun e=>by rw [e] at h1;exact absurd h1 (UInt8.lt_irrefl y)
   simp [h1,hne]
  ·by_cases h2:y<x
   ·have hne:x≠y:=fun e=>by rw [e] at h2;exact absurd h2 (UInt8.lt_irrefl y)
    simp [h1,h2,hne]
   ·have heq:x=y:=UInt8.le_antisymm (UInt8.not_lt.1 h2) (UInt8.not_lt.1 h1)
    subst heq
    simp [h1]
theorem aeM (a b:ByteArray):Op.bytesLess a.toList b.toList=decide (Ab a b<0):=by
 unfold Ab
 rw [Lib.cmp_eq,ByteArray.toList_eq,ByteArray.toList_eq];exact (bytesLess_eq _ _).1
theorem ajk (a b:ByteArray):(a.toList==b.toList)=decide (Ab a b=0):=by
 unfold Ab
 rw [Lib.cmp_eq,ByteArray.toList_eq,ByteArray.toList_eq];exact (bytesLess_eq _ _).2
theorem ui : ∀ a b:List UInt8,Lib.compareBytes a b = -1\/Lib.compareBytes a b=0\/Lib.compareBytes a b=1
 | [],[] => .inr (.inl rfl)
 | [],_::_ => .inl rfl
 | _::_,[] => .inr (.inr rfl)
 | x::a,y::b=>by
  have e2:Lib.compareBytes (x::a) (y::b)=if x<y then -1 else if y<x then 1 else Lib.compareBytes a b:=by rw [Lib.compareBytes]
  rw [e2]
  split
  ·exact .inl rfl
  ·split
   ·exact .inr (.inr rfl)
   ·exact ui a b
theorem P6 (v w:Val):DT v w=some (Ac v w):=by
 unfold DT Ac Ol
 rw [aeM,ajk]
 have hr:Ab v.text w.text = -1\/Ab v.text w.text=0\/Ab v.text w.text=1:=by unfold Ab;rw [Lib.cmp_eq];exact ui _ _
 by_cases h1:v.kind=w.kind
 ·have e1:lX v.kind w.kind=0:=by rw [h1];exact tCi_.refl _
  by_cases h2:v.int=w.int
  ·have e2:lX v.int w.int=0:=by rw [h2];exact tCi_.refl _
   rw [e1,e2]
   simp only [h1,h2,ne_eq,not_true_eq_false,decide_false,ap1,if_false]
   rcases hr with h|h|h<;>rw [h]<;>rfl
  ·have e2:lX v.int w.int≠0:=fun e=>h2 (tCi_.zero _ _ e)
   rw [e1]
   simp only [h1,h2,e2,ne_eq,not_true_eq_false,not_false_eq_true,decide_false,decide_true,ap1,ap2,if_false,if_true]
   unfold lX
   by_cases h3:v.int<w.int
   ·simp [h3]
   ·have:w.int<v.int:=by omega
    simp [h3,this]
 ·have e1:lX v.kind w.kind≠0:=fun e=>h1 (tCi_.zero _ _ e)
  simp only [h1,e1,ne_eq,not_true_eq_false,not_false_eq_true,decide_false,decide_true,ap1,ap2,if_false,if_true]
  unfold lX
  by_cases h3:v.kind<w.kind
  ·simp [h3]
  ·have:w.kind<v.kind:=by omega
   simp [h3,this]
theorem Wq {a b:List Val} (ha:a.length<=4000000000000) (hb:b.length<=4000000000000) : ∀ (n i:Nat),i<=a.length->i<=b.length->a.length-i<n->(az (ku a b) n (i:Int)).bind (gu a b)=some (cO (a.drop i) (b.drop i))
 | 0,_,_,_,h=>by omega
 | n+1,i,h1,h2,hn=>by
  rw [az]
  by_cases hlt:i<a.length
  ·obtain ⟨x,hx⟩:=gol_ hlt
   have ex:=(ap0.1 hx).2
   rw [aqv hlt,ex]
   by_cases hlb:i<b.length
   ·obtain ⟨y,hy⟩:=gol_ hlb
    have ey:=(ap0.1 hy).2
    have eb:ku a b (i:Int)=bif (decide (Ac x y≠(0:Int))) then some (.ret (Ac x y)) else some (.next (IntKind.i64.wrap ((i:Int)+(1:Int)))):=by
     unfold ku
     dsimp only
     rw [bf hx,ap2,bf hy,ap2,gn_ hx,gn_ hy]
     simp only [apZ,P6]
    rw [eb,aqv hlb,ey,cO]
    by_cases h:Ac x y=0
    ·simp only [h,ne_eq,not_true_eq_false,decide_false,ap1,if_false]
     rw [wrapN (by omega)]
     exact Wq ha hb n (i+1) (by omega) (by omega) (by omega)
    ·simp [h,gu]
   ·have:i=b.length:=by omega
    subst this
    have eb:ku a b ((b.length:Nat):Int)=some (.exit ((b.length:Nat):Int)):=by
     unfold ku
     dsimp only
     rw [bf hx,ap2,lF_,ap1]
    rw [eb,aqU]
    show gu a b (.inl ((b.length:Nat):Int))=_
    unfold gu
    rw [show decide (((a.length:Nat):Int)<((b.length:Nat):Int))=false from ap3 (by omega),ap1,show decide (((b.length:Nat):Int)<((a.length:Nat):Int))=true from ap4 (by omega),ap2]
    rfl
  ·have:i=a.length:=by omega
   subst this
   have eb:ku a b ((a.length:Nat):Int)=some (.exit ((a.length:Nat):Int)):=by
    unfold ku
    dsimp only
    rw [lF_,ap1]
   rw [eb,aqU,Y5]
   show gu a b (.inl ((a.length:Nat):Int))=_
   unfold gu
   by_cases h:a.length<b.length
   ·rw [show decide (((a.length:Nat):Int)<((b.length:Nat):Int))=true from ap4 (by omega),ap2,if_neg (by rw [List.drop_eq_nil_iff];omega)]
   ·rw [show decide (((a.length:Nat):Int)<((b.length:Nat):Int))=false from ap3 (by omega),ap1,show decide (((b.length:Nat):Int)<((a.length:Nat):Int))=false from ap3 (by omega),ap1,if_pos (by rw [List.drop_eq_nil_iff];omega)]
theorem pY (a b:List Val) (ha:a.length<=4000000000000) (hb:b.length<=4000000000000):xn a b=some (cO a b):=by
 unfold xn
 have:=Wq ha hb fuel 0 (aqj _) (aqj _) (by unfold fuel;omega)
 rw [show (((0:Nat):Int))=0 from rfl] at this
 rw [this];rfl
set_option maxHeartbeats 8000000
def EP (a_a:aa) (a_b:aa):Option (Int):=(Y6 a_a.row a_b.row).bind fun r_1=>some r_1
theorem adD {a_a:aa} {a_b:aa} {r:Int} (H:EP a_a a_b=some r):Pure Tryz.prog 239 [.agg (ah a_a), .agg (ah a_b)] (.val (.one (.int .i64 r))):=by
 unfold EP at H
 refine po_ Tryz.func239 Tryz.ntmps239 ?_
 obtain ⟨r_1,c1,H⟩:=bd_ H
 replace c1:=agC c1
 try simp only [aqb,ap',aqd,ap5,aL] at c1
 obtain rfl:=aqw H
 exact aK
theorem adW (a b:aa) (ha:a.row.length<=4000000000000) (hb:b.row.length<=4000000000000):EP a b=some (cO a.row b.row):=by
 unfold EP
 rw [ah5 _ _ ha hb];rfl
def Nu {α:Type} (c:α->α->Int) (A:List α) (x:α):Nat->Nat
 | 0=>0
 | j+1=>match A[j]? with
  | some y=>if c x y<0 then Nu c A x j else j+1
  | none=>j+1
def ME {α:Type} (c:α->α->Int) (A:List α) (x:α):List α:=A.take (Nu c A x A.length)++x::A.drop (Nu c A x A.length)
def sN {α:Type} (c:α->α->Int) (l:List α):List α:=l.foldl (ME c) []
theorem Sd {α:Type} (c:α->α->Int) (B:List α) (x:α) : ∀ j,j<=B.length->Nu c B x j<=j/\(∀ i y,Nu c B x j<=i->i<j->B[i]?=some y->c x y<0)/\(∀ q,Nu c B x j=q+1 -> ∃ y,B[q]?=some y /\ ¬ c x y<0)
 | 0,_=>⟨aqe _,fun i y _ h=>by omega,fun q h=>by simp [Nu] at h⟩
 | j+1,hj=>by
  obtain ⟨y,hy⟩:=gol_ (show j<B.length by omega)
  obtain ⟨h1,h2,h3⟩:=Sd c B x j (by omega)
  unfold Nu
  simp only [hy]
  split
  ·rename_i hlt
   refine ⟨by omega,fun i z hi hij hz=>?_,h3⟩
   by_cases e:i=j
   ·subst e;rw [hy] at hz;injection hz with hz;subst hz;exact hlt
   ·exact h2 i z hi (by omega) hz
  ·rename_i hge
   exact ⟨aqe _,fun i z hi hij _=>by omega,fun q hq=>by injection hq with hq;subst hq;exact ⟨y,hy,hge⟩⟩
theorem aew {α:Type} (c:α->α->Int) (B:List α) (x:α):(ME c B x).Perm (x::B):=by
 unfold ME
 refine List.perm_middle.trans ?_
 rw [aqK]
theorem zT {α:Type} (c:α->α->Int) : ∀ (l B:List α),(l.foldl (ME c) B).Perm (l++B)
 | [],B=>List.Perm.refl _
 | x::l,B=>by
  rw [aqP]
  refine (zT c l (ME c B x)).trans ?_
  refine ((aew c B x).append_left l).trans ?_
  exact List.perm_middle
theorem zH {α:Type} (c:α->α->Int) (l:List α):(sN c l).Perm l:=by
 have:=zT c l []
 simpa [sN] using this
theorem ahq {α:Type} {c:α->α->Int} (htr : ∀ a b d,c a b<=0->c b d<=0->c a d<=0) (htot : ∀ a b, ¬ c a b<0->c b a<=0) {B:List α} (x:α) (h:B.Pairwise fun a b=>c a b<=0):(ME c B x).Pairwise fun a b=>c a b<=0:=by
 obtain ⟨h1,h2,h3⟩:=Sd c B x B.length (aqe _)
 unfold ME
 generalize Nu c B x B.length=p at h1 h2 h3
 have hd : ∀ y∈B.drop p,c x y<=0:=by
  intro y hy
  obtain ⟨i,hi⟩:=List.getElem?_of_mem hy
  rw [aqL] at hi
  have:=(ap0.1 hi).1
  have:=h2 (p+i) y (by omega) this hi
  omega
 have ht : ∀ y∈B.take p,c y x<=0:=by
  intro y hy
  cases p with
  | zero=>simp at hy
  | succ q =>
   obtain ⟨z,hz,hge⟩:=h3 q rfl
   have hzx:=htot x z hge
   obtain ⟨i,hi⟩:=List.getElem?_of_mem hy
   have hil:i<q+1:=by have:=(ap0.1 hi).1;rw [aqQ] at this;omega
   rw [List.getElem?_take_of_lt hil] at hi
   by_cases e:i=q
   ·subst e;rw [hi] at hz;injection hz with hz;subst hz;exact hzx
   ·have hlt:i<q:=by omega
    have hi':=ap0.1 hi
    have hz':=ap0.1 hz
    have:=List.pairwise_iff_getElem.1 h i q hi'.1 hz'.1 hlt
    rw [hi'.2,hz'.2] at this
    exact htr _ _ _ this hzx
 refine List.pairwise_append.2 ⟨h.sublist (List.take_sublist _ _),aqV.2 ⟨hd,h.sublist (List.drop_sublist _ _)⟩,fun a ha b hb=>?_⟩
 rcases aqf.1 hb with rfl|hb
 ·exact ht a ha
 ·exact htr _ _ _ (ht a ha) (hd b hb)
theorem Tz {α:Type} {c:α->α->Int} (htr : ∀ a b d,c a b<=0->c b d<=0->c a d<=0) (htot : ∀ a b, ¬ c a b<0->c b a<=0) (l:List α):(sN c l).Pairwise fun a b=>c a b<=0:=by
 have : ∀ (l B:List α),(B.Pairwise fun a b=>c a b<=0)->(l.foldl (ME c) B).Pairwise fun a b=>c a b<=0:=by
  intro l
  induction l with
  | nil=>intro B h;exact h
  | cons x l ih=>intro B h;exact ih _ (ahq htr htot x h)
 exact this l [] List.Pairwise.nil
abbrev jO (a b:aa):Int:=cO a.row b.row
abbrev lN (s:aa):jT:=(dM s.row, .lst (s.periods.map bv))
theorem apD {L:List Ob} {v k:Nat} {l:List jT} {x:AV} {xs:List AV} (h0:L[3]?=some (Ob.row v (l.map xx) k)) (hx : ∀ y∈x::xs,y.below 1):kW [3] [Ob.row v (l.map xx) k] (x::xs) L:=by
 refine ⟨rfl,by simp,fun i y hy=>?_,bT ⟨ed _ _ _ _,trivial⟩,hx⟩
 match i,hy with
 | 0,hy=>simp at hy;subst hy;rw [Gy];exact h0
 | i+1,hy=>simp at hy
theorem jG3 {L L':List Ob} {v k:Nat} {l:List jT} (h:L.set 3 (Ob.row v (l.map xx) k)=L'):joinL [3] L [Ob.row v (l.map xx) k]=L':=by
 subst h
 simp [joinL,join,fJ,dK,jF,Gy]
def tK (l:List aC):List aa:=sN jO ((fK l).map fun g=>⟨g.f.row,g.ps⟩)
theorem aac:Pure Tryz.prog 238 [.one (.lst []), .one (.fn 239 [])] (.tup []):=(oz Hd 40).1 _ _ _ (by kernel_rfl)
abbrev dV {α:Type} (enc:α->List AC) (k v:Nat) (X:List α):Ob := .row v ((X.map enc).map (List.map SV.c)) k
theorem X3 {α:Type} (enc:α->List AC) (k v:Nat) (X:List α) (σ:List Nat):(dV enc k v X).ren σ=dV enc k v X:=by
 show Ob.row v (((X.map enc).map (List.map SV.c)).map (List.map (SV.ren σ))) k=_
 rw [List.map_map]
 congr 1
 refine List.map_congr_left fun e _=>?_
 show (e.map SV.c).map (SV.ren σ)=e.map SV.c
 rw [List.map_map]
 rfl
theorem bq {α:Type} (n:Nat) (enc:α->List AC) (k v:Nat) (X:List α):(dV enc k v X).below n:=oC n v k enc X
theorem rfX {α:Type} {enc:α->List AC} {k v:Nat} {X:List α} {L:List Ob} {args:List AV} (h0:L[0]?=some (dV enc k v X)) (hx : ∀ y∈args,y.below 1):kW [0] [dV enc k v X] args L:=by
 refine ⟨rfl,by simp,fun i y hy=>?_,bT ⟨bq _ _ _ _ _,trivial⟩,hx⟩
 match i,hy with
 | 0,hy=>simp only [List.getElem?_cons_zero,Option.some.injEq] at hy;subst hy;rw [X3];exact h0
 | i+1,hy=>simp at hy
theorem jX {α:Type} {enc:α->List AC} {k v:Nat} {X:List α} {L L':List Ob} (h:L.set 0 (dV enc k v X)=L'):joinL [0] L [dV enc k v X]=L':=by
 subst h
 simp only [joinL,join,fJ,dK,jF,ap',aqd,X3]
 simp
section
variable {P:Program} {ti:TI} {N:Nat} {ds:List (Option Tmp)} {K:Tm->List Ob->Prop} {rest:List Oper} {o:Oper} {T:Tm} {L:List Ob}
theorem r_ {α:Type} {enc:α->List AC} {X Y:List α} {g:FuncId} {asx args:List AV} {v k d:Nat} (hd:o.dst=some d) (hN:Nat.blt d N=true) (hg:kH ds T o.guard=some true) (hp:fM ti (look T) o.op=some (g,asx)) (hL:L[0]?=some (dV enc k v X)) (h:aX P ti N ds K rest ((d, .tup [])::T) (L.set 0 (dV enc k v Y)))
  (hc:Run P g [dV enc k v X] args [dV enc k v Y] (.tup []):=by assumption) (ha:asx=args.map (AV.ren [0]):=by rfl) (hb : ∀ y∈args,y.below 1:=by refine dE ?_;repeat' (first|refine ⟨?_,?_⟩|exact trivial|exact lt_)):aX P ti N ds K (o::rest) T L :=
 eP [0] hd hN hg hp hc ha (rfX hL hb) rfl (jX rfl) h
theorem anU {α:Type} {enc:α->List AC} {X:List α} {x:α} {t:TypeId} {p:Operand} {id ver i k d:Nat} (hd:o.dst=some d) (hN:Nat.blt d N=true) {g0:Bool} (hg:kH ds T o.guard=some g0) (ho:o.op = .load t p) (hp:look T p=some (.one (.ep id ver i 0))) (hL:L[id]?=some (dV enc k ver X)) (ha:ti.agg t=some true) (hn:ti.size t=some k) (hk : ∀ x,(enc x).length=k)
  (h:aX P ti N ds K rest ((d, .agg ((enc x).map SV.c))::T) L) (hx:X[i]?=some x:=by assumption) (hg1:g0=true:=by first|rfl|exact nX (by first|assumption|exact pz (by assumption))|exact oh (by first|assumption|exact o8 (by assumption))):aX P ti N ds K (o::rest) T L:=by
 subst hg1
 have hl:((enc x).map SV.c).length=k:=by rw [aqa,hk]
 refine Vw hd hN hg ho hp hL ha hn (e:=(enc x).map SV.c) ?_ (by rw [List.drop_zero, <- hl,List.take_length]) (by omega) h
 rw [aql,aql,hx];rfl
theorem aob {α:Type} {enc:α->List AC} {X:List α} {x:α} {y:AC} {t:TypeId} {p:Operand} {id ver i k d:Nat} (hd:o.dst=some d) (hN:Nat.blt d N=true) {g0:Bool} (hg:kH ds T o.guard=some g0) (ho:o.op = .load t p) (hp:look T p=some (.one (.ep id ver i 0))) (hL:L[id]?=some (dV enc k ver X)) (ha:ti.agg t=some false)
  (h:aX P ti N ds K rest ((d, .one (.c y))::T) L) (hx:X[i]?=some x:=by assumption) (hy:enc x=[y]:=by rfl) (hg1:g0=true:=by first|rfl|exact nX (by first|assumption|exact pz (by assumption))|exact oh (by first|assumption|exact o8 (by assumption))):aX P ti N ds K (o::rest) T L:=by
 subst hg1
 refine sP hd hN hg ho hp hL ha (e:=(enc x).map SV.c) (x := .c y) ?_ (by rw [hy];rfl) h
 rw [aql,aql,hx];rfl
end
theorem qA {α β:Type} {X:List α} {i:Int} {k:α->Option β} {r:β} (H:(aT X i).bind k=some r) : ∃ x,X[0+i.toNat]?=some x/\k x=some r:=by
 obtain ⟨x,h,K⟩:=bd_ H
 obtain ⟨h0,h1⟩:=nW h
 exact ⟨x,by rw [aqH];exact h1,K⟩
theorem DF {p q:Prop} (k:q) (h:Bx q->p:=by
 intro hq
 repeat' (first
  | refine r_ rfl rfl rfl rfl rfl ?_|refine anU rfl rfl rfl rfl rfl rfl rfl rfl (fun _=>rfl) ?_|refine aob rfl rfl rfl rfl rfl rfl rfl ?_|refine Mf rfl rfl rfl rfl rfl (by omega) rfl (fun _=>rfl) rfl ?_|refine p_ rfl rfl rfl rfl rfl ?_|refine st_nil ?_|refine x_ rfl rfl rfl rfl rfl rfl rfl rfl ?_|refine l_ rfl rfl rfl rfl ?_|refine s_ rfl rfl rfl ?_|refine t_ rfl rfl rfl rfl ?_|refine k_ rfl rfl rfl ?_|refine k0_ rfl rfl ?_|refine c_ rfl rfl rfl rfl ?_|refine pick_t rfl rfl rfl rfl rfl rfl rfl ?_|refine pick_f rfl rfl rfl rfl rfl rfl rfl ?_|refine aw_seq ?_|refine aw_region aj _ rfl ?_|refine aw_drawn2 bG _ rfl mixed (by decide +kernel) ?_|refine aw_condT rfl ?_|refine aw_condF rfl ?_|refine aw_block ?_|refine aw_exit ?_|refine aw_ret ?_|refine aw_skip ?_|rw [aqa]|rw [mn_norm]|rw [mx_norm])
 exact hq.out):p:=h ⟨k⟩
theorem mY {p:Prop} (h:p:=by
 repeat' (first
  | refine r_ rfl rfl rfl rfl rfl ?_|refine anU rfl rfl rfl rfl rfl rfl rfl rfl (fun _=>rfl) ?_|refine aob rfl rfl rfl rfl rfl rfl rfl ?_|refine Mf rfl rfl rfl rfl rfl (by omega) rfl (fun _=>rfl) rfl ?_|refine p_ rfl rfl rfl rfl rfl ?_|refine st_nil ?_|refine x_ rfl rfl rfl rfl rfl rfl rfl rfl ?_|refine l_ rfl rfl rfl rfl ?_|refine s_ rfl rfl rfl ?_|refine t_ rfl rfl rfl rfl ?_|refine k_ rfl rfl rfl ?_|refine k0_ rfl rfl ?_|refine c_ rfl rfl rfl rfl ?_|refine pick_t rfl rfl rfl rfl rfl rfl rfl ?_|refine pick_f rfl rfl rfl rfl rfl rfl rfl ?_|refine aw_seq ?_|refine aw_region aj _ rfl ?_|refine aw_drawn2 bG _ rfl mixed (by decide +kernel) ?_|refine aw_condT rfl ?_|refine aw_condF rfl ?_|refine aw_block ?_|refine aw_exit ?_|refine aw_ret ?_|refine aw_skip ?_|rw [aqa]|rw [mn_norm]|rw [mx_norm])
 first
  | exact ⟨.inl rfl,⟨.inr ⟨.tup [],⟨trivial,rfl⟩,rfl⟩,⟨[],rfl⟩,by simp,bT ⟨bq _ _ _ _ _,trivial⟩,trivial⟩⟩
  | exact ⟨.inr rfl,⟨.inr ⟨.tup [],⟨trivial,rfl⟩,rfl⟩,⟨[],rfl⟩,by simp,bT ⟨bq _ _ _ _ _,trivial⟩,trivial⟩⟩):p:=h
set_option maxHeartbeats 8000000
abbrev df (x:Int):Int:=IntKind.i64.wrap (Int.fdiv (IntKind.u64.wrap x) (2 ^ (min (Int.toNat (1:Int)) (IntKind.bits .u64))))
def iw {α:Type} (a_a:Int) (a_b:Int) (a_n:Int) (n:Nat):((List α) × Int)->Option (Step ((List α) × Int) (List α)):=fun s=>match s with
 | (c_1,i_2)=>bif (decide (i_2<a_n)) then bif (decide (0<=(IntKind.i64.wrap (a_b+i_2)))) then (bif (decide ((IntKind.i64.wrap (a_b+i_2))<((n:Nat):Int))) then ((aT c_1 (IntKind.i64.wrap (a_b+i_2))).bind fun x_4=>bif (decide (0<=(IntKind.i64.wrap (a_a+i_2)))) then (bif (decide ((IntKind.i64.wrap (a_a+i_2))<((n:Nat):Int))) then ((aT c_1 (IntKind.i64.wrap (a_a+i_2))).bind fun x_5=>bif (decide (0<=(IntKind.i64.wrap (a_a+i_2)))) then (bif (decide ((IntKind.i64.wrap (a_a+i_2))<((n:Nat):Int))) then (bif (decide ((0+(IntKind.i64.wrap (a_a+i_2)).toNat)<c_1.length)) then (bif (decide (0<=(IntKind.i64.wrap (a_b+i_2)))) then (bif (decide ((IntKind.i64.wrap (a_b+i_2))<((n:Nat):Int))) then (bif (decide ((0+(IntKind.i64.wrap (a_b+i_2)).toNat)<(c_1.set (0+(IntKind.i64.wrap (a_a+i_2)).toNat) x_4).length)) then (some (.next (((c_1.set (0+(IntKind.i64.wrap (a_a+i_2)).toNat) x_4).set (0+(IntKind.i64.wrap (a_b+i_2)).toNat) x_5),(IntKind.i64.wrap (i_2+(1:Int)))))) else none) else none) else none) else none) else none) else none) else none) else none) else none) else none else
 some (.exit (c_1,i_2))
def vG {α:Type} : Sum ((List α) × Int) (List α)->Option ((List α))
 | .inl (c_1,i_2)=>some c_1
 | .inr q=>some q
def lW {α:Type} (n:Nat) (a_data:(List α)) (a_a:Int) (a_b:Int) (a_n:Int) (a_cmp:α->α->Option (Int)):Option (List α):=(az (iw a_a a_b a_n n) fuel (a_data,(0:Int))).bind (vG)
def iZ {α:Type} (a_m:Int) (a_cmp:α->α->Option (Int)) (n:Nat):((List α) × Int × Int)->Option (Step ((List α) × Int × Int) (List α)):=fun s=>match s with
 | (c_1,i_2,j_3)=>bif (decide (i_2≠j_3)) then bif (decide (j_3<i_2)) then (lW n c_1 (IntKind.i64.wrap (a_m-i_2)) a_m j_3 a_cmp).bind fun c_6=>some (.next (c_6,(IntKind.i64.wrap (i_2-j_3)),j_3)) else
 (lW n c_1 (IntKind.i64.wrap (a_m-i_2)) (IntKind.i64.wrap ((IntKind.i64.wrap (a_m+j_3))-i_2)) i_2 a_cmp).bind fun c_7=>some (.next (c_7,i_2,(IntKind.i64.wrap (j_3-i_2)))) else
 some (.exit (c_1,i_2,j_3))
def ye {α:Type} (a_m:Int) (a_cmp:α->α->Option (Int)) (n:Nat):Sum ((List α) × Int × Int) (List α)->Option ((List α))
 | .inl (c_1,i_2,j_3)=>(lW n c_1 (IntKind.i64.wrap (a_m-i_2)) a_m i_2 a_cmp).bind fun c_8=>some c_8
 | .inr q=>some q
def uq {α:Type} (n:Nat) (a_data:(List α)) (a_a:Int) (a_m:Int) (a_b:Int) (a_cmp:α->α->Option (Int)):Option (List α):=(az (iZ a_m a_cmp n) fuel (a_data,(IntKind.i64.wrap (a_m-a_a)),(IntKind.i64.wrap (a_b-a_m)))).bind (ye a_m a_cmp n)
def gV {α:Type} (a_a:Int) (a_cmp:α->α->Option (Int)) (n:Nat):((List α) × Int)->Option (Step ((List α) × Int) (List α)):=fun s=>match s with
 | (c_4,j_5)=>bif (decide (a_a<j_5)) then bif (decide (0<=j_5)) then (bif (decide (j_5<((n:Nat):Int))) then ((aT c_4 j_5).bind fun x_7=>bif (decide (0<=(IntKind.i64.wrap (j_5-(1:Int))))) then (bif (decide ((IntKind.i64.wrap (j_5-(1:Int)))<((n:Nat):Int))) then ((aT c_4 (IntKind.i64.wrap (j_5-(1:Int)))).bind fun x_8=>(a_cmp x_7 x_8).bind fun r_9=>bif (decide (r_9<(0:Int))) then bif (decide (0<=(IntKind.i64.wrap (j_5-(1:Int))))) then (bif (decide ((IntKind.i64.wrap (j_5-(1:Int)))<((n:Nat):Int))) then (bif (decide (0<=j_5)) then (bif (decide (j_5<((n:Nat):Int))) then (bif (decide (0<=j_5)) then (bif (decide (j_5<((n:Nat):Int))) then (bif (decide ((0+j_5.toNat)<c_4.length)) then (bif (decide (0<=(IntKind.i64.wrap (j_5-(1:Int))))) then (bif (decide ((IntKind.i64.wrap (j_5-(1:Int)))<((n:Nat):Int))) then (bif (decide ((0+(IntKind.i64.wrap (j_5-(1:Int))).toNat)<(c_4.set (0+j_5.toNat) x_8).length)) then (some (.next (((c_4.set (0+j_5.toNat) x_8).set (0+(IntKind.i64.wrap (j_5-(1:Int))).toNat) x_7),(IntKind.i64.wrap (j_5-(1:Int)))))) else none) else none) else none) else none) else none) else none) else none) else none) else none) else none else
 some (.exit (c_4,j_5))) else none) else none) else none) else none else
 some (.exit (c_4,j_5))
def mM {α:Type} (i_2:Int):Sum ((List α) × Int) (List α)->Option (Step ((List α) × Int) (List α))
 | .inl (c_4,j_5)=>some (.next (c_4,(IntKind.i64.wrap (i_2+(1:Int)))))
 | .inr q=>some (.ret q)
def ic {α:Type} (a_a:Int) (a_b:Int) (a_cmp:α->α->Option (Int)) (n:Nat):((List α) × Int)->Option (Step ((List α) × Int) (List α)):=fun s=>match s with
 | (c_1,i_2)=>bif (decide (i_2<a_b)) then (az (gV a_a a_cmp n) fuel (c_1,i_2)).bind (mM i_2) else
 some (.exit (c_1,i_2))
def BR {α:Type} : Sum ((List α) × Int) (List α)->Option ((List α))
 | .inl (c_1,i_2)=>some c_1
 | .inr q=>some q
def wm {α:Type} (n:Nat) (a_data:(List α)) (a_a:Int) (a_b:Int) (a_cmp:α->α->Option (Int)):Option (List α):=(az (ic a_a a_b a_cmp n) fuel (a_data,(IntKind.i64.wrap (a_a+(1:Int))))).bind (BR)
def sI {α:Type} (n:Nat) (i_2:Int):((List α) × Int)->Option (Step ((List α) × Int) (List α)):=fun s=>match s with
 | (c_9,k_10)=>bif (decide (k_10<(IntKind.i64.wrap (i_2-(1:Int))))) then bif (decide (0<=(IntKind.i64.wrap (k_10+(1:Int))))) then (bif (decide ((IntKind.i64.wrap (k_10+(1:Int)))<((n:Nat):Int))) then ((aT c_9 (IntKind.i64.wrap (k_10+(1:Int)))).bind fun x_12=>bif (decide (0<=k_10)) then (bif (decide (k_10<((n:Nat):Int))) then ((aT c_9 k_10).bind fun x_13=>bif (decide (0<=k_10)) then (bif (decide (k_10<((n:Nat):Int))) then (bif (decide ((0+k_10.toNat)<c_9.length)) then (bif (decide (0<=(IntKind.i64.wrap (k_10+(1:Int))))) then (bif (decide ((IntKind.i64.wrap (k_10+(1:Int)))<((n:Nat):Int))) then (bif (decide ((0+(IntKind.i64.wrap (k_10+(1:Int))).toNat)<(c_9.set (0+k_10.toNat) x_12).length)) then (some (.next (((c_9.set (0+k_10.toNat) x_12).set (0+(IntKind.i64.wrap (k_10+(1:Int))).toNat) x_13),(IntKind.i64.wrap (k_10+(1:Int)))))) else none) else none) else none) else none) else none) else none) else none) else none) else none) else none else
 some (.exit (c_9,k_10))
def Nl {α:Type} : Sum ((List α) × Int) (List α)->Option ((List α))
 | .inl (c_9,k_10)=>some c_9
 | .inr q=>some q
def wT {α:Type} (a_data:List α) (a_a:Int) (a_cmp:α->α->Option (Int)) (n:Nat):(Int × Int)->Option (Step (Int × Int) (List α)):=fun s=>match s with
 | (i_2,j_3)=>bif (decide (i_2<j_3)) then bif (decide (0<=(df (IntKind.i64.wrap (i_2+j_3))))) then (bif (decide ((df (IntKind.i64.wrap (i_2+j_3)))<((n:Nat):Int))) then ((aT a_data (df (IntKind.i64.wrap (i_2+j_3)))).bind fun x_5=>bif (decide (0<=a_a)) then (bif (decide (a_a<((n:Nat):Int))) then ((aT a_data a_a).bind fun x_6=>(a_cmp x_5 x_6).bind fun r_7=>bif (decide (r_7<(0:Int))) then some (.next ((IntKind.i64.wrap ((df (IntKind.i64.wrap (i_2+j_3)))+(1:Int))),j_3)) else
 some (.next (i_2,(df (IntKind.i64.wrap (i_2+j_3)))))) else none) else none) else none) else none else
 some (.exit (i_2,j_3))
def Ag {α:Type} (a_data:List α) (a_a:Int) (n:Nat):Sum (Int × Int) (List α)->Option ((List α))
 | .inl (i_2,j_3)=>(az (sI n i_2) fuel (a_data,a_a)).bind (Nl)
 | .inr q=>some q
def rJ {α:Type} (n:Nat) (i_15:Int):((List α) × Int)->Option (Step ((List α) × Int) (List α)):=fun s=>match s with
 | (c_22,k_23)=>bif (decide (i_15<k_23)) then bif (decide (0<=(IntKind.i64.wrap (k_23-(1:Int))))) then (bif (decide ((IntKind.i64.wrap (k_23-(1:Int)))<((n:Nat):Int))) then ((aT c_22 (IntKind.i64.wrap (k_23-(1:Int)))).bind fun x_25=>bif (decide (0<=k_23)) then (bif (decide (k_23<((n:Nat):Int))) then ((aT c_22 k_23).bind fun x_26=>bif (decide (0<=k_23)) then (bif (decide (k_23<((n:Nat):Int))) then (bif (decide ((0+k_23.toNat)<c_22.length)) then (bif (decide (0<=(IntKind.i64.wrap (k_23-(1:Int))))) then (bif (decide ((IntKind.i64.wrap (k_23-(1:Int)))<((n:Nat):Int))) then (bif (decide ((0+(IntKind.i64.wrap (k_23-(1:Int))).toNat)<(c_22.set (0+k_23.toNat) x_25).length)) then (some (.next (((c_22.set (0+k_23.toNat) x_25).set (0+(IntKind.i64.wrap (k_23-(1:Int))).toNat) x_26),(IntKind.i64.wrap (k_23-(1:Int)))))) else none) else none) else none) else none) else none) else none) else none) else none) else none) else none else
 some (.exit (c_22,k_23))
def Ml {α:Type} : Sum ((List α) × Int) (List α)->Option ((List α))
 | .inl (c_22,k_23)=>some c_22
 | .inr q=>some q
def wz {α:Type} (a_data:List α) (a_m:Int) (a_cmp:α->α->Option (Int)) (n:Nat):(Int × Int)->Option (Step (Int × Int) (List α)):=fun s=>match s with
 | (i_15,j_16)=>bif (decide (i_15<j_16)) then bif (decide (0<=a_m)) then (bif (decide (a_m<((n:Nat):Int))) then ((aT a_data a_m).bind fun x_18=>bif (decide (0<=(df (IntKind.i64.wrap (i_15+j_16))))) then (bif (decide ((df (IntKind.i64.wrap (i_15+j_16)))<((n:Nat):Int))) then ((aT a_data (df (IntKind.i64.wrap (i_15+j_16)))).bind fun x_19=>(a_cmp x_18 x_19).bind fun r_20=>bif (!(decide (r_20<(0:Int)))) then some (.next ((IntKind.i64.wrap ((df (IntKind.i64.wrap (i_15+j_16)))+(1:Int))),j_16)) else
 some (.next (i_15,(df (IntKind.i64.wrap (i_15+j_16)))))) else none) else none) else none) else none else
 some (.exit (i_15,j_16))
def Am {α:Type} (a_data:List α) (a_m:Int) (n:Nat):Sum (Int × Int) (List α)->Option ((List α))
 | .inl (i_15,j_16)=>(az (rJ n i_15) fuel (a_data,a_m)).bind (Ml)
 | .inr q=>some q
def qa {α:Type} (a_data:List α) (a_a:Int) (a_m:Int) (a_b:Int) (a_cmp:α->α->Option (Int)) (n:Nat):(Int × Int)->Option (Step (Int × Int) (List α)):=fun s=>match s with
 | (start_28,r_29)=>bif (decide (start_28<r_29)) then bif (decide (0<=(IntKind.i64.wrap ((IntKind.i64.wrap ((IntKind.i64.wrap ((df (IntKind.i64.wrap (a_a+a_b)))+a_m))-(1:Int)))-(df (IntKind.i64.wrap (start_28+r_29))))))) then (bif (decide ((IntKind.i64.wrap ((IntKind.i64.wrap ((IntKind.i64.wrap ((df (IntKind.i64.wrap (a_a+a_b)))+a_m))-(1:Int)))-(df (IntKind.i64.wrap (start_28+r_29)))))<((n:Nat):Int))) then ((aT a_data (IntKind.i64.wrap ((IntKind.i64.wrap ((IntKind.i64.wrap ((df (IntKind.i64.wrap (a_a+a_b)))+a_m))-(1:Int)))-(df (IntKind.i64.wrap (start_28+r_29)))))).bind fun x_31=>bif (decide (0<=(df (IntKind.i64.wrap (start_28+r_29))))) then (bif (decide ((df (IntKind.i64.wrap (start_28+r_29)))<((n:Nat):Int))) then ((aT a_data (df (IntKind.i64.wrap (start_28+r_29)))).bind fun x_32=>(a_cmp x_31 x_32).bind fun r_33=>bif (!(decide (r_33<(0:Int)))) then some (.next ((IntKind.i64.wrap ((df (IntKind.i64.wrap (start_28+r_29)))+(1:Int))),r_29)) else
 some (.next (start_28,(df (IntKind.i64.wrap (start_28+r_29)))))) else none) else none) else none) else none else
 some (.exit (start_28,r_29))
def pJ {α:Type} (a_data:List α) (a_a:Int) (a_m:Int) (a_b:Int) (a_cmp:α->α->Option (Int)) (n:Nat) (rec:Nat->List α->Int->Int->Int->(α->α->Option Int)->Option (List α)):Sum (Int × Int) (List α)->Option ((List α))
 | .inl (start_28,r_29)=>bif (decide (start_28<a_m)) then bif (decide (a_m<(IntKind.i64.wrap ((IntKind.i64.wrap ((df (IntKind.i64.wrap (a_a+a_b)))+a_m))-start_28)))) then (uq n a_data start_28 a_m (IntKind.i64.wrap ((IntKind.i64.wrap ((df (IntKind.i64.wrap (a_a+a_b)))+a_m))-start_28)) a_cmp).bind fun c_37=>bif (decide (a_a<start_28)) then bif (decide (start_28<(df (IntKind.i64.wrap (a_a+a_b))))) then (rec n c_37 a_a start_28 (df (IntKind.i64.wrap (a_a+a_b))) a_cmp).bind fun c_40=>bif (decide ((df (IntKind.i64.wrap (a_a+a_b)))<(IntKind.i64.wrap ((IntKind.i64.wrap ((df (IntKind.i64.wrap (a_a+a_b)))+a_m))-start_28)))) then bif (decide ((IntKind.i64.wrap ((IntKind.i64.wrap ((df (IntKind.i64.wrap (a_a+a_b)))+a_m))-start_28))<a_b)) then (rec n c_40 (df (IntKind.i64.wrap (a_a+a_b))) (IntKind.i64.wrap ((IntKind.i64.wrap ((df (IntKind.i64.wrap (a_a+a_b)))+a_m))-start_28)) a_b a_cmp).bind fun c_43=>some c_43 else
 some c_40 else
 some c_40 else
 bif (decide ((df (IntKind.i64.wrap (a_a+a_b)))<(IntKind.i64.wrap ((IntKind.i64.wrap ((df (IntKind.i64.wrap (a_a+a_b)))+a_m))-start_28)))) then bif (decide ((IntKind.i64.wrap ((IntKind.i64.wrap ((df (IntKind.i64.wrap (a_a+a_b)))+a_m))-start_28))<a_b)) then (rec n c_37 (df (IntKind.i64.wrap (a_a+a_b))) (IntKind.i64.wrap ((IntKind.i64.wrap ((df (IntKind.i64.wrap (a_a+a_b)))+a_m))-start_28)) a_b a_cmp).bind fun c_46=>some c_46 else
 some c_37 else
 some c_37 else
 bif (decide ((df (IntKind.i64.wrap (a_a+a_b)))<(IntKind.i64.wrap ((IntKind.i64.wrap ((df (IntKind.i64.wrap (a_a+a_b)))+a_m))-start_28)))) then bif (decide ((IntKind.i64.wrap ((IntKind.i64.wrap ((df (IntKind.i64.wrap (a_a+a_b)))+a_m))-start_28))<a_b)) then (rec n c_37 (df (IntKind.i64.wrap (a_a+a_b))) (IntKind.i64.wrap ((IntKind.i64.wrap ((df (IntKind.i64.wrap (a_a+a_b)))+a_m))-start_28)) a_b a_cmp).bind fun c_49=>some c_49 else
 some c_37 else
 some c_37 else
 bif (decide (a_a<start_28)) then bif (decide (start_28<(df (IntKind.i64.wrap (a_a+a_b))))) then (rec n a_data a_a start_28 (df (IntKind.i64.wrap (a_a+a_b))) a_cmp).bind fun c_52=>bif (decide ((df (IntKind.i64.wrap (a_a+a_b)))<(IntKind.i64.wrap ((IntKind.i64.wrap ((df (IntKind.i64.wrap (a_a+a_b)))+a_m))-start_28)))) then bif (decide ((IntKind.i64.wrap ((IntKind.i64.wrap ((df (IntKind.i64.wrap (a_a+a_b)))+a_m))-start_28))<a_b)) then (rec n c_52 (df (IntKind.i64.wrap (a_a+a_b))) (IntKind.i64.wrap ((IntKind.i64.wrap ((df (IntKind.i64.wrap (a_a+a_b)))+a_m))-start_28)) a_b a_cmp).bind fun c_55=>some c_55 else
 some c_52 else
 some c_52 else
 bif (decide ((df (IntKind.i64.wrap (a_a+a_b)))<(IntKind.i64.wrap ((IntKind.i64.wrap ((df (IntKind.i64.wrap (a_a+a_b)))+a_m))-start_28)))) then bif (decide ((IntKind.i64.wrap ((IntKind.i64.wrap ((df (IntKind.i64.wrap (a_a+a_b)))+a_m))-start_28))<a_b)) then (rec n a_data (df (IntKind.i64.wrap (a_a+a_b))) (IntKind.i64.wrap ((IntKind.i64.wrap ((df (IntKind.i64.wrap (a_a+a_b)))+a_m))-start_28)) a_b a_cmp).bind fun c_58=>some c_58 else
 some a_data else
 some a_data else
 bif (decide ((df (IntKind.i64.wrap (a_a+a_b)))<(IntKind.i64.wrap ((IntKind.i64.wrap ((df (IntKind.i64.wrap (a_a+a_b)))+a_m))-start_28)))) then bif (decide ((IntKind.i64.wrap ((IntKind.i64.wrap ((df (IntKind.i64.wrap (a_a+a_b)))+a_m))-start_28))<a_b)) then (rec n a_data (df (IntKind.i64.wrap (a_a+a_b))) (IntKind.i64.wrap ((IntKind.i64.wrap ((df (IntKind.i64.wrap (a_a+a_b)))+a_m))-start_28)) a_b a_cmp).bind fun c_61=>some c_61 else
 some a_data else
 some a_data else
 bif (decide (a_a<start_28)) then bif (decide (start_28<(df (IntKind.i64.wrap (a_a+a_b))))) then (rec n a_data a_a start_28 (df (IntKind.i64.wrap (a_a+a_b))) a_cmp).bind fun c_64=>bif (decide ((df (IntKind.i64.wrap (a_a+a_b)))<(IntKind.i64.wrap ((IntKind.i64.wrap ((df (IntKind.i64.wrap (a_a+a_b)))+a_m))-start_28)))) then bif (decide ((IntKind.i64.wrap ((IntKind.i64.wrap ((df (IntKind.i64.wrap (a_a+a_b)))+a_m))-start_28))<a_b)) then (rec n c_64 (df (IntKind.i64.wrap (a_a+a_b))) (IntKind.i64.wrap ((IntKind.i64.wrap ((df (IntKind.i64.wrap (a_a+a_b)))+a_m))-start_28)) a_b a_cmp).bind fun c_67=>some c_67 else
 some c_64 else
 some c_64 else
 bif (decide ((df (IntKind.i64.wrap (a_a+a_b)))<(IntKind.i64.wrap ((IntKind.i64.wrap ((df (IntKind.i64.wrap (a_a+a_b)))+a_m))-start_28)))) then bif (decide ((IntKind.i64.wrap ((IntKind.i64.wrap ((df (IntKind.i64.wrap (a_a+a_b)))+a_m))-start_28))<a_b)) then (rec n a_data (df (IntKind.i64.wrap (a_a+a_b))) (IntKind.i64.wrap ((IntKind.i64.wrap ((df (IntKind.i64.wrap (a_a+a_b)))+a_m))-start_28)) a_b a_cmp).bind fun c_70=>some c_70 else
 some a_data else
 some a_data else
 bif (decide ((df (IntKind.i64.wrap (a_a+a_b)))<(IntKind.i64.wrap ((IntKind.i64.wrap ((df (IntKind.i64.wrap (a_a+a_b)))+a_m))-start_28)))) then bif (decide ((IntKind.i64.wrap ((IntKind.i64.wrap ((df (IntKind.i64.wrap (a_a+a_b)))+a_m))-start_28))<a_b)) then (rec n a_data (df (IntKind.i64.wrap (a_a+a_b))) (IntKind.i64.wrap ((IntKind.i64.wrap ((df (IntKind.i64.wrap (a_a+a_b)))+a_m))-start_28)) a_b a_cmp).bind fun c_73=>some c_73 else
 some a_data else
 some a_data
 | .inr q=>some q
def Gx {α:Type} (a_data:List α) (a_a:Int) (a_m:Int) (a_b:Int) (a_cmp:α->α->Option (Int)) (n:Nat):(Int × Int)->Option (Step (Int × Int) (List α)):=fun s=>match s with
 | (start_74,r_75)=>bif (decide (start_74<r_75)) then bif (decide (0<=(IntKind.i64.wrap ((IntKind.i64.wrap ((IntKind.i64.wrap ((df (IntKind.i64.wrap (a_a+a_b)))+a_m))-(1:Int)))-(df (IntKind.i64.wrap (start_74+r_75))))))) then (bif (decide ((IntKind.i64.wrap ((IntKind.i64.wrap ((IntKind.i64.wrap ((df (IntKind.i64.wrap (a_a+a_b)))+a_m))-(1:Int)))-(df (IntKind.i64.wrap (start_74+r_75)))))<((n:Nat):Int))) then ((aT a_data (IntKind.i64.wrap ((IntKind.i64.wrap ((IntKind.i64.wrap ((df (IntKind.i64.wrap (a_a+a_b)))+a_m))-(1:Int)))-(df (IntKind.i64.wrap (start_74+r_75)))))).bind fun x_77=>bif (decide (0<=(df (IntKind.i64.wrap (start_74+r_75))))) then (bif (decide ((df (IntKind.i64.wrap (start_74+r_75)))<((n:Nat):Int))) then ((aT a_data (df (IntKind.i64.wrap (start_74+r_75)))).bind fun x_78=>(a_cmp x_77 x_78).bind fun r_79=>bif (!(decide (r_79<(0:Int)))) then some (.next ((IntKind.i64.wrap ((df (IntKind.i64.wrap (start_74+r_75)))+(1:Int))),r_75)) else
 some (.next (start_74,(df (IntKind.i64.wrap (start_74+r_75)))))) else none) else none) else none) else none else
 some (.exit (start_74,r_75))
def BH {α:Type} (a_data:List α) (a_a:Int) (a_m:Int) (a_b:Int) (a_cmp:α->α->Option (Int)) (n:Nat) (rec:Nat->List α->Int->Int->Int->(α->α->Option Int)->Option (List α)):Sum (Int × Int) (List α)->Option ((List α))
 | .inl (start_74,r_75)=>bif (decide (start_74<a_m)) then bif (decide (a_m<(IntKind.i64.wrap ((IntKind.i64.wrap ((df (IntKind.i64.wrap (a_a+a_b)))+a_m))-start_74)))) then (uq n a_data start_74 a_m (IntKind.i64.wrap ((IntKind.i64.wrap ((df (IntKind.i64.wrap (a_a+a_b)))+a_m))-start_74)) a_cmp).bind fun c_83=>bif (decide (a_a<start_74)) then bif (decide (start_74<(df (IntKind.i64.wrap (a_a+a_b))))) then (rec n c_83 a_a start_74 (df (IntKind.i64.wrap (a_a+a_b))) a_cmp).bind fun c_86=>bif (decide ((df (IntKind.i64.wrap (a_a+a_b)))<(IntKind.i64.wrap ((IntKind.i64.wrap ((df (IntKind.i64.wrap (a_a+a_b)))+a_m))-start_74)))) then bif (decide ((IntKind.i64.wrap ((IntKind.i64.wrap ((df (IntKind.i64.wrap (a_a+a_b)))+a_m))-start_74))<a_b)) then (rec n c_86 (df (IntKind.i64.wrap (a_a+a_b))) (IntKind.i64.wrap ((IntKind.i64.wrap ((df (IntKind.i64.wrap (a_a+a_b)))+a_m))-start_74)) a_b a_cmp).bind fun c_89=>some c_89 else
 some c_86 else
 some c_86 else
 bif (decide ((df (IntKind.i64.wrap (a_a+a_b)))<(IntKind.i64.wrap ((IntKind.i64.wrap ((df (IntKind.i64.wrap (a_a+a_b)))+a_m))-start_74)))) then bif (decide ((IntKind.i64.wrap ((IntKind.i64.wrap ((df (IntKind.i64.wrap (a_a+a_b)))+a_m))-start_74))<a_b)) then (rec n c_83 (df (IntKind.i64.wrap (a_a+a_b))) (IntKind.i64.wrap ((IntKind.i64.wrap ((df (IntKind.i64.wrap (a_a+a_b)))+a_m))-start_74)) a_b a_cmp).bind fun c_92=>some c_92 else
 some c_83 else
 some c_83 else
 bif (decide ((df (IntKind.i64.wrap (a_a+a_b)))<(IntKind.i64.wrap ((IntKind.i64.wrap ((df (IntKind.i64.wrap (a_a+a_b)))+a_m))-start_74)))) then bif (decide ((IntKind.i64.wrap ((IntKind.i64.wrap ((df (IntKind.i64.wrap (a_a+a_b)))+a_m))-start_74))<a_b)) then (rec n c_83 (df (IntKind.i64.wrap (a_a+a_b))) (IntKind.i64.wrap ((IntKind.i64.wrap ((df (IntKind.i64.wrap (a_a+a_b)))+a_m))-start_74)) a_b a_cmp).bind fun c_95=>some c_95 else
 some c_83 else
 some c_83 else
 bif (decide (a_a<start_74)) then bif (decide (start_74<(df (IntKind.i64.wrap (a_a+a_b))))) then (rec n a_data a_a start_74 (df (IntKind.i64.wrap (a_a+a_b))) a_cmp).bind fun c_98=>bif (decide ((df (IntKind.i64.wrap (a_a+a_b)))<(IntKind.i64.wrap ((IntKind.i64.wrap ((df (IntKind.i64.wrap (a_a+a_b)))+a_m))-start_74)))) then bif (decide ((IntKind.i64.wrap ((IntKind.i64.wrap ((df (IntKind.i64.wrap (a_a+a_b)))+a_m))-start_74))<a_b)) then (rec n c_98 (df (IntKind.i64.wrap (a_a+a_b))) (IntKind.i64.wrap ((IntKind.i64.wrap ((df (IntKind.i64.wrap (a_a+a_b)))+a_m))-start_74)) a_b a_cmp).bind fun c_101=>some c_101 else
 some c_98 else
 some c_98 else
 bif (decide ((df (IntKind.i64.wrap (a_a+a_b)))<(IntKind.i64.wrap ((IntKind.i64.wrap ((df (IntKind.i64.wrap (a_a+a_b)))+a_m))-start_74)))) then bif (decide ((IntKind.i64.wrap ((IntKind.i64.wrap ((df (IntKind.i64.wrap (a_a+a_b)))+a_m))-start_74))<a_b)) then (rec n a_data (df (IntKind.i64.wrap (a_a+a_b))) (IntKind.i64.wrap ((IntKind.i64.wrap ((df (IntKind.i64.wrap (a_a+a_b)))+a_m))-start_74)) a_b a_cmp).bind fun c_104=>some c_104 else
 some a_data else
 some a_data else
 bif (decide ((df (IntKind.i64.wrap (a_a+a_b)))<(IntKind.i64.wrap ((IntKind.i64.wrap ((df (IntKind.i64.wrap (a_a+a_b)))+a_m))-start_74)))) then bif (decide ((IntKind.i64.wrap ((IntKind.i64.wrap ((df (IntKind.i64.wrap (a_a+a_b)))+a_m))-start_74))<a_b)) then (rec n a_data (df (IntKind.i64.wrap (a_a+a_b))) (IntKind.i64.wrap ((IntKind.i64.wrap ((df (IntKind.i64.wrap (a_a+a_b)))+a_m))-start_74)) a_b a_cmp).bind fun c_107=>some c_107 else
 some a_data else
 some a_data else
 bif (decide (a_a<start_74)) then bif (decide (start_74<(df (IntKind.i64.wrap (a_a+a_b))))) then (rec n a_data a_a start_74 (df (IntKind.i64.wrap (a_a+a_b))) a_cmp).bind fun c_110=>bif (decide ((df (IntKind.i64.wrap (a_a+a_b)))<(IntKind.i64.wrap ((IntKind.i64.wrap ((df (IntKind.i64.wrap (a_a+a_b)))+a_m))-start_74)))) then bif (decide ((IntKind.i64.wrap ((IntKind.i64.wrap ((df (IntKind.i64.wrap (a_a+a_b)))+a_m))-start_74))<a_b)) then (rec n c_110 (df (IntKind.i64.wrap (a_a+a_b))) (IntKind.i64.wrap ((IntKind.i64.wrap ((df (IntKind.i64.wrap (a_a+a_b)))+a_m))-start_74)) a_b a_cmp).bind fun c_113=>some c_113 else
 some c_110 else
 some c_110 else
 bif (decide ((df (IntKind.i64.wrap (a_a+a_b)))<(IntKind.i64.wrap ((IntKind.i64.wrap ((df (IntKind.i64.wrap (a_a+a_b)))+a_m))-start_74)))) then bif (decide ((IntKind.i64.wrap ((IntKind.i64.wrap ((df (IntKind.i64.wrap (a_a+a_b)))+a_m))-start_74))<a_b)) then (rec n a_data (df (IntKind.i64.wrap (a_a+a_b))) (IntKind.i64.wrap ((IntKind.i64.wrap ((df (IntKind.i64.wrap (a_a+a_b)))+a_m))-start_74)) a_b a_cmp).bind fun c_116=>some c_116 else
 some a_data else
 some a_data else
 bif (decide ((df (IntKind.i64.wrap (a_a+a_b)))<(IntKind.i64.wrap ((IntKind.i64.wrap ((df (IntKind.i64.wrap (a_a+a_b)))+a_m))-start_74)))) then bif (decide ((IntKind.i64.wrap ((IntKind.i64.wrap ((df (IntKind.i64.wrap (a_a+a_b)))+a_m))-start_74))<a_b)) then (rec n a_data (df (IntKind.i64.wrap (a_a+a_b))) (IntKind.i64.wrap ((IntKind.i64.wrap ((df (IntKind.i64.wrap (a_a+a_b)))+a_m))-start_74)) a_b a_cmp).bind fun c_119=>some c_119 else
 some a_data else
 some a_data
 | .inr q=>some q
def zX {α:Type} (rec:Nat->List α->Int->Int->Int->(α->α->Option Int)->Option (List α)) (n:Nat) (a_data:(List α)) (a_a:Int) (a_m:Int) (a_b:Int) (a_cmp:α->α->Option (Int)):Option (List α):=bif (decide ((IntKind.i64.wrap (a_m-a_a))=(1:Int))) then (az (wT a_data a_a a_cmp n) fuel (a_m,a_b)).bind (Ag a_data a_a n) else
 bif (decide ((IntKind.i64.wrap (a_b-a_m))=(1:Int))) then (az (wz a_data a_m a_cmp n) fuel (a_a,a_m)).bind (Am a_data a_m n) else
 bif (decide ((df (IntKind.i64.wrap (a_a+a_b)))<a_m)) then (az (qa a_data a_a a_m a_b a_cmp n) fuel ((IntKind.i64.wrap ((IntKind.i64.wrap ((df (IntKind.i64.wrap (a_a+a_b)))+a_m))-a_b)),(df (IntKind.i64.wrap (a_a+a_b))))).bind (pJ a_data a_a a_m a_b a_cmp n rec) else
 (az (Gx a_data a_a a_m a_b a_cmp n) fuel (a_a,a_m)).bind (BH a_data a_a a_m a_b a_cmp n rec)
def Mq {α:Type} : Nat->Nat->List α->Int->Int->Int->(α->α->Option Int)->Option (List α)
 | 0,_,_,_,_,_,_=>none
 | q+1,n,X,a,m,b,cmp=>zX (Mq q) n X a m b cmp
def mG {α:Type} (a_n:Int) (a_cmp:α->α->Option (Int)) (n:Nat) (blockSize_8:Int):((List α) × Int × Int)->Option (Step ((List α) × Int × Int) (List α)):=fun s=>match s with
 | (c_10,a_11,b_12)=>bif (decide (b_12<=a_n)) then (Mq fuel n c_10 a_11 (IntKind.i64.wrap (a_11+blockSize_8)) b_12 a_cmp).bind fun c_14=>some (.next (c_14,b_12,(IntKind.i64.wrap (b_12+(IntKind.i64.wrap ((2:Int)*blockSize_8)))))) else
 some (.exit (c_10,a_11,b_12))
def yP {α:Type} (a_n:Int) (a_cmp:α->α->Option (Int)) (n:Nat) (blockSize_8:Int):Sum ((List α) × Int × Int) (List α)->Option (Step ((List α) × Int) (List α))
 | .inl (c_10,a_11,b_12)=>bif (decide ((IntKind.i64.wrap (a_11+blockSize_8))<a_n)) then (Mq fuel n c_10 a_11 (IntKind.i64.wrap (a_11+blockSize_8)) a_n a_cmp).bind fun c_16=>some (.next (c_16,(IntKind.i64.wrap (blockSize_8*(2:Int))))) else
 some (.next (c_10,(IntKind.i64.wrap (blockSize_8*(2:Int)))))
 | .inr q=>some (.ret q)
def lZ {α:Type} (a_n:Int) (a_cmp:α->α->Option (Int)) (n:Nat):((List α) × Int)->Option (Step ((List α) × Int) (List α)):=fun s=>match s with
 | (c_7,blockSize_8)=>bif (decide (blockSize_8<a_n)) then (az (mG a_n a_cmp n blockSize_8) fuel (c_7,(0:Int),(IntKind.i64.wrap ((2:Int)*blockSize_8)))).bind (yP a_n a_cmp n blockSize_8) else
 some (.exit (c_7,blockSize_8))
def E8 {α:Type} : Sum ((List α) × Int) (List α)->Option ((List α))
 | .inl (c_7,blockSize_8)=>some c_7
 | .inr q=>some q
def l8 {α:Type} (a_n:Int) (a_cmp:α->α->Option (Int)) (n:Nat):((List α) × Int × Int)->Option (Step ((List α) × Int × Int) (List α)):=fun s=>match s with
 | (c_1,a_2,b_3)=>bif (decide (b_3<=a_n)) then (wm n c_1 a_2 b_3 a_cmp).bind fun c_5=>some (.next (c_5,b_3,(IntKind.i64.wrap (b_3+(20:Int))))) else
 some (.exit (c_1,a_2,b_3))
def zw {α:Type} (a_n:Int) (a_cmp:α->α->Option (Int)) (n:Nat):Sum ((List α) × Int × Int) (List α)->Option ((List α))
 | .inl (c_1,a_2,b_3)=>(wm n c_1 a_2 a_n a_cmp).bind fun c_6=>(az (lZ a_n a_cmp n) fuel (c_6,(20:Int))).bind (E8)
 | .inr q=>some q
def Ih {α:Type} (n:Nat) (a_data:(List α)) (a_n:Int) (a_cmp:α->α->Option (Int)):Option (List α):=(az (l8 a_n a_cmp n) fuel (a_data,(0:Int),(20:Int))).bind (zw a_n a_cmp n)
def Gw {α:Type} (n:Nat) (a_x:(List α)) (a_cmp:α->α->Option (Int)):Option (List α):=(Ih n a_x ((n:Nat):Int) a_cmp).bind fun c_1=>some c_1
end Go.Proofs.YtlcceppoloaecaaGreatDoor
