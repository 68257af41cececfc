/- Parts. No condition. -/
import Derived.Test.YtlcceppoloaecaaGreatDoorKBF
import Derived.Lib.Bytealg
set_option maxHeartbeats 8000000
set_option maxRecDepth 100000
set_option linter.unusedSimpArgs false
set_option linter.unusedVariables false
namespace Go.Proofs.YtlcceppoloaecaaGreatDoor
open IntKind (i64)
open Go.RowKit Go.MapKept
section
variable {P:Program} {ti:TI} {B:Nat->Prop} {R:PH} {γ:List Gh} {L:List Ob} {w:World} {ρ:Operand->Option AV}
theorem B9 (O6:TIok P ti){t:TypeId}{E k:Nat}{y:Operand}{cs:List SV}(hy:ρ y=some (.agg cs))(hl:cs.length=k)(hk:0<k)(U2:k<=1000)(ht:ti.elem t=some E)(hE:E<65536)(PN:ti.size E=some k)(Vx:ti.zok E=true) :
  pZ P ρ L (.buildSlice t 1 #[(0,y)]) (.one (.sl L.length (E+65536) 0 1)) (L++[.row (E+65536) [cs] k]):=by
 intro B R γ w ev o ho hi hρ Q1;obtain⟨dst,op,type,pos,after,guard⟩:=o;simp only at ho;subst ho;obtain⟨vs,WX,hvs,R7⟩:=hρ y (by simp[Op.operands]) _ hy;obtain⟨i,z,QZ,QE,V6,hi4⟩:=O6.zok _ Vx _ (O6.size _ _ PN);have hb:=run_buildSlice (P:=P) w t E 1 #[(0,ev y)] vs i z (jK O6 ht) QZ QE (by rw[V6];omega) (by rw[V6];omega) (by
  have h1:=Go.Great.fill_whole hk [ev y] ((Array.range (1*i.size)).map (z.cells[· % z.cells.size]!)) (by intro v hv;rw[aqP.1 hv,WX];show vs.size=k;omega) (by simp[V6]);have h2:([ev y].flatMap fun v=>v.cells.toList).toArray=vs:=by rw[WX];simp[Value.cells]
  rw[h2,V6]at h1;rw[V6];exact h1)
 have O8:(execOp ev { dst,op := .buildSlice t 1 #[(0,y)],type,pos,after,guard }).run P w = .ok (.value (.slice (some ⟨w.heap.size,0,none⟩) 1 1)) (w.alloc (.cells vs E)):=by
  simp[execOp,hb]
 have hm:Mv R R γ (γ++[.arr w.heap.size 1]) L (L++[.row (E+65536) [cs] k]):=Mv.push _ _ hi.len;refine⟨_,R,_,.inl ⟨_,O8,⟨rfl,rfl⟩,m5,fun QH S1 k2 e2=>?_⟩,?_,⟨Kept.alloc hi.bsz _,PH.sub_refl _,fun _ _ _=>rfl⟩,hm⟩
 ·rw[aqf m0]at e2
  simp at e2;obtain⟨q1,q2,q3⟩:=e2;subst q1 q2;exact⟨aqo _,fun _=>⟨m5,.arr w.heap.size 1,by rw[<- hi.len];simp,.inl (by rw[Nat.zero_mul])⟩⟩
 ·refine hi.push _ _ _ rfl ⟨⟨_,E,⟨dt w _,by show(E:Nat)=(E+65536)%65536;omega,m0⟩,m0,fun i e j u x he hu hx=>?_⟩,m5,m0,by simp[hl],fun o=>hi.none_at o⟩
  have RQ:i=0:=by have:=(ap_.1 he).1;simpa using this
  subst RQ;simp at he;subst he;exact SV.mv hm (R7 j u x (by simpa using hu) hx)
end
structure bA where
 f:ap
 ps:List ax
abbrev aq (p:ax):Bool:=decide (0<=p.lo)&&decide (p.lo<p.hi)&&decide (p.hi<=1099511627776)
theorem iP (p:ax):gPV p=some (aq p):=by
 unfold gPV aq
 cases h1:decide (0<=p.lo)<;>cases h2:decide (p.lo<p.hi)<;>cases h3:decide (p.hi<=1099511627776)<;>simp_all
def d_ (s:ByteArray):List bA->Option Nat
 |[]=>none
 |g::r=>if s=cH g.f.row then some 0 else(d_ s r).map (· +1)
def oE:Nat->List bA->List (AC×AV)
 |_,[]=>[]
 |k,g::r=>(.str (cH g.f.row),.one (.c (.int .i64 k)))::oE (k+1) r
theorem wN:∀ (G:List bA) (k:Nat),strKeys (oE k G)
 |[],_=>by intro p hp;cases hp
 |g::r,k=>by
  intro p hp;rcases aqp.1 hp with rfl|hp
  ·exact⟨_,rfl⟩
  ·exact wN r (k+1) p hp
theorem ox (s:ByteArray):∀ (G:List bA) (k:Nat),tO s (oE k G)=d_ s G
 |[],_=>rfl
 |g::r,k=>by
  simp only[oE,tO,d_];rw[ox s r (k+1)]
theorem adk:∀ (G:List bA) (k i:Nat),i<G.length ->∃ q,(oE k G)[i]?=some q/\q.2 = .one (.c (.int .i64 ((k+i:Nat):Int)))
 |[],_,_,h=>by simp at h
 |g::r,k,0,_=>⟨_,rfl,m5⟩
 |g::r,k,i+1,h=>by
  obtain⟨q,h1,h2⟩:=adk r (k+1) i (by simpa using h);exact⟨q,by simpa[oE]using h1,by rw[h2,show k+1+i=k+(i+1)by omega]⟩
theorem BZ {s:ByteArray}:∀ {G:List bA} {i:Nat},d_ s G=some i->i<G.length
 |[],_,h=>by simp[d_]at h
 |g::r,i,h=>by
  unfold d_ at h;split at h
  ·injection h with h;subst h;simp
  ·cases hr:d_ s r with
   |none=>rw[hr]at h;cases h
   |some j=>rw[hr]at h;injection h with h;subst h;have:=BZ hr;simp;omega
theorem aeW {s:ByteArray}{G:List bA}{i:Nat}{z:AV}(h:d_ s G=some i):nM (oE 0 G) s z = .one (.c (.int .i64 i)):=by
 obtain⟨q,h1,h2⟩:=adk G 0 i (BZ h);unfold nM;rw[ox,h];simp only[h1,h2,aqR]
theorem aeo {s:ByteArray}{G:List bA}{z:AV}(h:d_ s G=none):nM (oE 0 G) s z=z:=by
 unfold nM;rw[ox,h]
theorem MN:∀ (G:List bA) (k:Nat) (g:bA),oE k (G++[g])=oE k G++[(.str (cH g.f.row),.one (.c (.int .i64 ((k+G.length:Nat):Int))))]
 |[],k,g=>by simp[oE]
 |x::r,k,g=>by
  have:=MN r (k+1) g;simp only[List.cons_append,oE,this,aqv,show k+1+r.length=k+(r.length+1)by omega]
theorem aft {s:ByteArray}{G:List bA}(h:d_ s G=none)(g:bA)(hg:cH g.f.row=s):FX (oE 0 G) s (.one (.c (.int .i64 (G.length:Nat))))=oE 0 (G++[g]):=by
 unfold FX;rw[ox,h,MN,hg,aqR]
theorem akv {G:List bA}{i:Nat}{g:bA}(hg:G[i]?=some g)(ps:List ax):∀ k,oE k (G.set i ⟨g.f,ps⟩)=oE k G:=by
 induction G generalizing i with
 |nil=>intro k;rfl
 |cons x r ih =>
  intro k
  cases i with
  |zero=>simp at hg;subst hg;rfl
  |succ i=>simp only[List.set_cons_succ,oE];rw[ih (by simpa using hg)]
theorem ahh {P:Program}{ti:TI}{ρ:Operand->Option AV}{L:List Ob}{t kt et:TypeId}{x k:Operand}{s:ByteArray}{id:Nat}{G:List bA}{i:Nat}(O6:TIok P ti)(hf:d_ s G=some i)(hx:ρ x=some (.one (.mp id)))(hk:ρ k=some (.one (.c (.str s))))(hL:L[id]?=some (.map (oE 0 G)))
  (ht:ti.kind t=some (.map kt et)) (UJ:ti.kind kt=some .string) (hz:ti.zero et=some (.one (.c (.int .i64 0)))):pZ P ρ L (.lookup t x k true) (.tup [.one (.int .i64 i),.one (.bool true)]) L:=by
 have:=mQ (P:=P) hx hk hL (wN G 0) (O6.kind _ _ ht) (O6.kind _ _ UJ) (O6.zero _ _ hz) (p := .one (.int .i64 i)) (by rw[aeW hf];rfl);rw[ox,hf]at this;exact this
theorem Ef {P:Program}{ti:TI}{ρ:Operand->Option AV}{L:List Ob}{t kt et:TypeId}{x k:Operand}{s:ByteArray}{id:Nat}{G:List bA}(O6:TIok P ti)(hf:d_ s G=none)(hx:ρ x=some (.one (.mp id)))(hk:ρ k=some (.one (.c (.str s))))(hL:L[id]?=some (.map (oE 0 G)))
  (ht:ti.kind t=some (.map kt et)) (UJ:ti.kind kt=some .string) (hz:ti.zero et=some (.one (.c (.int .i64 0)))):pZ P ρ L (.lookup t x k true) (.tup [.one (.int .i64 0),.one (.bool false)]) L:=by
 have:=mQ (P:=P) hx hk hL (wN G 0) (O6.kind _ _ ht) (O6.kind _ _ UJ) (O6.zero _ _ hz) (p := .one (.int .i64 0)) (by rw[aeo hf];rfl);rw[ox,hf]at this;exact this
theorem Ep {P:Program}{ti:TI}{ρ:Operand->Option AV}{L:List Ob}{t kt et:TypeId}{x k y:Operand}{s:ByteArray}{id:Nat}{G:List bA}(g:bA)(O6:TIok P ti)(hf:d_ s G=none)(hg:cH g.f.row=s)(hx:ρ x=some (.one (.mp id)))(hk:ρ k=some (.one (.c (.str s))))(hy:ρ y=some (.one (.c (.int .i64 (G.length:Nat)))))(hL:L[id]?=some (.map (oE 0 G)))
  (ht:ti.kind t=some (.map kt et)) (UJ:ti.kind kt=some .string):pZ P ρ L (.mapUpdate t x k y) .undef (L.set id (.map (oE 0 (G++[g])))):=by
 have:=tR (P:=P) hx hk hy hL (wN G 0) (O6.kind _ _ ht) (O6.kind _ _ UJ);rw[aft hf g hg]at this;exact this
def fp (G:List bA)(f:ap):List bA:=bif aq f.valid then(match d_ (cH f.row) G with
 |some i=>match G[i]? with
  |some g=>G.set i ⟨g.f,g.ps++[f.valid]⟩
  |none=>G
 |none=>G++[⟨f,[f.valid]⟩])else G
def df (l:List ap):List bA:=l.foldl fp []
theorem Nb (l:List ap)(f:ap):df (l++[f])=fp (df l) f:=by unfold df;rw[List.foldl_append];rfl
theorem aaL (G:List bA)(f:ap):(fp G f).length<=G.length+1:=by
 unfold fp
 cases aq f.valid with
 |false=>rw[ap'];omega
 |true =>
  rw[aqa];split
  ·split
   ·rw[List.length_set];omega
   ·omega
  ·simp
theorem uB (l:List ap):(df l).length<=l.length:=by
 have:∀ (l:List ap) (G:List bA),(l.foldl fp G).length<=G.length+l.length:=by
  intro l
  induction l with
  |nil=>intro G;simp
  |cons f l ih=>intro G;have h1:=ih (fp G f);have h2:=aaL G f;rw[aqZ,aqv];omega
 have:=this l [];simpa[df]using this
theorem Bc (l:List ap):∀ g∈df l,g.ps.length<=l.length/\g.f∈l/\(∀ p∈g.ps,aq p=true):=by
 have:∀ (l:List ap) (G:List bA) (b:Nat) (l0:List ap),(∀ g∈G,g.ps.length<=b/\g.f∈l0/\(∀ p∈g.ps,aq p=true)) ->∀ g∈l.foldl fp G,g.ps.length<=b+l.length/\g.f∈l0++l/\(∀ p∈g.ps,aq p=true):=by
  intro l
  induction l with
  |nil=>intro G b l0 h g hg;simpa using h g hg
  |cons f l ih =>
   intro G b l0 h g hg;rw[aqZ]at hg;have Xu:∀ g∈fp G f,g.ps.length<=b+1/\g.f∈l0++[f]/\(∀ p∈g.ps,aq p=true):=by
    intro g hg;unfold fp at hg
    cases hv:aq f.valid with
    |false=>rw[hv,ap']at hg;obtain⟨a1,a2,a3⟩:=h g hg;exact⟨m0,aqB.2 (.inl a2),a3⟩
    |true =>
     rw[hv,aqa]at hg;split at hg
     ·split at hg
      ·rename_i i _ g0 UE
       rcases List.mem_or_eq_of_mem_set hg with hg|rfl
       ·obtain⟨a1,a2,a3⟩:=h g hg;exact⟨m0,aqB.2 (.inl a2),a3⟩
       ·obtain⟨a1,a2,a3⟩:=h g0 (aqe UE)
        refine⟨by simp;omega,aqB.2 (.inl a2),fun p hp=>?_⟩;rcases aqB.1 hp with hp|hp
        ·exact a3 p hp
        ·rw[aqP.1 hp];exact hv
      ·obtain⟨a1,a2,a3⟩:=h g hg;exact⟨m0,aqB.2 (.inl a2),a3⟩
     ·rcases aqB.1 hg with hg|hg
      ·obtain⟨a1,a2,a3⟩:=h g hg;exact⟨m0,aqB.2 (.inl a2),a3⟩
      ·rw[aqP.1 hg]
       exact⟨m5,m5,fun p hp=>by rw[aqP.1 hp];exact hv⟩
   obtain⟨a1,a2,a3⟩:=ih (fp G f) (b+1) (l0++[f]) Xu g hg;exact⟨by rw[aqv];omega,by simpa using a2,a3⟩
 intro g hg;have:=this l [] 0 [] (fun g hg=>by cases hg) g hg;simpa using this
abbrev fy:=AC×AC
def oq (x:fy):List SV:=[.c x.1,.c x.2]
theorem cB (n v k:Nat)(l:List fy):(Ob.row v (l.map oq) k).below n:=by
 intro e he x hx;obtain⟨y,_,rfl⟩:=aqJ.1 he;simp only[oq,aqp,List.not_mem_nil,or_false]at hx;rcases hx with rfl|rfl<;>trivial
theorem wM (σ:List Nat)(v k:Nat)(l:List fy):(Ob.row v (l.map oq) k).ren σ=Ob.row v (l.map oq) k:=by
 simp only[Ob.ren,List.map_map];rfl
theorem afG (l:List fy):dV (l.map oq)=some (l.map fun x=>[x.1,x.2]):=by
 have:=iC (l.map fun x=>[x.1,x.2]);rw[List.map_map]at this;exact this
def anC:TI :={ aa2 with dyn:=true }
theorem ci:TIok Tryz.prog anC:=⟨am.size,am.agg,am.elem,am.field,am.zero,am.bytes,am.kind,am.struct,am.zok,am.eqs⟩
def bxG (_:bA):Ob := .dead
def gbG (g:bA):Ob := .row (194+65536) [[.c (b8 g.f.row),.emp]] 2
theorem aca (g:bA)(n:Nat):(gbG g).below n:=by
 intro e he x hx;rw[aqP.1 he]at hx;rcases aqp.1 hx with rfl|hx
 ·trivial
 ·rcases aqp.1 hx with rfl|hx
  ·trivial
  ·cases hx
def tN (ps:List ax):List (List AC):=ps.map aN
def eV:Nat->List bA->List (List SV)
 |_,[]=>[]
 |k,g::r=>[.c (b8 g.f.row),.own (tN g.ps) (4+3*k)]::eV (k+1) r
def tlC:List bA->List Ob
 |[]=>[]
 |g::r=>bxG g::gbG g :: .spare g.ps.length 2::tlC r
def uQ:List bA->List Ob
 |[]=>[]
 |g::r => .spare g.ps.length 2::tlC r
def Ah:List bA->Ob
 |[] => .dead
 |g::_=>gbG g
def sb (G:List bA):List Ob := .map (oE 0 G) :: .dead::Ah G :: .row (194+65536*G.length) (eV 0 G) 2::uQ G
theorem ak0 {G:List bA}{i:Nat}{g:bA}(ps:List ax)(h:G[i]?=some g):Ah (G.set i ⟨g.f,ps⟩)=Ah G:=by
 cases G with
 |nil=>rfl
 |cons x r =>
  cases i with
  |zero=>simp at h;subst h;rfl
  |succ i=>rfl
theorem ahU {G:List bA}(g:bA)(h:G≠[]):Ah (G++[g])=Ah G:=by cases G with
 |nil=>exact absurd rfl h
 |cons x r=>rfl
theorem aex (G:List bA)(n:Nat):(Ah G).below n:=by cases G with
 |nil=>trivial
 |cons x r=>exact aca x n
def NV:List bA->List Ob
 |[]=>[.map []]
 |g::r=>sb (g::r)
theorem oR {G:List bA}(h:G≠[]):NV G=sb G:=by cases G with
 |nil=>exact absurd rfl h
 |cons g r=>rfl
theorem nS:∀ (G:List bA) (k:Nat),(eV k G).length=G.length
 |[],_=>rfl
 |g::r,k=>by simp[eV,nS r]
theorem LJ:∀ (G:List bA) (k i:Nat) (g:bA),G[i]?=some g->(eV k G)[i]?=some [.c (b8 g.f.row),.own (tN g.ps) (4+3*(k+i))]
 |[],_,_,_,h=>by simp at h
 |x::r,k,0,g,h=>by simp at h;subst h;rfl
 |x::r,k,i+1,g,h=>by
  have:=LJ r (k+1) i g (by simpa using h);simp only[eV,List.getElem?_cons_succ];rw[this,show k+1+i=k+(i+1)by omega]
theorem Ns:∀ (G:List bA) (k i:Nat) (g:bA) (ps:List ax),G[i]?=some g->(eV k G).set i [.c (b8 g.f.row),.own (tN ps) (4+3*(k+i))]=eV k (G.set i ⟨g.f,ps⟩)
 |[],_,_,_,_,h=>by simp at h
 |x::r,k,0,g,ps,h=>by simp at h;subst h;simp[eV]
 |x::r,k,i+1,g,ps,h=>by
  have:=Ns r (k+1) i g ps (by simpa using h);rw[show k+1+i=k+(i+1)by omega]at this;simp only[eV,List.set_cons_succ,this]
theorem Gp:∀ (G:List bA) (k:Nat) (g:bA),eV k (G++[g])=eV k G++[[.c (b8 g.f.row),.own (tN g.ps) (4+3*(k+G.length))]]
 |[],k,g=>rfl
 |x::r,k,g=>by
  have:=Gp r (k+1) g;simp only[List.cons_append,eV,this,aqv,show k+1+r.length=k+(r.length+1)by omega]
theorem EW:∀ (G:List bA) (k n:Nat),4+3*(k+G.length)<=n+2 ->∀ e∈eV k G,∀ x∈e,x.below n
 |[],_,_,_=>by intro e he;cases he
 |g::r,k,n,h=>by
  intro e he x hx;simp only[aqv]at h;rcases aqp.1 he with rfl|he
  ·rcases aqp.1 hx with rfl|hx
   ·trivial
   ·rcases aqp.1 hx with rfl|hx
    ·show 4+3*k<n;omega
    ·cases hx
  ·exact EW r (k+1) n m0 e he x hx
theorem Da:∀ (G:List bA) (k:Nat),dV (eV k G)=some (G.map fun g=>[b8 g.f.row,.lst (tN g.ps)])
 |[],_=>rfl
 |g::r,k=>by
  have:=Da r (k+1);simp only[eV,dV,ir,SV.norm,this,aqj]
theorem adq:∀ r:List bA,(tlC r).length=3*r.length
 |[]=>rfl
 |g::r=>by simp[tlC,adq r];omega
theorem acO:∀ (r:List bA) (i:Nat) (g:bA),r[i]?=some g->(tlC r)[3*i+2]?=some (.spare g.ps.length 2)
 |[],_,_,h=>by simp at h
 |x::r,0,g,h=>by simp at h;subst h;rfl
 |x::r,i+1,g,h=>by
  have:=acO r i g (by simpa using h);rw[show 3*(i+1)+2=(3*i+2)+1+1+1 by omega];simpa[tlC]using this
theorem adF:∀ (r:List bA) (i:Nat) (g:bA) (ps:List ax),r[i]?=some g->(tlC r).set (3*i+2) (.spare ps.length 2)=tlC (r.set i ⟨g.f,ps⟩)
 |[],_,_,_,h=>by simp at h
 |x::r,0,g,ps,h=>by simp at h;subst h;simp[tlC,bxG,gbG]
 |x::r,i+1,g,ps,h=>by
  have:=adF r i g ps (by simpa using h);rw[show 3*(i+1)+2=(3*i+2)+1+1+1 by omega];simp only[tlC,List.set_cons_succ,this]
theorem MQ:∀ (r:List bA) (g:bA),tlC (r++[g])=tlC r++[bxG g,gbG g,.spare g.ps.length 2]
 |[],g=>rfl
 |x::r,g=>by simp[tlC,MQ r g]
theorem acH {G:List bA}(h:G≠[]):(uQ G).length+2=3*G.length:=by
 cases G with
 |nil=>exact absurd rfl h
 |cons g r=>simp[uQ,adq];omega
theorem akF {G:List bA}{i:Nat}{g:bA}(h:G[i]?=some g):(uQ G)[3*i]?=some (.spare g.ps.length 2):=by
 cases G with
 |nil=>simp at h
 |cons x r =>
  cases i with
  |zero=>simp at h;subst h;rfl
  |succ i =>
   have:=acO r i g (by simpa using h);rw[show 3*(i+1)=(3*i+2)+1 by omega];simpa[uQ]using this
theorem ajw {G:List bA}{i:Nat}{g:bA}(ps:List ax)(h:G[i]?=some g):(uQ G).set (3*i) (.spare ps.length 2)=uQ (G.set i ⟨g.f,ps⟩):=by
 cases G with
 |nil=>simp at h
 |cons x r =>
  cases i with
  |zero=>simp at h;subst h;simp[uQ]
  |succ i =>
   have:=adF r i g ps (by simpa using h);rw[show 3*(i+1)=(3*i+2)+1 by omega];simp only[uQ,List.set_cons_succ,this]
theorem aiz {G:List bA}(g:bA)(h:G≠[]):uQ (G++[g])=uQ G++[bxG g,gbG g,.spare g.ps.length 2]:=by
 cases G with
 |nil=>exact absurd rfl h
 |cons x r=>simp[uQ,MQ]
theorem lm {G:List bA}(h:G≠[]):(sb G).length=2+3*G.length:=by
 have h1:=acH h;simp[sb];omega
theorem s9:∀ {n:Nat} {L:List Ob},(∀ x∈L,x.below n)->mT n L
 |_,[],_=>trivial
 |n,x::L,h=>⟨h x m5,s9 fun y hy=>h y (aqx _ hy)⟩
theorem adR (g:bA)(n:Nat):(gbG g).below n:=by
 intro e he x hx;rw[aqP.1 he]at hx;rcases aqp.1 hx with rfl|hx
 ·trivial
 ·rcases aqp.1 hx with rfl|hx
  ·trivial
  ·cases hx
theorem afh (g:bA)(n:Nat):(bxG g).below n:=trivial
theorem Iq:∀ (G:List bA) (k n:Nat),(Ob.map (oE k G)).below n:=by
 intro G
 induction G with
 |nil=>intro k n p hp;cases hp
 |cons g r ih =>
  intro k n p hp;rcases aqp.1 hp with rfl|hp
  ·trivial
  ·exact ih (k+1) n p hp
theorem HT (n:Nat):∀ (r:List bA),∀ x∈tlC r,x.below n
 |[],x,h=>by cases h
 |g::r,x,h=>by
  simp only[tlC,aqp]at h;rcases h with rfl|rfl|rfl|h
  ·exact afh g n
  ·exact adR g n
  ·trivial
  ·exact HT n r x h
theorem kT (G:List bA):mT (NV G).length (NV G):=by
 cases G with
 |nil=>exact⟨Iq [] 0 _,t7⟩
 |cons g r =>
  have hl:=lm (G:=g::r) m5;refine s9 fun x hx=>?_
  show x.below (sb (g::r)).length;rw[hl];have hx:x∈sb (g::r):=hx;simp only[sb,uQ,aqp]at hx;rcases hx with rfl|rfl|rfl|rfl|rfl|hx
  ·exact Iq _ 0 _
  ·trivial
  ·exact aex _ _
  ·exact EW (g::r) 0 _ (by simp only[aqv];omega)
  ·trivial
  ·exact HT _ r x hx
def MB:List bA->AV
 |[] => .one .emp
 |g::r => .one (.sl 3 (194+65536*(g::r).length) 0 (g::r).length)
theorem r6 {G:List bA}(h:G≠[]):MB G = .one (.sl 3 (194+65536*G.length) 0 G.length):=by
 cases G with
 |nil=>exact absurd rfl h
 |cons g r=>rfl
theorem r8 (G:List bA):(MB G).below (NV G).length:=by
 cases G with
 |nil=>trivial
 |cons g r =>
  show 3<(sb (g::r)).length;rw[lm m5];simp;omega
theorem agB (id:Nat)(ts:List AC)(G:List bA):unA id ts (MB G)=MB G:=by cases G<;>rfl
section
variable {P:Program} {ti:TI} {N n0:Nat} {ds:List (Option Tmp)} {K:Tm->List Ob->Prop} {rest:List Oper} {o:Oper} {T T':Tm} {A:List Ob} {Q:AX->Tm->List Ob->Prop}
theorem aea {t:TypeId}{p q:Operand}{cs xs:List SV}(hd:o.dst=none)(hg:fR ds T o.guard=some true)(ho:o.op = .store t p q)(hp:look T p=some (.one (.ptr A.length 0)))(hq:(look T q).bind AV.cells=some xs)(hlen:xs.length=cs.length)(PN:ti.size t=some xs.length)(h:aI P ti N ds K rest T (A++[.box xs])):aI P ti N ds K (o::rest) T (A++[.box cs]):=by
 refine sS_ hd hg (v := .undef) (L':=A++[.box xs]) (φ:=0+xs.length<=cs.length/\ti.size t=some xs.length) ?_ ⟨m0,PN⟩ h;rw[ho];have e1:(A++[Ob.box cs])[A.length]?=some (.box cs):=by simp
 have e2:splice cs 0 xs=xs:=by unfold splice;simp[hlen]
 have e3:(A++[Ob.box cs]).set A.length (.box xs)=A++[.box xs]:=by rw[List.set_append_right _ _ (aqo _),Nat.sub_self];rfl
 simp only[zM,hp,hq,e1,e2,e3]
theorem ako {c:Code}{cs:List SV}{ts:List AC}(hn:ir cs=some ts)(hT:(T.map fun p=>(p.1,unA A.length ts p.2))=T')(h:Aw P N n0 c Q T' (A++[.dead])):Aw P N n0 c Q T (A++[.box cs]):=by
 refine aS A.length m5 hn ?_;rw[hT,List.set_append_right _ _ (aqo _),Nat.sub_self];exact h
end
structure zO {α:Type}(c:α->α->Int):Prop where
 refl:∀ a,c a a=0
 zero:∀ a b,c a b=0->a=b
 anti:∀ a b,c a b<0↔0<c b a
 trans:∀ a b d,c a b<0->c b d<0->c a d<0
theorem tCi_:zO g8:=by
 refine⟨fun a=>by simp[g8],fun a b h=>?_,fun a b=>?_,fun a b d h1 h2=>?_⟩
 ·unfold g8 at h;split at h
  ·omega
  ·split at h<;>omega
 ·unfold g8;split<;>split<;>(try split)<;>omega
 ·unfold g8 at *
  split at h1
  ·split at h2
   ·rw[if_pos m0];omega
   ·split at h2<;>omega
  ·split at h1<;>omega
def mb {α:Type}(c:α->α->Int):List α->List α->Int
 |[],[]=>0
 |[],_::_ => -1
 |_::_,[]=>1
 |a::xs,b::ys=>if c a b≠0 then c a b else mb c xs ys
theorem K9 {α:Type}{c:α->α->Int}(h:zO c):zO (mb c):=by
 refine⟨?_,?_,?_,?_⟩
 ·intro a
  induction a with
  |nil=>rfl
  |cons x a ih=>simp[mb,h.refl x,ih]
 ·intro a
  induction a with
  |nil=>intro b hb;cases b with
   |nil=>rfl
   |cons _ _=>simp[mb]at hb
  |cons x a ih =>
   intro b hb
   cases b with
   |nil=>simp[mb]at hb
   |cons y b =>
    unfold mb at hb;split at hb
    ·rename_i h0;exact absurd hb h0
    ·rename_i h0
     have:=h.zero x y (by simpa using h0);subst this;rw[ih b hb]
 ·intro a
  induction a with
  |nil=>intro b;cases b with
   |nil=>simp[mb]
   |cons _ _=>simp[mb]
  |cons x a ih =>
   intro b
   cases b with
   |nil=>simp[mb]
   |cons y b =>
    unfold mb;by_cases h0:c x y=0
    ·have:=h.zero x y h0
     subst this;simp only[h.refl,ne_eq,not_true_eq_false,if_false];exact ih b
    ·have h1:c y x≠0:=fun e=>h0 (by rw[h.zero y x e];exact h.refl x)
     rw[if_pos h0,if_pos h1];exact h.anti x y
 ·intro a
  induction a with
  |nil =>
   intro b d h1 h2
   cases b with
   |nil=>simp[mb]at h1
   |cons y b=>cases d with
    |nil=>simp[mb]at h2
    |cons _ _=>simp[mb]
  |cons x a ih =>
   intro b d h1 h2
   cases b with
   |nil=>simp[mb]at h1
   |cons y b =>
    cases d with
    |nil=>simp[mb]at h2
    |cons z d =>
     unfold mb at h1 h2 ⊢;by_cases e1:c x y=0
     ·have:=h.zero x y e1
      subst this;rw[if_neg (by simpa using e1)]at h1;by_cases e2:c x z=0
      ·rw[if_neg (by simpa using e2)]at h2 ⊢
       exact ih b d h1 h2
      ·rw[if_pos e2]at h2 ⊢
       exact h2
     ·rw[if_pos e1]at h1
      by_cases e2:c y z=0
      ·have:=h.zero y z e2
       subst this;rw[if_pos e1];exact h1
      ·rw[if_pos e2]at h2
       have:=h.trans x y z h1 h2;rw[if_pos m0];exact this
theorem nB:∀ a b:List Val,bK a b=mb q6 a b
 |[],[]=>rfl
 |[],_::_=>rfl
 |_::_,[]=>rfl
 |a::xs,b::ys=>by rw[bK,mb,nB xs ys]
def zV (x y:UInt8):Int:=if x<y then -1 else if y<x then 1 else 0
theorem aeG:zO zV:=by
 have key:∀ x y:UInt8,zV x y=g8 ((x.toNat:Nat):Int) ((y.toNat:Nat):Int):=by
  intro x y;unfold zV g8;simp only[UInt8.lt_iff_toNat_lt,Int.ofNat_lt]
 refine⟨fun a=>by rw[key];exact tCi_.refl _,fun a b h=>?_,fun a b=>by rw[key,key];exact tCi_.anti _ _,fun a b d h1 h2=>by rw[key]at *;exact tCi_.trans _ _ _ h1 h2⟩;rw[key]at h;have:=tCi_.zero _ _ h;exact UInt8.toNat_inj.1 m0
theorem y6:∀ a b:List UInt8,Lib.compareBytes a b=mb zV a b
 |[],[]=>rfl
 |[],_::_=>rfl
 |_::_,[]=>rfl
 |x::a,y::b=>by
  have e:mb zV (x::a) (y::b)=if zV x y≠0 then zV x y else mb zV a b:=rfl
  rw[e,<- y6 a b];have e2:Lib.compareBytes (x::a) (y::b)=if x<y then -1 else if y<x then 1 else Lib.compareBytes a b:=by rw[Lib.compareBytes]
  rw[e2];by_cases h1:x<y
  ·simp[h1,zV]
  ·by_cases h2:y<x
   ·simp[h1,h2,zV]
   ·simp[h1,h2,zV]
theorem sP:zO qb:=by
 have key:∀ a b:ByteArray,qb a b=mb zV a.data.toList b.data.toList:=by
  intro a b;unfold qb;rw[Lib.cmp_eq,y6]
 have t:=K9 aeG;refine⟨fun a=>by rw[key];exact t.refl _,fun a b h=>?_,fun a b=>by rw[key,key];exact t.anti _ _,fun a b d h1 h2=>by rw[key]at *;exact t.trans _ _ _ h1 h2⟩;rw[key]at h;have:=t.zero _ _ h;obtain⟨⟨a⟩⟩:=a;obtain⟨⟨b⟩⟩:=b;simp at this;rw[this]
theorem afV:zO q6:=by
 refine⟨?_,?_,?_,?_⟩
 ·intro a;simp[q6,tCi_.refl,sP.refl]
 ·intro a b h
  obtain⟨k,n,t⟩:=a;obtain⟨k',n',t'⟩:=b;unfold q6 at h;dsimp only at h;split at h
  ·rename_i e;exact absurd h e
  ·rename_i e1
   split at h
   ·rename_i e;exact absurd h e
   ·rename_i e2
    have k1:=tCi_.zero _ _ (show g8 k k'=0 by simpa using e1);have k2:=tCi_.zero _ _ (show g8 n n'=0 by simpa using e2);have k3:=sP.zero _ _ h;subst k1 k2 k3;rfl
 ·intro a b
  unfold q6;by_cases e1:g8 a.kind b.kind=0
  ·have k:=tCi_.zero _ _ e1
   rw[k];simp only[tCi_.refl,ne_eq,not_true_eq_false,if_false];by_cases e2:g8 a.int b.int=0
   ·have k2:=tCi_.zero _ _ e2
    rw[k2];simp only[tCi_.refl,ne_eq,not_true_eq_false,if_false];exact sP.anti _ _
   ·have e2':g8 b.int a.int≠0:=fun e=>e2 (by rw[tCi_.zero _ _ e];exact tCi_.refl _)
    rw[if_pos e2,if_pos e2'];exact tCi_.anti _ _
  ·have e1':g8 b.kind a.kind≠0:=fun e=>e1 (by rw[tCi_.zero _ _ e];exact tCi_.refl _)
   rw[if_pos e1,if_pos e1'];exact tCi_.anti _ _
 ·intro a b d h1 h2
  unfold q6 at *;by_cases e1:g8 a.kind b.kind=0
  ·have k:=tCi_.zero _ _ e1
   rw[k]at h1 ⊢;simp only[tCi_.refl,ne_eq,not_true_eq_false,if_false]at h1;by_cases f1:g8 b.kind d.kind=0
   ·rw[if_neg (by simpa using f1)]at h2 ⊢
    by_cases e2:g8 a.int b.int=0
    ·have k2:=tCi_.zero _ _ e2
     rw[k2]at h1 ⊢;simp only[tCi_.refl,ne_eq,not_true_eq_false,if_false]at h1;by_cases f2:g8 b.int d.int=0
     ·rw[if_neg (by simpa using f2)]at h2 ⊢
      exact sP.trans _ _ _ h1 h2
     ·rw[if_pos f2]at h2 ⊢;exact h2
    ·rw[if_pos e2]at h1
     by_cases f2:g8 b.int d.int=0
     ·have k2:=tCi_.zero _ _ f2
      rw[<- k2,if_pos e2];exact h1
     ·rw[if_pos f2]at h2
      have:=tCi_.trans _ _ _ h1 h2;rw[if_pos m0];exact this
   ·rw[if_pos f1]at h2 ⊢;exact h2
  ·rw[if_pos e1]at h1
   by_cases f1:g8 b.kind d.kind=0
   ·have k:=tCi_.zero _ _ f1
    rw[<- k,if_pos e1];exact h1
   ·rw[if_pos f1]at h2
    have:=tCi_.trans _ _ _ h1 h2;rw[if_pos m0];exact this
theorem tCr_:zO bK:=by
 have t:=K9 afV;exact⟨fun a=>by rw[nB];exact t.refl _,fun a b h=>t.zero _ _ (by rw[<- nB];exact h),fun a b=>by rw[nB,nB];exact t.anti _ _,fun a b d h1 h2=>by rw[nB]at *;exact t.trans _ _ _ h1 h2⟩
section
variable {α:Type} {c:α->α->Int}
def Asc (c:α->α->Int)(l:List α):Prop:=l.Pairwise fun a b=>c a b<=0
theorem zO.le_trans (h:zO c){a b d:α}(h1:c a b<=0)(h2:c b d<=0):c a d<=0:=by
 by_cases e1:c a b=0
 ·rw[h.zero a b e1];exact h2
 ·by_cases e2:c b d=0
  ·rw[<- h.zero b d e2];exact h1
  ·have:=h.trans a b d m0 m0;omega
theorem zO.total (h:zO c)(a b:α):c a b<=0\/c b a<=0:=by
 by_cases e:c a b<=0
 ·exact .inl e
 ·have:=(h.anti b a).2 m0;exact .inr m0
theorem uo (h:zO c):∀ {l m:List α},Asc c l->Asc c m->l.Perm m->l=m
 |[],m,_,_,hp=>by rw[List.Perm.nil_eq hp]
 |x::l,[],_,_,hp=>by have:=hp.length_eq;simp at this
 |x::l,y::m,hl,hm,hp=>by
  have hx:x∈y::m:=hp.mem_iff.1 (aqW ..);have hy:y∈x::l:=hp.mem_iff.2 (aqW ..);rw[Asc,aq5]at hl hm;have e:x=y:=by
   rcases aqp.1 hx with e|hx
   ·exact e
   ·rcases aqp.1 hy with e|hy
    ·exact e.symm
    ·have h1:=hm.1 x hx
     have h2:=hl.1 y hy;by_cases e0:c x y=0
     ·exact h.zero _ _ e0
     ·have:=(h.anti x y).1 m0;omega
  subst e;rw[uo h hl.2 hm.2 (List.Perm.cons_inv hp)]
end
theorem KJ (x y:Int):He x y=some (g8 x y):=by
 unfold He C4 g8;by_cases h1:x<y
 ·simp[h1]
 ·by_cases h2:y<x
  ·simp[h1,h2]
  ·simp[h1,h2]
def orS (_:Unit)(x:Int):Option (Sum Unit Int):=if x≠0 then some (.inr x)else some (.inl ())
theorem apO (a b c:Int):gOr [a,b,c]=some (if a≠0 then a else if b≠0 then b else c):=by
 unfold gOr;rw[bX (l:=[a,b,c]) (mk:=fun(_:Unit) i=>i) (f:=orS) ?_ ?_ (by unfold fuel;simp) ()]
 ·unfold orS
  by_cases h1:a=0
  ·by_cases h2:b=0
   ·by_cases h3:c=0
    ·simp[cn,A_,Cb,h1,h2,h3]
    ·simp[cn,A_,Cb,h1,h2,h3]
   ·simp[cn,A_,Cb,h1,h2]
  ·simp[cn,A_,Cb,h1]
 ·intro s i x hx
  have hi:i<3:=(ap_.1 hx).1;unfold Jp orS;dsimp only;rw[aO hx,aqa,gn_ hx];simp only[ap9];rw[wrapN m0];by_cases h:x=0
  ·simp[h,nT]
  ·simp[h,nT]
 ·intro s
  unfold Jp;dsimp only;rw[lF_,ap']
theorem v7 (v w:Val):sd v w=some (q6 v w):=by
 unfold sd;rw[KJ,KJ];simp only[ap9];rw[apO];rfl
theorem MS:∀ (b:List Val),bK [] b=if b=[]then 0 else -1
 |[]=>rfl
 |_::_=>rfl
theorem HV {a b:List Val}(ha:a.length<=4000000000000)(hb:b.length<=4000000000000):∀ (n i:Nat),i<=a.length->i<=b.length->a.length-i<n->(ao (iW a b fun x0 x1=>sd x0 x1) n (i:Int)).bind (od a b)=some (bK (a.drop i) (b.drop i))
 |0,_,_,_,h=>by omega
 |n+1,i,h1,h2,hn=>by
  rw[ao];by_cases O0:i<a.length
  ·obtain⟨x,hx⟩:=gol_ O0
   have ex:=(ap_.1 hx).2;have eb:iW a b (fun x0 x1=>sd x0 x1) (i:Int)=bif (decide (((b.length:Nat):Int)<=(i:Int)))then some (.ret (1:Int))else(aF b (i:Int)).bind fun P3=>(sd x P3).bind fun Qc=>bif (decide (Qc≠(0:Int)))then some (.ret Qc)else some (.next (i64.wrap ((i:Int)+(1:Int)))):=by
    unfold iW;dsimp only;rw[aO hx,aqa,gn_ hx];rfl
   rw[eb,aqF O0,ex];by_cases Wv:i<b.length
   ·obtain⟨y,hy⟩:=gol_ Wv
    have ey:=(ap_.1 hy).2;rw[aqF Wv,ey,show decide (((b.length:Nat):Int)<=(i:Int))=false from aqb m0,ap',gn_ hy,bK];simp only[ap9,v7];by_cases h:q6 x y=0
    ·simp only[h,ne_eq,not_true_eq_false,decide_false,ap',if_false]
     rw[wrapN m0];have k:=HV ha hb n (i+1) m0 m0 m0;simp only[v7]at k;exact k
    ·simp[h,od]
   ·have:i=b.length:=m0
    subst this;rw[aq4,show decide (((b.length:Nat):Int)<=((b.length:Nat):Int))=true from aqc m0,aqa];rfl
  ·have:i=a.length:=m0
   subst this;have eb:iW a b (fun x0 x1=>sd x0 x1) ((a.length:Nat):Int)=some (.exit ((a.length:Nat):Int)):=by
    unfold iW;dsimp only;rw[lF_,ap']
   rw[eb,aq4,MS];show od a b (.inl ((a.length:Nat):Int))=_;unfold od;by_cases h:a.length<b.length
   ·rw[show decide (((a.length:Nat):Int)<((b.length:Nat):Int))=true from aqc m0,aqa,if_neg (by rw[List.drop_eq_nil_iff];omega)]
   ·rw[show decide (((a.length:Nat):Int)<((b.length:Nat):Int))=false from aqb m0,ap',if_pos (by rw[List.drop_eq_nil_iff];omega)]
theorem agf (a b:List Val)(ha:a.length<=4000000000000)(hb:b.length<=4000000000000):NO a b=some (bK a b):=by
 unfold NO JO;have:=HV ha hb fuel 0 (aqu _) (aqu _) (by unfold fuel;omega);rw[show(((0:Nat):Int))=0 from rfl]at this;rw[this];rfl
theorem bytesLess_eq:∀ a b:List UInt8,Op.bytesLess a b=decide (Lib.compareBytes a b<0)/\(a==b)=decide (Lib.compareBytes a b=0)
 |[],[]=>⟨rfl,rfl⟩
 |[],_::_=>⟨rfl,rfl⟩
 |_::_,[]=>⟨rfl,rfl⟩
 |x::a,y::b=>by
  have e2:Lib.compareBytes (x::a) (y::b)=if x<y then -1 else if y<x then 1 else Lib.compareBytes a b:=by rw[Lib.compareBytes]
  have e3:Op.bytesLess (x::a) (y::b)=(decide (x<y)||(x==y&&Op.bytesLess a b)):=by rw[Op.bytesLess]
  obtain⟨i1,i2⟩:=bytesLess_eq a b;rw[e2,e3,List.cons_beq_cons,i1,i2];by_cases h1:x<y
  ·have Pn:x≠y:=fun e=>by rw[e]at h1;exact absurd h1 (UInt8.lt_irrefl y)
   simp[h1,Pn]
  ·by_cases h2:y<x
   ·have Pn:x≠y:=fun e=>by rw[e]at h2;exact absurd h2 (UInt8.lt_irrefl y)
    simp[h1,h2,Pn]
   ·have heq:x=y:=UInt8.le_antisymm (UInt8.not_lt.1 h2) (UInt8.not_lt.1 h1)
    subst heq;simp[h1]
theorem aeN (a b:ByteArray):Op.bytesLess a.toList b.toList=decide (qb a b<0):=by
 unfold qb;rw[Lib.cmp_eq,ByteArray.toList_eq,ByteArray.toList_eq];exact(bytesLess_eq _ _).1
theorem akG (a b:ByteArray):(a.toList==b.toList)=decide (qb a b=0):=by
 unfold qb;rw[Lib.cmp_eq,ByteArray.toList_eq,ByteArray.toList_eq];exact(bytesLess_eq _ _).2
theorem k9:∀ a b:List UInt8,Lib.compareBytes a b = -1\/Lib.compareBytes a b=0\/Lib.compareBytes a b=1
 |[],[] => .inr (.inl rfl)
 |[],_::_ => .inl rfl
 |_::_,[] => .inr (.inr rfl)
 |x::a,y::b=>by
  have e2:Lib.compareBytes (x::a) (y::b)=if x<y then -1 else if y<x then 1 else Lib.compareBytes a b:=by rw[Lib.compareBytes]
  rw[e2];split
  ·exact .inl rfl
  ·split
   ·exact .inr (.inr rfl)
   ·exact k9 a b
theorem DO (v w:Val):tY v w=some (q6 v w):=by
 unfold tY q6 Es;rw[aeN,akG];have hr:qb v.text w.text = -1\/qb v.text w.text=0\/qb v.text w.text=1:=by unfold qb;rw[Lib.cmp_eq];exact k9 _ _
 by_cases h1:v.kind=w.kind
 ·have e1:g8 v.kind w.kind=0:=by rw[h1];exact tCi_.refl _
  by_cases h2:v.int=w.int
  ·have e2:g8 v.int w.int=0:=by rw[h2];exact tCi_.refl _
   rw[e1,e2];simp only[h1,h2,ne_eq,not_true_eq_false,decide_false,ap',if_false];rcases hr with h|h|h<;>rw[h]<;>rfl
  ·have e2:g8 v.int w.int≠0:=fun e=>h2 (tCi_.zero _ _ e)
   rw[e1];simp only[h1,h2,e2,ne_eq,not_true_eq_false,not_false_eq_true,sl9,if_false,if_true];unfold g8;by_cases h3:v.int<w.int
   ·simp[h3]
   ·have:w.int<v.int:=m0
    simp[h3,this]
 ·have e1:g8 v.kind w.kind≠0:=fun e=>h1 (tCi_.zero _ _ e)
  simp only[h1,e1,ne_eq,not_true_eq_false,not_false_eq_true,sl9,if_false,if_true];unfold g8;by_cases h3:v.kind<w.kind
  ·simp[h3]
  ·have:w.kind<v.kind:=m0
   simp[h3,this]
theorem Ly {a b:List Val}(ha:a.length<=4000000000000)(hb:b.length<=4000000000000):∀ (n i:Nat),i<=a.length->i<=b.length->a.length-i<n->(ao (fK a b) n (i:Int)).bind (iH a b)=some (bK (a.drop i) (b.drop i))
 |0,_,_,_,h=>by omega
 |n+1,i,h1,h2,hn=>by
  rw[ao];by_cases O0:i<a.length
  ·obtain⟨x,hx⟩:=gol_ O0
   have ex:=(ap_.1 hx).2;rw[aqF O0,ex];by_cases Wv:i<b.length
   ·obtain⟨y,hy⟩:=gol_ Wv
    have ey:=(ap_.1 hy).2;have eb:fK a b (i:Int)=bif (decide (q6 x y≠(0:Int)))then some (.ret (q6 x y))else some (.next (i64.wrap ((i:Int)+(1:Int)))):=by
     unfold fK;dsimp only;rw[aO hx,aqa,aO hy,aqa,gn_ hx,gn_ hy];simp only[ap9,DO]
    rw[eb,aqF Wv,ey,bK];by_cases h:q6 x y=0
    ·simp only[h,ne_eq,not_true_eq_false,decide_false,ap',if_false]
     rw[wrapN m0];exact Ly ha hb n (i+1) m0 m0 m0
    ·simp[h,iH]
   ·have:i=b.length:=m0
    subst this;have eb:fK a b ((b.length:Nat):Int)=some (.exit ((b.length:Nat):Int)):=by
     unfold fK;dsimp only;rw[aO hx,aqa,lF_,ap']
    rw[eb,aq4];show iH a b (.inl ((b.length:Nat):Int))=_;unfold iH;rw[show decide (((a.length:Nat):Int)<((b.length:Nat):Int))=false from aqb m0,ap',show decide (((b.length:Nat):Int)<((a.length:Nat):Int))=true from aqc m0,aqa];rfl
  ·have:i=a.length:=m0
   subst this;have eb:fK a b ((a.length:Nat):Int)=some (.exit ((a.length:Nat):Int)):=by
    unfold fK;dsimp only;rw[lF_,ap']
   rw[eb,aq4,MS];show iH a b (.inl ((a.length:Nat):Int))=_;unfold iH;by_cases h:a.length<b.length
   ·rw[show decide (((a.length:Nat):Int)<((b.length:Nat):Int))=true from aqc m0,aqa,if_neg (by rw[List.drop_eq_nil_iff];omega)]
   ·rw[show decide (((a.length:Nat):Int)<((b.length:Nat):Int))=false from aqb m0,ap',show decide (((b.length:Nat):Int)<((a.length:Nat):Int))=false from aqb m0,ap',if_pos (by rw[List.drop_eq_nil_iff];omega)]
theorem jJ (a b:List Val)(ha:a.length<=4000000000000)(hb:b.length<=4000000000000):nK a b=some (bK a b):=by
 unfold nK;have:=Ly ha hb fuel 0 (aqu _) (aqu _) (by unfold fuel;omega);rw[show(((0:Nat):Int))=0 from rfl]at this;rw[this];rfl
def ul (OV:ac)(OW:ac):Option (Int):=(NO OV.row OW.row).bind fun O7=>some O7
instance gRowsC_ok {OV : ac} {OW : ac} {r : Int} : OkC (ul OV OW = some r) (PTz 239 [.agg (af OV), .agg (af OW)] (.val (.one (.int .i64 r)))) := .mk fun H => by
 unfold ul at H;refine po_ Tryz.func239 Tryz.ntmps239 ?_;obtain⟨O7,c1,H⟩:=bd_ H;replace c1:=gTCmp_ok c1
 try simp only[aql,aqj,aqn,aqd,aC]at c1
 obtain rfl:=aqG H;exact Fa
theorem af1 (a b:ac)(ha:a.row.length<=4000000000000)(hb:b.row.length<=4000000000000):ul a b=some (bK a.row b.row):=by
 unfold ul;rw[agf _ _ ha hb];rfl
def Ew {α:Type}(c:α->α->Int)(A:List α)(x:α):Nat->Nat
 |0=>0
 |j+1=>match A[j]? with
  |some y=>if c x y<0 then Ew c A x j else j+1
  |none=>j+1
def Bl {α:Type}(c:α->α->Int)(A:List α)(x:α):List α:=A.take (Ew c A x A.length)++x::A.drop (Ew c A x A.length)
def lH {α:Type}(c:α->α->Int)(l:List α):List α:=l.foldl (Bl c) []
theorem Hf {α:Type}(c:α->α->Int)(B:List α)(x:α):∀ j,j<=B.length->Ew c B x j<=j/\(∀ i y,Ew c B x j<=i->i<j->B[i]?=some y->c x y<0)/\(∀ q,Ew c B x j=q+1 ->∃ y,B[q]?=some y /\ ¬ c x y<0)
 |0,_=>⟨aqo _,fun i y _ h=>by omega,fun q h=>by simp[Ew]at h⟩
 |j+1,hj=>by
  obtain⟨y,hy⟩:=gol_ (show j<B.length by omega);obtain⟨h1,h2,h3⟩:=Hf c B x j m0;unfold Ew;simp only[hy];split
  ·rename_i O0
   refine⟨m0,fun i z hi S3 hz=>?_,h3⟩;by_cases e:i=j
   ·subst e;rw[hy]at hz;injection hz with hz;subst hz;exact O0
   ·exact h2 i z hi m0 hz
  ·rename_i SU
   exact⟨aqo _,fun i z hi S3 _=>by omega,fun q hq=>by injection hq with hq;subst hq;exact⟨y,hy,SU⟩⟩
theorem aeZ {α:Type}(c:α->α->Int)(B:List α)(x:α):(Bl c B x).Perm (x::B):=by
 unfold Bl;refine List.perm_middle.trans ?_;rw[aqU]
theorem qt {α:Type}(c:α->α->Int):∀ (l B:List α),(l.foldl (Bl c) B).Perm (l++B)
 |[],B=>List.Perm.refl _
 |x::l,B=>by
  rw[aqZ];refine(qt c l (Bl c B x)).trans ?_;refine((aeZ c B x).append_left l).trans ?_;exact List.perm_middle
theorem oY {α:Type}(c:α->α->Int)(l:List α):(lH c l).Perm l:=by
 have:=qt c l [];simpa[lH]using this
theorem agK {α:Type}{c:α->α->Int}(We:∀ a b d,c a b<=0->c b d<=0->c a d<=0)(VC:∀ a b,¬ c a b<0->c b a<=0){B:List α}(x:α)(h:B.Pairwise fun a b=>c a b<=0):(Bl c B x).Pairwise fun a b=>c a b<=0:=by
 obtain⟨h1,h2,h3⟩:=Hf c B x B.length (aqo _);unfold Bl;generalize Ew c B x B.length=p at h1 h2 h3;have hd:∀ y∈B.drop p,c x y<=0:=by
  intro y hy;obtain⟨i,hi⟩:=List.getElem?_of_mem hy;rw[aqV]at hi;have:=(ap_.1 hi).1;have:=h2 (p+i) y m0 this hi;omega
 have ht:∀ y∈B.take p,c y x<=0:=by
  intro y hy
  cases p with
  |zero=>simp at hy
  |succ q =>
   obtain⟨z,hz,SU⟩:=h3 q rfl;have hzx:=VC x z SU;obtain⟨i,hi⟩:=List.getElem?_of_mem hy;have Ve:i<q+1:=by have:=(ap_.1 hi).1;rw[aq0]at this;omega
   rw[List.getElem?_take_of_lt Ve]at hi;by_cases e:i=q
   ·subst e;rw[hi]at hz;injection hz with hz;subst hz;exact hzx
   ·have O0:i<q:=m0
    have Rw:=ap_.1 hi;have hz':=ap_.1 hz;have:=List.pairwise_iff_getElem.1 h i q Rw.1 hz'.1 O0;rw[Rw.2,hz'.2]at this;exact We _ _ _ this hzx
 refine List.pairwise_append.2 ⟨h.sublist (List.take_sublist _ _),aq5.2 ⟨hd,h.sublist (List.drop_sublist _ _)⟩,fun a ha b hb=>?_⟩;rcases aqp.1 hb with rfl|hb
 ·exact ht a ha
 ·exact We _ _ _ (ht a ha) (hd b hb)
theorem Gm {α:Type}{c:α->α->Int}(We:∀ a b d,c a b<=0->c b d<=0->c a d<=0)(VC:∀ a b,¬ c a b<0->c b a<=0)(l:List α):(lH c l).Pairwise fun a b=>c a b<=0:=by
 have:∀ (l B:List α),(B.Pairwise fun a b=>c a b<=0)->(l.foldl (Bl c) B).Pairwise fun a b=>c a b<=0:=by
  intro l
  induction l with
  |nil=>intro B h;exact h
  |cons x l ih=>intro B h;exact ih _ (agK We VC x h)
 exact this l [] List.Pairwise.nil
abbrev fr (a b:ac):Int:=bK a.row b.row
abbrev gE (s:ac):fy:=(b8 s.row,.lst (s.periods.map aN))
theorem apC {L:List Ob}{v k:Nat}{l:List fy}{x:AV}{xs:List AV}(h0:L[3]?=some (Ob.row v (l.map oq) k))(hx:∀ y∈x::xs,y.below 1):fS [3] [Ob.row v (l.map oq) k] (x::xs) L:=by
 refine⟨rfl,m5,fun i y hy=>?_,bv ⟨cB _ _ _ _,t7⟩,hx⟩
 match i,hy with
 |0,hy=>simp at hy;subst hy;rw[wM];exact h0
 |i+1,hy=>simp at hy
theorem jG3 {L L':List Ob}{v k:Nat}{l:List fy}(h:L.set 3 (Ob.row v (l.map oq) k)=L'):joinL [3] L [Ob.row v (l.map oq) k]=L':=by
 subst h;simp[joinL,join,db,b6,fo,wM]
def lR (l:List ap):List ac:=lH fr ((df l).map fun g=>⟨g.f.row,g.ps⟩)
theorem aka:PTz 276 [.one (.lst []),.one (.int .i64 0),.one (.int .i64 0),.one (.fn 239 [])] (.tup []):=by
 refine po_ Tryz.func276 Tryz.ntmps276 ?_;refine aY ?_;refine alM_ (σ:=Unit) (ρ:=Unit) (body:=fun _=>some (.exit ())) (K:=fun _=>some ()) (r:=()) (s0:=()) (fun _=>[(0,.one (.c (.lst []))),(1,.one (.c (.int .i64 0))),(2,.one (.c (.int .i64 0))),(8,.one (.c (.int .i64 1)))]) (fun _=>[]) rfl (fun _=>aqu _) (fm_ bF [] rfl bn cm) ?_;rintro⟨⟩ st hb hk
 cases hb;refine aY ?_;exact⟨.inl rfl,bg rfl (by repeat' (first|exact t7|rfl|apply And.intro)) rfl⟩
theorem ajZ:PTz 254 [.one (.lst []),.one (.int .i64 0),.one (.fn 239 [])] (.tup []):=by
 have c:=aka;refine po_ Tryz.func254 Tryz.ntmps254 ?_;refine aY ?_;refine alM_ (σ:=Unit) (ρ:=Unit) (body:=fun _=>some (.exit ())) (K:=fun _=>some ()) (r:=()) (s0:=()) (fun _=>[(0,.one (.c (.lst []))),(1,.one (.c (.int .i64 0))),(2,.one (.c (.fn 239 []))),(6,.one (.c (.int .i64 20))),(7,.one (.c (.int .i64 0))),(8,.one (.c (.int .i64 20)))]) (fun _=>[]) rfl (fun _=>aqu _) (fm_ bF [] rfl bn cm) ?_;rintro⟨⟩ st hb hk
 cases hb;refine aY ?_;refine alM_ (σ:=Unit) (ρ:=Unit) (body:=fun _=>some (.exit ())) (K:=fun _=>some ()) (r:=()) (s0:=()) (fun _=>[(1,.one (.c (.int .i64 0))),(6,.one (.c (.int .i64 20)))]) (fun _=>[]) rfl (fun _=>aqu _) (fm_ bF [] rfl bn cm) ?_;rintro⟨⟩ st hb hk
 cases hb;refine aY ?_;exact⟨.inl rfl,bg rfl (by repeat' (first|exact t7|rfl|apply And.intro)) rfl⟩
theorem abt:PTz 238 [.one (.lst []),.one (.fn 239 [])] (.tup []):=by
 have c:=ajZ;refine po_ Tryz.func238 Tryz.ntmps238 ?_;refine aY ?_;exact⟨.inl rfl,bg rfl (by repeat' (first|exact t7|rfl|apply And.intro)) rfl⟩
abbrev cl {α:Type}(enc:α->List AC)(k v:Nat)(X:List α):Ob := .row v ((X.map enc).map (List.map SV.c)) k
theorem NT {α:Type}(enc:α->List AC)(k v:Nat)(X:List α)(σ:List Nat):(cl enc k v X).ren σ=cl enc k v X:=by
 show Ob.row v (((X.map enc).map (List.map SV.c)).map (List.map (SV.ren σ))) k=_;rw[List.map_map];congr 1;refine List.map_congr_left fun e _=>?_
 show(e.map SV.c).map (SV.ren σ)=e.map SV.c;rw[List.map_map];rfl
theorem aR {α:Type}(n:Nat)(enc:α->List AC)(k v:Nat)(X:List α):(cl enc k v X).below n:=iY n v k enc X
theorem rfX {α:Type}{enc:α->List AC}{k v:Nat}{X:List α}{L:List Ob}{args:List AV}(h0:L[0]?=some (cl enc k v X))(hx:∀ y∈args,y.below 1):fS [0] [cl enc k v X] args L:=by
 refine⟨rfl,m5,fun i y hy=>?_,bv ⟨aR _ _ _ _ _,t7⟩,hx⟩
 match i,hy with
 |0,hy=>simp only[List.getElem?_cons_zero,Option.some.injEq]at hy;subst hy;rw[NT];exact h0
 |i+1,hy=>simp at hy
theorem jX {α:Type}{enc:α->List AC}{k v:Nat}{X:List α}{L L':List Ob}(h:L.set 0 (cl enc k v X)=L'):joinL [0] L [cl enc k v X]=L':=by
 subst h;simp only[joinL,join,db,b6,fo,aqj,aqn,NT];simp
section
variable {P:Program} {ti:TI} {N:Nat} {ds:List (Option Tmp)} {K:Tm->List Ob->Prop} {rest:List Oper} {o:Oper} {T:Tm} {L:List Ob}
theorem r_ {α:Type}{enc:α->List AC}{X Y:List α}{g:FuncId}{TZ args:List AV}{v k d:Nat}(hd:o.dst=some d)(hN:Nat.blt d N=true)(hg:fR ds T o.guard=some true)(hp:dd ti (look T) o.op=some (g,TZ))(hL:L[0]?=some (cl enc k v X))(h:aI P ti N ds K rest ((d,.tup [])::T) (L.set 0 (cl enc k v Y)))
  (hc:Run P g [cl enc k v X] args [cl enc k v Y] (.tup []):=by assumption) (ha:TZ=args.map (AV.ren [0]):=by rfl) (hb:∀ y∈args,y.below 1:=by refine bW ?_;repeat' (first|refine⟨?_,?_⟩|exact t7|exact lt_)):aI P ti N ds K (o::rest) T L :=
 cI [0] hd hN hg hp hc ha (rfX hL hb) rfl (jX rfl) h
theorem anq {α:Type}{enc:α->List AC}{X:List α}{x:α}{t:TypeId}{p:Operand}{id OY i k d:Nat}(hd:o.dst=some d)(hN:Nat.blt d N=true){g0:Bool}(hg:fR ds T o.guard=some g0)(ho:o.op = .load t p)(hp:look T p=some (.one (.ep id OY i 0)))(hL:L[id]?=some (cl enc k OY X))(ha:ti.agg t=some true)(hn:ti.size t=some k)(hk:∀ x,(enc x).length=k)
  (h:aI P ti N ds K rest ((d,.agg ((enc x).map SV.c))::T) L) (hx:X[i]?=some x:=by assumption) (Rk:g0=true:=by first|rfl|exact jj (by first|assumption|exact jH (by assumption))|exact jc (by first|assumption|exact jZ (by assumption))):aI P ti N ds K (o::rest) T L:=by
 subst Rk;have hl:((enc x).map SV.c).length=k:=by rw[aqk,hk]
 refine I1 hd hN hg ho hp hL ha hn (e:=(enc x).map SV.c) ?_ (by rw[List.drop_zero,<- hl,List.take_length]) m0 h;rw[aqw,aqw,hx];rfl
theorem ano {α:Type}{enc:α->List AC}{X:List α}{x:α}{y:AC}{t:TypeId}{p:Operand}{id OY i k d:Nat}(hd:o.dst=some d)(hN:Nat.blt d N=true){g0:Bool}(hg:fR ds T o.guard=some g0)(ho:o.op = .load t p)(hp:look T p=some (.one (.ep id OY i 0)))(hL:L[id]?=some (cl enc k OY X))(ha:ti.agg t=some false)
  (h:aI P ti N ds K rest ((d,.one (.c y))::T) L) (hx:X[i]?=some x:=by assumption) (hy:enc x=[y]:=by rfl) (Rk:g0=true:=by first|rfl|exact jj (by first|assumption|exact jH (by assumption))|exact jc (by first|assumption|exact jZ (by assumption))):aI P ti N ds K (o::rest) T L:=by
 subst Rk;refine kR hd hN hg ho hp hL ha (e:=(enc x).map SV.c) (x := .c y) ?_ (by rw[hy];rfl) h;rw[aqw,aqw,hx];rfl
end
theorem kn {α β:Type}{X:List α}{i:Int}{k:α->Option β}{r:β}(H:(aF X i).bind k=some r):∃ x,X[0+i.toNat]?=some x/\k x=some r:=by
 obtain⟨x,h,K⟩:=bd_ H;obtain⟨h0,h1⟩:=iZ h;exact⟨x,by rw[aqR];exact h1,K⟩
theorem tJ {p q:Prop}(k:q)(h:Bx q->p:=by
 intro hq
 repeat' (first
  |refine r_ rfl rfl rfl rfl rfl ?_|refine anq rfl rfl rfl rfl rfl rfl rfl rfl (fun _=>rfl) ?_|refine ano rfl rfl rfl rfl rfl rfl rfl ?_|refine AA rfl rfl rfl rfl rfl m0 rfl (fun _=>rfl) rfl ?_|refine p_ rfl rfl rfl rfl rfl ?_|refine st_nil ?_|refine x_ rfl rfl rfl rfl rfl rfl rfl rfl ?_|refine l_ rfl rfl rfl rfl ?_|refine s_ rfl rfl rfl ?_|refine t_ rfl rfl rfl rfl ?_|refine k_ rfl rfl rfl ?_|refine k0_ rfl rfl ?_|refine c_ rfl rfl rfl rfl ?_|refine pick_t rfl rfl rfl rfl rfl rfl rfl ?_|refine pick_f rfl rfl rfl rfl rfl rfl rfl ?_|refine aw_seq ?_|refine aw_region am _ rfl ?_|refine aw_drawn2 aX _ rfl mixed (by decide +kernel) ?_|refine aw_condT rfl ?_|refine aw_condF rfl ?_|refine aw_block ?_|refine aw_exit ?_|refine aw_ret ?_|refine aw_skip ?_|rw[aqk]|rw[mn_norm]|rw[mx_norm])
 exact hq.out):p:=h ⟨k⟩
theorem iw {p:Prop}(h:p:=by
 repeat' (first
  |refine r_ rfl rfl rfl rfl rfl ?_|refine anq rfl rfl rfl rfl rfl rfl rfl rfl (fun _=>rfl) ?_|refine ano rfl rfl rfl rfl rfl rfl rfl ?_|refine AA rfl rfl rfl rfl rfl m0 rfl (fun _=>rfl) rfl ?_|refine p_ rfl rfl rfl rfl rfl ?_|refine st_nil ?_|refine x_ rfl rfl rfl rfl rfl rfl rfl rfl ?_|refine l_ rfl rfl rfl rfl ?_|refine s_ rfl rfl rfl ?_|refine t_ rfl rfl rfl rfl ?_|refine k_ rfl rfl rfl ?_|refine k0_ rfl rfl ?_|refine c_ rfl rfl rfl rfl ?_|refine pick_t rfl rfl rfl rfl rfl rfl rfl ?_|refine pick_f rfl rfl rfl rfl rfl rfl rfl ?_|refine aw_seq ?_|refine aw_region am _ rfl ?_|refine aw_drawn2 aX _ rfl mixed (by decide +kernel) ?_|refine aw_condT rfl ?_|refine aw_condF rfl ?_|refine aw_block ?_|refine aw_exit ?_|refine aw_ret ?_|refine aw_skip ?_|rw[aqk]|rw[mn_norm]|rw[mx_norm])
 first
  |exact⟨.inl rfl,⟨.inr ⟨.tup [],⟨t7,rfl⟩,rfl⟩,⟨[],rfl⟩,m5,bv ⟨aR _ _ _ _ _,t7⟩,t7⟩⟩
  |exact⟨.inr rfl,⟨.inr ⟨.tup [],⟨t7,rfl⟩,rfl⟩,⟨[],rfl⟩,m5,bv ⟨aR _ _ _ _ _,t7⟩,t7⟩⟩):p:=h
abbrev bL (x:Int):Int:=i64.wrap (Int.fdiv (IntKind.u64.wrap x) (2 ^ (min (Int.toNat (1:Int)) (IntKind.bits .u64))))
def dQ {α:Type}(OV:Int)(OW:Int)(PQ:Int)(n:Nat):((List α)×Int)->Option (Step ((List α)×Int) (List α)):=fun s=>match s with
 |(PP,i_2)=>bif (decide (i_2<PQ))then bif (decide (0<=(i64.wrap (OW+i_2))))then(bif (decide ((i64.wrap (OW+i_2))<((n:Nat):Int)))then((aF PP (i64.wrap (OW+i_2))).bind fun P7=>bif (decide (0<=(i64.wrap (OV+i_2))))then(bif (decide ((i64.wrap (OV+i_2))<((n:Nat):Int)))then((aF PP (i64.wrap (OV+i_2))).bind fun P3=>bif (decide (0<=(i64.wrap (OV+i_2))))then(bif (decide ((i64.wrap (OV+i_2))<((n:Nat):Int)))then(bif (decide ((0+(i64.wrap (OV+i_2)).toNat)<PP.length))then(bif (decide (0<=(i64.wrap (OW+i_2))))then(bif (decide ((i64.wrap (OW+i_2))<((n:Nat):Int)))then(bif (decide ((0+(i64.wrap (OW+i_2)).toNat)<(PP.set (0+(i64.wrap (OV+i_2)).toNat) P7).length))then(some (.next (((PP.set (0+(i64.wrap (OV+i_2)).toNat) P7).set (0+(i64.wrap (OW+i_2)).toNat) P3),(i64.wrap (i_2+(1:Int))))))else none)else none)else none)else none)else none)else none)else none)else none)else none)else none else
 some (.exit (PP,i_2))
def mV {α:Type}:Sum ((List α)×Int) (List α)->Option ((List α))
 |.inl (PP,i_2)=>some PP
 |.inr q=>some q
def gV {α:Type}(n:Nat)(zd:(List α))(OV:Int)(OW:Int)(PQ:Int)(a_cmp:α->α->Option (Int)):Option (List α):=(ao (dQ OV OW PQ n) fuel (zd,(0:Int))).bind (mV)
def eP {α:Type}(Pe:Int)(a_cmp:α->α->Option (Int))(n:Nat):((List α)×Int×Int)->Option (Step ((List α)×Int×Int) (List α)):=fun s=>match s with
 |(PP,i_2,Ro)=>bif (decide (i_2≠Ro))then bif (decide (Ro<i_2))then(gV n PP (i64.wrap (Pe-i_2)) Pe Ro a_cmp).bind fun Zg=>some (.next (Zg,(i64.wrap (i_2-Ro)),Ro))else
 (gV n PP (i64.wrap (Pe-i_2)) (i64.wrap ((i64.wrap (Pe+Ro))-i_2)) i_2 a_cmp).bind fun U3=>some (.next (U3,i_2,(i64.wrap (Ro-i_2))))else
 some (.exit (PP,i_2,Ro))
def pf {α:Type}(Pe:Int)(a_cmp:α->α->Option (Int))(n:Nat):Sum ((List α)×Int×Int) (List α)->Option ((List α))
 |.inl (PP,i_2,Ro)=>(gV n PP (i64.wrap (Pe-i_2)) Pe i_2 a_cmp).bind fun c_8=>some c_8
 |.inr q=>some q
def mA {α:Type}(n:Nat)(zd:(List α))(OV:Int)(Pe:Int)(OW:Int)(a_cmp:α->α->Option (Int)):Option (List α):=(ao (eP Pe a_cmp n) fuel (zd,(i64.wrap (Pe-OV)),(i64.wrap (OW-Pe)))).bind (pf Pe a_cmp n)
def dH {α:Type}(OV:Int)(a_cmp:α->α->Option (Int))(n:Nat):((List α)×Int)->Option (Step ((List α)×Int) (List α)):=fun s=>match s with
 |(Ue,Re)=>bif (decide (OV<Re))then bif (decide (0<=Re))then(bif (decide (Re<((n:Nat):Int)))then((aF Ue Re).bind fun RY=>bif (decide (0<=(i64.wrap (Re-(1:Int)))))then(bif (decide ((i64.wrap (Re-(1:Int)))<((n:Nat):Int)))then((aF Ue (i64.wrap (Re-(1:Int)))).bind fun Sl=>(a_cmp RY Sl).bind fun Q3=>bif (decide (Q3<(0:Int)))then bif (decide (0<=(i64.wrap (Re-(1:Int)))))then(bif (decide ((i64.wrap (Re-(1:Int)))<((n:Nat):Int)))then(bif (decide (0<=Re))then(bif (decide (Re<((n:Nat):Int)))then(bif (decide (0<=Re))then(bif (decide (Re<((n:Nat):Int)))then(bif (decide ((0+Re.toNat)<Ue.length))then(bif (decide (0<=(i64.wrap (Re-(1:Int)))))then(bif (decide ((i64.wrap (Re-(1:Int)))<((n:Nat):Int)))then(bif (decide ((0+(i64.wrap (Re-(1:Int))).toNat)<(Ue.set (0+Re.toNat) Sl).length))then(some (.next (((Ue.set (0+Re.toNat) Sl).set (0+(i64.wrap (Re-(1:Int))).toNat) RY),(i64.wrap (Re-(1:Int))))))else none)else none)else none)else none)else none)else none)else none)else none)else none)else none else
 some (.exit (Ue,Re)))else none)else none)else none)else none else
 some (.exit (Ue,Re))
def il {α:Type}(i_2:Int):Sum ((List α)×Int) (List α)->Option (Step ((List α)×Int) (List α))
 |.inl (Ue,Re)=>some (.next (Ue,(i64.wrap (i_2+(1:Int)))))
 |.inr q=>some (.ret q)
def dL {α:Type}(OV:Int)(OW:Int)(a_cmp:α->α->Option (Int))(n:Nat):((List α)×Int)->Option (Step ((List α)×Int) (List α)):=fun s=>match s with
 |(PP,i_2)=>bif (decide (i_2<OW))then(ao (dH OV a_cmp n) fuel (PP,i_2)).bind (il i_2)else
 some (.exit (PP,i_2))
def qW {α:Type}:Sum ((List α)×Int) (List α)->Option ((List α))
 |.inl (PP,i_2)=>some PP
 |.inr q=>some q
def nN {α:Type}(n:Nat)(zd:(List α))(OV:Int)(OW:Int)(a_cmp:α->α->Option (Int)):Option (List α):=(ao (dL OV OW a_cmp n) fuel (zd,(i64.wrap (OV+(1:Int))))).bind (qW)
def kV {α:Type}(n:Nat)(i_2:Int):((List α)×Int)->Option (Step ((List α)×Int) (List α)):=fun s=>match s with
 |(UO,Qm)=>bif (decide (Qm<(i64.wrap (i_2-(1:Int)))))then bif (decide (0<=(i64.wrap (Qm+(1:Int)))))then(bif (decide ((i64.wrap (Qm+(1:Int)))<((n:Nat):Int)))then((aF UO (i64.wrap (Qm+(1:Int)))).bind fun TJ=>bif (decide (0<=Qm))then(bif (decide (Qm<((n:Nat):Int)))then((aF UO Qm).bind fun VD=>bif (decide (0<=Qm))then(bif (decide (Qm<((n:Nat):Int)))then(bif (decide ((0+Qm.toNat)<UO.length))then(bif (decide (0<=(i64.wrap (Qm+(1:Int)))))then(bif (decide ((i64.wrap (Qm+(1:Int)))<((n:Nat):Int)))then(bif (decide ((0+(i64.wrap (Qm+(1:Int))).toNat)<(UO.set (0+Qm.toNat) TJ).length))then(some (.next (((UO.set (0+Qm.toNat) TJ).set (0+(i64.wrap (Qm+(1:Int))).toNat) VD),(i64.wrap (Qm+(1:Int))))))else none)else none)else none)else none)else none)else none)else none)else none)else none)else none else
 some (.exit (UO,Qm))
def BQ {α:Type}:Sum ((List α)×Int) (List α)->Option ((List α))
 |.inl (UO,Qm)=>some UO
 |.inr q=>some q
def np {α:Type}(zd:List α)(OV:Int)(a_cmp:α->α->Option (Int))(n:Nat):(Int×Int)->Option (Step (Int×Int) (List α)):=fun s=>match s with
 |(i_2,Ro)=>bif (decide (i_2<Ro))then bif (decide (0<=(bL (i64.wrap (i_2+Ro)))))then(bif (decide ((bL (i64.wrap (i_2+Ro)))<((n:Nat):Int)))then((aF zd (bL (i64.wrap (i_2+Ro)))).bind fun P3=>bif (decide (0<=OV))then(bif (decide (OV<((n:Nat):Int)))then((aF zd OV).bind fun SI=>(a_cmp P3 SI).bind fun QV=>bif (decide (QV<(0:Int)))then some (.next ((i64.wrap ((bL (i64.wrap (i_2+Ro)))+(1:Int))),Ro))else
 some (.next (i_2,(bL (i64.wrap (i_2+Ro))))))else none)else none)else none)else none else
 some (.exit (i_2,Ro))
def rc {α:Type}(zd:List α)(OV:Int)(n:Nat):Sum (Int×Int) (List α)->Option ((List α))
 |.inl (i_2,Ro)=>(ao (kV n i_2) fuel (zd,OV)).bind (BQ)
 |.inr q=>some q
def l7 {α:Type}(n:Nat)(QM:Int):((List α)×Int)->Option (Step ((List α)×Int) (List α)):=fun s=>match s with
 |(RG,Qn)=>bif (decide (QM<Qn))then bif (decide (0<=(i64.wrap (Qn-(1:Int)))))then(bif (decide ((i64.wrap (Qn-(1:Int)))<((n:Nat):Int)))then((aF RG (i64.wrap (Qn-(1:Int)))).bind fun XL=>bif (decide (0<=Qn))then(bif (decide (Qn<((n:Nat):Int)))then((aF RG Qn).bind fun Zh=>bif (decide (0<=Qn))then(bif (decide (Qn<((n:Nat):Int)))then(bif (decide ((0+Qn.toNat)<RG.length))then(bif (decide (0<=(i64.wrap (Qn-(1:Int)))))then(bif (decide ((i64.wrap (Qn-(1:Int)))<((n:Nat):Int)))then(bif (decide ((0+(i64.wrap (Qn-(1:Int))).toNat)<(RG.set (0+Qn.toNat) XL).length))then(some (.next (((RG.set (0+Qn.toNat) XL).set (0+(i64.wrap (Qn-(1:Int))).toNat) Zh),(i64.wrap (Qn-(1:Int))))))else none)else none)else none)else none)else none)else none)else none)else none)else none)else none else
 some (.exit (RG,Qn))
def BG {α:Type}:Sum ((List α)×Int) (List α)->Option ((List α))
 |.inl (RG,Qn)=>some RG
 |.inr q=>some q
def om {α:Type}(zd:List α)(Pe:Int)(a_cmp:α->α->Option (Int))(n:Nat):(Int×Int)->Option (Step (Int×Int) (List α)):=fun s=>match s with
 |(QM,Rq)=>bif (decide (QM<Rq))then bif (decide (0<=Pe))then(bif (decide (Pe<((n:Nat):Int)))then((aF zd Pe).bind fun VE=>bif (decide (0<=(bL (i64.wrap (QM+Rq)))))then(bif (decide ((bL (i64.wrap (QM+Rq)))<((n:Nat):Int)))then((aF zd (bL (i64.wrap (QM+Rq)))).bind fun TF=>(a_cmp VE TF).bind fun Q8=>bif (!(decide (Q8<(0:Int))))then some (.next ((i64.wrap ((bL (i64.wrap (QM+Rq)))+(1:Int))),Rq))else
 some (.next (QM,(bL (i64.wrap (QM+Rq))))))else none)else none)else none)else none else
 some (.exit (QM,Rq))
def qZ {α:Type}(zd:List α)(Pe:Int)(n:Nat):Sum (Int×Int) (List α)->Option ((List α))
 |.inl (QM,Rq)=>(ao (l7 n QM) fuel (zd,Pe)).bind (BG)
 |.inr q=>some q
def j7 {α:Type}(zd:List α)(OV:Int)(Pe:Int)(OW:Int)(a_cmp:α->α->Option (Int))(n:Nat):(Int×Int)->Option (Step (Int×Int) (List α)):=fun s=>match s with
 |(z6,QK)=>bif (decide (z6<QK))then bif (decide (0<=(i64.wrap ((i64.wrap ((i64.wrap ((bL (i64.wrap (OV+OW)))+Pe))-(1:Int)))-(bL (i64.wrap (z6+QK)))))))then(bif (decide ((i64.wrap ((i64.wrap ((i64.wrap ((bL (i64.wrap (OV+OW)))+Pe))-(1:Int)))-(bL (i64.wrap (z6+QK)))))<((n:Nat):Int)))then((aF zd (i64.wrap ((i64.wrap ((i64.wrap ((bL (i64.wrap (OV+OW)))+Pe))-(1:Int)))-(bL (i64.wrap (z6+QK)))))).bind fun Zi=>bif (decide (0<=(bL (i64.wrap (z6+QK)))))then(bif (decide ((bL (i64.wrap (z6+QK)))<((n:Nat):Int)))then((aF zd (bL (i64.wrap (z6+QK)))).bind fun Uf=>(a_cmp Zi Uf).bind fun Ww=>bif (!(decide (Ww<(0:Int))))then some (.next ((i64.wrap ((bL (i64.wrap (z6+QK)))+(1:Int))),QK))else
 some (.next (z6,(bL (i64.wrap (z6+QK))))))else none)else none)else none)else none else
 some (.exit (z6,QK))
def jG {α:Type}(zd:List α)(OV:Int)(Pe:Int)(OW:Int)(a_cmp:α->α->Option (Int))(n:Nat)(rec:Nat->List α->Int->Int->Int->(α->α->Option Int)->Option (List α)):Sum (Int×Int) (List α)->Option ((List α))
 |.inl (z6,QK)=>bif (decide (z6<Pe))then bif (decide (Pe<(i64.wrap ((i64.wrap ((bL (i64.wrap (OV+OW)))+Pe))-z6))))then(mA n zd z6 Pe (i64.wrap ((i64.wrap ((bL (i64.wrap (OV+OW)))+Pe))-z6)) a_cmp).bind fun TK=>bif (decide (OV<z6))then bif (decide (z6<(bL (i64.wrap (OV+OW)))))then(rec n TK OV z6 (bL (i64.wrap (OV+OW))) a_cmp).bind fun Wy=>bif (decide ((bL (i64.wrap (OV+OW)))<(i64.wrap ((i64.wrap ((bL (i64.wrap (OV+OW)))+Pe))-z6))))then bif (decide ((i64.wrap ((i64.wrap ((bL (i64.wrap (OV+OW)))+Pe))-z6))<OW))then(rec n Wy (bL (i64.wrap (OV+OW))) (i64.wrap ((i64.wrap ((bL (i64.wrap (OV+OW)))+Pe))-z6)) OW a_cmp).bind fun Zj=>some Zj else
 some Wy else
 some Wy else
 bif (decide ((bL (i64.wrap (OV+OW)))<(i64.wrap ((i64.wrap ((bL (i64.wrap (OV+OW)))+Pe))-z6))))then bif (decide ((i64.wrap ((i64.wrap ((bL (i64.wrap (OV+OW)))+Pe))-z6))<OW))then(rec n TK (bL (i64.wrap (OV+OW))) (i64.wrap ((i64.wrap ((bL (i64.wrap (OV+OW)))+Pe))-z6)) OW a_cmp).bind fun Zk=>some Zk else
 some TK else
 some TK else
 bif (decide ((bL (i64.wrap (OV+OW)))<(i64.wrap ((i64.wrap ((bL (i64.wrap (OV+OW)))+Pe))-z6))))then bif (decide ((i64.wrap ((i64.wrap ((bL (i64.wrap (OV+OW)))+Pe))-z6))<OW))then(rec n TK (bL (i64.wrap (OV+OW))) (i64.wrap ((i64.wrap ((bL (i64.wrap (OV+OW)))+Pe))-z6)) OW a_cmp).bind fun Zl=>some Zl else
 some TK else
 some TK else
 bif (decide (OV<z6))then bif (decide (z6<(bL (i64.wrap (OV+OW)))))then(rec n zd OV z6 (bL (i64.wrap (OV+OW))) a_cmp).bind fun Wz=>bif (decide ((bL (i64.wrap (OV+OW)))<(i64.wrap ((i64.wrap ((bL (i64.wrap (OV+OW)))+Pe))-z6))))then bif (decide ((i64.wrap ((i64.wrap ((bL (i64.wrap (OV+OW)))+Pe))-z6))<OW))then(rec n Wz (bL (i64.wrap (OV+OW))) (i64.wrap ((i64.wrap ((bL (i64.wrap (OV+OW)))+Pe))-z6)) OW a_cmp).bind fun Zm=>some Zm else
 some Wz else
 some Wz else
 bif (decide ((bL (i64.wrap (OV+OW)))<(i64.wrap ((i64.wrap ((bL (i64.wrap (OV+OW)))+Pe))-z6))))then bif (decide ((i64.wrap ((i64.wrap ((bL (i64.wrap (OV+OW)))+Pe))-z6))<OW))then(rec n zd (bL (i64.wrap (OV+OW))) (i64.wrap ((i64.wrap ((bL (i64.wrap (OV+OW)))+Pe))-z6)) OW a_cmp).bind fun Zn=>some Zn else
 some zd else
 some zd else
 bif (decide ((bL (i64.wrap (OV+OW)))<(i64.wrap ((i64.wrap ((bL (i64.wrap (OV+OW)))+Pe))-z6))))then bif (decide ((i64.wrap ((i64.wrap ((bL (i64.wrap (OV+OW)))+Pe))-z6))<OW))then(rec n zd (bL (i64.wrap (OV+OW))) (i64.wrap ((i64.wrap ((bL (i64.wrap (OV+OW)))+Pe))-z6)) OW a_cmp).bind fun Zo=>some Zo else
 some zd else
 some zd else
 bif (decide (OV<z6))then bif (decide (z6<(bL (i64.wrap (OV+OW)))))then(rec n zd OV z6 (bL (i64.wrap (OV+OW))) a_cmp).bind fun WA=>bif (decide ((bL (i64.wrap (OV+OW)))<(i64.wrap ((i64.wrap ((bL (i64.wrap (OV+OW)))+Pe))-z6))))then bif (decide ((i64.wrap ((i64.wrap ((bL (i64.wrap (OV+OW)))+Pe))-z6))<OW))then(rec n WA (bL (i64.wrap (OV+OW))) (i64.wrap ((i64.wrap ((bL (i64.wrap (OV+OW)))+Pe))-z6)) OW a_cmp).bind fun Zp=>some Zp else
 some WA else
 some WA else
 bif (decide ((bL (i64.wrap (OV+OW)))<(i64.wrap ((i64.wrap ((bL (i64.wrap (OV+OW)))+Pe))-z6))))then bif (decide ((i64.wrap ((i64.wrap ((bL (i64.wrap (OV+OW)))+Pe))-z6))<OW))then(rec n zd (bL (i64.wrap (OV+OW))) (i64.wrap ((i64.wrap ((bL (i64.wrap (OV+OW)))+Pe))-z6)) OW a_cmp).bind fun Zq=>some Zq else
 some zd else
 some zd else
 bif (decide ((bL (i64.wrap (OV+OW)))<(i64.wrap ((i64.wrap ((bL (i64.wrap (OV+OW)))+Pe))-z6))))then bif (decide ((i64.wrap ((i64.wrap ((bL (i64.wrap (OV+OW)))+Pe))-z6))<OW))then(rec n zd (bL (i64.wrap (OV+OW))) (i64.wrap ((i64.wrap ((bL (i64.wrap (OV+OW)))+Pe))-z6)) OW a_cmp).bind fun Zr=>some Zr else
 some zd else
 some zd
 |.inr q=>some q
def vu {α:Type}(zd:List α)(OV:Int)(Pe:Int)(OW:Int)(a_cmp:α->α->Option (Int))(n:Nat):(Int×Int)->Option (Step (Int×Int) (List α)):=fun s=>match s with
 |(z7,QX)=>bif (decide (z7<QX))then bif (decide (0<=(i64.wrap ((i64.wrap ((i64.wrap ((bL (i64.wrap (OV+OW)))+Pe))-(1:Int)))-(bL (i64.wrap (z7+QX)))))))then(bif (decide ((i64.wrap ((i64.wrap ((i64.wrap ((bL (i64.wrap (OV+OW)))+Pe))-(1:Int)))-(bL (i64.wrap (z7+QX)))))<((n:Nat):Int)))then((aF zd (i64.wrap ((i64.wrap ((i64.wrap ((bL (i64.wrap (OV+OW)))+Pe))-(1:Int)))-(bL (i64.wrap (z7+QX)))))).bind fun Zs=>bif (decide (0<=(bL (i64.wrap (z7+QX)))))then(bif (decide ((bL (i64.wrap (z7+QX)))<((n:Nat):Int)))then((aF zd (bL (i64.wrap (z7+QX)))).bind fun Zt=>(a_cmp Zs Zt).bind fun Zu=>bif (!(decide (Zu<(0:Int))))then some (.next ((i64.wrap ((bL (i64.wrap (z7+QX)))+(1:Int))),QX))else
 some (.next (z7,(bL (i64.wrap (z7+QX))))))else none)else none)else none)else none else
 some (.exit (z7,QX))
def rp {α:Type}(zd:List α)(OV:Int)(Pe:Int)(OW:Int)(a_cmp:α->α->Option (Int))(n:Nat)(rec:Nat->List α->Int->Int->Int->(α->α->Option Int)->Option (List α)):Sum (Int×Int) (List α)->Option ((List α))
 |.inl (z7,QX)=>bif (decide (z7<Pe))then bif (decide (Pe<(i64.wrap ((i64.wrap ((bL (i64.wrap (OV+OW)))+Pe))-z7))))then(mA n zd z7 Pe (i64.wrap ((i64.wrap ((bL (i64.wrap (OV+OW)))+Pe))-z7)) a_cmp).bind fun TL=>bif (decide (OV<z7))then bif (decide (z7<(bL (i64.wrap (OV+OW)))))then(rec n TL OV z7 (bL (i64.wrap (OV+OW))) a_cmp).bind fun WB=>bif (decide ((bL (i64.wrap (OV+OW)))<(i64.wrap ((i64.wrap ((bL (i64.wrap (OV+OW)))+Pe))-z7))))then bif (decide ((i64.wrap ((i64.wrap ((bL (i64.wrap (OV+OW)))+Pe))-z7))<OW))then(rec n WB (bL (i64.wrap (OV+OW))) (i64.wrap ((i64.wrap ((bL (i64.wrap (OV+OW)))+Pe))-z7)) OW a_cmp).bind fun Zv=>some Zv else
 some WB else
 some WB else
 bif (decide ((bL (i64.wrap (OV+OW)))<(i64.wrap ((i64.wrap ((bL (i64.wrap (OV+OW)))+Pe))-z7))))then bif (decide ((i64.wrap ((i64.wrap ((bL (i64.wrap (OV+OW)))+Pe))-z7))<OW))then(rec n TL (bL (i64.wrap (OV+OW))) (i64.wrap ((i64.wrap ((bL (i64.wrap (OV+OW)))+Pe))-z7)) OW a_cmp).bind fun Zw=>some Zw else
 some TL else
 some TL else
 bif (decide ((bL (i64.wrap (OV+OW)))<(i64.wrap ((i64.wrap ((bL (i64.wrap (OV+OW)))+Pe))-z7))))then bif (decide ((i64.wrap ((i64.wrap ((bL (i64.wrap (OV+OW)))+Pe))-z7))<OW))then(rec n TL (bL (i64.wrap (OV+OW))) (i64.wrap ((i64.wrap ((bL (i64.wrap (OV+OW)))+Pe))-z7)) OW a_cmp).bind fun Zx=>some Zx else
 some TL else
 some TL else
 bif (decide (OV<z7))then bif (decide (z7<(bL (i64.wrap (OV+OW)))))then(rec n zd OV z7 (bL (i64.wrap (OV+OW))) a_cmp).bind fun WC=>bif (decide ((bL (i64.wrap (OV+OW)))<(i64.wrap ((i64.wrap ((bL (i64.wrap (OV+OW)))+Pe))-z7))))then bif (decide ((i64.wrap ((i64.wrap ((bL (i64.wrap (OV+OW)))+Pe))-z7))<OW))then(rec n WC (bL (i64.wrap (OV+OW))) (i64.wrap ((i64.wrap ((bL (i64.wrap (OV+OW)))+Pe))-z7)) OW a_cmp).bind fun Xa=>some Xa else
 some WC else
 some WC else
 bif (decide ((bL (i64.wrap (OV+OW)))<(i64.wrap ((i64.wrap ((bL (i64.wrap (OV+OW)))+Pe))-z7))))then bif (decide ((i64.wrap ((i64.wrap ((bL (i64.wrap (OV+OW)))+Pe))-z7))<OW))then(rec n zd (bL (i64.wrap (OV+OW))) (i64.wrap ((i64.wrap ((bL (i64.wrap (OV+OW)))+Pe))-z7)) OW a_cmp).bind fun Xb=>some Xb else
 some zd else
 some zd else
 bif (decide ((bL (i64.wrap (OV+OW)))<(i64.wrap ((i64.wrap ((bL (i64.wrap (OV+OW)))+Pe))-z7))))then bif (decide ((i64.wrap ((i64.wrap ((bL (i64.wrap (OV+OW)))+Pe))-z7))<OW))then(rec n zd (bL (i64.wrap (OV+OW))) (i64.wrap ((i64.wrap ((bL (i64.wrap (OV+OW)))+Pe))-z7)) OW a_cmp).bind fun Xc=>some Xc else
 some zd else
 some zd else
 bif (decide (OV<z7))then bif (decide (z7<(bL (i64.wrap (OV+OW)))))then(rec n zd OV z7 (bL (i64.wrap (OV+OW))) a_cmp).bind fun Uz=>bif (decide ((bL (i64.wrap (OV+OW)))<(i64.wrap ((i64.wrap ((bL (i64.wrap (OV+OW)))+Pe))-z7))))then bif (decide ((i64.wrap ((i64.wrap ((bL (i64.wrap (OV+OW)))+Pe))-z7))<OW))then(rec n Uz (bL (i64.wrap (OV+OW))) (i64.wrap ((i64.wrap ((bL (i64.wrap (OV+OW)))+Pe))-z7)) OW a_cmp).bind fun Xd=>some Xd else
 some Uz else
 some Uz else
 bif (decide ((bL (i64.wrap (OV+OW)))<(i64.wrap ((i64.wrap ((bL (i64.wrap (OV+OW)))+Pe))-z7))))then bif (decide ((i64.wrap ((i64.wrap ((bL (i64.wrap (OV+OW)))+Pe))-z7))<OW))then(rec n zd (bL (i64.wrap (OV+OW))) (i64.wrap ((i64.wrap ((bL (i64.wrap (OV+OW)))+Pe))-z7)) OW a_cmp).bind fun Xe=>some Xe else
 some zd else
 some zd else
 bif (decide ((bL (i64.wrap (OV+OW)))<(i64.wrap ((i64.wrap ((bL (i64.wrap (OV+OW)))+Pe))-z7))))then bif (decide ((i64.wrap ((i64.wrap ((bL (i64.wrap (OV+OW)))+Pe))-z7))<OW))then(rec n zd (bL (i64.wrap (OV+OW))) (i64.wrap ((i64.wrap ((bL (i64.wrap (OV+OW)))+Pe))-z7)) OW a_cmp).bind fun Xf=>some Xf else
 some zd else
 some zd
 |.inr q=>some q
def qz {α:Type}(rec:Nat->List α->Int->Int->Int->(α->α->Option Int)->Option (List α))(n:Nat)(zd:(List α))(OV:Int)(Pe:Int)(OW:Int)(a_cmp:α->α->Option (Int)):Option (List α):=bif (decide ((i64.wrap (Pe-OV))=(1:Int)))then(ao (np zd OV a_cmp n) fuel (Pe,OW)).bind (rc zd OV n)else
 bif (decide ((i64.wrap (OW-Pe))=(1:Int)))then(ao (om zd Pe a_cmp n) fuel (OV,Pe)).bind (qZ zd Pe n)else
 bif (decide ((bL (i64.wrap (OV+OW)))<Pe))then(ao (j7 zd OV Pe OW a_cmp n) fuel ((i64.wrap ((i64.wrap ((bL (i64.wrap (OV+OW)))+Pe))-OW)),(bL (i64.wrap (OV+OW))))).bind (jG zd OV Pe OW a_cmp n rec)else
 (ao (vu zd OV Pe OW a_cmp n) fuel (OV,Pe)).bind (rp zd OV Pe OW a_cmp n rec)
def EC {α:Type}:Nat->Nat->List α->Int->Int->Int->(α->α->Option Int)->Option (List α)
 |0,_,_,_,_,_,_=>none
 |q+1,n,X,a,m,b,cmp=>qz (EC q) n X a m b cmp
def g7 {α:Type}(PQ:Int)(a_cmp:α->α->Option (Int))(n:Nat)(O5:Int):((List α)×Int×Int)->Option (Step ((List α)×Int×Int) (List α)):=fun s=>match s with
 |(SK,RZ,Sm)=>bif (decide (Sm<=PQ))then(EC fuel n SK RZ (i64.wrap (RZ+O5)) Sm a_cmp).bind fun Zy=>some (.next (Zy,Sm,(i64.wrap (Sm+(i64.wrap ((2:Int)*O5))))))else
 some (.exit (SK,RZ,Sm))
def qa {α:Type}(PQ:Int)(a_cmp:α->α->Option (Int))(n:Nat)(O5:Int):Sum ((List α)×Int×Int) (List α)->Option (Step ((List α)×Int) (List α))
 |.inl (SK,RZ,Sm)=>bif (decide ((i64.wrap (RZ+O5))<PQ))then(EC fuel n SK RZ (i64.wrap (RZ+O5)) PQ a_cmp).bind fun Zz=>some (.next (Zz,(i64.wrap (O5*(2:Int)))))else
 some (.next (SK,(i64.wrap (O5*(2:Int)))))
 |.inr q=>some (.ret q)
def ie {α:Type}(PQ:Int)(a_cmp:α->α->Option (Int))(n:Nat):((List α)×Int)->Option (Step ((List α)×Int) (List α)):=fun s=>match s with
 |(U3,O5)=>bif (decide (O5<PQ))then(ao (g7 PQ a_cmp n O5) fuel (U3,(0:Int),(i64.wrap ((2:Int)*O5)))).bind (qa PQ a_cmp n O5)else
 some (.exit (U3,O5))
def vg {α:Type}:Sum ((List α)×Int) (List α)->Option ((List α))
 |.inl (U3,O5)=>some U3
 |.inr q=>some q
def hJ {α:Type}(PQ:Int)(a_cmp:α->α->Option (Int))(n:Nat):((List α)×Int×Int)->Option (Step ((List α)×Int×Int) (List α)):=fun s=>match s with
 |(PP,WE,Ub)=>bif (decide (Ub<=PQ))then(nN n PP WE Ub a_cmp).bind fun c_5=>some (.next (c_5,Ub,(i64.wrap (Ub+(20:Int)))))else
 some (.exit (PP,WE,Ub))
def qg {α:Type}(PQ:Int)(a_cmp:α->α->Option (Int))(n:Nat):Sum ((List α)×Int×Int) (List α)->Option ((List α))
 |.inl (PP,WE,Ub)=>(nN n PP WE PQ a_cmp).bind fun Zg=>(ao (ie PQ a_cmp n) fuel (Zg,(20:Int))).bind (vg)
 |.inr q=>some q
def vH {α:Type}(n:Nat)(zd:(List α))(PQ:Int)(a_cmp:α->α->Option (Int)):Option (List α):=(ao (hJ PQ a_cmp n) fuel (zd,(0:Int),(20:Int))).bind (qg PQ a_cmp n)
def xb {α:Type}(n:Nat)(a_x:(List α))(a_cmp:α->α->Option (Int)):Option (List α):=(vH n a_x ((n:Nat):Int) a_cmp).bind fun PP=>some PP
