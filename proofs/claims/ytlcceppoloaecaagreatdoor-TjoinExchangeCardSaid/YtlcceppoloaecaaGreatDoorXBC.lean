/- Parts. No condition. -/
import Derived.Test.YtlcceppoloaecaaGreatDoorXBB
import Derived.Lib.Bytealg
set_option maxHeartbeats 8000000
set_option maxRecDepth 100000
set_option linter.unusedSimpArgs false
set_option linter.unusedVariables false
namespace Go.Proofs.YtlcceppoloaecaaGreatDoor
open IntKind (i64)
open Go.RowKit Go.MapKept
section
variable {P:Program} {ti:TI} {B:Nat->Prop} {R:PH} {γ:List Gh} {L:List Ob} {w:World} {ρ:Operand->Option AV}
theorem EJ (O2:TIok P ti){t:TypeId}{E k:Nat}{y:Operand}{cs:List SV}(hy:ρ y=some (.agg cs))(hl:cs.length=k)(hk:0<k)(Tt:k<=1000)(ht:ti.elem t=some E)(hE:E<65536)(Py:ti.size E=some k)(U8:ti.zok E=true) :
  qW P ρ L (.buildSlice t 1 #[(0,y)]) (.one (.sl L.length (E+65536) 0 1)) (L++[.row (E+65536) [cs] k]):=by
 intro B R γ w ev o ho hi hρ QM;obtain⟨dst,op,type,pos,after,guard⟩:=o;simp only at ho;subst ho;obtain⟨vs,WA,hvs,RS⟩:=hρ y (by simp[Op.operands]) _ hy;obtain⟨i,z,Q5,Qo,VJ,hi4⟩:=O2.zok _ U8 _ (O2.size _ _ Py);have hb:=run_buildSlice (P:=P) w t E 1 #[(0,ev y)] vs i z (jZ O2 ht) Q5 Qo (by rw[VJ];omega) (by rw[VJ];omega) (by
  have h1:=Go.Great.fill_whole hk [ev y] ((Array.range (1*i.size)).map (z.cells[· % z.cells.size]!)) (by intro v hv;rw[arQ.1 hv,WA];show vs.size=k;omega) (by simp[VJ]);have h2:([ev y].flatMap fun v=>v.cells.toList).toArray=vs:=by rw[WA];simp[Value.cells]
  rw[h2,VJ]at h1;rw[VJ];exact h1)
 have O4:(execOp ev { dst,op := .buildSlice t 1 #[(0,y)],type,pos,after,guard }).run P w = .ok (.value (.slice (some ⟨w.heap.size,0,none⟩) 1 1)) (w.alloc (.cells vs E)):=by
  simp[execOp,hb]
 have hm:Mv R R γ (γ++[.arr w.heap.size 1]) L (L++[.row (E+65536) [cs] k]):=Mv.push _ _ hi.len;refine⟨_,R,_,.inl ⟨_,O4,⟨rfl,rfl⟩,m5,fun Qr SG k2 e2=>?_⟩,?_,⟨Kept.alloc hi.bsz _,PH.sub_refl _,fun _ _ _=>rfl⟩,hm⟩
 ·rw[arc m0]at e2
  simp at e2;obtain⟨q1,q2,q3⟩:=e2;subst q1 q2;exact⟨aro _,fun _=>⟨m5,.arr w.heap.size 1,by rw[<- hi.len];simp,.inl (by rw[Nat.zero_mul])⟩⟩
 ·refine hi.push _ _ _ rfl ⟨⟨_,E,⟨dy w _,by show(E:Nat)=(E+65536)%65536;omega,m0⟩,m0,fun i e j u x he hu hx=>?_⟩,m5,m0,by simp[hl],fun o=>hi.none_at o⟩
  have RI:i=0:=by have:=(aq6.1 he).1;simpa using this
  subst RI;simp at he;subst he;exact SV.mv hm (RS j u x (by simpa using hu) hx)
end
structure bD where
 f:ap
 ps:List ax
abbrev aw (p:ax):Bool:=decide (0<=p.lo)&&decide (p.lo<p.hi)&&decide (p.hi<=1099511627776)
theorem i_ (p:ax):gPV p=some (aw p):=by
 unfold gPV aw
 cases h1:decide (0<=p.lo)<;>cases h2:decide (p.lo<p.hi)<;>cases h3:decide (p.hi<=1099511627776)<;>simp_all
def eH (s:ByteArray):List bD->Option Nat
 |[]=>none
 |g::r=>if s=cL g.f.row then some 0 else(eH s r).map (· +1)
def oG:Nat->List bD->List (AC×AV)
 |_,[]=>[]
 |k,g::r=>(.str (cL g.f.row),.one (.c (.int .i64 k)))::oG (k+1) r
theorem xO:∀ (G:List bD) (k:Nat),strKeys (oG k G)
 |[],_=>by intro p hp;cases hp
 |g::r,k=>by
  intro p hp;rcases arp.1 hp with rfl|hp
  ·exact⟨_,rfl⟩
  ·exact xO r (k+1) p hp
theorem oo (s:ByteArray):∀ (G:List bD) (k:Nat),ut s (oG k G)=eH s G
 |[],_=>rfl
 |g::r,k=>by
  simp only[oG,ut,eH];rw[oo s r (k+1)]
theorem ac0:∀ (G:List bD) (k i:Nat),i<G.length ->∃ q,(oG k G)[i]?=some q/\q.2 = .one (.c (.int .i64 ((k+i:Nat):Int)))
 |[],_,_,h=>by simp at h
 |g::r,k,0,_=>⟨_,rfl,m5⟩
 |g::r,k,i+1,h=>by
  obtain⟨q,h1,h2⟩:=ac0 r (k+1) i (by simpa using h);exact⟨q,by simpa[oG]using h1,by rw[h2,show k+1+i=k+(i+1)by omega]⟩
theorem Ey {s:ByteArray}:∀ {G:List bD} {i:Nat},eH s G=some i->i<G.length
 |[],_,h=>by simp[eH]at h
 |g::r,i,h=>by
  unfold eH at h;split at h
  ·injection h with h;subst h;simp
  ·cases hr:eH s r with
   |none=>rw[hr]at h;cases h
   |some j=>rw[hr]at h;injection h with h;subst h;have:=Ey hr;simp;omega
theorem aet {s:ByteArray}{G:List bD}{i:Nat}{z:AV}(h:eH s G=some i):oq (oG 0 G) s z = .one (.c (.int .i64 i)):=by
 obtain⟨q,h1,h2⟩:=ac0 G 0 i (Ey h);unfold oq;rw[oo,h];simp only[h1,h2,arS]
theorem agi {s:ByteArray}{G:List bD}{z:AV}(h:eH s G=none):oq (oG 0 G) s z=z:=by
 unfold oq;rw[oo,h]
theorem LZ:∀ (G:List bD) (k:Nat) (g:bD),oG k (G++[g])=oG k G++[(.str (cL g.f.row),.one (.c (.int .i64 ((k+G.length:Nat):Int))))]
 |[],k,g=>by simp[oG]
 |x::r,k,g=>by
  have:=LZ r (k+1) g;simp only[List.cons_append,oG,this,arv,show k+1+r.length=k+(r.length+1)by omega]
theorem aft {s:ByteArray}{G:List bD}(h:eH s G=none)(g:bD)(hg:cL g.f.row=s):Gx (oG 0 G) s (.one (.c (.int .i64 (G.length:Nat))))=oG 0 (G++[g]):=by
 unfold Gx;rw[oo,h,LZ,hg,arS]
theorem alk {G:List bD}{i:Nat}{g:bD}(hg:G[i]?=some g)(ps:List ax):∀ k,oG k (G.set i ⟨g.f,ps⟩)=oG k G:=by
 induction G generalizing i with
 |nil=>intro k;rfl
 |cons x r ih =>
  intro k
  cases i with
  |zero=>simp at hg;subst hg;rfl
  |succ i=>simp only[List.set_cons_succ,oG];rw[ih (by simpa using hg)]
theorem ajP {P:Program}{ti:TI}{ρ:Operand->Option AV}{L:List Ob}{t kt et:TypeId}{x k:Operand}{s:ByteArray}{id:Nat}{G:List bD}{i:Nat}(O2:TIok P ti)(hf:eH s G=some i)(hx:ρ x=some (.one (.mp id)))(hk:ρ k=some (.one (.c (.str s))))(hL:L[id]?=some (.map (oG 0 G)))
  (ht:ti.kind t=some (.map kt et)) (Un:ti.kind kt=some .string) (hz:ti.zero et=some (.one (.c (.int .i64 0)))):qW P ρ L (.lookup t x k true) (.tup [.one (.int .i64 i),.one (.bool true)]) L:=by
 have:=nY (P:=P) hx hk hL (xO G 0) (O2.kind _ _ ht) (O2.kind _ _ Un) (O2.zero _ _ hz) (p := .one (.int .i64 i)) (by rw[aet hf];rfl);rw[oo,hf]at this;exact this
theorem FV {P:Program}{ti:TI}{ρ:Operand->Option AV}{L:List Ob}{t kt et:TypeId}{x k:Operand}{s:ByteArray}{id:Nat}{G:List bD}(O2:TIok P ti)(hf:eH s G=none)(hx:ρ x=some (.one (.mp id)))(hk:ρ k=some (.one (.c (.str s))))(hL:L[id]?=some (.map (oG 0 G)))
  (ht:ti.kind t=some (.map kt et)) (Un:ti.kind kt=some .string) (hz:ti.zero et=some (.one (.c (.int .i64 0)))):qW P ρ L (.lookup t x k true) (.tup [.one (.int .i64 0),.one (.bool false)]) L:=by
 have:=nY (P:=P) hx hk hL (xO G 0) (O2.kind _ _ ht) (O2.kind _ _ Un) (O2.zero _ _ hz) (p := .one (.int .i64 0)) (by rw[agi hf];rfl);rw[oo,hf]at this;exact this
theorem E_ {P:Program}{ti:TI}{ρ:Operand->Option AV}{L:List Ob}{t kt et:TypeId}{x k y:Operand}{s:ByteArray}{id:Nat}{G:List bD}(g:bD)(O2:TIok P ti)(hf:eH s G=none)(hg:cL g.f.row=s)(hx:ρ x=some (.one (.mp id)))(hk:ρ k=some (.one (.c (.str s))))(hy:ρ y=some (.one (.c (.int .i64 (G.length:Nat)))))(hL:L[id]?=some (.map (oG 0 G)))
  (ht:ti.kind t=some (.map kt et)) (Un:ti.kind kt=some .string):qW P ρ L (.mapUpdate t x k y) .undef (L.set id (.map (oG 0 (G++[g])))):=by
 have:=uL (P:=P) hx hk hy hL (xO G 0) (O2.kind _ _ ht) (O2.kind _ _ Un);rw[aft hf g hg]at this;exact this
def fx (G:List bD)(f:ap):List bD:=bif aw f.valid then(match eH (cL f.row) G with
 |some i=>match G[i]? with
  |some g=>G.set i ⟨g.f,g.ps++[f.valid]⟩
  |none=>G
 |none=>G++[⟨f,[f.valid]⟩])else G
def dp (l:List ap):List bD:=l.foldl fx []
theorem NH (l:List ap)(f:ap):dp (l++[f])=fx (dp l) f:=by unfold dp;rw[List.foldl_append];rfl
theorem abM (G:List bD)(f:ap):(fx G f).length<=G.length+1:=by
 unfold fx
 cases aw f.valid with
 |false=>rw[aq7];omega
 |true =>
  rw[aq8];split
  ·split
   ·rw[List.length_set];omega
   ·omega
  ·simp
theorem v6 (l:List ap):(dp l).length<=l.length:=by
 have:∀ (l:List ap) (G:List bD),(l.foldl fx G).length<=G.length+l.length:=by
  intro l
  induction l with
  |nil=>intro G;simp
  |cons f l ih=>intro G;have h1:=ih (fx G f);have h2:=abM G f;rw[ar0,arv];omega
 have:=this l [];simpa[dp]using this
theorem CN (l:List ap):∀ g∈dp l,g.ps.length<=l.length/\g.f∈l/\(∀ p∈g.ps,aw p=true):=by
 have:∀ (l:List ap) (G:List bD) (b:Nat) (l0:List ap),(∀ g∈G,g.ps.length<=b/\g.f∈l0/\(∀ p∈g.ps,aw p=true)) ->∀ g∈l.foldl fx G,g.ps.length<=b+l.length/\g.f∈l0++l/\(∀ p∈g.ps,aw p=true):=by
  intro l
  induction l with
  |nil=>intro G b l0 h g hg;simpa using h g hg
  |cons f l ih =>
   intro G b l0 h g hg;rw[ar0]at hg;have W_:∀ g∈fx G f,g.ps.length<=b+1/\g.f∈l0++[f]/\(∀ p∈g.ps,aw p=true):=by
    intro g hg;unfold fx at hg
    cases hv:aw f.valid with
    |false=>rw[hv,aq7]at hg;obtain⟨a1,a2,a3⟩:=h g hg;exact⟨m0,arB.2 (.inl a2),a3⟩
    |true =>
     rw[hv,aq8]at hg;split at hg
     ·split at hg
      ·rename_i i _ g0 Tn
       rcases List.mem_or_eq_of_mem_set hg with hg|rfl
       ·obtain⟨a1,a2,a3⟩:=h g hg;exact⟨m0,arB.2 (.inl a2),a3⟩
       ·obtain⟨a1,a2,a3⟩:=h g0 (arb Tn)
        refine⟨by simp;omega,arB.2 (.inl a2),fun p hp=>?_⟩;rcases arB.1 hp with hp|hp
        ·exact a3 p hp
        ·rw[arQ.1 hp];exact hv
      ·obtain⟨a1,a2,a3⟩:=h g hg;exact⟨m0,arB.2 (.inl a2),a3⟩
     ·rcases arB.1 hg with hg|hg
      ·obtain⟨a1,a2,a3⟩:=h g hg;exact⟨m0,arB.2 (.inl a2),a3⟩
      ·rw[arQ.1 hg]
       exact⟨m5,m5,fun p hp=>by rw[arQ.1 hp];exact hv⟩
   obtain⟨a1,a2,a3⟩:=ih (fx G f) (b+1) (l0++[f]) W_ g hg;exact⟨by rw[arv];omega,by simpa using a2,a3⟩
 intro g hg;have:=this l [] 0 [] (fun g hg=>by cases hg) g hg;simpa using this
abbrev fG:=AC×AC
def o5 (x:fG):List SV:=[.c x.1,.c x.2]
theorem cE (n v k:Nat)(l:List fG):(Ob.row v (l.map o5) k).below n:=by
 intro e he x hx;obtain⟨y,_,rfl⟩:=arK.1 he;simp only[o5,arp,List.not_mem_nil,or_false]at hx;rcases hx with rfl|rfl<;>trivial
theorem xu (σ:List Nat)(v k:Nat)(l:List fG):(Ob.row v (l.map o5) k).ren σ=Ob.row v (l.map o5) k:=by
 simp only[Ob.ren,List.map_map];rfl
theorem afJ (l:List fG):ee (l.map o5)=some (l.map fun x=>[x.1,x.2]):=by
 have:=je (l.map fun x=>[x.1,x.2]);rw[List.map_map]at this;exact this
def aoP:TI :={ acO with dyn:=true }
theorem cq:TIok Tryz.prog aoP:=⟨am.size,am.agg,am.elem,am.field,am.zero,am.bytes,am.kind,am.struct,am.zok,am.eqs⟩
def bxG (_:bD):Ob := .dead
def gbG (g:bD):Ob := .row (194+65536) [[.c (cl g.f.row),.emp]] 2
theorem aa8 (g:bD)(n:Nat):(gbG g).below n:=by
 intro e he x hx;rw[arQ.1 he]at hx;rcases arp.1 hx with rfl|hx
 ·trivial
 ·rcases arp.1 hx with rfl|hx
  ·trivial
  ·cases hx
def uv (ps:List ax):List (List AC):=ps.map aO
def eY:Nat->List bD->List (List SV)
 |_,[]=>[]
 |k,g::r=>[.c (cl g.f.row),.own (uv g.ps) (4+3*k)]::eY (k+1) r
def tlC:List bD->List Ob
 |[]=>[]
 |g::r=>bxG g::gbG g :: .spare g.ps.length 2::tlC r
def vg:List bD->List Ob
 |[]=>[]
 |g::r => .spare g.ps.length 2::tlC r
def AW:List bD->Ob
 |[] => .dead
 |g::_=>gbG g
def rM (G:List bD):List Ob := .map (oG 0 G) :: .dead::AW G :: .row (194+65536*G.length) (eY 0 G) 2::vg G
theorem akq {G:List bD}{i:Nat}{g:bD}(ps:List ax)(h:G[i]?=some g):AW (G.set i ⟨g.f,ps⟩)=AW G:=by
 cases G with
 |nil=>rfl
 |cons x r =>
  cases i with
  |zero=>simp at h;subst h;rfl
  |succ i=>rfl
theorem aih {G:List bD}(g:bD)(h:G≠[]):AW (G++[g])=AW G:=by cases G with
 |nil=>exact absurd rfl h
 |cons x r=>rfl
theorem agM (G:List bD)(n:Nat):(AW G).below n:=by cases G with
 |nil=>trivial
 |cons x r=>exact aa8 x n
def Ny:List bD->List Ob
 |[]=>[.map []]
 |g::r=>rM (g::r)
theorem pJ {G:List bD}(h:G≠[]):Ny G=rM G:=by cases G with
 |nil=>exact absurd rfl h
 |cons g r=>rfl
theorem om:∀ (G:List bD) (k:Nat),(eY k G).length=G.length
 |[],_=>rfl
 |g::r,k=>by simp[eY,om r]
theorem Of:∀ (G:List bD) (k i:Nat) (g:bD),G[i]?=some g->(eY k G)[i]?=some [.c (cl g.f.row),.own (uv g.ps) (4+3*(k+i))]
 |[],_,_,_,h=>by simp at h
 |x::r,k,0,g,h=>by simp at h;subst h;rfl
 |x::r,k,i+1,g,h=>by
  have:=Of r (k+1) i g (by simpa using h);simp only[eY,List.getElem?_cons_succ];rw[this,show k+1+i=k+(i+1)by omega]
theorem aam:∀ (G:List bD) (k i:Nat) (g:bD) (ps:List ax),G[i]?=some g->(eY k G).set i [.c (cl g.f.row),.own (uv ps) (4+3*(k+i))]=eY k (G.set i ⟨g.f,ps⟩)
 |[],_,_,_,_,h=>by simp at h
 |x::r,k,0,g,ps,h=>by simp at h;subst h;simp[eY]
 |x::r,k,i+1,g,ps,h=>by
  have:=aam r (k+1) i g ps (by simpa using h);rw[show k+1+i=k+(i+1)by omega]at this;simp only[eY,List.set_cons_succ,this]
theorem IB:∀ (G:List bD) (k:Nat) (g:bD),eY k (G++[g])=eY k G++[[.c (cl g.f.row),.own (uv g.ps) (4+3*(k+G.length))]]
 |[],k,g=>rfl
 |x::r,k,g=>by
  have:=IB r (k+1) g;simp only[List.cons_append,eY,this,arv,show k+1+r.length=k+(r.length+1)by omega]
theorem FN:∀ (G:List bD) (k n:Nat),4+3*(k+G.length)<=n+2 ->∀ e∈eY k G,∀ x∈e,x.below n
 |[],_,_,_=>by intro e he;cases he
 |g::r,k,n,h=>by
  intro e he x hx;simp only[arv]at h;rcases arp.1 he with rfl|he
  ·rcases arp.1 hx with rfl|hx
   ·trivial
   ·rcases arp.1 hx with rfl|hx
    ·show 4+3*k<n;omega
    ·cases hx
  ·exact FN r (k+1) n m0 e he x hx
theorem Fb:∀ (G:List bD) (k:Nat),ee (eY k G)=some (G.map fun g=>[cl g.f.row,.lst (uv g.ps)])
 |[],_=>rfl
 |g::r,k=>by
  have:=Fb r (k+1);simp only[eY,ee,iM,SV.norm,this,ari]
theorem adq:∀ r:List bD,(tlC r).length=3*r.length
 |[]=>rfl
 |g::r=>by simp[tlC,adq r];omega
theorem ad6:∀ (r:List bD) (i:Nat) (g:bD),r[i]?=some g->(tlC r)[3*i+2]?=some (.spare g.ps.length 2)
 |[],_,_,h=>by simp at h
 |x::r,0,g,h=>by simp at h;subst h;rfl
 |x::r,i+1,g,h=>by
  have:=ad6 r i g (by simpa using h);rw[show 3*(i+1)+2=(3*i+2)+1+1+1 by omega];simpa[tlC]using this
theorem adw:∀ (r:List bD) (i:Nat) (g:bD) (ps:List ax),r[i]?=some g->(tlC r).set (3*i+2) (.spare ps.length 2)=tlC (r.set i ⟨g.f,ps⟩)
 |[],_,_,_,h=>by simp at h
 |x::r,0,g,ps,h=>by simp at h;subst h;simp[tlC,bxG,gbG]
 |x::r,i+1,g,ps,h=>by
  have:=adw r i g ps (by simpa using h);rw[show 3*(i+1)+2=(3*i+2)+1+1+1 by omega];simp only[tlC,List.set_cons_succ,this]
theorem aaw:∀ (r:List bD) (g:bD),tlC (r++[g])=tlC r++[bxG g,gbG g,.spare g.ps.length 2]
 |[],g=>rfl
 |x::r,g=>by simp[tlC,aaw r g]
theorem adQ {G:List bD}(h:G≠[]):(vg G).length+2=3*G.length:=by
 cases G with
 |nil=>exact absurd rfl h
 |cons g r=>simp[vg,adq];omega
theorem alJ {G:List bD}{i:Nat}{g:bD}(h:G[i]?=some g):(vg G)[3*i]?=some (.spare g.ps.length 2):=by
 cases G with
 |nil=>simp at h
 |cons x r =>
  cases i with
  |zero=>simp at h;subst h;rfl
  |succ i =>
   have:=ad6 r i g (by simpa using h);rw[show 3*(i+1)=(3*i+2)+1 by omega];simpa[vg]using this
theorem akf {G:List bD}{i:Nat}{g:bD}(ps:List ax)(h:G[i]?=some g):(vg G).set (3*i) (.spare ps.length 2)=vg (G.set i ⟨g.f,ps⟩):=by
 cases G with
 |nil=>simp at h
 |cons x r =>
  cases i with
  |zero=>simp at h;subst h;simp[vg]
  |succ i =>
   have:=adw r i g ps (by simpa using h);rw[show 3*(i+1)=(3*i+2)+1 by omega];simp only[vg,List.set_cons_succ,this]
theorem aji {G:List bD}(g:bD)(h:G≠[]):vg (G++[g])=vg G++[bxG g,gbG g,.spare g.ps.length 2]:=by
 cases G with
 |nil=>exact absurd rfl h
 |cons x r=>simp[vg,aaw]
theorem mJ {G:List bD}(h:G≠[]):(rM G).length=2+3*G.length:=by
 have h1:=adQ h;simp[rM];omega
theorem tX:∀ {n:Nat} {L:List Ob},(∀ x∈L,x.below n)->nP n L
 |_,[],_=>trivial
 |n,x::L,h=>⟨h x m5,tX fun y hy=>h y (arx _ hy)⟩
theorem afN (g:bD)(n:Nat):(gbG g).below n:=by
 intro e he x hx;rw[arQ.1 he]at hx;rcases arp.1 hx with rfl|hx
 ·trivial
 ·rcases arp.1 hx with rfl|hx
  ·trivial
  ·cases hx
theorem agp (g:bD)(n:Nat):(bxG g).below n:=trivial
theorem G4:∀ (G:List bD) (k n:Nat),(Ob.map (oG k G)).below n:=by
 intro G
 induction G with
 |nil=>intro k n p hp;cases hp
 |cons g r ih =>
  intro k n p hp;rcases arp.1 hp with rfl|hp
  ·trivial
  ·exact ih (k+1) n p hp
theorem HQ (n:Nat):∀ (r:List bD),∀ x∈tlC r,x.below n
 |[],x,h=>by cases h
 |g::r,x,h=>by
  simp only[tlC,arp]at h;rcases h with rfl|rfl|rfl|h
  ·exact agp g n
  ·exact afN g n
  ·trivial
  ·exact HQ n r x h
theorem mj (G:List bD):nP (Ny G).length (Ny G):=by
 cases G with
 |nil=>exact⟨G4 [] 0 _,t7⟩
 |cons g r =>
  have hl:=mJ (G:=g::r) m5;refine tX fun x hx=>?_
  show x.below (rM (g::r)).length;rw[hl];have hx:x∈rM (g::r):=hx;simp only[rM,vg,arp]at hx;rcases hx with rfl|rfl|rfl|rfl|rfl|hx
  ·exact G4 _ 0 _
  ·trivial
  ·exact agM _ _
  ·exact FN (g::r) 0 _ (by simp only[arv];omega)
  ·trivial
  ·exact HQ _ r x hx
def L8:List bD->AV
 |[] => .one .emp
 |g::r => .one (.sl 3 (194+65536*(g::r).length) 0 (g::r).length)
theorem sY {G:List bD}(h:G≠[]):L8 G = .one (.sl 3 (194+65536*G.length) 0 G.length):=by
 cases G with
 |nil=>exact absurd rfl h
 |cons g r=>rfl
theorem rF (G:List bD):(L8 G).below (Ny G).length:=by
 cases G with
 |nil=>trivial
 |cons g r =>
  show 3<(rM (g::r)).length;rw[mJ m5];simp;omega
theorem ahh (id:Nat)(ts:List AC)(G:List bD):unA id ts (L8 G)=L8 G:=by cases G<;>rfl
section
variable {P:Program} {ti:TI} {N n0:Nat} {ds:List (Option Tmp)} {K:Tm->List Ob->Prop} {rest:List Oper} {o:Oper} {T T':Tm} {A:List Ob} {Q:AX->Tm->List Ob->Prop}
theorem afO {t:TypeId}{p q:Operand}{cs xs:List SV}(hd:o.dst=none)(hg:ge ds T o.guard=some true)(ho:o.op = .store t p q)(hp:look T p=some (.one (.ptr A.length 0)))(hq:(look T q).bind AV.cells=some xs)(hlen:xs.length=cs.length)(Py:ti.size t=some xs.length)(h:aI P ti N ds K rest T (A++[.box xs])):aI P ti N ds K (o::rest) T (A++[.box cs]):=by
 refine sS_ hd hg (v := .undef) (L':=A++[.box xs]) (φ:=0+xs.length<=cs.length/\ti.size t=some xs.length) ?_ ⟨m0,Py⟩ h;rw[ho];have e1:(A++[Ob.box cs])[A.length]?=some (.box cs):=by simp
 have e2:splice cs 0 xs=xs:=by unfold splice;simp[hlen]
 have e3:(A++[Ob.box cs]).set A.length (.box xs)=A++[.box xs]:=by rw[List.set_append_right _ _ (aro _),Nat.sub_self];rfl
 simp only[AH,hp,hq,e1,e2,e3]
theorem aku {c:Code}{cs:List SV}{ts:List AC}(hn:iM cs=some ts)(hT:(T.map fun p=>(p.1,unA A.length ts p.2))=T')(h:Aw P N n0 c Q T' (A++[.dead])):Aw P N n0 c Q T (A++[.box cs]):=by
 refine aS A.length m5 hn ?_;rw[hT,List.set_append_right _ _ (aro _),Nat.sub_self];exact h
end
structure AB {α:Type}(c:α->α->Int):Prop where
 refl:∀ a,c a a=0
 zero:∀ a b,c a b=0->a=b
 anti:∀ a b,c a b<0↔0<c b a
 trans:∀ a b d,c a b<0->c b d<0->c a d<0
theorem tCi_:AB iD:=by
 refine⟨fun a=>by simp[iD],fun a b h=>?_,fun a b=>?_,fun a b d h1 h2=>?_⟩
 ·unfold iD at h;split at h
  ·omega
  ·split at h<;>omega
 ·unfold iD;split<;>split<;>(try split)<;>omega
 ·unfold iD at *
  split at h1
  ·split at h2
   ·rw[if_pos m0];omega
   ·split at h2<;>omega
  ·split at h1<;>omega
def mO {α:Type}(c:α->α->Int):List α->List α->Int
 |[],[]=>0
 |[],_::_ => -1
 |_::_,[]=>1
 |a::xs,b::ys=>if c a b≠0 then c a b else mO c xs ys
theorem Oy {α:Type}{c:α->α->Int}(h:AB c):AB (mO c):=by
 refine⟨?_,?_,?_,?_⟩
 ·intro a
  induction a with
  |nil=>rfl
  |cons x a ih=>simp[mO,h.refl x,ih]
 ·intro a
  induction a with
  |nil=>intro b hb;cases b with
   |nil=>rfl
   |cons _ _=>simp[mO]at hb
  |cons x a ih =>
   intro b hb
   cases b with
   |nil=>simp[mO]at hb
   |cons y b =>
    unfold mO at hb;split at hb
    ·rename_i h0;exact absurd hb h0
    ·rename_i h0
     have:=h.zero x y (by simpa using h0);subst this;rw[ih b hb]
 ·intro a
  induction a with
  |nil=>intro b;cases b with
   |nil=>simp[mO]
   |cons _ _=>simp[mO]
  |cons x a ih =>
   intro b
   cases b with
   |nil=>simp[mO]
   |cons y b =>
    unfold mO;by_cases h0:c x y=0
    ·have:=h.zero x y h0
     subst this;simp only[h.refl,ne_eq,not_true_eq_false,if_false];exact ih b
    ·have h1:c y x≠0:=fun e=>h0 (by rw[h.zero y x e];exact h.refl x)
     rw[if_pos h0,if_pos h1];exact h.anti x y
 ·intro a
  induction a with
  |nil =>
   intro b d h1 h2
   cases b with
   |nil=>simp[mO]at h1
   |cons y b=>cases d with
    |nil=>simp[mO]at h2
    |cons _ _=>simp[mO]
  |cons x a ih =>
   intro b d h1 h2
   cases b with
   |nil=>simp[mO]at h1
   |cons y b =>
    cases d with
    |nil=>simp[mO]at h2
    |cons z d =>
     unfold mO at h1 h2 ⊢;by_cases e1:c x y=0
     ·have:=h.zero x y e1
      subst this;rw[if_neg (by simpa using e1)]at h1;by_cases e2:c x z=0
      ·rw[if_neg (by simpa using e2)]at h2 ⊢
       exact ih b d h1 h2
      ·rw[if_pos e2]at h2 ⊢
       exact h2
     ·rw[if_pos e1]at h1
      by_cases e2:c y z=0
      ·have:=h.zero y z e2
       subst this;rw[if_pos e1];exact h1
      ·rw[if_pos e2]at h2
       have:=h.trans x y z h1 h2;rw[if_pos m0];exact this
theorem oC:∀ a b:List Val,bL a b=mO rK a b
 |[],[]=>rfl
 |[],_::_=>rfl
 |_::_,[]=>rfl
 |a::xs,b::ys=>by rw[bL,mO,oC xs ys]
def AE (x y:UInt8):Int:=if x<y then -1 else if y<x then 1 else 0
theorem agD:AB AE:=by
 have key:∀ x y:UInt8,AE x y=iD ((x.toNat:Nat):Int) ((y.toNat:Nat):Int):=by
  intro x y;unfold AE iD;simp only[UInt8.lt_iff_toNat_lt,Int.ofNat_lt]
 refine⟨fun a=>by rw[key];exact tCi_.refl _,fun a b h=>?_,fun a b=>by rw[key,key];exact tCi_.anti _ _,fun a b d h1 h2=>by rw[key]at *;exact tCi_.trans _ _ _ h1 h2⟩;rw[key]at h;have:=tCi_.zero _ _ h;exact UInt8.toNat_inj.1 m0
theorem zI:∀ a b:List UInt8,Lib.compareBytes a b=mO AE a b
 |[],[]=>rfl
 |[],_::_=>rfl
 |_::_,[]=>rfl
 |x::a,y::b=>by
  have e:mO AE (x::a) (y::b)=if AE x y≠0 then AE x y else mO AE a b:=rfl
  rw[e,<- zI a b];have e2:Lib.compareBytes (x::a) (y::b)=if x<y then -1 else if y<x then 1 else Lib.compareBytes a b:=by rw[Lib.compareBytes]
  rw[e2];by_cases h1:x<y
  ·simp[h1,AE]
  ·by_cases h2:y<x
   ·simp[h1,h2,AE]
   ·simp[h1,h2,AE]
theorem ug:AB ql:=by
 have key:∀ a b:ByteArray,ql a b=mO AE a.data.toList b.data.toList:=by
  intro a b;unfold ql;rw[Lib.cmp_eq,zI]
 have t:=Oy agD;refine⟨fun a=>by rw[key];exact t.refl _,fun a b h=>?_,fun a b=>by rw[key,key];exact t.anti _ _,fun a b d h1 h2=>by rw[key]at *;exact t.trans _ _ _ h1 h2⟩;rw[key]at h;have:=t.zero _ _ h;obtain⟨⟨a⟩⟩:=a;obtain⟨⟨b⟩⟩:=b;simp at this;rw[this]
theorem agv:AB rK:=by
 refine⟨?_,?_,?_,?_⟩
 ·intro a;simp[rK,tCi_.refl,ug.refl]
 ·intro a b h
  obtain⟨k,n,t⟩:=a;obtain⟨k',n',t'⟩:=b;unfold rK at h;dsimp only at h;split at h
  ·rename_i e;exact absurd h e
  ·rename_i e1
   split at h
   ·rename_i e;exact absurd h e
   ·rename_i e2
    have k1:=tCi_.zero _ _ (show iD k k'=0 by simpa using e1);have k2:=tCi_.zero _ _ (show iD n n'=0 by simpa using e2);have k3:=ug.zero _ _ h;subst k1 k2 k3;rfl
 ·intro a b
  unfold rK;by_cases e1:iD a.kind b.kind=0
  ·have k:=tCi_.zero _ _ e1
   rw[k];simp only[tCi_.refl,ne_eq,not_true_eq_false,if_false];by_cases e2:iD a.int b.int=0
   ·have k2:=tCi_.zero _ _ e2
    rw[k2];simp only[tCi_.refl,ne_eq,not_true_eq_false,if_false];exact ug.anti _ _
   ·have e2':iD b.int a.int≠0:=fun e=>e2 (by rw[tCi_.zero _ _ e];exact tCi_.refl _)
    rw[if_pos e2,if_pos e2'];exact tCi_.anti _ _
  ·have e1':iD b.kind a.kind≠0:=fun e=>e1 (by rw[tCi_.zero _ _ e];exact tCi_.refl _)
   rw[if_pos e1,if_pos e1'];exact tCi_.anti _ _
 ·intro a b d h1 h2
  unfold rK at *;by_cases e1:iD a.kind b.kind=0
  ·have k:=tCi_.zero _ _ e1
   rw[k]at h1 ⊢;simp only[tCi_.refl,ne_eq,not_true_eq_false,if_false]at h1;by_cases f1:iD b.kind d.kind=0
   ·rw[if_neg (by simpa using f1)]at h2 ⊢
    by_cases e2:iD a.int b.int=0
    ·have k2:=tCi_.zero _ _ e2
     rw[k2]at h1 ⊢;simp only[tCi_.refl,ne_eq,not_true_eq_false,if_false]at h1;by_cases f2:iD b.int d.int=0
     ·rw[if_neg (by simpa using f2)]at h2 ⊢
      exact ug.trans _ _ _ h1 h2
     ·rw[if_pos f2]at h2 ⊢;exact h2
    ·rw[if_pos e2]at h1
     by_cases f2:iD b.int d.int=0
     ·have k2:=tCi_.zero _ _ f2
      rw[<- k2,if_pos e2];exact h1
     ·rw[if_pos f2]at h2
      have:=tCi_.trans _ _ _ h1 h2;rw[if_pos m0];exact this
   ·rw[if_pos f1]at h2 ⊢;exact h2
  ·rw[if_pos e1]at h1
   by_cases f1:iD b.kind d.kind=0
   ·have k:=tCi_.zero _ _ f1
    rw[<- k,if_pos e1];exact h1
   ·rw[if_pos f1]at h2
    have:=tCi_.trans _ _ _ h1 h2;rw[if_pos m0];exact this
theorem tCr_:AB bL:=by
 have t:=Oy agv;exact⟨fun a=>by rw[oC];exact t.refl _,fun a b h=>t.zero _ _ (by rw[<- oC];exact h),fun a b=>by rw[oC,oC];exact t.anti _ _,fun a b d h1 h2=>by rw[oC]at *;exact t.trans _ _ _ h1 h2⟩
section
variable {α:Type} {c:α->α->Int}
def Asc (c:α->α->Int)(l:List α):Prop:=l.Pairwise fun a b=>c a b<=0
theorem AB.le_trans (h:AB c){a b d:α}(h1:c a b<=0)(h2:c b d<=0):c a d<=0:=by
 by_cases e1:c a b=0
 ·rw[h.zero a b e1];exact h2
 ·by_cases e2:c b d=0
  ·rw[<- h.zero b d e2];exact h1
  ·have:=h.trans a b d m0 m0;omega
theorem AB.total (h:AB c)(a b:α):c a b<=0\/c b a<=0:=by
 by_cases e:c a b<=0
 ·exact .inl e
 ·have:=(h.anti b a).2 m0;exact .inr m0
end
theorem aaa (x y:Int):Ho x y=some (iD x y):=by
 unfold Ho C4 iD;by_cases h1:x<y
 ·simp[h1]
 ·by_cases h2:y<x
  ·simp[h1,h2]
  ·simp[h1,h2]
def orS (_:Unit)(x:Int):Option (Sum Unit Int):=if x≠0 then some (.inr x)else some (.inl ())
theorem aqn (a b c:Int):gOr [a,b,c]=some (if a≠0 then a else if b≠0 then b else c):=by
 unfold gOr;rw[b6 (l:=[a,b,c]) (mk:=fun(_:Unit) i=>i) (f:=orS) ?_ ?_ (by unfold fuel;simp) ()]
 ·unfold orS
  by_cases h1:a=0
  ·by_cases h2:b=0
   ·by_cases h3:c=0
    ·simp[cB,ET,Fz,h1,h2,h3]
    ·simp[cB,ET,Fz,h1,h2,h3]
   ·simp[cB,ET,Fz,h1,h2]
  ·simp[cB,ET,Fz,h1]
 ·intro s i x hx
  have hi:i<3:=(aq6.1 hx).1;unfold KB orS;dsimp only;rw[aL hx,aq8,gn_ hx];simp only[aq5];rw[wrapN m0];by_cases h:x=0
  ·simp[h,oL]
  ·simp[h,oL]
 ·intro s
  unfold KB;dsimp only;rw[lF_,aq7]
theorem xk (v w:Val):r8 v w=some (rK v w):=by
 unfold r8;rw[aaa,aaa];simp only[aq5];rw[aqn];rfl
theorem OL:∀ (b:List Val),bL [] b=if b=[]then 0 else -1
 |[]=>rfl
 |_::_=>rfl
theorem G2 {a b:List Val}(ha:a.length<=4000000000000)(hb:b.length<=4000000000000):∀ (n i:Nat),i<=a.length->i<=b.length->a.length-i<n->(ao (jA a b fun x0 x1=>r8 x0 x1) n (i:Int)).bind (o6 a b)=some (bL (a.drop i) (b.drop i))
 |0,_,_,_,h=>by omega
 |n+1,i,h1,h2,hn=>by
  rw[ao];by_cases OZ:i<a.length
  ·obtain⟨x,hx⟩:=gol_ OZ
   have ex:=(aq6.1 hx).2;have eb:jA a b (fun x0 x1=>r8 x0 x1) (i:Int)=bif (decide (((b.length:Nat):Int)<=(i:Int)))then some (.ret (1:Int))else(aF b (i:Int)).bind fun Qv=>(r8 x Qv).bind fun QK=>bif (decide (QK≠(0:Int)))then some (.ret QK)else some (.next (i64.wrap ((i:Int)+(1:Int)))):=by
    unfold jA;dsimp only;rw[aL hx,aq8,gn_ hx];rfl
   rw[eb,arG OZ,ex];by_cases V7:i<b.length
   ·obtain⟨y,hy⟩:=gol_ V7
    have ey:=(aq6.1 hy).2;rw[arG V7,ey,show decide (((b.length:Nat):Int)<=(i:Int))=false from aq9 m0,aq7,gn_ hy,bL];simp only[aq5,xk];by_cases h:rK x y=0
    ·simp only[h,ne_eq,not_true_eq_false,decide_false,aq7,if_false]
     rw[wrapN m0];have k:=G2 ha hb n (i+1) m0 m0 m0;simp only[xk]at k;exact k
    ·simp[h,o6]
   ·have:i=b.length:=m0
    subst this;rw[asb,show decide (((b.length:Nat):Int)<=((b.length:Nat):Int))=true from aq_ m0,aq8];rfl
  ·have:i=a.length:=m0
   subst this;have eb:jA a b (fun x0 x1=>r8 x0 x1) ((a.length:Nat):Int)=some (.exit ((a.length:Nat):Int)):=by
    unfold jA;dsimp only;rw[lF_,aq7]
   rw[eb,asb,OL];show o6 a b (.inl ((a.length:Nat):Int))=_;unfold o6;by_cases h:a.length<b.length
   ·rw[show decide (((a.length:Nat):Int)<((b.length:Nat):Int))=true from aq_ m0,aq8,if_neg (by rw[List.drop_eq_nil_iff];omega)]
   ·rw[show decide (((a.length:Nat):Int)<((b.length:Nat):Int))=false from aq9 m0,aq7,if_pos (by rw[List.drop_eq_nil_iff];omega)]
theorem ais (a b:List Val)(ha:a.length<=4000000000000)(hb:b.length<=4000000000000):M7 a b=some (bL a b):=by
 unfold M7 JQ;have:=G2 ha hb fuel 0 (aru _) (aru _) (by unfold fuel;omega);rw[show(((0:Nat):Int))=0 from rfl]at this;rw[this];rfl
theorem bytesLess_eq:∀ a b:List UInt8,Op.bytesLess a b=decide (Lib.compareBytes a b<0)/\(a==b)=decide (Lib.compareBytes a b=0)
 |[],[]=>⟨rfl,rfl⟩
 |[],_::_=>⟨rfl,rfl⟩
 |_::_,[]=>⟨rfl,rfl⟩
 |x::a,y::b=>by
  have e2:Lib.compareBytes (x::a) (y::b)=if x<y then -1 else if y<x then 1 else Lib.compareBytes a b:=by rw[Lib.compareBytes]
  have e3:Op.bytesLess (x::a) (y::b)=(decide (x<y)||(x==y&&Op.bytesLess a b)):=by rw[Op.bytesLess]
  obtain⟨i1,i2⟩:=bytesLess_eq a b;rw[e2,e3,List.cons_beq_cons,i1,i2];by_cases h1:x<y
  ·have Ph:x≠y:=fun e=>by rw[e]at h1;exact absurd h1 (UInt8.lt_irrefl y)
   simp[h1,Ph]
  ·by_cases h2:y<x
   ·have Ph:x≠y:=fun e=>by rw[e]at h2;exact absurd h2 (UInt8.lt_irrefl y)
    simp[h1,h2,Ph]
   ·have heq:x=y:=UInt8.le_antisymm (UInt8.not_lt.1 h2) (UInt8.not_lt.1 h1)
    subst heq;simp[h1]
theorem aeR (a b:ByteArray):Op.bytesLess a.toList b.toList=decide (ql a b<0):=by
 unfold ql;rw[Lib.cmp_eq,ByteArray.toList_eq,ByteArray.toList_eq];exact(bytesLess_eq _ _).1
theorem akl (a b:ByteArray):(a.toList==b.toList)=decide (ql a b=0):=by
 unfold ql;rw[Lib.cmp_eq,ByteArray.toList_eq,ByteArray.toList_eq];exact(bytesLess_eq _ _).2
theorem lK:∀ a b:List UInt8,Lib.compareBytes a b = -1\/Lib.compareBytes a b=0\/Lib.compareBytes a b=1
 |[],[] => .inr (.inl rfl)
 |[],_::_ => .inl rfl
 |_::_,[] => .inr (.inr rfl)
 |x::a,y::b=>by
  have e2:Lib.compareBytes (x::a) (y::b)=if x<y then -1 else if y<x then 1 else Lib.compareBytes a b:=by rw[Lib.compareBytes]
  rw[e2];split
  ·exact .inl rfl
  ·split
   ·exact .inr (.inr rfl)
   ·exact lK a b
theorem FX (v w:Val):uM v w=some (rK v w):=by
 unfold uM rK FY;rw[aeR,akl];have hr:ql v.text w.text = -1\/ql v.text w.text=0\/ql v.text w.text=1:=by unfold ql;rw[Lib.cmp_eq];exact lK _ _
 by_cases h1:v.kind=w.kind
 ·have e1:iD v.kind w.kind=0:=by rw[h1];exact tCi_.refl _
  by_cases h2:v.int=w.int
  ·have e2:iD v.int w.int=0:=by rw[h2];exact tCi_.refl _
   rw[e1,e2];simp only[h1,h2,ne_eq,not_true_eq_false,decide_false,aq7,if_false];rcases hr with h|h|h<;>rw[h]<;>rfl
  ·have e2:iD v.int w.int≠0:=fun e=>h2 (tCi_.zero _ _ e)
   rw[e1];simp only[h1,h2,e2,ne_eq,not_true_eq_false,not_false_eq_true,sl9,if_false,if_true];unfold iD;by_cases h3:v.int<w.int
   ·simp[h3]
   ·have:w.int<v.int:=m0
    simp[h3,this]
 ·have e1:iD v.kind w.kind≠0:=fun e=>h1 (tCi_.zero _ _ e)
  simp only[h1,e1,ne_eq,not_true_eq_false,not_false_eq_true,sl9,if_false,if_true];unfold iD;by_cases h3:v.kind<w.kind
  ·simp[h3]
  ·have:w.kind<v.kind:=m0
   simp[h3,this]
theorem L_ {a b:List Val}(ha:a.length<=4000000000000)(hb:b.length<=4000000000000):∀ (n i:Nat),i<=a.length->i<=b.length->a.length-i<n->(ao (fS a b) n (i:Int)).bind (iY a b)=some (bL (a.drop i) (b.drop i))
 |0,_,_,_,h=>by omega
 |n+1,i,h1,h2,hn=>by
  rw[ao];by_cases OZ:i<a.length
  ·obtain⟨x,hx⟩:=gol_ OZ
   have ex:=(aq6.1 hx).2;rw[arG OZ,ex];by_cases V7:i<b.length
   ·obtain⟨y,hy⟩:=gol_ V7
    have ey:=(aq6.1 hy).2;have eb:fS a b (i:Int)=bif (decide (rK x y≠(0:Int)))then some (.ret (rK x y))else some (.next (i64.wrap ((i:Int)+(1:Int)))):=by
     unfold fS;dsimp only;rw[aL hx,aq8,aL hy,aq8,gn_ hx,gn_ hy];simp only[aq5,FX]
    rw[eb,arG V7,ey,bL];by_cases h:rK x y=0
    ·simp only[h,ne_eq,not_true_eq_false,decide_false,aq7,if_false]
     rw[wrapN m0];exact L_ ha hb n (i+1) m0 m0 m0
    ·simp[h,iY]
   ·have:i=b.length:=m0
    subst this;have eb:fS a b ((b.length:Nat):Int)=some (.exit ((b.length:Nat):Int)):=by
     unfold fS;dsimp only;rw[aL hx,aq8,lF_,aq7]
    rw[eb,asb];show iY a b (.inl ((b.length:Nat):Int))=_;unfold iY;rw[show decide (((a.length:Nat):Int)<((b.length:Nat):Int))=false from aq9 m0,aq7,show decide (((b.length:Nat):Int)<((a.length:Nat):Int))=true from aq_ m0,aq8];rfl
  ·have:i=a.length:=m0
   subst this;have eb:fS a b ((a.length:Nat):Int)=some (.exit ((a.length:Nat):Int)):=by
    unfold fS;dsimp only;rw[lF_,aq7]
   rw[eb,asb,OL];show iY a b (.inl ((a.length:Nat):Int))=_;unfold iY;by_cases h:a.length<b.length
   ·rw[show decide (((a.length:Nat):Int)<((b.length:Nat):Int))=true from aq_ m0,aq8,if_neg (by rw[List.drop_eq_nil_iff];omega)]
   ·rw[show decide (((a.length:Nat):Int)<((b.length:Nat):Int))=false from aq9 m0,aq7,show decide (((b.length:Nat):Int)<((a.length:Nat):Int))=false from aq9 m0,aq7,if_pos (by rw[List.drop_eq_nil_iff];omega)]
theorem kg (a b:List Val)(ha:a.length<=4000000000000)(hb:b.length<=4000000000000):oK a b=some (bL a b):=by
 unfold oK;have:=L_ ha hb fuel 0 (aru _) (aru _) (by unfold fuel;omega);rw[show(((0:Nat):Int))=0 from rfl]at this;rw[this];rfl
def vz (OW:ac)(OX:ac):Option (Int):=(M7 OW.row OX.row).bind fun Pg=>some Pg
instance gRowsC_ok {OW : ac} {OX : ac} {r : Int} : OkC (vz OW OX = some r) (PTz 239 [.agg (af OW), .agg (af OX)] (.val (.one (.int .i64 r)))) := .mk fun H => by
 unfold vz at H;refine po_ Tryz.func239 Tryz.ntmps239 ?_;obtain⟨Pg,c1,H⟩:=bd_ H;replace c1:=gTCmp_ok c1
 try simp only[ark,ari,arn,ara,ay]at c1
 obtain rfl:=arH H;exact sp
theorem afG (a b:ac)(ha:a.row.length<=4000000000000)(hb:b.row.length<=4000000000000):vz a b=some (bL a.row b.row):=by
 unfold vz;rw[ais _ _ ha hb];rfl
def D6 {α:Type}(c:α->α->Int)(A:List α)(x:α):Nat->Nat
 |0=>0
 |j+1=>match A[j]? with
  |some y=>if c x y<0 then D6 c A x j else j+1
  |none=>j+1
def FR {α:Type}(c:α->α->Int)(A:List α)(x:α):List α:=A.take (D6 c A x A.length)++x::A.drop (D6 c A x A.length)
def lF {α:Type}(c:α->α->Int)(l:List α):List α:=l.foldl (FR c) []
theorem Ht {α:Type}(c:α->α->Int)(B:List α)(x:α):∀ j,j<=B.length->D6 c B x j<=j/\(∀ i y,D6 c B x j<=i->i<j->B[i]?=some y->c x y<0)/\(∀ q,D6 c B x j=q+1 ->∃ y,B[q]?=some y /\ ¬ c x y<0)
 |0,_=>⟨aro _,fun i y _ h=>by omega,fun q h=>by simp[D6]at h⟩
 |j+1,hj=>by
  obtain⟨y,hy⟩:=gol_ (show j<B.length by omega);obtain⟨h1,h2,h3⟩:=Ht c B x j m0;unfold D6;simp only[hy];split
  ·rename_i OZ
   refine⟨m0,fun i z hi S1 hz=>?_,h3⟩;by_cases e:i=j
   ·subst e;rw[hy]at hz;injection hz with hz;subst hz;exact OZ
   ·exact h2 i z hi m0 hz
  ·rename_i Ue
   exact⟨aro _,fun i z hi S1 _=>by omega,fun q hq=>by injection hq with hq;subst hq;exact⟨y,hy,Ue⟩⟩
theorem ae1 {α:Type}(c:α->α->Int)(B:List α)(x:α):(FR c B x).Perm (x::B):=by
 unfold FR;refine List.perm_middle.trans ?_;rw[arV]
theorem rj {α:Type}(c:α->α->Int):∀ (l B:List α),(l.foldl (FR c) B).Perm (l++B)
 |[],B=>List.Perm.refl _
 |x::l,B=>by
  rw[ar0];refine(rj c l (FR c B x)).trans ?_;refine((ae1 c B x).append_left l).trans ?_;exact List.perm_middle
theorem pH {α:Type}(c:α->α->Int)(l:List α):(lF c l).Perm l:=by
 have:=rj c l [];simpa[lF]using this
theorem ahL {α:Type}{c:α->α->Int}(VR:∀ a b d,c a b<=0->c b d<=0->c a d<=0)(Vg:∀ a b,¬ c a b<0->c b a<=0){B:List α}(x:α)(h:B.Pairwise fun a b=>c a b<=0):(FR c B x).Pairwise fun a b=>c a b<=0:=by
 obtain⟨h1,h2,h3⟩:=Ht c B x B.length (aro _);unfold FR;generalize D6 c B x B.length=p at h1 h2 h3;have hd:∀ y∈B.drop p,c x y<=0:=by
  intro y hy;obtain⟨i,hi⟩:=List.getElem?_of_mem hy;rw[arW]at hi;have:=(aq6.1 hi).1;have:=h2 (p+i) y m0 this hi;omega
 have ht:∀ y∈B.take p,c y x<=0:=by
  intro y hy
  cases p with
  |zero=>simp at hy
  |succ q =>
   obtain⟨z,hz,Ue⟩:=h3 q rfl;have hzx:=Vg x z Ue;obtain⟨i,hi⟩:=List.getElem?_of_mem hy;have Tz:i<q+1:=by have:=(aq6.1 hi).1;rw[ar3]at this;omega
   rw[List.getElem?_take_of_lt Tz]at hi;by_cases e:i=q
   ·subst e;rw[hi]at hz;injection hz with hz;subst hz;exact hzx
   ·have OZ:i<q:=m0
    have Ri:=aq6.1 hi;have hz':=aq6.1 hz;have:=List.pairwise_iff_getElem.1 h i q Ri.1 hz'.1 OZ;rw[Ri.2,hz'.2]at this;exact VR _ _ _ this hzx
 refine List.pairwise_append.2 ⟨h.sublist (List.take_sublist _ _),ase.2 ⟨hd,h.sublist (List.drop_sublist _ _)⟩,fun a ha b hb=>?_⟩;rcases arp.1 hb with rfl|hb
 ·exact ht a ha
 ·exact VR _ _ _ (ht a ha) (hd b hb)
theorem GV {α:Type}{c:α->α->Int}(VR:∀ a b d,c a b<=0->c b d<=0->c a d<=0)(Vg:∀ a b,¬ c a b<0->c b a<=0)(l:List α):(lF c l).Pairwise fun a b=>c a b<=0:=by
 have:∀ (l B:List α),(B.Pairwise fun a b=>c a b<=0)->(l.foldl (FR c) B).Pairwise fun a b=>c a b<=0:=by
  intro l
  induction l with
  |nil=>intro B h;exact h
  |cons x l ih=>intro B h;exact ih _ (ahL VR Vg x h)
 exact this l [] List.Pairwise.nil
abbrev fy (a b:ac):Int:=bL a.row b.row
abbrev gU (s:ac):fG:=(cl s.row,.lst (s.periods.map aO))
theorem aqx {L:List Ob}{v k:Nat}{l:List fG}{x:AV}{xs:List AV}(h0:L[3]?=some (Ob.row v (l.map o5) k))(hx:∀ y∈x::xs,y.below 1):gg [3] [Ob.row v (l.map o5) k] (x::xs) L:=by
 refine⟨rfl,m5,fun i y hy=>?_,bw ⟨cE _ _ _ _,t7⟩,hx⟩
 match i,hy with
 |0,hy=>simp at hy;subst hy;rw[xu];exact h0
 |i+1,hy=>simp at hy
theorem jG3 {L L':List Ob}{v k:Nat}{l:List fG}(h:L.set 3 (Ob.row v (l.map o5) k)=L'):joinL [3] L [Ob.row v (l.map o5) k]=L':=by
 subst h;simp[joinL,join,dr,ce,ft,xu]
def l8 (l:List ap):List ac:=lF fy ((dp l).map fun g=>⟨g.f.row,g.ps⟩)
theorem akX:PTz 276 [.one (.lst []),.one (.int .i64 0),.one (.int .i64 0),.one (.fn 239 [])] (.tup []):=by
 refine po_ Tryz.func276 Tryz.ntmps276 ?_;refine aY ?_;refine alM_ (σ:=Unit) (ρ:=Unit) (body:=fun _=>some (.exit ())) (K:=fun _=>some ()) (r:=()) (s0:=()) (fun _=>[(0,.one (.c (.lst []))),(1,.one (.c (.int .i64 0))),(2,.one (.c (.int .i64 0))),(8,.one (.c (.int .i64 1)))]) (fun _=>[]) rfl (fun _=>aru _) (fm_ bG [] rfl a8 cm) ?_;rintro⟨⟩ st hb hk
 cases hb;refine aY ?_;exact⟨.inl rfl,bj rfl (by repeat' (first|exact t7|rfl|apply And.intro)) rfl⟩
theorem akt:PTz 254 [.one (.lst []),.one (.int .i64 0),.one (.fn 239 [])] (.tup []):=by
 have c:=akX;refine po_ Tryz.func254 Tryz.ntmps254 ?_;refine aY ?_;refine alM_ (σ:=Unit) (ρ:=Unit) (body:=fun _=>some (.exit ())) (K:=fun _=>some ()) (r:=()) (s0:=()) (fun _=>[(0,.one (.c (.lst []))),(1,.one (.c (.int .i64 0))),(2,.one (.c (.fn 239 []))),(6,.one (.c (.int .i64 20))),(7,.one (.c (.int .i64 0))),(8,.one (.c (.int .i64 20)))]) (fun _=>[]) rfl (fun _=>aru _) (fm_ bG [] rfl a8 cm) ?_;rintro⟨⟩ st hb hk
 cases hb;refine aY ?_;refine alM_ (σ:=Unit) (ρ:=Unit) (body:=fun _=>some (.exit ())) (K:=fun _=>some ()) (r:=()) (s0:=()) (fun _=>[(1,.one (.c (.int .i64 0))),(6,.one (.c (.int .i64 20)))]) (fun _=>[]) rfl (fun _=>aru _) (fm_ bG [] rfl a8 cm) ?_;rintro⟨⟩ st hb hk
 cases hb;refine aY ?_;exact⟨.inl rfl,bj rfl (by repeat' (first|exact t7|rfl|apply And.intro)) rfl⟩
theorem acJ:PTz 238 [.one (.lst []),.one (.fn 239 [])] (.tup []):=by
 have c:=akt;refine po_ Tryz.func238 Tryz.ntmps238 ?_;refine aY ?_;exact⟨.inl rfl,bj rfl (by repeat' (first|exact t7|rfl|apply And.intro)) rfl⟩
abbrev ct {α:Type}(enc:α->List AC)(k v:Nat)(X:List α):Ob := .row v ((X.map enc).map (List.map SV.c)) k
theorem aae {α:Type}(enc:α->List AC)(k v:Nat)(X:List α)(σ:List Nat):(ct enc k v X).ren σ=ct enc k v X:=by
 show Ob.row v (((X.map enc).map (List.map SV.c)).map (List.map (SV.ren σ))) k=_;rw[List.map_map];congr 1;refine List.map_congr_left fun e _=>?_
 show(e.map SV.c).map (SV.ren σ)=e.map SV.c;rw[List.map_map];rfl
theorem aR {α:Type}(n:Nat)(enc:α->List AC)(k v:Nat)(X:List α):(ct enc k v X).below n:=jF n v k enc X
theorem rfX {α:Type}{enc:α->List AC}{k v:Nat}{X:List α}{L:List Ob}{args:List AV}(h0:L[0]?=some (ct enc k v X))(hx:∀ y∈args,y.below 1):gg [0] [ct enc k v X] args L:=by
 refine⟨rfl,m5,fun i y hy=>?_,bw ⟨aR _ _ _ _ _,t7⟩,hx⟩
 match i,hy with
 |0,hy=>simp only[List.getElem?_cons_zero,Option.some.injEq]at hy;subst hy;rw[aae];exact h0
 |i+1,hy=>simp at hy
theorem jX {α:Type}{enc:α->List AC}{k v:Nat}{X:List α}{L L':List Ob}(h:L.set 0 (ct enc k v X)=L'):joinL [0] L [ct enc k v X]=L':=by
 subst h;simp only[joinL,join,dr,ce,ft,ari,arn,aae];simp
section
variable {P:Program} {ti:TI} {N:Nat} {ds:List (Option Tmp)} {K:Tm->List Ob->Prop} {rest:List Oper} {o:Oper} {T:Tm} {L:List Ob}
theorem r_ {α:Type}{enc:α->List AC}{X Y:List α}{g:FuncId}{TD args:List AV}{v k d:Nat}(hd:o.dst=some d)(hN:Nat.blt d N=true)(hg:ge ds T o.guard=some true)(hp:dj ti (look T) o.op=some (g,TD))(hL:L[0]?=some (ct enc k v X))(h:aI P ti N ds K rest ((d,.tup [])::T) (L.set 0 (ct enc k v Y)))
  (hc:Run P g [ct enc k v X] args [ct enc k v Y] (.tup []):=by assumption) (ha:TD=args.map (AV.ren [0]):=by rfl) (hb:∀ y∈args,y.below 1:=by refine bY ?_;repeat' (first|refine⟨?_,?_⟩|exact t7|exact lt_)):aI P ti N ds K (o::rest) T L :=
 cK [0] hd hN hg hp hc ha (rfX hL hb) rfl (jX rfl) h
theorem aoF {α:Type}{enc:α->List AC}{X:List α}{x:α}{t:TypeId}{p:Operand}{id OY i k d:Nat}(hd:o.dst=some d)(hN:Nat.blt d N=true){g0:Bool}(hg:ge ds T o.guard=some g0)(ho:o.op = .load t p)(hp:look T p=some (.one (.ep id OY i 0)))(hL:L[id]?=some (ct enc k OY X))(ha:ti.agg t=some true)(hn:ti.size t=some k)(hk:∀ x,(enc x).length=k)
  (h:aI P ti N ds K rest ((d,.agg ((enc x).map SV.c))::T) L) (hx:X[i]?=some x:=by assumption) (Q8:g0=true:=by first|rfl|exact jC (by first|assumption|exact kw (by assumption))|exact jw (by first|assumption|exact kj (by assumption))):aI P ti N ds K (o::rest) T L:=by
 subst Q8;have hl:((enc x).map SV.c).length=k:=by rw[arj,hk]
 refine K2 hd hN hg ho hp hL ha hn (e:=(enc x).map SV.c) ?_ (by rw[List.drop_zero,<- hl,List.take_length]) m0 h;rw[arw,arw,hx];rfl
theorem aoX {α:Type}{enc:α->List AC}{X:List α}{x:α}{y:AC}{t:TypeId}{p:Operand}{id OY i k d:Nat}(hd:o.dst=some d)(hN:Nat.blt d N=true){g0:Bool}(hg:ge ds T o.guard=some g0)(ho:o.op = .load t p)(hp:look T p=some (.one (.ep id OY i 0)))(hL:L[id]?=some (ct enc k OY X))(ha:ti.agg t=some false)
  (h:aI P ti N ds K rest ((d,.one (.c y))::T) L) (hx:X[i]?=some x:=by assumption) (hy:enc x=[y]:=by rfl) (Q8:g0=true:=by first|rfl|exact jC (by first|assumption|exact kw (by assumption))|exact jw (by first|assumption|exact kj (by assumption))):aI P ti N ds K (o::rest) T L:=by
 subst Q8;refine lY hd hN hg ho hp hL ha (e:=(enc x).map SV.c) (x := .c y) ?_ (by rw[hy];rfl) h;rw[arw,arw,hx];rfl
end
theorem kK {α β:Type}{X:List α}{i:Int}{k:α->Option β}{r:β}(H:(aF X i).bind k=some r):∃ x,X[0+i.toNat]?=some x/\k x=some r:=by
 obtain⟨x,h,K⟩:=bd_ H;obtain⟨h0,h1⟩:=gu h;exact⟨x,by rw[arS];exact h1,K⟩
theorem uo {p q:Prop}(k:q)(h:Bx q->p:=by
 intro hq
 repeat' (first
  |refine r_ rfl rfl rfl rfl rfl ?_|refine aoF rfl rfl rfl rfl rfl rfl rfl rfl (fun _=>rfl) ?_|refine aoX rfl rfl rfl rfl rfl rfl rfl ?_|refine Bd rfl rfl rfl rfl rfl m0 rfl (fun _=>rfl) rfl ?_|refine p_ rfl rfl rfl rfl rfl ?_|refine st_nil ?_|refine x_ rfl rfl rfl rfl rfl rfl rfl rfl ?_|refine l_ rfl rfl rfl rfl ?_|refine s_ rfl rfl rfl ?_|refine t_ rfl rfl rfl rfl ?_|refine k_ rfl rfl rfl ?_|refine k0_ rfl rfl ?_|refine c_ rfl rfl rfl rfl ?_|refine pick_t rfl rfl rfl rfl rfl rfl rfl ?_|refine pick_f rfl rfl rfl rfl rfl rfl rfl ?_|refine aw_seq ?_|refine aw_region am _ rfl ?_|refine aw_drawn2 aZ _ rfl mixed (by decide +kernel) ?_|refine aw_condT rfl ?_|refine aw_condF rfl ?_|refine aw_block ?_|refine aw_exit ?_|refine aw_ret ?_|refine aw_skip ?_|rw[arj]|rw[mn_norm]|rw[mx_norm])
 exact hq.out):p:=h ⟨k⟩
theorem iR {p:Prop}(h:p:=by
 repeat' (first
  |refine r_ rfl rfl rfl rfl rfl ?_|refine aoF rfl rfl rfl rfl rfl rfl rfl rfl (fun _=>rfl) ?_|refine aoX rfl rfl rfl rfl rfl rfl rfl ?_|refine Bd rfl rfl rfl rfl rfl m0 rfl (fun _=>rfl) rfl ?_|refine p_ rfl rfl rfl rfl rfl ?_|refine st_nil ?_|refine x_ rfl rfl rfl rfl rfl rfl rfl rfl ?_|refine l_ rfl rfl rfl rfl ?_|refine s_ rfl rfl rfl ?_|refine t_ rfl rfl rfl rfl ?_|refine k_ rfl rfl rfl ?_|refine k0_ rfl rfl ?_|refine c_ rfl rfl rfl rfl ?_|refine pick_t rfl rfl rfl rfl rfl rfl rfl ?_|refine pick_f rfl rfl rfl rfl rfl rfl rfl ?_|refine aw_seq ?_|refine aw_region am _ rfl ?_|refine aw_drawn2 aZ _ rfl mixed (by decide +kernel) ?_|refine aw_condT rfl ?_|refine aw_condF rfl ?_|refine aw_block ?_|refine aw_exit ?_|refine aw_ret ?_|refine aw_skip ?_|rw[arj]|rw[mn_norm]|rw[mx_norm])
 first
  |exact⟨.inl rfl,⟨.inr ⟨.tup [],⟨t7,rfl⟩,rfl⟩,⟨[],rfl⟩,m5,bw ⟨aR _ _ _ _ _,t7⟩,t7⟩⟩
  |exact⟨.inr rfl,⟨.inr ⟨.tup [],⟨t7,rfl⟩,rfl⟩,⟨[],rfl⟩,m5,bw ⟨aR _ _ _ _ _,t7⟩,t7⟩⟩):p:=h
abbrev bN (x:Int):Int:=i64.wrap (Int.fdiv (IntKind.u64.wrap x) (2 ^ (min (Int.toNat (1:Int)) (IntKind.bits .u64))))
def dY {α:Type}(OW:Int)(OX:Int)(PS:Int)(n:Nat):((List α)×Int)->Option (Step ((List α)×Int) (List α)):=fun s=>match s with
 |(PU,i_2)=>bif (decide (i_2<PS))then bif (decide (0<=(i64.wrap (OX+i_2))))then(bif (decide ((i64.wrap (OX+i_2))<((n:Nat):Int)))then((aF PU (i64.wrap (OX+i_2))).bind fun Qf=>bif (decide (0<=(i64.wrap (OW+i_2))))then(bif (decide ((i64.wrap (OW+i_2))<((n:Nat):Int)))then((aF PU (i64.wrap (OW+i_2))).bind fun Qv=>bif (decide (0<=(i64.wrap (OW+i_2))))then(bif (decide ((i64.wrap (OW+i_2))<((n:Nat):Int)))then(bif (decide ((0+(i64.wrap (OW+i_2)).toNat)<PU.length))then(bif (decide (0<=(i64.wrap (OX+i_2))))then(bif (decide ((i64.wrap (OX+i_2))<((n:Nat):Int)))then(bif (decide ((0+(i64.wrap (OX+i_2)).toNat)<(PU.set (0+(i64.wrap (OW+i_2)).toNat) Qf).length))then(some (.next (((PU.set (0+(i64.wrap (OW+i_2)).toNat) Qf).set (0+(i64.wrap (OX+i_2)).toNat) Qv),(i64.wrap (i_2+(1:Int))))))else none)else none)else none)else none)else none)else none)else none)else none)else none)else none else
 some (.exit (PU,i_2))
def nR {α:Type}:Sum ((List α)×Int) (List α)->Option ((List α))
 |.inl (PU,i_2)=>some PU
 |.inr q=>some q
def ii {α:Type}(n:Nat)(zd:(List α))(OW:Int)(OX:Int)(PS:Int)(a_cmp:α->α->Option (Int)):Option (List α):=(ao (dY OW OX PS n) fuel (zd,(0:Int))).bind (nR)
def eX {α:Type}(O6:Int)(a_cmp:α->α->Option (Int))(n:Nat):((List α)×Int×Int)->Option (Step ((List α)×Int×Int) (List α)):=fun s=>match s with
 |(PU,i_2,Rb)=>bif (decide (i_2≠Rb))then bif (decide (Rb<i_2))then(ii n PU (i64.wrap (O6-i_2)) O6 Rb a_cmp).bind fun YS=>some (.next (YS,(i64.wrap (i_2-Rb)),Rb))else
 (ii n PU (i64.wrap (O6-i_2)) (i64.wrap ((i64.wrap (O6+Rb))-i_2)) i_2 a_cmp).bind fun UG=>some (.next (UG,i_2,(i64.wrap (Rb-i_2))))else
 some (.exit (PU,i_2,Rb))
def qH {α:Type}(O6:Int)(a_cmp:α->α->Option (Int))(n:Nat):Sum ((List α)×Int×Int) (List α)->Option ((List α))
 |.inl (PU,i_2,Rb)=>(ii n PU (i64.wrap (O6-i_2)) O6 i_2 a_cmp).bind fun c_8=>some c_8
 |.inr q=>some q
def np {α:Type}(n:Nat)(zd:(List α))(OW:Int)(O6:Int)(OX:Int)(a_cmp:α->α->Option (Int)):Option (List α):=(ao (eX O6 a_cmp n) fuel (zd,(i64.wrap (O6-OW)),(i64.wrap (OX-O6)))).bind (qH O6 a_cmp n)
def dN {α:Type}(OW:Int)(a_cmp:α->α->Option (Int))(n:Nat):((List α)×Int)->Option (Step ((List α)×Int) (List α)):=fun s=>match s with
 |(TP,Q4)=>bif (decide (OW<Q4))then bif (decide (0<=Q4))then(bif (decide (Q4<((n:Nat):Int)))then((aF TP Q4).bind fun TN=>bif (decide (0<=(i64.wrap (Q4-(1:Int)))))then(bif (decide ((i64.wrap (Q4-(1:Int)))<((n:Nat):Int)))then((aF TP (i64.wrap (Q4-(1:Int)))).bind fun UH=>(a_cmp TN UH).bind fun SC=>bif (decide (SC<(0:Int)))then bif (decide (0<=(i64.wrap (Q4-(1:Int)))))then(bif (decide ((i64.wrap (Q4-(1:Int)))<((n:Nat):Int)))then(bif (decide (0<=Q4))then(bif (decide (Q4<((n:Nat):Int)))then(bif (decide (0<=Q4))then(bif (decide (Q4<((n:Nat):Int)))then(bif (decide ((0+Q4.toNat)<TP.length))then(bif (decide (0<=(i64.wrap (Q4-(1:Int)))))then(bif (decide ((i64.wrap (Q4-(1:Int)))<((n:Nat):Int)))then(bif (decide ((0+(i64.wrap (Q4-(1:Int))).toNat)<(TP.set (0+Q4.toNat) UH).length))then(some (.next (((TP.set (0+Q4.toNat) UH).set (0+(i64.wrap (Q4-(1:Int))).toNat) TN),(i64.wrap (Q4-(1:Int))))))else none)else none)else none)else none)else none)else none)else none)else none)else none)else none else
 some (.exit (TP,Q4)))else none)else none)else none)else none else
 some (.exit (TP,Q4))
def iP {α:Type}(i_2:Int):Sum ((List α)×Int) (List α)->Option (Step ((List α)×Int) (List α))
 |.inl (TP,Q4)=>some (.next (TP,(i64.wrap (i_2+(1:Int)))))
 |.inr q=>some (.ret q)
def dO {α:Type}(OW:Int)(OX:Int)(a_cmp:α->α->Option (Int))(n:Nat):((List α)×Int)->Option (Step ((List α)×Int) (List α)):=fun s=>match s with
 |(PU,i_2)=>bif (decide (i_2<OX))then(ao (dN OW a_cmp n) fuel (PU,i_2)).bind (iP i_2)else
 some (.exit (PU,i_2))
def sT {α:Type}:Sum ((List α)×Int) (List α)->Option ((List α))
 |.inl (PU,i_2)=>some PU
 |.inr q=>some q
def pu {α:Type}(n:Nat)(zd:(List α))(OW:Int)(OX:Int)(a_cmp:α->α->Option (Int)):Option (List α):=(ao (dO OW OX a_cmp n) fuel (zd,(i64.wrap (OW+(1:Int))))).bind (sT)
def me {α:Type}(n:Nat)(i_2:Int):((List α)×Int)->Option (Step ((List α)×Int) (List α)):=fun s=>match s with
 |(Us,P8)=>bif (decide (P8<(i64.wrap (i_2-(1:Int)))))then bif (decide (0<=(i64.wrap (P8+(1:Int)))))then(bif (decide ((i64.wrap (P8+(1:Int)))<((n:Nat):Int)))then((aF Us (i64.wrap (P8+(1:Int)))).bind fun Ut=>bif (decide (0<=P8))then(bif (decide (P8<((n:Nat):Int)))then((aF Us P8).bind fun S9=>bif (decide (0<=P8))then(bif (decide (P8<((n:Nat):Int)))then(bif (decide ((0+P8.toNat)<Us.length))then(bif (decide (0<=(i64.wrap (P8+(1:Int)))))then(bif (decide ((i64.wrap (P8+(1:Int)))<((n:Nat):Int)))then(bif (decide ((0+(i64.wrap (P8+(1:Int))).toNat)<(Us.set (0+P8.toNat) Ut).length))then(some (.next (((Us.set (0+P8.toNat) Ut).set (0+(i64.wrap (P8+(1:Int))).toNat) S9),(i64.wrap (P8+(1:Int))))))else none)else none)else none)else none)else none)else none)else none)else none)else none)else none else
 some (.exit (Us,P8))
def Ce {α:Type}:Sum ((List α)×Int) (List α)->Option ((List α))
 |.inl (Us,P8)=>some Us
 |.inr q=>some q
def o9 {α:Type}(zd:List α)(OW:Int)(a_cmp:α->α->Option (Int))(n:Nat):(Int×Int)->Option (Step (Int×Int) (List α)):=fun s=>match s with
 |(i_2,Rb)=>bif (decide (i_2<Rb))then bif (decide (0<=(bN (i64.wrap (i_2+Rb)))))then(bif (decide ((bN (i64.wrap (i_2+Rb)))<((n:Nat):Int)))then((aF zd (bN (i64.wrap (i_2+Rb)))).bind fun Qv=>bif (decide (0<=OW))then(bif (decide (OW<((n:Nat):Int)))then((aF zd OW).bind fun Ud=>(a_cmp Qv Ud).bind fun Si=>bif (decide (Si<(0:Int)))then some (.next ((i64.wrap ((bN (i64.wrap (i_2+Rb)))+(1:Int))),Rb))else
 some (.next (i_2,(bN (i64.wrap (i_2+Rb))))))else none)else none)else none)else none else
 some (.exit (i_2,Rb))
def s9 {α:Type}(zd:List α)(OW:Int)(n:Nat):Sum (Int×Int) (List α)->Option ((List α))
 |.inl (i_2,Rb)=>(ao (me n i_2) fuel (zd,OW)).bind (Ce)
 |.inr q=>some q
def mB {α:Type}(n:Nat)(QA:Int):((List α)×Int)->Option (Step ((List α)×Int) (List α)):=fun s=>match s with
 |(Ru,P9)=>bif (decide (QA<P9))then bif (decide (0<=(i64.wrap (P9-(1:Int)))))then(bif (decide ((i64.wrap (P9-(1:Int)))<((n:Nat):Int)))then((aF Ru (i64.wrap (P9-(1:Int)))).bind fun Xv=>bif (decide (0<=P9))then(bif (decide (P9<((n:Nat):Int)))then((aF Ru P9).bind fun YT=>bif (decide (0<=P9))then(bif (decide (P9<((n:Nat):Int)))then(bif (decide ((0+P9.toNat)<Ru.length))then(bif (decide (0<=(i64.wrap (P9-(1:Int)))))then(bif (decide ((i64.wrap (P9-(1:Int)))<((n:Nat):Int)))then(bif (decide ((0+(i64.wrap (P9-(1:Int))).toNat)<(Ru.set (0+P9.toNat) Xv).length))then(some (.next (((Ru.set (0+P9.toNat) Xv).set (0+(i64.wrap (P9-(1:Int))).toNat) YT),(i64.wrap (P9-(1:Int))))))else none)else none)else none)else none)else none)else none)else none)else none)else none)else none else
 some (.exit (Ru,P9))
def B9 {α:Type}:Sum ((List α)×Int) (List α)->Option ((List α))
 |.inl (Ru,P9)=>some Ru
 |.inr q=>some q
def ol {α:Type}(zd:List α)(O6:Int)(a_cmp:α->α->Option (Int))(n:Nat):(Int×Int)->Option (Step (Int×Int) (List α)):=fun s=>match s with
 |(QA,Re)=>bif (decide (QA<Re))then bif (decide (0<=O6))then(bif (decide (O6<((n:Nat):Int)))then((aF zd O6).bind fun Vh=>bif (decide (0<=(bN (i64.wrap (QA+Re)))))then(bif (decide ((bN (i64.wrap (QA+Re)))<((n:Nat):Int)))then((aF zd (bN (i64.wrap (QA+Re)))).bind fun S8=>(a_cmp Vh S8).bind fun QY=>bif (!(decide (QY<(0:Int))))then some (.next ((i64.wrap ((bN (i64.wrap (QA+Re)))+(1:Int))),Re))else
 some (.next (QA,(bN (i64.wrap (QA+Re))))))else none)else none)else none)else none else
 some (.exit (QA,Re))
def sU {α:Type}(zd:List α)(O6:Int)(n:Nat):Sum (Int×Int) (List α)->Option ((List α))
 |.inl (QA,Re)=>(ao (mB n QA) fuel (zd,O6)).bind (B9)
 |.inr q=>some q
def j7 {α:Type}(zd:List α)(OW:Int)(O6:Int)(OX:Int)(a_cmp:α->α->Option (Int))(n:Nat):(Int×Int)->Option (Step (Int×Int) (List α)):=fun s=>match s with
 |(z6,Qx)=>bif (decide (z6<Qx))then bif (decide (0<=(i64.wrap ((i64.wrap ((i64.wrap ((bN (i64.wrap (OW+OX)))+O6))-(1:Int)))-(bN (i64.wrap (z6+Qx)))))))then(bif (decide ((i64.wrap ((i64.wrap ((i64.wrap ((bN (i64.wrap (OW+OX)))+O6))-(1:Int)))-(bN (i64.wrap (z6+Qx)))))<((n:Nat):Int)))then((aF zd (i64.wrap ((i64.wrap ((i64.wrap ((bN (i64.wrap (OW+OX)))+O6))-(1:Int)))-(bN (i64.wrap (z6+Qx)))))).bind fun YU=>bif (decide (0<=(bN (i64.wrap (z6+Qx)))))then(bif (decide ((bN (i64.wrap (z6+Qx)))<((n:Nat):Int)))then((aF zd (bN (i64.wrap (z6+Qx)))).bind fun TQ=>(a_cmp YU TQ).bind fun V8=>bif (!(decide (V8<(0:Int))))then some (.next ((i64.wrap ((bN (i64.wrap (z6+Qx)))+(1:Int))),Qx))else
 some (.next (z6,(bN (i64.wrap (z6+Qx))))))else none)else none)else none)else none else
 some (.exit (z6,Qx))
def kn {α:Type}(zd:List α)(OW:Int)(O6:Int)(OX:Int)(a_cmp:α->α->Option (Int))(n:Nat)(rec:Nat->List α->Int->Int->Int->(α->α->Option Int)->Option (List α)):Sum (Int×Int) (List α)->Option ((List α))
 |.inl (z6,Qx)=>bif (decide (z6<O6))then bif (decide (O6<(i64.wrap ((i64.wrap ((bN (i64.wrap (OW+OX)))+O6))-z6))))then(np n zd z6 O6 (i64.wrap ((i64.wrap ((bN (i64.wrap (OW+OX)))+O6))-z6)) a_cmp).bind fun S_=>bif (decide (OW<z6))then bif (decide (z6<(bN (i64.wrap (OW+OX)))))then(rec n S_ OW z6 (bN (i64.wrap (OW+OX))) a_cmp).bind fun V9=>bif (decide ((bN (i64.wrap (OW+OX)))<(i64.wrap ((i64.wrap ((bN (i64.wrap (OW+OX)))+O6))-z6))))then bif (decide ((i64.wrap ((i64.wrap ((bN (i64.wrap (OW+OX)))+O6))-z6))<OX))then(rec n V9 (bN (i64.wrap (OW+OX))) (i64.wrap ((i64.wrap ((bN (i64.wrap (OW+OX)))+O6))-z6)) OX a_cmp).bind fun YV=>some YV else
 some V9 else
 some V9 else
 bif (decide ((bN (i64.wrap (OW+OX)))<(i64.wrap ((i64.wrap ((bN (i64.wrap (OW+OX)))+O6))-z6))))then bif (decide ((i64.wrap ((i64.wrap ((bN (i64.wrap (OW+OX)))+O6))-z6))<OX))then(rec n S_ (bN (i64.wrap (OW+OX))) (i64.wrap ((i64.wrap ((bN (i64.wrap (OW+OX)))+O6))-z6)) OX a_cmp).bind fun YW=>some YW else
 some S_ else
 some S_ else
 bif (decide ((bN (i64.wrap (OW+OX)))<(i64.wrap ((i64.wrap ((bN (i64.wrap (OW+OX)))+O6))-z6))))then bif (decide ((i64.wrap ((i64.wrap ((bN (i64.wrap (OW+OX)))+O6))-z6))<OX))then(rec n S_ (bN (i64.wrap (OW+OX))) (i64.wrap ((i64.wrap ((bN (i64.wrap (OW+OX)))+O6))-z6)) OX a_cmp).bind fun YX=>some YX else
 some S_ else
 some S_ else
 bif (decide (OW<z6))then bif (decide (z6<(bN (i64.wrap (OW+OX)))))then(rec n zd OW z6 (bN (i64.wrap (OW+OX))) a_cmp).bind fun V_=>bif (decide ((bN (i64.wrap (OW+OX)))<(i64.wrap ((i64.wrap ((bN (i64.wrap (OW+OX)))+O6))-z6))))then bif (decide ((i64.wrap ((i64.wrap ((bN (i64.wrap (OW+OX)))+O6))-z6))<OX))then(rec n V_ (bN (i64.wrap (OW+OX))) (i64.wrap ((i64.wrap ((bN (i64.wrap (OW+OX)))+O6))-z6)) OX a_cmp).bind fun YY=>some YY else
 some V_ else
 some V_ else
 bif (decide ((bN (i64.wrap (OW+OX)))<(i64.wrap ((i64.wrap ((bN (i64.wrap (OW+OX)))+O6))-z6))))then bif (decide ((i64.wrap ((i64.wrap ((bN (i64.wrap (OW+OX)))+O6))-z6))<OX))then(rec n zd (bN (i64.wrap (OW+OX))) (i64.wrap ((i64.wrap ((bN (i64.wrap (OW+OX)))+O6))-z6)) OX a_cmp).bind fun YZ=>some YZ else
 some zd else
 some zd else
 bif (decide ((bN (i64.wrap (OW+OX)))<(i64.wrap ((i64.wrap ((bN (i64.wrap (OW+OX)))+O6))-z6))))then bif (decide ((i64.wrap ((i64.wrap ((bN (i64.wrap (OW+OX)))+O6))-z6))<OX))then(rec n zd (bN (i64.wrap (OW+OX))) (i64.wrap ((i64.wrap ((bN (i64.wrap (OW+OX)))+O6))-z6)) OX a_cmp).bind fun Y0=>some Y0 else
 some zd else
 some zd else
 bif (decide (OW<z6))then bif (decide (z6<(bN (i64.wrap (OW+OX)))))then(rec n zd OW z6 (bN (i64.wrap (OW+OX))) a_cmp).bind fun Wa=>bif (decide ((bN (i64.wrap (OW+OX)))<(i64.wrap ((i64.wrap ((bN (i64.wrap (OW+OX)))+O6))-z6))))then bif (decide ((i64.wrap ((i64.wrap ((bN (i64.wrap (OW+OX)))+O6))-z6))<OX))then(rec n Wa (bN (i64.wrap (OW+OX))) (i64.wrap ((i64.wrap ((bN (i64.wrap (OW+OX)))+O6))-z6)) OX a_cmp).bind fun Y1=>some Y1 else
 some Wa else
 some Wa else
 bif (decide ((bN (i64.wrap (OW+OX)))<(i64.wrap ((i64.wrap ((bN (i64.wrap (OW+OX)))+O6))-z6))))then bif (decide ((i64.wrap ((i64.wrap ((bN (i64.wrap (OW+OX)))+O6))-z6))<OX))then(rec n zd (bN (i64.wrap (OW+OX))) (i64.wrap ((i64.wrap ((bN (i64.wrap (OW+OX)))+O6))-z6)) OX a_cmp).bind fun Y2=>some Y2 else
 some zd else
 some zd else
 bif (decide ((bN (i64.wrap (OW+OX)))<(i64.wrap ((i64.wrap ((bN (i64.wrap (OW+OX)))+O6))-z6))))then bif (decide ((i64.wrap ((i64.wrap ((bN (i64.wrap (OW+OX)))+O6))-z6))<OX))then(rec n zd (bN (i64.wrap (OW+OX))) (i64.wrap ((i64.wrap ((bN (i64.wrap (OW+OX)))+O6))-z6)) OX a_cmp).bind fun Y3=>some Y3 else
 some zd else
 some zd
 |.inr q=>some q
def xn {α:Type}(zd:List α)(OW:Int)(O6:Int)(OX:Int)(a_cmp:α->α->Option (Int))(n:Nat):(Int×Int)->Option (Step (Int×Int) (List α)):=fun s=>match s with
 |(z7,QI)=>bif (decide (z7<QI))then bif (decide (0<=(i64.wrap ((i64.wrap ((i64.wrap ((bN (i64.wrap (OW+OX)))+O6))-(1:Int)))-(bN (i64.wrap (z7+QI)))))))then(bif (decide ((i64.wrap ((i64.wrap ((i64.wrap ((bN (i64.wrap (OW+OX)))+O6))-(1:Int)))-(bN (i64.wrap (z7+QI)))))<((n:Nat):Int)))then((aF zd (i64.wrap ((i64.wrap ((i64.wrap ((bN (i64.wrap (OW+OX)))+O6))-(1:Int)))-(bN (i64.wrap (z7+QI)))))).bind fun Y4=>bif (decide (0<=(bN (i64.wrap (z7+QI)))))then(bif (decide ((bN (i64.wrap (z7+QI)))<((n:Nat):Int)))then((aF zd (bN (i64.wrap (z7+QI)))).bind fun Y5=>(a_cmp Y4 Y5).bind fun Y6=>bif (!(decide (Y6<(0:Int))))then some (.next ((i64.wrap ((bN (i64.wrap (z7+QI)))+(1:Int))),QI))else
 some (.next (z7,(bN (i64.wrap (z7+QI))))))else none)else none)else none)else none else
 some (.exit (z7,QI))
def sX {α:Type}(zd:List α)(OW:Int)(O6:Int)(OX:Int)(a_cmp:α->α->Option (Int))(n:Nat)(rec:Nat->List α->Int->Int->Int->(α->α->Option Int)->Option (List α)):Sum (Int×Int) (List α)->Option ((List α))
 |.inl (z7,QI)=>bif (decide (z7<O6))then bif (decide (O6<(i64.wrap ((i64.wrap ((bN (i64.wrap (OW+OX)))+O6))-z7))))then(np n zd z7 O6 (i64.wrap ((i64.wrap ((bN (i64.wrap (OW+OX)))+O6))-z7)) a_cmp).bind fun Ta=>bif (decide (OW<z7))then bif (decide (z7<(bN (i64.wrap (OW+OX)))))then(rec n Ta OW z7 (bN (i64.wrap (OW+OX))) a_cmp).bind fun Wb=>bif (decide ((bN (i64.wrap (OW+OX)))<(i64.wrap ((i64.wrap ((bN (i64.wrap (OW+OX)))+O6))-z7))))then bif (decide ((i64.wrap ((i64.wrap ((bN (i64.wrap (OW+OX)))+O6))-z7))<OX))then(rec n Wb (bN (i64.wrap (OW+OX))) (i64.wrap ((i64.wrap ((bN (i64.wrap (OW+OX)))+O6))-z7)) OX a_cmp).bind fun Y7=>some Y7 else
 some Wb else
 some Wb else
 bif (decide ((bN (i64.wrap (OW+OX)))<(i64.wrap ((i64.wrap ((bN (i64.wrap (OW+OX)))+O6))-z7))))then bif (decide ((i64.wrap ((i64.wrap ((bN (i64.wrap (OW+OX)))+O6))-z7))<OX))then(rec n Ta (bN (i64.wrap (OW+OX))) (i64.wrap ((i64.wrap ((bN (i64.wrap (OW+OX)))+O6))-z7)) OX a_cmp).bind fun Y8=>some Y8 else
 some Ta else
 some Ta else
 bif (decide ((bN (i64.wrap (OW+OX)))<(i64.wrap ((i64.wrap ((bN (i64.wrap (OW+OX)))+O6))-z7))))then bif (decide ((i64.wrap ((i64.wrap ((bN (i64.wrap (OW+OX)))+O6))-z7))<OX))then(rec n Ta (bN (i64.wrap (OW+OX))) (i64.wrap ((i64.wrap ((bN (i64.wrap (OW+OX)))+O6))-z7)) OX a_cmp).bind fun Y9=>some Y9 else
 some Ta else
 some Ta else
 bif (decide (OW<z7))then bif (decide (z7<(bN (i64.wrap (OW+OX)))))then(rec n zd OW z7 (bN (i64.wrap (OW+OX))) a_cmp).bind fun Wc=>bif (decide ((bN (i64.wrap (OW+OX)))<(i64.wrap ((i64.wrap ((bN (i64.wrap (OW+OX)))+O6))-z7))))then bif (decide ((i64.wrap ((i64.wrap ((bN (i64.wrap (OW+OX)))+O6))-z7))<OX))then(rec n Wc (bN (i64.wrap (OW+OX))) (i64.wrap ((i64.wrap ((bN (i64.wrap (OW+OX)))+O6))-z7)) OX a_cmp).bind fun WP=>some WP else
 some Wc else
 some Wc else
 bif (decide ((bN (i64.wrap (OW+OX)))<(i64.wrap ((i64.wrap ((bN (i64.wrap (OW+OX)))+O6))-z7))))then bif (decide ((i64.wrap ((i64.wrap ((bN (i64.wrap (OW+OX)))+O6))-z7))<OX))then(rec n zd (bN (i64.wrap (OW+OX))) (i64.wrap ((i64.wrap ((bN (i64.wrap (OW+OX)))+O6))-z7)) OX a_cmp).bind fun WQ=>some WQ else
 some zd else
 some zd else
 bif (decide ((bN (i64.wrap (OW+OX)))<(i64.wrap ((i64.wrap ((bN (i64.wrap (OW+OX)))+O6))-z7))))then bif (decide ((i64.wrap ((i64.wrap ((bN (i64.wrap (OW+OX)))+O6))-z7))<OX))then(rec n zd (bN (i64.wrap (OW+OX))) (i64.wrap ((i64.wrap ((bN (i64.wrap (OW+OX)))+O6))-z7)) OX a_cmp).bind fun WR=>some WR else
 some zd else
 some zd else
 bif (decide (OW<z7))then bif (decide (z7<(bN (i64.wrap (OW+OX)))))then(rec n zd OW z7 (bN (i64.wrap (OW+OX))) a_cmp).bind fun Uf=>bif (decide ((bN (i64.wrap (OW+OX)))<(i64.wrap ((i64.wrap ((bN (i64.wrap (OW+OX)))+O6))-z7))))then bif (decide ((i64.wrap ((i64.wrap ((bN (i64.wrap (OW+OX)))+O6))-z7))<OX))then(rec n Uf (bN (i64.wrap (OW+OX))) (i64.wrap ((i64.wrap ((bN (i64.wrap (OW+OX)))+O6))-z7)) OX a_cmp).bind fun WS=>some WS else
 some Uf else
 some Uf else
 bif (decide ((bN (i64.wrap (OW+OX)))<(i64.wrap ((i64.wrap ((bN (i64.wrap (OW+OX)))+O6))-z7))))then bif (decide ((i64.wrap ((i64.wrap ((bN (i64.wrap (OW+OX)))+O6))-z7))<OX))then(rec n zd (bN (i64.wrap (OW+OX))) (i64.wrap ((i64.wrap ((bN (i64.wrap (OW+OX)))+O6))-z7)) OX a_cmp).bind fun WU=>some WU else
 some zd else
 some zd else
 bif (decide ((bN (i64.wrap (OW+OX)))<(i64.wrap ((i64.wrap ((bN (i64.wrap (OW+OX)))+O6))-z7))))then bif (decide ((i64.wrap ((i64.wrap ((bN (i64.wrap (OW+OX)))+O6))-z7))<OX))then(rec n zd (bN (i64.wrap (OW+OX))) (i64.wrap ((i64.wrap ((bN (i64.wrap (OW+OX)))+O6))-z7)) OX a_cmp).bind fun WV=>some WV else
 some zd else
 some zd
 |.inr q=>some q
def rk {α:Type}(rec:Nat->List α->Int->Int->Int->(α->α->Option Int)->Option (List α))(n:Nat)(zd:(List α))(OW:Int)(O6:Int)(OX:Int)(a_cmp:α->α->Option (Int)):Option (List α):=bif (decide ((i64.wrap (O6-OW))=(1:Int)))then(ao (o9 zd OW a_cmp n) fuel (O6,OX)).bind (s9 zd OW n)else
 bif (decide ((i64.wrap (OX-O6))=(1:Int)))then(ao (ol zd O6 a_cmp n) fuel (OW,O6)).bind (sU zd O6 n)else
 bif (decide ((bN (i64.wrap (OW+OX)))<O6))then(ao (j7 zd OW O6 OX a_cmp n) fuel ((i64.wrap ((i64.wrap ((bN (i64.wrap (OW+OX)))+O6))-OX)),(bN (i64.wrap (OW+OX))))).bind (kn zd OW O6 OX a_cmp n rec)else
 (ao (xn zd OW O6 OX a_cmp n) fuel (OW,O6)).bind (sX zd OW O6 OX a_cmp n rec)
def CW {α:Type}:Nat->Nat->List α->Int->Int->Int->(α->α->Option Int)->Option (List α)
 |0,_,_,_,_,_,_=>none
 |q+1,n,X,a,m,b,cmp=>rk (CW q) n X a m b cmp
def iy {α:Type}(PS:Int)(a_cmp:α->α->Option (Int))(n:Nat)(O1:Int):((List α)×Int×Int)->Option (Step ((List α)×Int×Int) (List α)):=fun s=>match s with
 |(Sm,RG,RZ)=>bif (decide (RZ<=PS))then(CW fuel n Sm RG (i64.wrap (RG+O1)) RZ a_cmp).bind fun Y_=>some (.next (Y_,RZ,(i64.wrap (RZ+(i64.wrap ((2:Int)*O1))))))else
 some (.exit (Sm,RG,RZ))
def qJ {α:Type}(PS:Int)(a_cmp:α->α->Option (Int))(n:Nat)(O1:Int):Sum ((List α)×Int×Int) (List α)->Option (Step ((List α)×Int) (List α))
 |.inl (Sm,RG,RZ)=>bif (decide ((i64.wrap (RG+O1))<PS))then(CW fuel n Sm RG (i64.wrap (RG+O1)) PS a_cmp).bind fun Zb=>some (.next (Zb,(i64.wrap (O1*(2:Int)))))else
 some (.next (Sm,(i64.wrap (O1*(2:Int)))))
 |.inr q=>some (.ret q)
def iw {α:Type}(PS:Int)(a_cmp:α->α->Option (Int))(n:Nat):((List α)×Int)->Option (Step ((List α)×Int) (List α)):=fun s=>match s with
 |(UG,O1)=>bif (decide (O1<PS))then(ao (iy PS a_cmp n O1) fuel (UG,(0:Int),(i64.wrap ((2:Int)*O1)))).bind (qJ PS a_cmp n O1)else
 some (.exit (UG,O1))
def vU {α:Type}:Sum ((List α)×Int) (List α)->Option ((List α))
 |.inl (UG,O1)=>some UG
 |.inr q=>some q
def iz {α:Type}(PS:Int)(a_cmp:α->α->Option (Int))(n:Nat):((List α)×Int×Int)->Option (Step ((List α)×Int×Int) (List α)):=fun s=>match s with
 |(PU,We,TK)=>bif (decide (TK<=PS))then(pu n PU We TK a_cmp).bind fun c_5=>some (.next (c_5,TK,(i64.wrap (TK+(20:Int)))))else
 some (.exit (PU,We,TK))
def qE {α:Type}(PS:Int)(a_cmp:α->α->Option (Int))(n:Nat):Sum ((List α)×Int×Int) (List α)->Option ((List α))
 |.inl (PU,We,TK)=>(pu n PU We PS a_cmp).bind fun YS=>(ao (iw PS a_cmp n) fuel (YS,(20:Int))).bind (vU)
 |.inr q=>some q
def wv {α:Type}(n:Nat)(zd:(List α))(PS:Int)(a_cmp:α->α->Option (Int)):Option (List α):=(ao (iz PS a_cmp n) fuel (zd,(0:Int),(20:Int))).bind (qE PS a_cmp n)
def wI {α:Type}(n:Nat)(a_x:(List α))(a_cmp:α->α->Option (Int)):Option (List α):=(wv n a_x ((n:Nat):Int) a_cmp).bind fun PU=>some PU
