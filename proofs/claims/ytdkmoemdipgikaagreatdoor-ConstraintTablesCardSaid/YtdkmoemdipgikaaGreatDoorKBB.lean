/- Parts. No condition. -/
import Derived.Test.YtdkmoemdipgikaaGreatDoorKBA
import Derived.Lib.Bytealg
set_option maxHeartbeats 8000000
set_option maxRecDepth 100000
set_option linter.unusedSimpArgs false
set_option linter.unusedVariables false
namespace Go.Proofs.YtdkmoemdipgikaaGreatDoor
open Go.RowKit Go.MapKept
section
variable {P:Program} {ti:TI} {B:Nat->Prop} {R:PH} {γ:List Gh} {L:List Ob} {w:World} {ρ:Operand->Option AV}
theorem yF (hti:TIok P ti){t:TypeId}{E k:Nat}{y:Operand}{cs:List SV}(hy:ρ y=some (.agg cs))(hl:cs.length=k)(hk:0<k)(hk2:k<=1000)(ht:ti.elem t=some E)(hE:E<65536)(hsz:ti.size E=some k)(hzo:ti.zok E=true) :
  kZ P ρ L (.buildSlice t 1 #[(0,y)]) (.one (.sl L.length (E+65536) 0 1)) (L++[.row (E+65536) [cs] k]):=by
 intro B R γ w ev o ho hi hρ hfv;obtain⟨dst,op,type,pos,after,guard⟩:=o;simp only at ho;subst ho;obtain⟨vs,hev,hvs,hrep⟩:=hρ y (by simp[Op.operands]) _ hy;obtain⟨i,z,hi1,hi2,hi3,hi4⟩:=hti.zok _ hzo _ (hti.size _ _ hsz);have hb:=run_buildSlice (P:=P) w t E 1 #[(0,ev y)] vs i z (iG hti ht) hi1 hi2 (by rw[hi3];omega) (by rw[hi3];omega) (by
  have h1:=Go.Great.fill_whole hk [ev y] ((Array.range (1*i.size)).map (z.cells[· % z.cells.size]!)) (by intro v hv;rw[am'.1 hv,hev];show vs.size=k;omega) (by simp[hi3]);have h2:([ev y].flatMap fun v=>v.cells.toList).toArray=vs:=by rw[hev];simp[Value.cells]
  rw[h2,hi3]at h1;rw[hi3];exact h1)
 have hrun:(execOp ev { dst,op := .buildSlice t 1 #[(0,y)],type,pos,after,guard }).run P w = .ok (.value (.slice (some ⟨w.heap.size,0,none⟩) 1 1)) (w.alloc (.cells vs E)):=by
  simp[execOp,hb]
 have hm:Mv R R γ (γ++[.arr w.heap.size 1]) L (L++[.row (E+65536) [cs] k]):=Mv.push _ _ hi.len;refine⟨_,R,_,.inl ⟨_,hrun,⟨rfl,rfl⟩,m5,fun ver2 es2 k2 e2=>?_⟩,?_,⟨Kept.alloc hi.bsz _,PH.sub_refl _,fun _ _ _=>rfl⟩,hm⟩
 ·rw[amD m0]at e2
  simp at e2;obtain⟨q1,q2,q3⟩:=e2;subst q1 q2;exact⟨amM _,fun _=>⟨m5,.arr w.heap.size 1,by rw[<- hi.len];simp,.inl (by rw[Nat.zero_mul])⟩⟩
 ·refine hi.push _ _ _ rfl ⟨⟨_,E,⟨dt w _,by show(E:Nat)=(E+65536)%65536;omega,m0⟩,m0,fun i e j u x he hu hx=>?_⟩,m5,m0,by simp[hl],fun o=>hi.none_at o⟩
  have hi0:i=0:=by have:=(amw.1 he).1;simpa using this
  subst hi0;simp at he;subst he;exact SV.mv hm (hrep j u x (by simpa using hu) hx)
end
structure bC where
 f:aw
 ps:List au
abbrev az (p:au):Bool:=decide (0<=p.lo)&&decide (p.lo<p.hi)&&decide (p.hi<=1099511627776)
theorem vg (p:au):gPV p=some (az p):=by
 unfold gPV az
 cases h1:decide (0<=p.lo)<;>cases h2:decide (p.lo<p.hi)<;>cases h3:decide (p.hi<=1099511627776)<;>simp_all
def eW (s:ByteArray):List bC->Option Nat
 |[]=>none
 |g::r=>if s=dm g.f.row then some 0 else(eW s r).map (· +1)
def mO:Nat->List bC->List (AC×AV)
 |_,[]=>[]
 |k,g::r=>(.str (dm g.f.row),.one (.c (.int .i64 k)))::mO (k+1) r
theorem ue:∀ (G:List bC) (k:Nat),strKeys (mO k G)
 |[],_=>by intro p hp;cases hp
 |g::r,k=>by
  intro p hp;rcases amN.1 hp with rfl|hp
  ·exact⟨_,rfl⟩
  ·exact ue r (k+1) p hp
theorem ny (s:ByteArray):∀ (G:List bC) (k:Nat),kP s (mO k G)=eW s G
 |[],_=>rfl
 |g::r,k=>by
  simp only[mO,kP,eW];rw[ny s r (k+1)]
theorem Ol:∀ (G:List bC) (k i:Nat),i<G.length ->∃ q,(mO k G)[i]?=some q/\q.2 = .one (.c (.int .i64 ((k+i:Nat):Int)))
 |[],_,_,h=>by simp at h
 |g::r,k,0,_=>⟨_,rfl,m5⟩
 |g::r,k,i+1,h=>by
  obtain⟨q,h1,h2⟩:=Ol r (k+1) i (by simpa using h);exact⟨q,by simpa[mO]using h1,by rw[h2,show k+1+i=k+(i+1)by omega]⟩
theorem zQ {s:ByteArray}:∀ {G:List bC} {i:Nat},eW s G=some i->i<G.length
 |[],_,h=>by simp[eW]at h
 |g::r,i,h=>by
  unfold eW at h;split at h
  ·injection h with h;subst h;simp
  ·cases hr:eW s r with
   |none=>rw[hr]at h;cases h
   |some j=>rw[hr]at h;injection h with h;subst h;have:=zQ hr;simp;omega
theorem aaV {s:ByteArray}{G:List bC}{i:Nat}{z:AV}(h:eW s G=some i):iF (mO 0 G) s z = .one (.c (.int .i64 i)):=by
 obtain⟨q,h1,h2⟩:=Ol G 0 i (zQ h);unfold iF;rw[ny,h];simp only[h1,h2,anb]
theorem abA {s:ByteArray}{G:List bC}{z:AV}(h:eW s G=none):iF (mO 0 G) s z=z:=by
 unfold iF;rw[ny,h]
theorem JP:∀ (G:List bC) (k:Nat) (g:bC),mO k (G++[g])=mO k G++[(.str (dm g.f.row),.one (.c (.int .i64 ((k+G.length:Nat):Int))))]
 |[],k,g=>by simp[mO]
 |x::r,k,g=>by
  have:=JP r (k+1) g;simp only[List.cons_append,mO,this,amS,show k+1+r.length=k+(r.length+1)by omega]
theorem acL {s:ByteArray}{G:List bC}(h:eW s G=none)(g:bC)(hg:dm g.f.row=s):lE (mO 0 G) s (.one (.c (.int .i64 (G.length:Nat))))=mO 0 (G++[g]):=by
 unfold lE;rw[ny,h,JP,hg,anb]
theorem ahN {G:List bC}{i:Nat}{g:bC}(hg:G[i]?=some g)(ps:List au):∀ k,mO k (G.set i ⟨g.f,ps⟩)=mO k G:=by
 induction G generalizing i with
 |nil=>intro k;rfl
 |cons x r ih =>
  intro k
  cases i with
  |zero=>simp at hg;subst hg;rfl
  |succ i=>simp only[List.set_cons_succ,mO];rw[ih (by simpa using hg)]
theorem acV {P:Program}{ti:TI}{ρ:Operand->Option AV}{L:List Ob}{t kt et:TypeId}{x k:Operand}{s:ByteArray}{id:Nat}{G:List bC}{i:Nat}(hti:TIok P ti)(hf:eW s G=some i)(hx:ρ x=some (.one (.mp id)))(hk:ρ k=some (.one (.c (.str s))))(hL:L[id]?=some (.map (mO 0 G)))
  (ht:ti.kind t=some (.map kt et)) (hkt:ti.kind kt=some .string) (hz:ti.zero et=some (.one (.c (.int .i64 0)))):kZ P ρ L (.lookup t x k true) (.tup [.one (.int .i64 i),.one (.bool true)]) L:=by
 have:=lW (P:=P) hx hk hL (ue G 0) (hti.kind _ _ ht) (hti.kind _ _ hkt) (hti.zero _ _ hz) (p := .one (.int .i64 i)) (by rw[aaV hf];rfl);rw[ny,hf]at this;exact this
theorem AY {P:Program}{ti:TI}{ρ:Operand->Option AV}{L:List Ob}{t kt et:TypeId}{x k:Operand}{s:ByteArray}{id:Nat}{G:List bC}(hti:TIok P ti)(hf:eW s G=none)(hx:ρ x=some (.one (.mp id)))(hk:ρ k=some (.one (.c (.str s))))(hL:L[id]?=some (.map (mO 0 G)))
  (ht:ti.kind t=some (.map kt et)) (hkt:ti.kind kt=some .string) (hz:ti.zero et=some (.one (.c (.int .i64 0)))):kZ P ρ L (.lookup t x k true) (.tup [.one (.int .i64 0),.one (.bool false)]) L:=by
 have:=lW (P:=P) hx hk hL (ue G 0) (hti.kind _ _ ht) (hti.kind _ _ hkt) (hti.zero _ _ hz) (p := .one (.int .i64 0)) (by rw[abA hf];rfl);rw[ny,hf]at this;exact this
theorem yK {P:Program}{ti:TI}{ρ:Operand->Option AV}{L:List Ob}{t kt et:TypeId}{x k y:Operand}{s:ByteArray}{id:Nat}{G:List bC}(g:bC)(hti:TIok P ti)(hf:eW s G=none)(hg:dm g.f.row=s)(hx:ρ x=some (.one (.mp id)))(hk:ρ k=some (.one (.c (.str s))))(hy:ρ y=some (.one (.c (.int .i64 (G.length:Nat)))))(hL:L[id]?=some (.map (mO 0 G)))
  (ht:ti.kind t=some (.map kt et)) (hkt:ti.kind kt=some .string):kZ P ρ L (.mapUpdate t x k y) .undef (L.set id (.map (mO 0 (G++[g])))):=by
 have:=ir (P:=P) hx hk hy hL (ue G 0) (hti.kind _ _ ht) (hti.kind _ _ hkt);rw[acL hf g hg]at this;exact this
def f8 (G:List bC)(f:aw):List bC:=bif az f.valid then(match eW (dm f.row) G with
 |some i=>match G[i]? with
  |some g=>G.set i ⟨g.f,g.ps++[f.valid]⟩
  |none=>G
 |none=>G++[⟨f,[f.valid]⟩])else G
def ci (l:List aw):List bC:=l.foldl f8 []
theorem HT (l:List aw)(f:aw):ci (l++[f])=f8 (ci l) f:=by unfold ci;rw[List.foldl_append];rfl
theorem Lm (G:List bC)(f:aw):(f8 G f).length<=G.length+1:=by
 unfold f8
 cases az f.valid with
 |false=>rw[amx];omega
 |true =>
  rw[amy];split
  ·split
   ·rw[List.length_set];omega
   ·omega
  ·simp
theorem jQ (l:List aw):(ci l).length<=l.length:=by
 have:∀ (l:List aw) (G:List bC),(l.foldl f8 G).length<=G.length+l.length:=by
  intro l
  induction l with
  |nil=>intro G;simp
  |cons f l ih=>intro G;have h1:=ih (f8 G f);have h2:=Lm G f;rw[anl,amS];omega
 have:=this l [];simpa[ci]using this
theorem Bi (l:List aw):∀ g∈ci l,g.ps.length<=l.length/\g.f∈l/\(∀ p∈g.ps,az p=true):=by
 have:∀ (l:List aw) (G:List bC) (b:Nat) (l0:List aw),(∀ g∈G,g.ps.length<=b/\g.f∈l0/\(∀ p∈g.ps,az p=true)) ->∀ g∈l.foldl f8 G,g.ps.length<=b+l.length/\g.f∈l0++l/\(∀ p∈g.ps,az p=true):=by
  intro l
  induction l with
  |nil=>intro G b l0 h g hg;simpa using h g hg
  |cons f l ih =>
   intro G b l0 h g hg;rw[anl]at hg;have hst:∀ g∈f8 G f,g.ps.length<=b+1/\g.f∈l0++[f]/\(∀ p∈g.ps,az p=true):=by
    intro g hg;unfold f8 at hg
    cases hv:az f.valid with
    |false=>rw[hv,amx]at hg;obtain⟨a1,a2,a3⟩:=h g hg;exact⟨m0,amY.2 (.inl a2),a3⟩
    |true =>
     rw[hv,amy]at hg;split at hg
     ·split at hg
      ·rename_i i _ g0 hg0
       rcases List.mem_or_eq_of_mem_set hg with hg|rfl
       ·obtain⟨a1,a2,a3⟩:=h g hg;exact⟨m0,amY.2 (.inl a2),a3⟩
       ·obtain⟨a1,a2,a3⟩:=h g0 (amC hg0)
        refine⟨by simp;omega,amY.2 (.inl a2),fun p hp=>?_⟩;rcases amY.1 hp with hp|hp
        ·exact a3 p hp
        ·rw[am'.1 hp];exact hv
      ·obtain⟨a1,a2,a3⟩:=h g hg;exact⟨m0,amY.2 (.inl a2),a3⟩
     ·rcases amY.1 hg with hg|hg
      ·obtain⟨a1,a2,a3⟩:=h g hg;exact⟨m0,amY.2 (.inl a2),a3⟩
      ·rw[am'.1 hg]
       exact⟨m5,m5,fun p hp=>by rw[am'.1 hp];exact hv⟩
   obtain⟨a1,a2,a3⟩:=ih (f8 G f) (b+1) (l0++[f]) hst g hg;exact⟨by rw[amS];omega,by simpa using a2,a3⟩
 intro g hg;have:=this l [] 0 [] (fun g hg=>by cases hg) g hg;simpa using this
abbrev eR:=AC×AC
def qu (c:eR->eR->Int)(A:List eR)(x:eR):Nat->Nat
 |0=>0
 |j+1=>match A[j]? with
  |some y=>if c x y<0 then qu c A x j else j+1
  |none=>j+1
def ly (c:eR->eR->Int)(A:List eR)(x:eR):List eR:=A.take (qu c A x A.length)++x::A.drop (qu c A x A.length)
def cT (c:eR->eR->Int)(l:List eR):List eR:=l.foldl (ly c) []
def o8 (x:eR):List SV:=[.c x.1,.c x.2]
def He (A:List eR)(x:eR)(j:Nat)(rest:List eR):List eR:=A.take j++x::(A.drop j++rest)
theorem aaQ (c:eR->eR->Int)(A:List eR)(x:eR):(ly c A x).length=A.length+1:=by
 unfold ly;rw[amE,amS,anm,List.length_drop];omega
theorem MI (c:eR->eR->Int)(l:List eR):(cT c l).length=l.length:=by
 have:∀ (l A:List eR),(l.foldl (ly c) A).length=A.length+l.length:=by
  intro l
  induction l with
  |nil=>intro A;simp
  |cons x l ih=>intro A;rw[anl,ih,aaQ,amS];omega
 have:=this l [];simpa[cT]using this
theorem acD {c:eR->eR->Int}{A:List eR}{x y:eR}(h:y∈ly c A x):y=x\/y∈A:=by
 unfold ly at h;rcases amY.1 h with h|h
 ·exact .inr (ant h)
 ·rcases amN.1 h with h|h
  ·exact .inl h
  ·exact .inr (List.mem_of_mem_drop h)
theorem MZ {c:eR->eR->Int}{l:List eR}{y:eR}(h:y∈cT c l):y∈l:=by
 have:∀ (l A:List eR),y∈l.foldl (ly c) A->y∈A\/y∈l:=by
  intro l
  induction l with
  |nil=>intro A h;exact .inl h
  |cons x l ih =>
   intro A h;rw[anl]at h;rcases ih _ h with h|h
   ·rcases acD h with h|h
    ·exact .inr (by rw[h];simp)
    ·exact .inl h
   ·exact .inr (amU _ h)
 rcases this l [] h with h|h
 ·cases h
 ·exact h
theorem Je (c:eR->eR->Int)(l:List eR)(x:eR):cT c (l++[x])=ly c (cT c l) x:=by unfold cT;rw[List.foldl_append];rfl
theorem ahx {A rest:List eR}{x:eR}{j:Nat}(h:j<=A.length):(He A x j rest)[j]?=some x:=by
 unfold He;rw[amD (by rw[anm];omega)];have:j-(A.take j).length=0:=by rw[anm];omega
 rw[this];rfl
theorem uQ {A rest:List eR}{x y:eR}{j:Nat}(hy:A[j]?=some y):He A x (j+1) rest=A.take j++y::x::(A.drop (j+1)++rest)/\He A x j rest=A.take j++x::y::(A.drop (j+1)++rest):=by
 obtain⟨h,e⟩:=amw.1 hy;refine⟨?_,?_⟩
 ·unfold He;rw[bu hy];simp
 ·unfold He;rw[am2 h,e];rfl
theorem afM {A rest:List eR}{x y:eR}{j:Nat}(hy:A[j]?=some y):(He A x (j+1) rest)[j]?=some y:=by
 have h:=(amw.1 hy).1;rw[(uQ hy).1,amD (by rw[anm];omega)];have:j-(A.take j).length=0:=by rw[anm];omega
 rw[this];rfl
theorem aeg {A rest:List eR}{x y:eR}{j:Nat}(hy:A[j]?=some y):((He A x (j+1) rest).map o8 |>.set (j+1) (o8 y)).set j (o8 x)=(He A x j rest).map o8:=by
 have h:=(amw.1 hy).1;rw[(uQ hy).1,(uQ hy).2];have hl:((A.take j).map o8).length=j:=by rw[amI,anm];omega
 simp only[amJ,amH];generalize (A.take j).map o8=P0 at hl;subst hl;rw[List.set_append_right _ _ m0,List.set_append_right _ _ m0];simp
theorem Oq (c:eR->eR->Int)(A:List eR)(x:eR)(rest:List eR):ly c A x++rest=He A x (qu c A x A.length) rest:=by unfold ly He;simp
theorem cn (n v k:Nat)(l:List eR):(Ob.row v (l.map o8) k).below n:=by
 intro e he x hx;obtain⟨y,_,rfl⟩:=am6.1 he;simp only[o8,amN,List.not_mem_nil,or_false]at hx;rcases hx with rfl|rfl<;>trivial
theorem M6 (F:FuncId)(c:eR->eR->Int)(v:Nat)(xs:List eR)(n:Nat)(hn:xs.length=n)(hn2:n<=100000)(hcmp:∀ x y,x∈xs->y∈xs->PTz F [.agg [x.1,x.2],.agg [y.1,y.2]] (agY (c x y))):RTz 247 [.row v (xs.map o8) 2] [.one (.sl 0 v 0 n),.one (.c (.int .i64 0)),.one (.c (.int .i64 n)),.one (.c (.fn F []))] [.row v ((cT c xs).map o8) 2] (.tup []):=by
 refine cw tab_ok Tryz.func247 rfl rfl Tryz.ntmps247 m5 ?_;simp only[dN]
 repeat' (first|refine gw_ tab_ok tabS_ok ?_|refine gi_ (fun hb=>?_) (fun hb=>?_)|fail)
 refine cK (fun i:Nat=>[(0,.one (.sl 0 v 0 n)),(1,.one (.c (.int .i64 0))),(2,.one (.c (.int .i64 n))),(3,.one (.c (.fn F []))),(8,.one (.c (.int .i64 i)))]) (fun i=>[.row v ((cT c (xs.take i)++xs.drop i).map o8) 2]) (fun i=>1<=i/\(i<=n\/i=1)) (fun i=>n-i) 1 ⟨m0,.inr rfl⟩ (fun _ _=>amM _)
  (fm_ ⟨rfl,rfl,rfl,rfl,rfl,t7⟩ [] ?_ ⟨(by show 0<1;omega),t7,t7,t7,t7,t7⟩ ⟨cn _ _ _ _,t7⟩) ?_
 ·match xs with
  |[]=>rfl
  |x::xs=>rfl
 rintro i ⟨hi1,hi⟩;by_cases hlt:i<n
 ·obtain⟨x,hx⟩:=gol_ (show i<xs.length by omega)
  have hAl:(cT c (xs.take i)).length=i:=by rw[MI,anm];omega
  have hAm:∀ y∈cT c (xs.take i),y∈xs:=fun y hy=>ant (MZ hy)
  have hxm:x∈xs:=amC hx;have hnext:cT c (xs.take (i+1))=ly c (cT c (xs.take i)) x:=by rw[bu hx,Je]
  have hdrop:xs.drop i=x::xs.drop (i+1):=by obtain⟨h,e⟩:=amw.1 hx;rw[am2 h,e]
  have hstart:cT c (xs.take i)++xs.drop i=He (cT c (xs.take i)) x i (xs.drop (i+1)):=by
   have h1:(cT c (xs.take i)).take i=cT c (xs.take i):=am_ m0;have h2:(cT c (xs.take i)).drop i=[]:=List.drop_of_length_le m0;unfold He;rw[h1,h2,hdrop];rfl
  have hrl:(xs.drop (i+1)).length=n-(i+1):=by rw[List.length_drop,hn]
  rw[hstart];generalize cT c (xs.take i)=A at hAl hAm hnext;generalize hrest:xs.drop (i+1)=rest at hrl
  repeat' (first|refine gw_ tab_ok tabS_ok ?_|refine gi_ (fun hb=>?_) (fun hb=>?_)|fail)
  refine cK (fun j:Nat=>[(0,.one (.sl 0 v 0 n)),(1,.one (.c (.int .i64 0))),(2,.one (.c (.int .i64 n))),(3,.one (.c (.fn F []))),(8,.one (.c (.int .i64 i))),(9,.one (.c (.int .i64 j)))]) (fun j=>[.row v ((He A x j rest).map o8) 2]) (fun j=>j<=i/\qu c A x i=qu c A x j) (fun j=>j) i ⟨m0,rfl⟩ (fun _ _=>amM _)
   (fm_ ⟨rfl,rfl,rfl,rfl,rfl,rfl,t7⟩ [] rfl ⟨(by show 0<1;omega),t7,t7,t7,t7,t7,t7⟩ ⟨cn _ _ _ _,t7⟩) ?_
  rintro j ⟨hj,hpos⟩
  match j,hj,hpos with
  |0,hj,hpos =>
   repeat' (first|refine gw_ tab_ok tabS_ok ?_|refine gi_ (fun hb=>?_) (fun hb=>?_)|fail)
   all_goals exact⟨i+1,⟨m0,.inl m0⟩,m0,fm_ ⟨rfl,rfl,rfl,rfl,aM (aS m0 m0),t7⟩ [] (by rw[hnext,hrest,Oq,hAl,hpos];rfl) ⟨(by show 0<1;omega),t7,t7,t7,t7,t7⟩ ⟨cn _ _ _ _,t7⟩⟩
  |j+1,hj,hpos =>
   obtain⟨y,hy⟩:=gol_ (show j<A.length by omega);have hw:IntKind.i64.wrap (((j+1:Nat):Int)-1)=((j:Nat):Int):=aS m0 m0;have hg1:((He A x (j+1) rest).map o8)[j+1]?=some [.c x.1,.c x.2]:=by rw[amT,ahx m0];rfl
   have hg2:((He A x (j+1) rest).map o8)[j]?=some [.c y.1,.c y.2]:=by rw[amT,afM hy];rfl
   have hpj:qu c A x (j+1)=if c x y<0 then qu c A x j else j+1:=by simp only[qu,hy]
   have e1:0+((j+1:Nat):Int).toNat=j+1:=by simp
   have e2:0+((j:Nat):Int).toNat=j:=by simp
   repeat' (first|(refine NJ rfl rfl rfl rfl rfl rfl rfl rfl (e:=[.c x.1,.c x.2]) (by simpa using hg1) (xs:=[.c x.1,.c x.2]) rfl (amM _) ?_)|(refine NJ rfl rfl rfl rfl rfl rfl rfl rfl (e:=[.c y.1,.c y.2]) (by rw[hw];simpa using hg2) (xs:=[.c y.1,.c y.2]) rfl (amM _) ?_)|(refine iV rfl rfl rfl rfl rfl rfl (e:=[.c x.1,.c x.2]) (by simpa using hg1) ⟨amM _,rfl⟩ rfl ?_)|(refine iV rfl rfl rfl rfl rfl rfl (e:=[.c y.1,.c y.2]) (by rw[hw,e1,e2,amQ m0];exact hg2) ⟨amM _,rfl⟩ rfl ?_)|refine aF rfl rfl rfl rfl (hcmp x y hxm (hAm y (amC hy))) rfl ?_|refine gw_ tab_ok tabS_ok ?_|refine gi_ (fun hb=>?_) (fun hb=>?_)|(refine st_pop rfl rfl rfl rfl ?_ ?_;· (repeat' (first|exact t7|rfl|exact amG rfl|omega|(rw[hw];omega)|apply And.intro)))|(refine st_lop rfl rfl rfl rfl ?_ ?_;· (repeat' (first|exact t7|rfl|exact amG rfl|omega|(rw[hw];omega)|apply And.intro)))|(refine sS_ rfl rfl rfl ?_ ?_;· (repeat' (first|exact t7|rfl|exact amG rfl|omega|(rw[hw];omega)|apply And.intro)))|(refine st_lit rfl rfl rfl rfl ?_ ?_;· (repeat' (first|exact t7|rfl|exact amG rfl|omega|(rw[hw];omega)|apply And.intro)))|fail)
   ·have hlt0:c x y<0:=amZ hb
    rw[if_pos hlt0]at hpj;exact⟨j,⟨m0,hpos.trans hpj⟩,m0,fm_ ⟨rfl,rfl,rfl,rfl,rfl,aM hw,t7⟩ [] (by rw[<- aeg hy,hw,e1,e2];rfl) ⟨(by show 0<1;omega),t7,t7,t7,t7,t7,t7⟩ ⟨cn _ _ _ _,t7⟩⟩
   ·have hge:¬ c x y<0:=of_decide_eq_false hb
    rw[if_neg hge]at hpj;exact⟨i+1,⟨m0,.inl m0⟩,m0,fm_ ⟨rfl,rfl,rfl,rfl,aM (aS m0 m0),t7⟩ [] (by rw[hnext,hrest,Oq,hAl,hpos.trans hpj];rfl) ⟨(by show 0<1;omega),t7,t7,t7,t7,t7⟩ ⟨cn _ _ _ _,t7⟩⟩
 ·have hi2:n<=i:=m0
  repeat' (first|refine gw_ tab_ok tabS_ok ?_|refine gi_ (fun hb=>?_) (fun hb=>?_)|fail)
  have htk:xs.take i=xs:=am_ m0;have hdr:xs.drop i=[]:=List.drop_of_length_le m0;exact⟨.inl rfl,⟨.inr ⟨.tup [],⟨t7,rfl⟩,rfl⟩,⟨[],by rw[htk,hdr,am5,am5]⟩,m5,bq ⟨cn _ _ _ _,t7⟩,t7⟩⟩
theorem tC (σ:List Nat)(v k:Nat)(l:List eR):(Ob.row v (l.map o8) k).ren σ=Ob.row v (l.map o8) k:=by
 simp only[Ob.ren,List.map_map];rfl
theorem akk {L:List Ob}{v k:Nat}{l:List eR}{x:AV}{xs:List AV}(h0:L[0]?=some (Ob.row v (l.map o8) k))(hx:∀ y∈x::xs,y.below 1):eQ [0] [Ob.row v (l.map o8) k] (x::xs) L:=by
 refine⟨rfl,m5,fun i y hy=>?_,bq ⟨cn _ _ _ _,t7⟩,hx⟩
 match i,hy with
 |0,hy=>simp at hy;subst hy;rw[tC];exact h0
 |i+1,hy=>simp at hy
theorem j1G {L L':List Ob}{v k:Nat}{l:List eR}(h:L.set 0 (Ob.row v (l.map o8) k)=L'):joinL [0] L [Ob.row v (l.map o8) k]=L':=by
 subst h;simp[joinL,join,dp,ct,jN,tC]
theorem I2 (F:FuncId)(c:eR->eR->Int)(v:Nat)(xs:List eR)(n:Nat)(hn:xs.length=n)(hn2:n<=19)(hcmp:∀ x y,x∈xs->y∈xs->PTz F [.agg [x.1,x.2],.agg [y.1,y.2]] (agY (c x y))):RTz 225 [.row v (xs.map o8) 2] [.one (.sl 0 v 0 n),.one (.c (.int .i64 n)),.one (.c (.fn F []))] [.row v ((cT c xs).map o8) 2] (.tup []):=by
 refine cw ae Tryz.func225 rfl rfl Tryz.ntmps225 m5 ?_;simp only[dN]
 repeat' (first|refine gw_ ae a_ ?_|refine gi_ (fun hb=>?_) (fun hb=>?_)|fail)
 refine cK (fun _:Unit=>[(0,.one (.sl 0 v 0 n)),(1,.one (.c (.int .i64 n))),(2,.one (.c (.fn F []))),(6,.one (.c (.int .i64 20))),(7,.one (.c (.int .i64 0))),(8,.one (.c (.int .i64 20)))]) (fun _=>[.row v (xs.map o8) 2]) (fun _=>True) (fun _=>0) () trivial (fun _ _=>amM _)
  (fm_ ⟨rfl,rfl,rfl,rfl,rfl,rfl,t7⟩ [] rfl ⟨(by show 0<1;omega),t7,t7,t7,t7,t7,t7⟩ ⟨cn _ _ _ _,t7⟩) ?_
 intro _ _
 repeat' (first|(refine cB [0] rfl rfl rfl rfl (M6 F c v xs n hn m0 hcmp) rfl (akk rfl (bS ⟨(by show 0<1;omega),t7,t7,t7,t7⟩)) rfl (j1G (L':=[.row v ((cT c xs).map o8) 2]) rfl) ?_)|refine gw_ ae a_ ?_|refine gi_ (fun hb=>?_) (fun hb=>?_)|fail)
 refine cK (fun _:Unit=>[(0,.one (.sl 0 v 0 n)),(1,.one (.c (.int .i64 n))),(2,.one (.c (.fn F []))),(6,.one (.c (.int .i64 20))),(7,.one (.c (.int .i64 0)))]) (fun _=>[.row v ((cT c xs).map o8) 2]) (fun _=>True) (fun _=>0) () trivial (fun _ _=>amM _)
  (fm_ ⟨rfl,rfl,rfl,rfl,rfl,t7⟩ [] rfl ⟨(by show 0<1;omega),t7,t7,t7,t7,t7⟩ ⟨cn _ _ _ _,t7⟩) ?_
 intro _ _
 repeat' (first|refine gw_ ae a_ ?_|refine gi_ (fun hb=>?_) (fun hb=>?_)|fail)
 all_goals exact⟨.inl rfl,⟨.inr ⟨.tup [],⟨t7,rfl⟩,rfl⟩,⟨[],rfl⟩,m5,bq ⟨cn _ _ _ _,t7⟩,t7⟩⟩
theorem LN (F:FuncId)(c:eR->eR->Int)(v:Nat)(xs:List eR)(n:Nat)(hn:xs.length=n)(hn2:n<=19)(hcmp:∀ x y,x∈xs->y∈xs->PTz F [.agg [x.1,x.2],.agg [y.1,y.2]] (agY (c x y))):RTz 199 [.row v (xs.map o8) 2] [.one (.sl 0 v 0 n),.one (.c (.fn F []))] [.row v ((cT c xs).map o8) 2] (.tup []):=by
 refine cw ae Tryz.func199 rfl rfl Tryz.ntmps199 m5 ?_;simp only[dN]
 repeat' (first|(refine cB [0] rfl rfl rfl rfl (I2 F c v xs n hn hn2 hcmp) rfl (akk rfl (bS ⟨(by show 0<1;omega),t7,t7,t7⟩)) rfl (j1G (L':=[.row v ((cT c xs).map o8) 2]) rfl) ?_)|refine gw_ ae a_ ?_|refine gi_ (fun hb=>?_) (fun hb=>?_)|fail)
 all_goals exact⟨.inl rfl,⟨.inr ⟨.tup [],⟨t7,rfl⟩,rfl⟩,⟨[],rfl⟩,m5,bq ⟨cn _ _ _ _,t7⟩,t7⟩⟩
theorem abK (l:List eR):eA (l.map o8)=some (l.map fun x=>[x.1,x.2]):=by
 have:=qF (l.map fun x=>[x.1,x.2]);rw[List.map_map]at this;exact this
def aj7:TI :={ xm with dyn:=true }
theorem b9:TIok Tryz.prog aj7:=⟨ae.size,ae.agg,ae.elem,ae.field,ae.zero,ae.bytes,ae.kind,ae.struct,ae.zok,ae.eqs⟩
def bxG (_:bC):Ob := .dead
def gbG (g:bC):Ob := .row (170+65536) [[.c (cl g.f.row),.emp]] 2
theorem ML (g:bC)(n:Nat):(gbG g).below n:=by
 intro e he x hx;rw[am'.1 he]at hx;rcases amN.1 hx with rfl|hx
 ·trivial
 ·rcases amN.1 hx with rfl|hx
  ·trivial
  ·cases hx
def rJ (ps:List au):List (List AC):=ps.map aH
def d6:Nat->List bC->List (List SV)
 |_,[]=>[]
 |k,g::r=>[.c (cl g.f.row),.own (rJ g.ps) (4+3*k)]::d6 (k+1) r
def KQ:List bC->List Ob
 |[]=>[]
 |g::r=>bxG g::gbG g :: .spare g.ps.length 2::KQ r
def s8:List bC->List Ob
 |[]=>[]
 |g::r => .spare g.ps.length 2::KQ r
def xr:List bC->Ob
 |[] => .dead
 |g::_=>gbG g
def pQ (G:List bC):List Ob := .map (mO 0 G) :: .dead::xr G :: .row (170+65536*G.length) (d6 0 G) 2::s8 G
theorem agp {G:List bC}{i:Nat}{g:bC}(ps:List au)(h:G[i]?=some g):xr (G.set i ⟨g.f,ps⟩)=xr G:=by
 cases G with
 |nil=>rfl
 |cons x r =>
  cases i with
  |zero=>simp at h;subst h;rfl
  |succ i=>rfl
theorem adO {G:List bC}(g:bC)(h:G≠[]):xr (G++[g])=xr G:=by cases G with
 |nil=>exact absurd rfl h
 |cons x r=>rfl
theorem acy (G:List bC)(n:Nat):(xr G).below n:=by cases G with
 |nil=>trivial
 |cons x r=>exact ML x n
def Ix:List bC->List Ob
 |[]=>[.map []]
 |g::r=>pQ (g::r)
theorem oW {G:List bC}(h:G≠[]):Ix G=pQ G:=by cases G with
 |nil=>exact absurd rfl h
 |cons g r=>rfl
theorem mt:∀ (G:List bC) (k:Nat),(d6 k G).length=G.length
 |[],_=>rfl
 |g::r,k=>by simp[d6,mt r]
theorem Jg:∀ (G:List bC) (k i:Nat) (g:bC),G[i]?=some g->(d6 k G)[i]?=some [.c (cl g.f.row),.own (rJ g.ps) (4+3*(k+i))]
 |[],_,_,_,h=>by simp at h
 |x::r,k,0,g,h=>by simp at h;subst h;rfl
 |x::r,k,i+1,g,h=>by
  have:=Jg r (k+1) i g (by simpa using h);simp only[d6,List.getElem?_cons_succ];rw[this,show k+1+i=k+(i+1)by omega]
theorem Hm:∀ (G:List bC) (k i:Nat) (g:bC) (ps:List au),G[i]?=some g->(d6 k G).set i [.c (cl g.f.row),.own (rJ ps) (4+3*(k+i))]=d6 k (G.set i ⟨g.f,ps⟩)
 |[],_,_,_,_,h=>by simp at h
 |x::r,k,0,g,ps,h=>by simp at h;subst h;simp[d6]
 |x::r,k,i+1,g,ps,h=>by
  have:=Hm r (k+1) i g ps (by simpa using h);rw[show k+1+i=k+(i+1)by omega]at this;simp only[d6,List.set_cons_succ,this]
theorem Dj:∀ (G:List bC) (k:Nat) (g:bC),d6 k (G++[g])=d6 k G++[[.c (cl g.f.row),.own (rJ g.ps) (4+3*(k+G.length))]]
 |[],k,g=>rfl
 |x::r,k,g=>by
  have:=Dj r (k+1) g;simp only[List.cons_append,d6,this,amS,show k+1+r.length=k+(r.length+1)by omega]
theorem yB:∀ (G:List bC) (k n:Nat),4+3*(k+G.length)<=n+2 ->∀ e∈d6 k G,∀ x∈e,x.below n
 |[],_,_,_=>by intro e he;cases he
 |g::r,k,n,h=>by
  intro e he x hx;simp only[amS]at h;rcases amN.1 he with rfl|he
  ·rcases amN.1 hx with rfl|hx
   ·trivial
   ·rcases amN.1 hx with rfl|hx
    ·show 4+3*k<n;omega
    ·cases hx
  ·exact yB r (k+1) n m0 e he x hx
theorem AM:∀ (G:List bC) (k:Nat),eA (d6 k G)=some (G.map fun g=>[cl g.f.row,.lst (rJ g.ps)])
 |[],_=>rfl
 |g::r,k=>by
  have:=AM r (k+1);simp only[d6,eA,fE,SV.norm,this,amH]
theorem NI:∀ r:List bC,(KQ r).length=3*r.length
 |[]=>rfl
 |g::r=>by simp[KQ,NI r];omega
theorem N6:∀ (r:List bC) (i:Nat) (g:bC),r[i]?=some g->(KQ r)[3*i+2]?=some (.spare g.ps.length 2)
 |[],_,_,h=>by simp at h
 |x::r,0,g,h=>by simp at h;subst h;rfl
 |x::r,i+1,g,h=>by
  have:=N6 r i g (by simpa using h);rw[show 3*(i+1)+2=(3*i+2)+1+1+1 by omega];simpa[KQ]using this
theorem aac:∀ (r:List bC) (i:Nat) (g:bC) (ps:List au),r[i]?=some g->(KQ r).set (3*i+2) (.spare ps.length 2)=KQ (r.set i ⟨g.f,ps⟩)
 |[],_,_,_,h=>by simp at h
 |x::r,0,g,ps,h=>by simp at h;subst h;simp[KQ,bxG,gbG]
 |x::r,i+1,g,ps,h=>by
  have:=aac r i g ps (by simpa using h);rw[show 3*(i+1)+2=(3*i+2)+1+1+1 by omega];simp only[KQ,List.set_cons_succ,this]
theorem Hz:∀ (r:List bC) (g:bC),KQ (r++[g])=KQ r++[bxG g,gbG g,.spare g.ps.length 2]
 |[],g=>rfl
 |x::r,g=>by simp[KQ,Hz r g]
theorem NK {G:List bC}(h:G≠[]):(s8 G).length+2=3*G.length:=by
 cases G with
 |nil=>exact absurd rfl h
 |cons g r=>simp[s8,NI];omega
theorem ahO {G:List bC}{i:Nat}{g:bC}(h:G[i]?=some g):(s8 G)[3*i]?=some (.spare g.ps.length 2):=by
 cases G with
 |nil=>simp at h
 |cons x r =>
  cases i with
  |zero=>simp at h;subst h;rfl
  |succ i =>
   have:=N6 r i g (by simpa using h);rw[show 3*(i+1)=(3*i+2)+1 by omega];simpa[s8]using this
theorem ag0 {G:List bC}{i:Nat}{g:bC}(ps:List au)(h:G[i]?=some g):(s8 G).set (3*i) (.spare ps.length 2)=s8 (G.set i ⟨g.f,ps⟩):=by
 cases G with
 |nil=>simp at h
 |cons x r =>
  cases i with
  |zero=>simp at h;subst h;simp[s8]
  |succ i =>
   have:=aac r i g ps (by simpa using h);rw[show 3*(i+1)=(3*i+2)+1 by omega];simp only[s8,List.set_cons_succ,this]
theorem afm {G:List bC}(g:bC)(h:G≠[]):s8 (G++[g])=s8 G++[bxG g,gbG g,.spare g.ps.length 2]:=by
 cases G with
 |nil=>exact absurd rfl h
 |cons x r=>simp[s8,Hz]
theorem jX {G:List bC}(h:G≠[]):(pQ G).length=2+3*G.length:=by
 have h1:=NK h;simp[pQ];omega
theorem eB:∀ {n:Nat} {L:List Ob},(∀ x∈L,x.below n)->od n L
 |_,[],_=>trivial
 |n,x::L,h=>⟨h x m5,eB fun y hy=>h y (amU _ hy)⟩
theorem aaS (g:bC)(n:Nat):(gbG g).below n:=by
 intro e he x hx;rw[am'.1 he]at hx;rcases amN.1 hx with rfl|hx
 ·trivial
 ·rcases amN.1 hx with rfl|hx
  ·trivial
  ·cases hx
theorem abL (g:bC)(n:Nat):(bxG g).below n:=trivial
theorem EB:∀ (G:List bC) (k n:Nat),(Ob.map (mO k G)).below n:=by
 intro G
 induction G with
 |nil=>intro k n p hp;cases hp
 |cons g r ih =>
  intro k n p hp;rcases amN.1 hp with rfl|hp
  ·trivial
  ·exact ih (k+1) n p hp
theorem EF (n:Nat):∀ (r:List bC),∀ x∈KQ r,x.below n
 |[],x,h=>by cases h
 |g::r,x,h=>by
  simp only[KQ,amN]at h;rcases h with rfl|rfl|rfl|h
  ·exact abL g n
  ·exact aaS g n
  ·trivial
  ·exact EF n r x h
theorem kI (G:List bC):od (Ix G).length (Ix G):=by
 cases G with
 |nil=>exact⟨EB [] 0 _,t7⟩
 |cons g r =>
  have hl:=jX (G:=g::r) m5;refine eB fun x hx=>?_
  show x.below (pQ (g::r)).length;rw[hl];have hx:x∈pQ (g::r):=hx;simp only[pQ,s8,amN]at hx;rcases hx with rfl|rfl|rfl|rfl|rfl|hx
  ·exact EB _ 0 _
  ·trivial
  ·exact acy _ _
  ·exact yB (g::r) 0 _ (by simp only[amS];omega)
  ·trivial
  ·exact EF _ r x hx
def Ia:List bC->AV
 |[] => .one .emp
 |g::r => .one (.sl 3 (170+65536*(g::r).length) 0 (g::r).length)
theorem pK {G:List bC}(h:G≠[]):Ia G = .one (.sl 3 (170+65536*G.length) 0 G.length):=by
 cases G with
 |nil=>exact absurd rfl h
 |cons g r=>rfl
theorem qf (G:List bC):(Ia G).below (Ix G).length:=by
 cases G with
 |nil=>trivial
 |cons g r =>
  show 3<(pQ (g::r)).length;rw[jX m5];simp;omega
theorem aeI (id:Nat)(ts:List AC)(G:List bC):unA id ts (Ia G)=Ia G:=by cases G<;>rfl
section
variable {P:Program} {ti:TI} {N n0:Nat} {ds:List (Option Tmp)} {K:Tm->List Ob->Prop} {rest:List Oper} {o:Oper} {T T':Tm} {A:List Ob} {Q:AX->Tm->List Ob->Prop}
theorem Ed {t:TypeId}{p q:Operand}{cs xs:List SV}(hd:o.dst=none)(hg:fD ds T o.guard=some true)(ho:o.op = .store t p q)(hp:look T p=some (.one (.ptr A.length 0)))(hq:(look T q).bind AV.cells=some xs)(hlen:xs.length=cs.length)(hsz:ti.size t=some xs.length)(h:aB P ti N ds K rest T (A++[.box xs])):aB P ti N ds K (o::rest) T (A++[.box cs]):=by
 refine sS_ hd hg (v := .undef) (L':=A++[.box xs]) (φ:=0+xs.length<=cs.length/\ti.size t=some xs.length) ?_ ⟨m0,hsz⟩ h;rw[ho];have e1:(A++[Ob.box cs])[A.length]?=some (.box cs):=by simp
 have e2:splice cs 0 xs=xs:=by unfold splice;simp[hlen]
 have e3:(A++[Ob.box cs]).set A.length (.box xs)=A++[.box xs]:=by rw[List.set_append_right _ _ (amM _),Nat.sub_self];rfl
 simp only[xj,hp,hq,e1,e2,e3]
theorem xU {c:Code}{cs:List SV}{ts:List AC}(hn:fE cs=some ts)(hT:(T.map fun p=>(p.1,unA A.length ts p.2))=T')(h:Aw P N n0 c Q T' (A++[.dead])):Aw P N n0 c Q T (A++[.box cs]):=by
 refine cY A.length m5 hn ?_;rw[hT,List.set_append_right _ _ (amM _),Nat.sub_self];exact h
end
structure xe {α:Type}(c:α->α->Int):Prop where
 refl:∀ a,c a a=0
 zero:∀ a b,c a b=0->a=b
 anti:∀ a b,c a b<0↔0<c b a
 trans:∀ a b d,c a b<0->c b d<0->c a d<0
theorem tCi_:xe fX:=by
 refine⟨fun a=>by simp[fX],fun a b h=>?_,fun a b=>?_,fun a b d h1 h2=>?_⟩
 ·unfold fX at h;split at h
  ·omega
  ·split at h<;>omega
 ·unfold fX;split<;>split<;>(try split)<;>omega
 ·unfold fX at *
  split at h1
  ·split at h2
   ·rw[if_pos m0];omega
   ·split at h2<;>omega
  ·split at h1<;>omega
def kN {α:Type}(c:α->α->Int):List α->List α->Int
 |[],[]=>0
 |[],_::_ => -1
 |_::_,[]=>1
 |a::xs,b::ys=>if c a b≠0 then c a b else kN c xs ys
theorem KB {α:Type}{c:α->α->Int}(h:xe c):xe (kN c):=by
 refine⟨?_,?_,?_,?_⟩
 ·intro a
  induction a with
  |nil=>rfl
  |cons x a ih=>simp[kN,h.refl x,ih]
 ·intro a
  induction a with
  |nil=>intro b hb;cases b with
   |nil=>rfl
   |cons _ _=>simp[kN]at hb
  |cons x a ih =>
   intro b hb
   cases b with
   |nil=>simp[kN]at hb
   |cons y b =>
    unfold kN at hb;split at hb
    ·rename_i h0;exact absurd hb h0
    ·rename_i h0
     have:=h.zero x y (by simpa using h0);subst this;rw[ih b hb]
 ·intro a
  induction a with
  |nil=>intro b;cases b with
   |nil=>simp[kN]
   |cons _ _=>simp[kN]
  |cons x a ih =>
   intro b
   cases b with
   |nil=>simp[kN]
   |cons y b =>
    unfold kN;by_cases h0:c x y=0
    ·have:=h.zero x y h0
     subst this;simp only[h.refl,ne_eq,not_true_eq_false,if_false];exact ih b
    ·have h1:c y x≠0:=fun e=>h0 (by rw[h.zero y x e];exact h.refl x)
     rw[if_pos h0,if_pos h1];exact h.anti x y
 ·intro a
  induction a with
  |nil =>
   intro b d h1 h2
   cases b with
   |nil=>simp[kN]at h1
   |cons y b=>cases d with
    |nil=>simp[kN]at h2
    |cons _ _=>simp[kN]
  |cons x a ih =>
   intro b d h1 h2
   cases b with
   |nil=>simp[kN]at h1
   |cons y b =>
    cases d with
    |nil=>simp[kN]at h2
    |cons z d =>
     unfold kN at h1 h2 ⊢;by_cases e1:c x y=0
     ·have:=h.zero x y e1
      subst this;rw[if_neg (by simpa using e1)]at h1;by_cases e2:c x z=0
      ·rw[if_neg (by simpa using e2)]at h2 ⊢
       exact ih b d h1 h2
      ·rw[if_pos e2]at h2 ⊢
       exact h2
     ·rw[if_pos e1]at h1
      by_cases e2:c y z=0
      ·have:=h.zero y z e2
       subst this;rw[if_pos e1];exact h1
      ·rw[if_pos e2]at h2
       have:=h.trans x y z h1 h2;rw[if_pos m0];exact this
theorem mP:∀ a b:List Val,bQ a b=kN qe a b
 |[],[]=>rfl
 |[],_::_=>rfl
 |_::_,[]=>rfl
 |a::xs,b::ys=>by rw[bQ,kN,mP xs ys]
def xn (x y:UInt8):Int:=if x<y then -1 else if y<x then 1 else 0
theorem abu:xe xn:=by
 have key:∀ x y:UInt8,xn x y=fX ((x.toNat:Nat):Int) ((y.toNat:Nat):Int):=by
  intro x y;unfold xn fX;simp only[UInt8.lt_iff_toNat_lt,Int.ofNat_lt]
 refine⟨fun a=>by rw[key];exact tCi_.refl _,fun a b h=>?_,fun a b=>by rw[key,key];exact tCi_.anti _ _,fun a b d h1 h2=>by rw[key]at *;exact tCi_.trans _ _ _ h1 h2⟩;rw[key]at h;have:=tCi_.zero _ _ h;exact UInt8.toNat_inj.1 m0
theorem wX:∀ a b:List UInt8,Lib.compareBytes a b=kN xn a b
 |[],[]=>rfl
 |[],_::_=>rfl
 |_::_,[]=>rfl
 |x::a,y::b=>by
  have e:kN xn (x::a) (y::b)=if xn x y≠0 then xn x y else kN xn a b:=rfl
  rw[e,<- wX a b];have e2:Lib.compareBytes (x::a) (y::b)=if x<y then -1 else if y<x then 1 else Lib.compareBytes a b:=by rw[Lib.compareBytes]
  rw[e2];by_cases h1:x<y
  ·simp[h1,xn]
  ·by_cases h2:y<x
   ·simp[h1,h2,xn]
   ·simp[h1,h2,xn]
theorem qQ:xe og:=by
 have key:∀ a b:ByteArray,og a b=kN xn a.data.toList b.data.toList:=by
  intro a b;unfold og;rw[Lib.cmp_eq,wX]
 have t:=KB abu;refine⟨fun a=>by rw[key];exact t.refl _,fun a b h=>?_,fun a b=>by rw[key,key];exact t.anti _ _,fun a b d h1 h2=>by rw[key]at *;exact t.trans _ _ _ h1 h2⟩;rw[key]at h;have:=t.zero _ _ h;obtain⟨⟨a⟩⟩:=a;obtain⟨⟨b⟩⟩:=b;simp at this;rw[this]
theorem aaO:xe qe:=by
 refine⟨?_,?_,?_,?_⟩
 ·intro a;simp[qe,tCi_.refl,qQ.refl]
 ·intro a b h
  obtain⟨k,n,t⟩:=a;obtain⟨k',n',t'⟩:=b;unfold qe at h;dsimp only at h;split at h
  ·rename_i e;exact absurd h e
  ·rename_i e1
   split at h
   ·rename_i e;exact absurd h e
   ·rename_i e2
    have k1:=tCi_.zero _ _ (show fX k k'=0 by simpa using e1);have k2:=tCi_.zero _ _ (show fX n n'=0 by simpa using e2);have k3:=qQ.zero _ _ h;subst k1 k2 k3;rfl
 ·intro a b
  unfold qe;by_cases e1:fX a.kind b.kind=0
  ·have k:=tCi_.zero _ _ e1
   rw[k];simp only[tCi_.refl,ne_eq,not_true_eq_false,if_false];by_cases e2:fX a.int b.int=0
   ·have k2:=tCi_.zero _ _ e2
    rw[k2];simp only[tCi_.refl,ne_eq,not_true_eq_false,if_false];exact qQ.anti _ _
   ·have e2':fX b.int a.int≠0:=fun e=>e2 (by rw[tCi_.zero _ _ e];exact tCi_.refl _)
    rw[if_pos e2,if_pos e2'];exact tCi_.anti _ _
  ·have e1':fX b.kind a.kind≠0:=fun e=>e1 (by rw[tCi_.zero _ _ e];exact tCi_.refl _)
   rw[if_pos e1,if_pos e1'];exact tCi_.anti _ _
 ·intro a b d h1 h2
  unfold qe at *;by_cases e1:fX a.kind b.kind=0
  ·have k:=tCi_.zero _ _ e1
   rw[k]at h1 ⊢;simp only[tCi_.refl,ne_eq,not_true_eq_false,if_false]at h1;by_cases f1:fX b.kind d.kind=0
   ·rw[if_neg (by simpa using f1)]at h2 ⊢
    by_cases e2:fX a.int b.int=0
    ·have k2:=tCi_.zero _ _ e2
     rw[k2]at h1 ⊢;simp only[tCi_.refl,ne_eq,not_true_eq_false,if_false]at h1;by_cases f2:fX b.int d.int=0
     ·rw[if_neg (by simpa using f2)]at h2 ⊢
      exact qQ.trans _ _ _ h1 h2
     ·rw[if_pos f2]at h2 ⊢;exact h2
    ·rw[if_pos e2]at h1
     by_cases f2:fX b.int d.int=0
     ·have k2:=tCi_.zero _ _ f2
      rw[<- k2,if_pos e2];exact h1
     ·rw[if_pos f2]at h2
      have:=tCi_.trans _ _ _ h1 h2;rw[if_pos m0];exact this
   ·rw[if_pos f1]at h2 ⊢;exact h2
  ·rw[if_pos e1]at h1
   by_cases f1:fX b.kind d.kind=0
   ·have k:=tCi_.zero _ _ f1
    rw[<- k,if_pos e1];exact h1
   ·rw[if_pos f1]at h2
    have:=tCi_.trans _ _ _ h1 h2;rw[if_pos m0];exact this
theorem tCr_:xe bQ:=by
 have t:=KB aaO;exact⟨fun a=>by rw[mP];exact t.refl _,fun a b h=>t.zero _ _ (by rw[<- mP];exact h),fun a b=>by rw[mP,mP];exact t.anti _ _,fun a b d h1 h2=>by rw[mP]at *;exact t.trans _ _ _ h1 h2⟩
section
variable {α:Type} {c:α->α->Int}
def Asc (c:α->α->Int)(l:List α):Prop:=l.Pairwise fun a b=>c a b<=0
theorem xe.le_trans (h:xe c){a b d:α}(h1:c a b<=0)(h2:c b d<=0):c a d<=0:=by
 by_cases e1:c a b=0
 ·rw[h.zero a b e1];exact h2
 ·by_cases e2:c b d=0
  ·rw[<- h.zero b d e2];exact h1
  ·have:=h.trans a b d m0 m0;omega
theorem xe.total (h:xe c)(a b:α):c a b<=0\/c b a<=0:=by
 by_cases e:c a b<=0
 ·exact .inl e
 ·have:=(h.anti b a).2 m0;exact .inr m0
theorem zK (h:xe c):∀ {l m:List α},Asc c l->Asc c m->l.Perm m->l=m
 |[],m,_,_,hp=>by rw[List.Perm.nil_eq hp]
 |x::l,[],_,_,hp=>by have:=hp.length_eq;simp at this
 |x::l,y::m,hl,hm,hp=>by
  have hx:x∈y::m:=hp.mem_iff.1 (ani ..);have hy:y∈x::l:=hp.mem_iff.2 (ani ..);rw[Asc,anr]at hl hm;have e:x=y:=by
   rcases amN.1 hx with e|hx
   ·exact e
   ·rcases amN.1 hy with e|hy
    ·exact e.symm
    ·have h1:=hm.1 x hx
     have h2:=hl.1 y hy;by_cases e0:c x y=0
     ·exact h.zero _ _ e0
     ·have:=(h.anti x y).1 m0;omega
  subst e;rw[zK h hl.2 hm.2 (List.Perm.cons_inv hp)]
end
def As (a_less:Bool)(a_greater:Bool):Option (Int):=bif a_less then some (-1:Int)else
 bif a_greater then some (1:Int)else
 some (0:Int)
instance gSign_ok {a_less : Bool} {a_greater : Bool} {r : Int} : OkC (As a_less a_greater = some r) (PTz 95 [.one (.bool a_less), .one (.bool a_greater)] (.val (.one (.int .i64 r)))) := .mk fun H => by
 unfold As at H;refine po_ Tryz.func95 Tryz.ntmps95 ?_;exact ax H
def rR (a_a:Val)(a_b:Val):Option (Int):=bif (decide (a_a.kind≠a_b.kind))then(As (decide (a_a.kind<a_b.kind)) (decide (a_b.kind<a_a.kind))).bind fun r_2=>some r_2 else
 bif (decide (a_a.int≠a_b.int))then(As (decide (a_a.int<a_b.int)) (decide (a_b.int<a_a.int))).bind fun r_4=>some r_4 else
 (As (Op.bytesLess a_a.text.toList a_b.text.toList) (!((Op.bytesLess a_a.text.toList a_b.text.toList)||(a_a.text.toList==a_b.text.toList)))).bind fun r_5=>some r_5
instance gCmp7_ok {a_a : Val} {a_b : Val} {r : Int} : OkC (rR a_a a_b = some r) (PTz 62 [.agg (cV a_a), .agg (cV a_b)] (.val (.one (.int .i64 r)))) := .mk fun H => by
 unfold rR at H;refine po_ Tryz.func62 Tryz.ntmps62 ?_;exact ax H
def fb (a_a:(List Val))(a_b:(List Val)):(Int)->Option (Step (Int) (Int)):=fun s=>match s with
 |i_1=>bif (decide (i_1<((a_a.length:Nat):Int)))then bif (decide (i_1<((a_b.length:Nat):Int)))then(aq a_a i_1).bind fun x_4=>(aq a_b i_1).bind fun x_5=>(rR x_4 x_5).bind fun r_6=>bif (decide (r_6≠(0:Int)))then some (.ret r_6)else
 some (.next (IntKind.i64.wrap (i_1+(1:Int))))else
 some (.exit i_1)else
 some (.exit i_1)
def gS (a_a:(List Val))(a_b:(List Val)):Sum (Int) (Int)->Option ((Int))
 |.inl i_1=>bif (decide (((a_a.length:Nat):Int)<((a_b.length:Nat):Int)))then some (-1:Int)else
 bif (decide (((a_b.length:Nat):Int)<((a_a.length:Nat):Int)))then some (1:Int)else
 some (0:Int)
 |.inr q=>some q
def je (a_a:(List Val))(a_b:(List Val)):Option (Int):=(ap (fb a_a a_b) fuel (0:Int)).bind (gS a_a a_b)
instance gCmp8_ok {a_a : (List Val)} {a_b : (List Val)} {r : Int} : OkC (je a_a a_b = some r) (PTz 34 [.one (.lst (a_a.map cV)), .one (.lst (a_b.map cV))] (.val (.one (.int .i64 r)))) := .mk fun H => by
 unfold je at H;refine po_ Tryz.func34 Tryz.ntmps34 ?_;refine aX ?_;refine alM_ (fun s:Int=>match s with|i_1=>[(0,.one (.c (.lst (a_a.map cV)))),(1,.one (.c (.lst (a_b.map cV)))),(5,.one (.c (.int .i64 i_1)))]) (fun s=>match s with|i_1=>[]) H (fun _=>amR _)
  (fm_ bH [] rfl a8 trivial) ?_
 rintro i_1 st1 hb1 hk1;unfold fb at hb1;dsimp only at hb1 ⊢;rcases af hb1 with⟨q_2,hb1⟩|⟨q_2,hb1⟩
 ·rcases af hb1 with⟨q_3,hb1⟩|⟨q_3,hb1⟩
  ·obtain⟨x_4,i1z,i1,i1x,hb1⟩:=aY (f:=cV) hb1
   obtain⟨x_5,i2z,i2,i2x,hb1⟩:=aY (f:=cV) hb1;obtain⟨r_6,c3,hb1⟩:=bd_ hb1;replace c3:=gCmp7_ok c3;rcases af hb1 with⟨q_7,hb1⟩|⟨q_7,hb1⟩
   ·exact cL hb1 hk1
   cases hb1;refine aX ?_;exact⟨_,rfl,fm_ bH [] rfl a8 trivial⟩
  exact cL hb1 hk1
 exact cL hb1 hk1
theorem H8 (x y:Int):CQ x y=some (fX x y):=by
 unfold CQ yH fX;by_cases h1:x<y
 ·simp[h1]
 ·by_cases h2:y<x
  ·simp[h1,h2]
  ·simp[h1,h2]
def orS (_:Unit)(x:Int):Option (Sum Unit Int):=if x≠0 then some (.inr x)else some (.inl ())
theorem alR (a b c:Int):gOr [a,b,c]=some (if a≠0 then a else if b≠0 then b else c):=by
 unfold gOr;rw[cm (l:=[a,b,c]) (mk:=fun(_:Unit) i=>i) (f:=orS) ?_ ?_ (by unfold fuel;simp) ()]
 ·unfold orS
  by_cases h1:a=0
  ·by_cases h2:b=0
   ·by_cases h3:c=0
    ·simp[cE,Be,yJ,h1,h2,h3]
    ·simp[cE,Be,yJ,h1,h2,h3]
   ·simp[cE,Be,yJ,h1,h2]
  ·simp[cE,Be,yJ,h1]
 ·intro s i x hx
  have hi:i<3:=(amw.1 hx).1;unfold GG orS;dsimp only;rw[aC hx,amy,gn_ hx];simp only[amv];rw[wrapN m0];by_cases h:x=0
  ·simp[h,nj]
  ·simp[h,nj]
 ·intro s
  unfold GG;dsimp only;rw[lF_,amx]
theorem uj (v w:Val):qE v w=some (qe v w):=by
 unfold qE;rw[H8,H8];simp only[amv];rw[alR];rfl
theorem JL:∀ (b:List Val),bQ [] b=if b=[]then 0 else -1
 |[]=>rfl
 |_::_=>rfl
theorem Dl {a b:List Val}(ha:a.length<=4000000000000)(hb:b.length<=4000000000000):∀ (n i:Nat),i<=a.length->i<=b.length->a.length-i<n->(ap (ie a b fun x0 x1=>qE x0 x1) n (i:Int)).bind (mR a b)=some (bQ (a.drop i) (b.drop i))
 |0,_,_,_,h=>by omega
 |n+1,i,h1,h2,hn=>by
  rw[ap];by_cases hlt:i<a.length
  ·obtain⟨x,hx⟩:=gol_ hlt
   have ex:=(amw.1 hx).2;have eb:ie a b (fun x0 x1=>qE x0 x1) (i:Int)=bif (decide (((b.length:Nat):Int)<=(i:Int)))then some (.ret (1:Int))else(aq b (i:Int)).bind fun x_5=>(qE x x_5).bind fun r_6=>bif (decide (r_6≠(0:Int)))then some (.ret r_6)else some (.next (IntKind.i64.wrap ((i:Int)+(1:Int)))):=by
    unfold ie;dsimp only;rw[aC hx,amy,gn_ hx];rfl
   rw[eb,am2 hlt,ex];by_cases hlb:i<b.length
   ·obtain⟨y,hy⟩:=gol_ hlb
    have ey:=(amw.1 hy).2;rw[am2 hlb,ey,show decide (((b.length:Nat):Int)<=(i:Int))=false from amz m0,amx,gn_ hy,bQ];simp only[amv,uj];by_cases h:qe x y=0
    ·simp only[h,ne_eq,not_true_eq_false,decide_false,amx,if_false]
     rw[wrapN m0];have k:=Dl ha hb n (i+1) m0 m0 m0;simp only[uj]at k;exact k
    ·simp[h,mR]
   ·have:i=b.length:=m0
    subst this;rw[anq,show decide (((b.length:Nat):Int)<=((b.length:Nat):Int))=true from amA m0,amy];rfl
  ·have:i=a.length:=m0
   subst this;have eb:ie a b (fun x0 x1=>qE x0 x1) ((a.length:Nat):Int)=some (.exit ((a.length:Nat):Int)):=by
    unfold ie;dsimp only;rw[lF_,amx]
   rw[eb,anq,JL];show mR a b (.inl ((a.length:Nat):Int))=_;unfold mR;by_cases h:a.length<b.length
   ·rw[show decide (((a.length:Nat):Int)<((b.length:Nat):Int))=true from amA m0,amy,if_neg (by rw[List.drop_eq_nil_iff];omega)]
   ·rw[show decide (((a.length:Nat):Int)<((b.length:Nat):Int))=false from amz m0,amx,if_pos (by rw[List.drop_eq_nil_iff];omega)]
theorem ado (a b:List Val)(ha:a.length<=4000000000000)(hb:b.length<=4000000000000):Kr a b=some (bQ a b):=by
 unfold Kr FZ;have:=Dl ha hb fuel 0 (amR _) (amR _) (by unfold fuel;omega);rw[show(((0:Nat):Int))=0 from rfl]at this;rw[this];rfl
theorem bytesLess_eq:∀ a b:List UInt8,Op.bytesLess a b=decide (Lib.compareBytes a b<0)/\(a==b)=decide (Lib.compareBytes a b=0)
 |[],[]=>⟨rfl,rfl⟩
 |[],_::_=>⟨rfl,rfl⟩
 |_::_,[]=>⟨rfl,rfl⟩
 |x::a,y::b=>by
  have e2:Lib.compareBytes (x::a) (y::b)=if x<y then -1 else if y<x then 1 else Lib.compareBytes a b:=by rw[Lib.compareBytes]
  have e3:Op.bytesLess (x::a) (y::b)=(decide (x<y)||(x==y&&Op.bytesLess a b)):=by rw[Op.bytesLess]
  obtain⟨i1,i2⟩:=bytesLess_eq a b;rw[e2,e3,List.cons_beq_cons,i1,i2];by_cases h1:x<y
  ·have hne:x≠y:=fun e=>by rw[e]at h1;exact absurd h1 (UInt8.lt_irrefl y)
   simp[h1,hne]
  ·by_cases h2:y<x
   ·have hne:x≠y:=fun e=>by rw[e]at h2;exact absurd h2 (UInt8.lt_irrefl y)
    simp[h1,h2,hne]
   ·have heq:x=y:=UInt8.le_antisymm (UInt8.not_lt.1 h2) (UInt8.not_lt.1 h1)
    subst heq;simp[h1]
theorem acK (a b:ByteArray):Op.bytesLess a.toList b.toList=decide (og a b<0):=by
 unfold og;rw[Lib.cmp_eq,ByteArray.toList_eq,ByteArray.toList_eq];exact(bytesLess_eq _ _).1
theorem ahl (a b:ByteArray):(a.toList==b.toList)=decide (og a b=0):=by
 unfold og;rw[Lib.cmp_eq,ByteArray.toList_eq,ByteArray.toList_eq];exact(bytesLess_eq _ _).2
theorem kw:∀ a b:List UInt8,Lib.compareBytes a b = -1\/Lib.compareBytes a b=0\/Lib.compareBytes a b=1
 |[],[] => .inr (.inl rfl)
 |[],_::_ => .inl rfl
 |_::_,[] => .inr (.inr rfl)
 |x::a,y::b=>by
  have e2:Lib.compareBytes (x::a) (y::b)=if x<y then -1 else if y<x then 1 else Lib.compareBytes a b:=by rw[Lib.compareBytes]
  rw[e2];split
  ·exact .inl rfl
  ·split
   ·exact .inr (.inr rfl)
   ·exact kw a b
theorem yz (v w:Val):rR v w=some (qe v w):=by
 unfold rR qe As;rw[acK,ahl];have hr:og v.text w.text = -1\/og v.text w.text=0\/og v.text w.text=1:=by unfold og;rw[Lib.cmp_eq];exact kw _ _
 by_cases h1:v.kind=w.kind
 ·have e1:fX v.kind w.kind=0:=by rw[h1];exact tCi_.refl _
  by_cases h2:v.int=w.int
  ·have e2:fX v.int w.int=0:=by rw[h2];exact tCi_.refl _
   rw[e1,e2];simp only[h1,h2,ne_eq,not_true_eq_false,decide_false,amx,if_false];rcases hr with h|h|h<;>rw[h]<;>rfl
  ·have e2:fX v.int w.int≠0:=fun e=>h2 (tCi_.zero _ _ e)
   rw[e1];simp only[h1,h2,e2,ne_eq,not_true_eq_false,not_false_eq_true,sl9,if_false,if_true];unfold fX;by_cases h3:v.int<w.int
   ·simp[h3]
   ·have:w.int<v.int:=m0
    simp[h3,this]
 ·have e1:fX v.kind w.kind≠0:=fun e=>h1 (tCi_.zero _ _ e)
  simp only[h1,e1,ne_eq,not_true_eq_false,not_false_eq_true,sl9,if_false,if_true];unfold fX;by_cases h3:v.kind<w.kind
  ·simp[h3]
  ·have:w.kind<v.kind:=m0
   simp[h3,this]
theorem IE {a b:List Val}(ha:a.length<=4000000000000)(hb:b.length<=4000000000000):∀ (n i:Nat),i<=a.length->i<=b.length->a.length-i<n->(ap (fb a b) n (i:Int)).bind (gS a b)=some (bQ (a.drop i) (b.drop i))
 |0,_,_,_,h=>by omega
 |n+1,i,h1,h2,hn=>by
  rw[ap];by_cases hlt:i<a.length
  ·obtain⟨x,hx⟩:=gol_ hlt
   have ex:=(amw.1 hx).2;rw[am2 hlt,ex];by_cases hlb:i<b.length
   ·obtain⟨y,hy⟩:=gol_ hlb
    have ey:=(amw.1 hy).2;have eb:fb a b (i:Int)=bif (decide (qe x y≠(0:Int)))then some (.ret (qe x y))else some (.next (IntKind.i64.wrap ((i:Int)+(1:Int)))):=by
     unfold fb;dsimp only;rw[aC hx,amy,aC hy,amy,gn_ hx,gn_ hy];simp only[amv,yz]
    rw[eb,am2 hlb,ey,bQ];by_cases h:qe x y=0
    ·simp only[h,ne_eq,not_true_eq_false,decide_false,amx,if_false]
     rw[wrapN m0];exact IE ha hb n (i+1) m0 m0 m0
    ·simp[h,gS]
   ·have:i=b.length:=m0
    subst this;have eb:fb a b ((b.length:Nat):Int)=some (.exit ((b.length:Nat):Int)):=by
     unfold fb;dsimp only;rw[aC hx,amy,lF_,amx]
    rw[eb,anq];show gS a b (.inl ((b.length:Nat):Int))=_;unfold gS;rw[show decide (((a.length:Nat):Int)<((b.length:Nat):Int))=false from amz m0,amx,show decide (((b.length:Nat):Int)<((a.length:Nat):Int))=true from amA m0,amy];rfl
  ·have:i=a.length:=m0
   subst this;have eb:fb a b ((a.length:Nat):Int)=some (.exit ((a.length:Nat):Int)):=by
    unfold fb;dsimp only;rw[lF_,amx]
   rw[eb,anq,JL];show gS a b (.inl ((a.length:Nat):Int))=_;unfold gS;by_cases h:a.length<b.length
   ·rw[show decide (((a.length:Nat):Int)<((b.length:Nat):Int))=true from amA m0,amy,if_neg (by rw[List.drop_eq_nil_iff];omega)]
   ·rw[show decide (((a.length:Nat):Int)<((b.length:Nat):Int))=false from amz m0,amx,show decide (((b.length:Nat):Int)<((a.length:Nat):Int))=false from amz m0,amx,if_pos (by rw[List.drop_eq_nil_iff];omega)]
theorem ef (a b:List Val)(ha:a.length<=4000000000000)(hb:b.length<=4000000000000):je a b=some (bQ a b):=by
 unfold je;have:=IE ha hb fuel 0 (amR _) (amR _) (by unfold fuel;omega);rw[show(((0:Nat):Int))=0 from rfl]at this;rw[this];rfl
def G9 (a_a:ar)(a_b:ar):Option (Int):=(Kr a_a.row a_b.row).bind fun r_1=>some r_1
instance gRowsC_ok {a_a : ar} {a_b : ar} {r : Int} : OkC (G9 a_a a_b = some r) (PTz 200 [.agg (bp a_a), .agg (bp a_b)] (.val (.one (.int .i64 r)))) := .mk fun H => by
 unfold G9 at H;refine po_ Tryz.func200 Tryz.ntmps200 ?_;obtain⟨r_1,c1,H⟩:=bd_ H;replace c1:=gTCmp_ok c1
 try simp only[amJ,amH,amL,amB,aN]at c1
 obtain rfl:=am3 H;exact bV
theorem abe (a b:ar)(ha:a.row.length<=4000000000000)(hb:b.row.length<=4000000000000):G9 a b=some (bQ a.row b.row):=by
 unfold G9;rw[ado _ _ ha hb];rfl
def zN {α:Type}(c:α->α->Int)(A:List α)(x:α):Nat->Nat
 |0=>0
 |j+1=>match A[j]? with
  |some y=>if c x y<0 then zN c A x j else j+1
  |none=>j+1
def Bf {α:Type}(c:α->α->Int)(A:List α)(x:α):List α:=A.take (zN c A x A.length)++x::A.drop (zN c A x A.length)
def me {α:Type}(c:α->α->Int)(l:List α):List α:=l.foldl (Bf c) []
theorem ER {α:Type}(c:α->α->Int)(B:List α)(x:α):∀ j,j<=B.length->zN c B x j<=j/\(∀ i y,zN c B x j<=i->i<j->B[i]?=some y->c x y<0)/\(∀ q,zN c B x j=q+1 ->∃ y,B[q]?=some y /\ ¬ c x y<0)
 |0,_=>⟨amM _,fun i y _ h=>by omega,fun q h=>by simp[zN]at h⟩
 |j+1,hj=>by
  obtain⟨y,hy⟩:=gol_ (show j<B.length by omega);obtain⟨h1,h2,h3⟩:=ER c B x j m0;unfold zN;simp only[hy];split
  ·rename_i hlt
   refine⟨m0,fun i z hi hij hz=>?_,h3⟩;by_cases e:i=j
   ·subst e;rw[hy]at hz;injection hz with hz;subst hz;exact hlt
   ·exact h2 i z hi m0 hz
  ·rename_i hge
   exact⟨amM _,fun i z hi hij _=>by omega,fun q hq=>by injection hq with hq;subst hq;exact⟨y,hy,hge⟩⟩
theorem acH {α:Type}(c:α->α->Int)(B:List α)(x:α):(Bf c B x).Perm (x::B):=by
 unfold Bf;refine List.perm_middle.trans ?_;rw[ang]
theorem o7 {α:Type}(c:α->α->Int):∀ (l B:List α),(l.foldl (Bf c) B).Perm (l++B)
 |[],B=>List.Perm.refl _
 |x::l,B=>by
  rw[anl];refine(o7 c l (Bf c B x)).trans ?_;refine((acH c B x).append_left l).trans ?_;exact List.perm_middle
theorem oG {α:Type}(c:α->α->Int)(l:List α):(me c l).Perm l:=by
 have:=o7 c l [];simpa[me]using this
theorem aei {α:Type}{c:α->α->Int}(htr:∀ a b d,c a b<=0->c b d<=0->c a d<=0)(htot:∀ a b,¬ c a b<0->c b a<=0){B:List α}(x:α)(h:B.Pairwise fun a b=>c a b<=0):(Bf c B x).Pairwise fun a b=>c a b<=0:=by
 obtain⟨h1,h2,h3⟩:=ER c B x B.length (amM _);unfold Bf;generalize zN c B x B.length=p at h1 h2 h3;have hd:∀ y∈B.drop p,c x y<=0:=by
  intro y hy;obtain⟨i,hi⟩:=List.getElem?_of_mem hy;rw[anh]at hi;have:=(amw.1 hi).1;have:=h2 (p+i) y m0 this hi;omega
 have ht:∀ y∈B.take p,c y x<=0:=by
  intro y hy
  cases p with
  |zero=>simp at hy
  |succ q =>
   obtain⟨z,hz,hge⟩:=h3 q rfl;have hzx:=htot x z hge;obtain⟨i,hi⟩:=List.getElem?_of_mem hy;have hil:i<q+1:=by have:=(amw.1 hi).1;rw[anm]at this;omega
   rw[List.getElem?_take_of_lt hil]at hi;by_cases e:i=q
   ·subst e;rw[hi]at hz;injection hz with hz;subst hz;exact hzx
   ·have hlt:i<q:=m0
    have hi':=amw.1 hi;have hz':=amw.1 hz;have:=List.pairwise_iff_getElem.1 h i q hi'.1 hz'.1 hlt;rw[hi'.2,hz'.2]at this;exact htr _ _ _ this hzx
 refine List.pairwise_append.2 ⟨h.sublist (List.take_sublist _ _),anr.2 ⟨hd,h.sublist (List.drop_sublist _ _)⟩,fun a ha b hb=>?_⟩;rcases amN.1 hb with rfl|hb
 ·exact ht a ha
 ·exact htr _ _ _ (ht a ha) (hd b hb)
theorem acg {α:Type}{c:α->α->Int}(htr:∀ a b d,c a b<=0->c b d<=0->c a d<=0)(htot:∀ a b,¬ c a b<0->c b a<=0)(l:List α):(me c l).Pairwise fun a b=>c a b<=0:=by
 have:∀ (l B:List α),(B.Pairwise fun a b=>c a b<=0)->(l.foldl (Bf c) B).Pairwise fun a b=>c a b<=0:=by
  intro l
  induction l with
  |nil=>intro B h;exact h
  |cons x l ih=>intro B h;exact ih _ (aei htr htot x h)
 exact this l [] List.Pairwise.nil
abbrev gU (a b:ar):Int:=bQ a.row b.row
abbrev gQ (s:ar):eR:=(cl s.row,.lst (s.periods.map aH))
abbrev DC (x y:eR):Int:=akc x.1 y.1
theorem DV (a b:ar):DC (gQ a) (gQ b)=gU a b:=by
 show bQ ((a.row.map cV).map vOf) ((b.row.map cV).map vOf)=_;rw[afv,afv]
theorem CS (B:List ar)(x:ar):∀ j,qu DC (B.map gQ) (gQ x) j=zN gU B x j
 |0=>rfl
 |j+1=>by
  rw[qu,zN,amT]
  cases B[j]? with
  |none=>rfl
  |some y =>
   simp only[Option.map_some];rw[DV,CS B x j]
theorem acb (B:List ar)(x:ar):ly DC (B.map gQ) (gQ x)=(Bf gU B x).map gQ:=by
 unfold ly Bf;rw[amI,CS,amJ,amH,List.map_take,List.map_drop]
theorem LG (l:List ar):cT DC (l.map gQ)=(me gU l).map gQ:=by
 have:∀ (l B:List ar),(l.map gQ).foldl (ly DC) (B.map gQ)=(l.foldl (Bf gU) B).map gQ:=by
  intro l
  induction l with
  |nil=>intro B;rfl
  |cons x l ih=>intro B;rw[amH,anl,anl,acb,ih]
 exact this l []
theorem al8 {L:List Ob}{v k:Nat}{l:List eR}{x:AV}{xs:List AV}(h0:L[3]?=some (Ob.row v (l.map o8) k))(hx:∀ y∈x::xs,y.below 1):eQ [3] [Ob.row v (l.map o8) k] (x::xs) L:=by
 refine⟨rfl,m5,fun i y hy=>?_,bq ⟨cn _ _ _ _,t7⟩,hx⟩
 match i,hy with
 |0,hy=>simp at hy;subst hy;rw[tC];exact h0
 |i+1,hy=>simp at hy
theorem jG3 {L L':List Ob}{v k:Nat}{l:List eR}(h:L.set 3 (Ob.row v (l.map o8) k)=L'):joinL [3] L [Ob.row v (l.map o8) k]=L':=by
 subst h;simp[joinL,join,dp,ct,jN,tC]
def fy (l:List aw):List ar:=me gU ((ci l).map fun g=>⟨g.f.row,g.ps⟩)
theorem agG:PTz 247 [.one (.lst []),.one (.int .i64 0),.one (.int .i64 0),.one (.fn 200 [])] (.tup []):=by
 refine po_ Tryz.func247 Tryz.ntmps247 ?_;refine aX ?_;refine alM_ (σ:=Unit) (ρ:=Unit) (body:=fun _=>some (.exit ())) (K:=fun _=>some ()) (r:=()) (s0:=()) (fun _=>[(0,.one (.c (.lst []))),(1,.one (.c (.int .i64 0))),(2,.one (.c (.int .i64 0))),(8,.one (.c (.int .i64 1)))]) (fun _=>[]) rfl (fun _=>amR _) (fm_ bH [] rfl a8 bZ) ?_;rintro⟨⟩ st hb hk
 cases hb;refine aX ?_;exact⟨.inl rfl,aO rfl (by repeat' (first|exact t7|rfl|apply And.intro)) rfl⟩
theorem aho:PTz 225 [.one (.lst []),.one (.int .i64 0),.one (.fn 200 [])] (.tup []):=by
 have c:=agG;refine po_ Tryz.func225 Tryz.ntmps225 ?_;refine aX ?_;refine alM_ (σ:=Unit) (ρ:=Unit) (body:=fun _=>some (.exit ())) (K:=fun _=>some ()) (r:=()) (s0:=()) (fun _=>[(0,.one (.c (.lst []))),(1,.one (.c (.int .i64 0))),(2,.one (.c (.fn 200 []))),(6,.one (.c (.int .i64 20))),(7,.one (.c (.int .i64 0))),(8,.one (.c (.int .i64 20)))]) (fun _=>[]) rfl (fun _=>amR _) (fm_ bH [] rfl a8 bZ) ?_;rintro⟨⟩ st hb hk
 cases hb;refine aX ?_;refine alM_ (σ:=Unit) (ρ:=Unit) (body:=fun _=>some (.exit ())) (K:=fun _=>some ()) (r:=()) (s0:=()) (fun _=>[(1,.one (.c (.int .i64 0))),(6,.one (.c (.int .i64 20)))]) (fun _=>[]) rfl (fun _=>amR _) (fm_ bH [] rfl a8 bZ) ?_;rintro⟨⟩ st hb hk
 cases hb;refine aX ?_;exact⟨.inl rfl,aO rfl (by repeat' (first|exact t7|rfl|apply And.intro)) rfl⟩
theorem M4:PTz 199 [.one (.lst []),.one (.fn 200 [])] (.tup []):=by
 have c:=aho;refine po_ Tryz.func199 Tryz.ntmps199 ?_;refine aX ?_;exact⟨.inl rfl,aO rfl (by repeat' (first|exact t7|rfl|apply And.intro)) rfl⟩
