/- Parts. No condition. -/
import Derived.Test.YtnbnpnmkgemdeaaGreatDoorKBH
set_option maxHeartbeats 8000000
set_option maxRecDepth 100000
set_option linter.unusedSimpArgs false
set_option linter.unusedVariables false
namespace Go.Proofs.YtnbnpnmkgemdeaaGreatDoor
open _root_.List (replicate)
open IntKind (i64)
open Go.RowKit Go.MapKept Tryz
section
variable {P:Program} {ti:TI} {N:Nat} {ds:List (Option Tmp)} {K:Tm->List Ob->Prop} {rest:List Oper} {o:Oper} {T:Tm} {L:List Ob}
theorem tk_ (i:Nat){g:FuncId}{QB:List AV}{es fs:List (List AC)}{n m k d:Nat}(hd:o.dst=some d)(hN:Nat.blt d N=true)(hg:fN ds T o.guard=some true)(hp:dp ti (look T) o.op=some (g,.one (.own es i)::QB))(hL:L[i]?=some (.spare n k))(h:aK P ti N ds K rest ((d,.one (.own fs i))::T) (L.set i (.spare m k)))
  (hc:Run P g [.spare n k] (.one (.own es 0)::QB) [.spare m k] (.one (.own fs 0)):=by assumption) (ha:QB=QB.map (AV.ren [i]):=by rfl) (hb:Gz 1 QB=true:=by rfl):aK P ti N ds K (o::rest) T L:=by
 refine cl [i] hd hN hg hp hc (by rw[ah2,<- ha];rfl) ⟨rfl,m5,λj y hy=>?_,bU ⟨t7,t7⟩,λx hx=>?_⟩ rfl ?_ h
 .match j,hy with
  |0,hy=>simp only[List.getElem?_cons_zero,Option.some.injEq]at hy;subst hy;exact hL
  |j+1,hy=>simp at hy
 .obtain rfl|hx:=ah8.1 hx
  .show 0<1;omega
  .exact zE hb x hx
 .simp only[joinL,join,iI,dx,tB,ah2,ah6]
  simp[Ob.ren]
end
def adT:TI :={ tab with owns:=λf=>f==183||tab.owns f }
theorem nz:TIok prog adT:=⟨tab_ok.size,tab_ok.agg,tab_ok.elem,tab_ok.field,tab_ok.zero,tab_ok.bytes,tab_ok.kind,tab_ok.struct,tab_ok.zok,tab_ok.eqs⟩
def aeA:TI :={ adT with soft:=true }
theorem rD:TIok prog aeA:=⟨tab_ok.size,tab_ok.agg,tab_ok.elem,tab_ok.field,tab_ok.zero,tab_ok.bytes,tab_ok.kind,tab_ok.struct,tab_ok.zok,tab_ok.eqs⟩
def kp (l:List (List Val))(row:List Val)(n:Int):Option (List (List Val)):=bif decide (l.length+n.toNat<=1000000)then some (l++replicate n.toNat row)else none
theorem Gx (l:List (List Val))(row:List Val)(i:Nat):l++replicate (i+1) row=(l++replicate i row)++[row]:=by rw[List.replicate_succ',aig]
theorem ut {l:List (List Val)}{row:List Val}{n:Int}{r:List (List Val)}(H:kp l row n=some r):RTz 183 [.spare l.length 1] [.one (.own (l.map (λx=>[AC.lst (x.map cV)])) 0),.one (.c (.lst (row.map cV))),.one (.c (.int .i64 n))] [.spare r.length 1] (.one (.own (r.map (λx=>[AC.lst (x.map cV)])) 0)):=by
 unfold kp at H;obtain⟨g,H⟩:=ie H;obtain rfl:=aim H;have g:=aii g;refine bB tab_ok func183 rfl rfl ntmps183 m5 ?_;simp only[gp]
 repeat' (first|refine gv_ tab_ok tabS_ok ?_|refine gi_ (λhb=>?_) (λhb=>?_)<;>try exact(fx_ hb).elim|fail)
 refine b7 (λi:Nat=>[(0,.one (.own ((l++replicate i row).map (λx=>[AC.lst (x.map cV)])) 0)),(1,.one (.c (.lst (row.map cV)))),(2,.one (.c (.int .i64 n))),(7,.one (.c (.int .i64 i)))]) (λi=>[.spare (l++replicate i row).length 1]) (λi=>i<=n.toNat) (λi=>n.toNat-i) 0 m0 (λ_ _=>ah7 _)
  (fm_ ⟨bY m5,rfl,rfl,rfl,t7⟩ [] m5 ⟨Nat.zero_lt_one,t7,t7,t7,t7⟩ ⟨t7,t7⟩) ?_
 intro i hi;by_cases O8:(i:Int)<n
 .have hN:decide ((i:Int)<n)=true:=ahV O8
  repeat' (first|rw[hN]|(refine st_pop rfl rfl rfl rfl ?_ ?_;· (repeat' (first|exact t7|rfl|exact ah1 rfl|omega|(intro e he;simp at he;subst he;rfl)|(simp only[ah3];done)|(simp only[ah3,ahZ,List.length_replicate];omega)|(show(_+1)*24<=_;simp only[ah3,ahZ,List.length_replicate];omega)|(show _+1<=_;simp only[ah3,ahZ,List.length_replicate];omega)|apply And.intro)))|(refine st_lop rfl rfl rfl rfl ?_ ?_;· (repeat' (first|exact t7|rfl|exact ah1 rfl|omega|(intro e he;simp at he;subst he;rfl)|(simp only[ah3];done)|(simp only[ah3,ahZ,List.length_replicate];omega)|(show(_+1)*24<=_;simp only[ah3,ahZ,List.length_replicate];omega)|(show _+1<=_;simp only[ah3,ahZ,List.length_replicate];omega)|apply And.intro)))|(refine sS_ rfl rfl rfl ?_ ?_;· (repeat' (first|exact t7|rfl|exact ah1 rfl|omega|(intro e he;simp at he;subst he;rfl)|(simp only[ah3];done)|(simp only[ah3,ahZ,List.length_replicate];omega)|(show(_+1)*24<=_;simp only[ah3,ahZ,List.length_replicate];omega)|(show _+1<=_;simp only[ah3,ahZ,List.length_replicate];omega)|apply And.intro)))|(refine st_lit rfl rfl rfl rfl ?_ ?_;· (repeat' (first|exact t7|rfl|exact ah1 rfl|omega|(intro e he;simp at he;subst he;rfl)|(simp only[ah3];done)|(simp only[ah3,ahZ,List.length_replicate];omega)|(show(_+1)*24<=_;simp only[ah3,ahZ,List.length_replicate];omega)|(show _+1<=_;simp only[ah3,ahZ,List.length_replicate];omega)|apply And.intro)))|refine gv_ tab_ok tabS_ok ?_|refine gi_ (λhb=>?_) (λhb=>?_)<;>try exact(fx_ hb).elim|fail)
  exact⟨i+1,m0,m0,fm_ ⟨bY (by rw[Gx,ah4 (l₁:=l++replicate i row)];rfl),rfl,rfl,aL (a8 m0 m0),t7⟩ [] (by rw[Gx];simp;omega) ⟨Nat.zero_lt_one,t7,t7,t7,t7⟩ ⟨t7,t7⟩⟩
 .have hN:decide ((i:Int)<n)=false:=ahU O8
  have SI:i=n.toNat:=m0
  subst SI
  repeat' (first|rw[hN]|refine gv_ tab_ok tabS_ok ?_|refine gi_ (λhb=>?_) (λhb=>?_)<;>try exact(fx_ hb).elim|fail)
  exact⟨.inr rfl,⟨.inl ⟨6,rfl,rfl⟩,⟨[],rfl⟩,ah7 _,bU ⟨t7,t7⟩,by show 0<1;omega⟩⟩
def oP (n:Nat):List SV:=[SV.c (.int .i64 n)]
theorem M6 (X:List Nat):jk (X.map oP)=some (X.map λn:Nat=>[AC.int .i64 (n:Int)]):=by
 have:=qX (X.map λn:Nat=>[AC.int .i64 (n:Int)]);rw[List.map_map]at this;exact this
theorem abA {X:List Nat}{k c:Nat}(h:X[k]?=some c):(X.map oP)[0+(((k:Nat):Int)).toNat]?=some [SV.c (.int .i64 c)]:=by
 rw[aiw,Int.toNat_natCast,aic,h];rfl
theorem ab0 (X:List Nat):(X.map oP++[[SV.c (.int .i64 0)]])[0+((X.length:Int)).toNat]?=some [SV.c (.int .i64 0)]:=by
 rw[aiw,Int.toNat_natCast,ahY m5];simp
theorem tT (n v k:Nat)(X:List Nat):(Ob.row v (X.map oP) k).below n:=by
 intro e he x hx;obtain⟨c,_,rfl⟩:=aip.1 he;obtain rfl|hx:=ah8.1 hx
 .trivial
 .cases hx
theorem ae7 {id v w n m:Nat}(h:n=m)(hv:v=w):some (AV.one (.sl id v 0 n))=some (AV.one (.sl id w 0 m)):=by subst h hv;rfl
def iT (l:List (List Val)):Option (List (List Val)×List Int):=bif decide (l.length<=700)&&l.all (λr=>decide (r.length<=1000000))then some (b6 none (aH l),(iA (aH l)).map λ(n:Nat)=>(n:Int))else none
theorem Ju (a b:List Val)(ha:a.length<=1000000)(hb:b.length<=1000000):em a b=some (decide (a=b)):=by
 unfold em;rw[ni a b m0 m0,ahQ];congr 1;by_cases h:a=b
 .subst h
  rw[ahV rfl,tCr_.refl];rfl
 .rw[ahU h,ahU]
  intro h2;exact h (tCr_.zero _ _ h2)
def sl6 (A:List (List Val)):Nat->AV
 |0 => .one .emp
 |i+1 => .one (.sl 1 (3+65536*(b6 none (A.take (i+1))).length) 0 (b6 none (A.take (i+1))).length)
def obC (A:List (List Val)):Nat->List Ob
 |0=>[.spare 0 1]
 |i+1=>[.spare (b6 none (A.take (i+1))).length 1,.row (3+65536*(b6 none (A.take (i+1))).length) ((iA (A.take (i+1))).map oP) 1]
theorem wt:∀ (l:List (List Val)) (p:Option (List Val)),(b6 p l).length<=l.length
 |[],_=>ah7 _
 |y::l,p=>by
  rw[qs];have:=wt l (some y);split
  .rw[aib];omega
  .rw[aib,aib];omega
theorem sE {l:List (List Val)}{r:List (List Val)×List Int}(H:iT l=some r):PTz 227 [.one (.lst (l.map (λx=>[AC.lst (x.map cV)])))] (.tup [.one (.lst (r.1.map (λx=>[AC.lst (x.map cV)]))),.one (.lst (r.2.map (λx=>[AC.int .i64 x])))]):=by
 unfold iT at H;obtain⟨g,H⟩:=ie H;obtain rfl:=aim H;rw[ah9]at g;have hl:=aii g.1;have hr:∀ r∈l,r.length<=1000000:=λr h=>aii (aiB.1 g.2 r h)
 have Yl:=da (dI l hl hr);have hasc:=cZ l;have Vq:(aH l).length<=700:=by rw[(aP l).length_eq];exact hl
 have har:∀ r∈aH l,r.length<=1000000:=λr h=>hr r ((aP l).mem_iff.1 h)
 refine po_ func227 ntmps227 ?_
 repeat' (first|refine au rfl rfl rfl rfl Yl rfl ?_|refine gv_ tab_ok tabS_ok ?_|refine gi_ (λhb=>?_) (λhb=>?_)<;>try exact(fx_ hb).elim|fail)
 generalize aH l=A at Yl hasc Vq har;refine br 5 1 rfl ?_;refine b7 (λi:Nat=>[(4,.one (.c (bA A))),(5,.one (.own ((b6 none (A.take i)).map λr=>[bD r]) 0)),(6,sl6 A i),(7,.one (.c (.int .i64 i)))]) (λi=>obC A i) (λi=>i<=A.length) (λi=>A.length-i) 0 (aia _) (λ_ _=>aia _)
  (fm_ ⟨rfl,rfl,rfl,rfl,t7⟩ [] rfl ⟨t7,by show 0<1;omega,t7,t7,t7⟩ ⟨t7,t7⟩) ?_
 intro i hi;by_cases O8:i<A.length
 .obtain⟨x,hx⟩:=gol_ O8
  have hN:decide ((i:Int)<(((A.map λr=>[bD r]).length:Nat):Int))=true:=by rw[ah3];simp;exact O8
  have hxl:=har x (ahX hx);have Rw:=bG hx;have Uz:Asc aX (A.take i++[x]):=by rw[<- Rw];exact hasc.sublist (List.take_sublist _ _)
  match i,hi,O8,hx,hN,Rw,Uz with
  |0,hi,O8,hx,hN,Rw,Uz =>
   have hI0:decide (((0:Nat):Int)=0)=true:=rfl;have PE:([]:List (List Val)).getLast?≠some x:=by simp
   have hcn:=Ld (l:=[]) (by simpa using Uz) PE;have ha1:b6 none (A.take (0+1))=[x]:=by rw[Rw];exact hcn.1
   have hc1:iA (A.take (0+1))=[1]:=by rw[Rw];exact hcn.2
   have hS1:sl6 A 1 = .one (.sl 1 (3+65536*1) 0 1):=by
    show AV.one (.sl 1 (3+65536*(b6 none (A.take (0+1))).length) 0 (b6 none (A.take (0+1))).length)=_;rw[ha1];rfl
   have Wm:obC A 1=[.spare 1 1,.row (3+65536*1) (([1]:List Nat).map oP) 1]:=by
    show [Ob.spare (b6 none (A.take (0+1))).length 1,.row (3+65536*(b6 none (A.take (0+1))).length) ((iA (A.take (0+1))).map oP) 1]=_;rw[ha1,hc1];rfl
   have hw1:i64.wrap (((([[SV.c (AC.int .i64 0)]]:List (List SV)).length:Nat):Int)-1)=((0:Nat):Int):=rfl;have hw2:i64.wrap ((0:Int)+1)=1:=by decide
   repeat' (first|rw[hN]|rw[hI0]|rw[hw1]|rw[hw2]|(refine bQ rfl rfl rfl rfl rfl (pq aj (k:=1) (by_:=8) (xs:=[[SV.c (.int .i64 0)]]) rfl rfl rfl ⟨rfl,_,rfl,by intro e he;simp at he;subst he;rfl⟩ rfl m9 rfl rfl rfl m9 m9 m9 m9) ?_)|(refine pO rfl rfl rfl rfl rfl rfl rfl ((show([[SV.c (.int .i64 0)]]:List (List SV))[0+(((0:Nat):Int)).toNat]?=some [SV.c (.int .i64 0)]from rfl)) rfl ?_)|(refine pu rfl rfl rfl rfl rfl rfl ((show([[SV.c (.int .i64 0)]]:List (List SV))[0+(((0:Nat):Int)).toNat]?=some [SV.c (.int .i64 0)]from rfl)) ⟨ah1 rfl,rfl⟩ rfl ?_)|(refine aO rfl rfl rfl rfl rfl rfl rfl rfl (aU hx) ?_ ?_;· exact⟨m0,rfl⟩)|(refine st_pop rfl rfl rfl rfl ?_ ?_;· (repeat' (first|exact t7|rfl|exact ah1 rfl|omega|(show((0:Nat):Int)<((1:Nat):Int);omega)|(show(_:Int)<((_+1:Nat):Int);omega)|(intro e he;simp at he;subst he;rfl)|(simp only[ah3];done)|(simp only[ah3];omega)|(show(_+1)*24<=_;omega)|(show _+1<=_;omega)|apply And.intro)))|(refine st_lop rfl rfl rfl rfl ?_ ?_;· (repeat' (first|exact t7|rfl|exact ah1 rfl|omega|(show((0:Nat):Int)<((1:Nat):Int);omega)|(show(_:Int)<((_+1:Nat):Int);omega)|(intro e he;simp at he;subst he;rfl)|(simp only[ah3];done)|(simp only[ah3];omega)|(show(_+1)*24<=_;omega)|(show _+1<=_;omega)|apply And.intro)))|(refine sS_ rfl rfl rfl ?_ ?_;· (repeat' (first|exact t7|rfl|exact ah1 rfl|omega|(show((0:Nat):Int)<((1:Nat):Int);omega)|(show(_:Int)<((_+1:Nat):Int);omega)|(intro e he;simp at he;subst he;rfl)|(simp only[ah3];done)|(simp only[ah3];omega)|(show(_+1)*24<=_;omega)|(show _+1<=_;omega)|apply And.intro)))|(refine st_lit rfl rfl rfl rfl ?_ ?_;· (repeat' (first|exact t7|rfl|exact ah1 rfl|omega|(show((0:Nat):Int)<((1:Nat):Int);omega)|(show(_:Int)<((_+1:Nat):Int);omega)|(intro e he;simp at he;subst he;rfl)|(simp only[ah3];done)|(simp only[ah3];omega)|(show(_+1)*24<=_;omega)|(show _+1<=_;omega)|apply And.intro)))|refine gv_ tab_ok tabS_ok ?_|refine gi_ (λhb=>?_) (λhb=>?_)<;>try exact(fx_ hb).elim|fail)
   exact⟨1,O8,m0,fm_ ⟨rfl,bY (by rw[ha1];rfl),by rw[hS1];rfl,rfl,t7⟩ [] (by rw[Wm];rfl) (by rw[hS1,Wm];repeat' (first|exact t7|omega|apply And.intro|(show _<_;simp;done)|exact ah1 rfl)) (by rw[Wm];exact⟨t7,tT _ _ _ _,t7⟩)⟩
  |j+1,hi,O8,hx,hN,Rw,Uz =>
   have hI0:decide (((j+1:Nat):Int)=0)=false:=by simp;omega
   obtain⟨x0,VT⟩:=gol_ (show j<A.length by omega);have hx0l:=har x0 (ahX VT);have hwi:i64.wrap (((j+1:Nat):Int)-1)=((j:Nat):Int):=a8 m0 m0;have VQ:(A.take (j+1)).getLast?=some x0:=by rw[bG VT];simp
   have SE:(b6 none (A.take (j+1))).length<=j+1:=by
    have:=(wt (A.take (j+1)) none);rw[aiD]at this;omega
   have Tj:(iA (A.take (j+1))).length=(b6 none (A.take (j+1))).length:=ah3 _;have heq:=li (Ju x0 x hx0l hxl);by_cases he:x0=x
   .subst he
    rw[ahV rfl]at heq;obtain⟨UP,Xy,Vu,Sz⟩:=abg Uz VQ;rw[<- Rw]at UP Sz;generalize hX:iA (A.take (j+1))=X at Tj Sz;generalize hM:(b6 none (A.take (j+1))).length=m at SE Tj Vu Sz;have hck:X[m-1]?=some ((A.take (j+1)).count x0):=by
     rw[<- hX,<- hM];unfold iA;rw[aic,Xy];rfl
    have hcb:(A.take (j+1)).count x0<=700:=by have:=List.count_le_length (a:=x0) (l:=A.take (j+1));rw[aiD]at this;omega
    generalize (A.take (j+1)).count x0=c at hck hcb Sz;have hwm:i64.wrap (((m:Nat):Int)-1)=((m-1:Nat):Int):=a8 m0 m0;have hwc:i64.wrap (((c:Nat):Int)+1)=((c+1:Nat):Int):=a8 m0 m0;have hE:=abA hck;have hS6:sl6 A (j+1) = .one (.sl 1 (3+65536*m) 0 m):=by show AV.one (.sl 1 (3+65536*(b6 none (A.take (j+1))).length) 0 (b6 none (A.take (j+1))).length)=_;rw[hM]
    have hO:obC A (j+1)=[.spare m 1,.row (3+65536*m) (X.map oP) 1]:=by show [Ob.spare (b6 none (A.take (j+1))).length 1,.row (3+65536*(b6 none (A.take (j+1))).length) ((iA (A.take (j+1))).map oP) 1]=_;rw[hM,hX]
    have hS7:sl6 A (j+1+1) = .one (.sl 1 (3+65536*m) 0 m):=by show AV.one (.sl 1 (3+65536*(b6 none (A.take (j+1+1))).length) 0 (b6 none (A.take (j+1+1))).length)=_;rw[UP,hM]
    have Y7:obC A (j+1+1)=[.spare m 1,.row (3+65536*m) ((X.set (m-1) (c+1)).map oP) 1]:=by show [Ob.spare (b6 none (A.take (j+1+1))).length 1,.row (3+65536*(b6 none (A.take (j+1+1))).length) ((iA (A.take (j+1+1))).map oP) 1]=_;rw[UP,hM,Sz]
    rw[hS6,hO]
    repeat' (first|rw[hN]|rw[hI0]|rw[hwi]|rw[hwm]|rw[hwc]|(refine pO rfl rfl rfl rfl rfl rfl rfl (hE) rfl ?_)|(refine pu rfl rfl rfl rfl rfl rfl (hE) ⟨ah1 rfl,rfl⟩ rfl ?_)|(refine aO rfl rfl rfl rfl rfl rfl rfl rfl (aU hx) ?_ ?_;· exact⟨m0,rfl⟩)|(refine aO rfl rfl rfl rfl rfl rfl rfl rfl (aU VT) ?_ ?_;· exact⟨m0,rfl⟩)|refine au rfl rfl rfl rfl heq rfl ?_|(refine st_pop rfl rfl rfl rfl ?_ ?_;· (repeat' (first|exact t7|rfl|exact ah1 rfl|omega|(show((0:Nat):Int)<((1:Nat):Int);omega)|(show(_:Int)<((_+1:Nat):Int);omega)|(intro e he;simp at he;subst he;rfl)|(simp only[ah3];done)|(simp only[ah3];omega)|(show(_+1)*24<=_;omega)|(show _+1<=_;omega)|apply And.intro)))|(refine st_lop rfl rfl rfl rfl ?_ ?_;· (repeat' (first|exact t7|rfl|exact ah1 rfl|omega|(show((0:Nat):Int)<((1:Nat):Int);omega)|(show(_:Int)<((_+1:Nat):Int);omega)|(intro e he;simp at he;subst he;rfl)|(simp only[ah3];done)|(simp only[ah3];omega)|(show(_+1)*24<=_;omega)|(show _+1<=_;omega)|apply And.intro)))|(refine sS_ rfl rfl rfl ?_ ?_;· (repeat' (first|exact t7|rfl|exact ah1 rfl|omega|(show((0:Nat):Int)<((1:Nat):Int);omega)|(show(_:Int)<((_+1:Nat):Int);omega)|(intro e he;simp at he;subst he;rfl)|(simp only[ah3];done)|(simp only[ah3];omega)|(show(_+1)*24<=_;omega)|(show _+1<=_;omega)|apply And.intro)))|(refine st_lit rfl rfl rfl rfl ?_ ?_;· (repeat' (first|exact t7|rfl|exact ah1 rfl|omega|(show((0:Nat):Int)<((1:Nat):Int);omega)|(show(_:Int)<((_+1:Nat):Int);omega)|(intro e he;simp at he;subst he;rfl)|(simp only[ah3];done)|(simp only[ah3];omega)|(show(_+1)*24<=_;omega)|(show _+1<=_;omega)|apply And.intro)))|refine gv_ tab_ok tabS_ok ?_|refine gi_ (λhb=>?_) (λhb=>?_)<;>try exact(fx_ hb).elim|fail)
    exact⟨j+1+1,O8,m0,fm_ ⟨rfl,bY (by rw[UP]),by rw[hS7];rfl,aL (a8 m0 m0),t7⟩ [] (by rw[Y7,List.map_set];simp[oP];rfl) (by rw[hS7,Y7];repeat' (first|exact t7|omega|apply And.intro|(show _<_;simp;done)|exact ah1 rfl)) (by rw[Y7];exact⟨t7,tT _ _ _ _,t7⟩)⟩
   .rw[ahU he]at heq
    have PE:(A.take (j+1)).getLast?≠some x:=by rw[VQ];simpa using he
    obtain⟨UP,Sz⟩:=Ld Uz PE;rw[<- Rw]at UP Sz;generalize hX:iA (A.take (j+1))=X at Tj Sz;have hS6:sl6 A (j+1) = .one (.sl 1 (3+65536*(b6 none (A.take (j+1))).length) 0 (b6 none (A.take (j+1))).length):=rfl;have hO:obC A (j+1)=[.spare (b6 none (A.take (j+1))).length 1,.row (3+65536*(b6 none (A.take (j+1))).length) (X.map oP) 1]:=by show [Ob.spare (b6 none (A.take (j+1))).length 1,.row (3+65536*(b6 none (A.take (j+1))).length) ((iA (A.take (j+1))).map oP) 1]=_;rw[hX]
    have hml2:((b6 none (A.take (j+1))).map λr=>[bD r]).length=(b6 none (A.take (j+1))).length:=ah3 _;have hS7:sl6 A (j+1+1) = .one (.sl 1 (3+65536*((b6 none (A.take (j+1))).length+1)) 0 ((b6 none (A.take (j+1))).length+1)):=by show AV.one (.sl 1 (3+65536*(b6 none (A.take (j+1+1))).length) 0 (b6 none (A.take (j+1+1))).length)=_;rw[UP,ahZ];rfl
    have Y7:obC A (j+1+1)=[.spare ((b6 none (A.take (j+1))).length+1) 1,.row (3+65536*((b6 none (A.take (j+1))).length+1)) ((X++[1]).map oP) 1]:=by show [Ob.spare (b6 none (A.take (j+1+1))).length 1,.row (3+65536*(b6 none (A.take (j+1+1))).length) ((iA (A.take (j+1+1))).map oP) 1]=_;rw[UP,ahZ,Sz];rfl
    have hA7:((b6 none (A.take (j+1+1))).map λr=>[bD r])=((b6 none (A.take (j+1))).map λr=>[bD r])++[[bD x]]:=by rw[UP,ah4];rfl
    rw[hS6,hO];generalize hAD:b6 none (A.take (j+1))=D at *;generalize hM:D.length=m at *;have hwm:i64.wrap (((m+([[SV.c (AC.int .i64 0)]]:List (List SV)).length:Nat):Int)-1)=((m:Nat):Int):=a8 (by show((m+1:Nat):Int)-1=_;omega) m0;have hwc:i64.wrap ((0:Int)+1)=1:=by decide
    have hE:=ab0 X;rw[Tj]at hE
    repeat' (first|rw[hN]|rw[hI0]|rw[hwi]|rw[hwm]|rw[hwc]|(refine bQ rfl rfl rfl rfl rfl (jf aj (k:=1) (by_:=8) (xs:=[[SV.c (.int .i64 0)]]) rfl rfl rfl rfl ⟨rfl,_,rfl,by intro e he;simp at he;subst he;rfl⟩ rfl m0 rfl rfl rfl m9 (by rw[ah3];exact Tj) (by show(m+1)*8<=_;omega) (by show m+1<=_;omega)) ?_)|(refine pO rfl rfl rfl rfl rfl rfl rfl (hE) rfl ?_)|(refine pu rfl rfl rfl rfl rfl rfl (hE) ⟨ah1 rfl,rfl⟩ rfl ?_)|(refine aO rfl rfl rfl rfl rfl rfl rfl rfl (aU hx) ?_ ?_;· exact⟨m0,rfl⟩)|(refine aO rfl rfl rfl rfl rfl rfl rfl rfl (aU VT) ?_ ?_;· exact⟨m0,rfl⟩)|refine au rfl rfl rfl rfl heq rfl ?_|(refine st_pop rfl rfl rfl rfl ?_ ?_;· (repeat' (first|exact t7|rfl|exact ah1 rfl|omega|(show((0:Nat):Int)<((1:Nat):Int);omega)|(show(_:Int)<((_+1:Nat):Int);omega)|(intro e he;simp at he;subst he;rfl)|(simp only[ah3];done)|(simp only[ah3];omega)|(show(_+1)*24<=_;omega)|(show _+1<=_;omega)|apply And.intro)))|(refine st_lop rfl rfl rfl rfl ?_ ?_;· (repeat' (first|exact t7|rfl|exact ah1 rfl|omega|(show((0:Nat):Int)<((1:Nat):Int);omega)|(show(_:Int)<((_+1:Nat):Int);omega)|(intro e he;simp at he;subst he;rfl)|(simp only[ah3];done)|(simp only[ah3];omega)|(show(_+1)*24<=_;omega)|(show _+1<=_;omega)|apply And.intro)))|(refine sS_ rfl rfl rfl ?_ ?_;· (repeat' (first|exact t7|rfl|exact ah1 rfl|omega|(show((0:Nat):Int)<((1:Nat):Int);omega)|(show(_:Int)<((_+1:Nat):Int);omega)|(intro e he;simp at he;subst he;rfl)|(simp only[ah3];done)|(simp only[ah3];omega)|(show(_+1)*24<=_;omega)|(show _+1<=_;omega)|apply And.intro)))|(refine st_lit rfl rfl rfl rfl ?_ ?_;· (repeat' (first|exact t7|rfl|exact ah1 rfl|omega|(show((0:Nat):Int)<((1:Nat):Int);omega)|(show(_:Int)<((_+1:Nat):Int);omega)|(intro e he;simp at he;subst he;rfl)|(simp only[ah3];done)|(simp only[ah3];omega)|(show(_+1)*24<=_;omega)|(show _+1<=_;omega)|apply And.intro)))|refine gv_ tab_ok tabS_ok ?_|refine gi_ (λhb=>?_) (λhb=>?_)<;>try exact(fx_ hb).elim|fail)
    exact⟨j+1+1,O8,m0,fm_ ⟨rfl,bY (by rw[hA7];rfl),by rw[hS7];exact ae7 rfl m0,aL (a8 m0 m0),t7⟩ [] (by rw[Y7];simp[oP,Tj];exact⟨m0,rfl⟩) (by rw[hS7,Y7];repeat' (first|exact t7|omega|apply And.intro|(show _<_;simp;done)|exact ah1 rfl)) (by rw[Y7];exact⟨t7,tT _ _ _ _,t7⟩)⟩
 .have SI:i=A.length:=m0
  subst SI;have hN:decide ((A.length:Int)<(((A.map λr=>[bD r]).length:Nat):Int))=false:=by rw[ah3];simp
  have Rw:A.take A.length=A:=List.take_length;rcases hA:A.length with _|j
  .have:A=[]:=aif hA
   subst this
   repeat' (first|refine gv_ tab_ok tabS_ok ?_|refine gi_ (λhb=>?_) (λhb=>?_)<;>try exact(fx_ hb).elim|fail)
   exact az (aE rfl (by trivial) rfl)
  .rw[hA]at Rw hN
   have Tj:(iA A).length=(b6 none A).length:=ah3 _;have hS6:sl6 A (j+1) = .one (.sl 1 (3+65536*(b6 none A).length) 0 (b6 none A).length):=by show AV.one (.sl 1 (3+65536*(b6 none (A.take (j+1))).length) 0 (b6 none (A.take (j+1))).length)=_;rw[Rw]
   have hO:obC A (j+1)=[.spare (b6 none A).length 1,.row (3+65536*(b6 none A).length) ((iA A).map oP) 1]:=by show [Ob.spare (b6 none (A.take (j+1))).length 1,.row (3+65536*(b6 none (A.take (j+1))).length) ((iA (A.take (j+1))).map oP) 1]=_;rw[Rw]
   rw[hS6,hO,Rw]
   (refine ga 1 6 (cs:=(iA A).map λn:Nat=>[AC.int .i64 (n:Int)]) rfl (M6 _) rfl (by rw[ah3];exact Tj) ?_)
   repeat' (first|rw[hN]|refine gv_ tab_ok tabS_ok ?_|refine gi_ (λhb=>?_) (λhb=>?_)<;>try exact(fx_ hb).elim|fail)
   exact az (aE rfl (by trivial) (by rw[List.map_map];rfl))
noncomputable section
def ew (Ph:(List (List Val))×(List Int))(PW:(List (List Val))×(List Int))(Qz:Int):(Int)->Option (Step (Int) ((List (List Val))×(List Int)×(List Int))):=λs=>match s with
 |k_7=>bif k_7<(PW.1.length:Int)then(al PW.1 k_7).bind λUx=>(al Ph.1 Qz).bind λSG=>(xC Ux SG).bind λPY=>bif PY<(0:Int)then some (.next (i64.wrap (k_7+(1:Int))))else
 some (.exit k_7)else
 some (.exit k_7)
def fH (Ph:(List (List Val))×(List Int))(PW:(List (List Val))×(List Int))(Qg:(List Int))(Qz:Int):Sum (Int) ((List (List Val))×(List Int)×(List Int))->Option (Step ((List Int)×Int×Int) ((List (List Val))×(List Int)×(List Int)))
 |.inl k_7=>bif k_7<(PW.1.length:Int)then(al PW.1 k_7).bind λUN=>(al Ph.1 Qz).bind λU9=>(em UN U9).bind λRL=>bif RL then(al PW.2 k_7).bind λS8=>bif Qg.length+1<=17592186044416 then(some (.next ((Qg++[S8]),k_7,(i64.wrap (Qz+(1:Int))))))else none else
 bif Qg.length+1<=17592186044416 then(some (.next ((Qg++[(0:Int)]),k_7,(i64.wrap (Qz+(1:Int))))))else none else
 bif Qg.length+1<=17592186044416 then(some (.next ((Qg++[(0:Int)]),k_7,(i64.wrap (Qz+(1:Int))))))else none
 |.inr q=>some (.ret q)
def eg (Ph:(List (List Val))×(List Int))(PW:(List (List Val))×(List Int)):((List Int)×Int×Int)->Option (Step ((List Int)×Int×Int) ((List (List Val))×(List Int)×(List Int))):=λs=>match s with
 |(Qg,UA,Qz)=>bif Qz<(Ph.1.length:Int)then(af (ew Ph PW Qz) fuel UA).bind (fH Ph PW Qg Qz)else
 some (.exit (Qg,UA,Qz))
def jZ (Ph:(List (List Val))×(List Int)):Sum ((List Int)×Int×Int) ((List (List Val))×(List Int)×(List Int))->Option (((List (List Val))×(List Int)×(List Int)))
 |.inl (Qg,UA,Qz)=>some (Ph.1,Ph.2,Qg)
 |.inr q=>some q
def kr (O7:(List (List Val)))(O4:(List (List Val))):Option ((List (List Val))×(List Int)×(List Int)):=(iT O7).bind λPh=>(iT O4).bind λPW=>(af (eg Ph PW) fuel ([],(0:Int),(0:Int))).bind (jZ Ph)
theorem uz {O7:(List (List Val))}{O4:(List (List Val))}{r:(List (List Val))×(List Int)×(List Int)}(H:kr O7 O4=some r):PTz 182 [.one (.lst (O7.map (λx=>[AC.lst (x.map cV)]))),.one (.lst (O4.map (λx=>[AC.lst (x.map cV)])))] (.tup [.one (.lst (r.1.map (λx=>[AC.lst (x.map cV)]))),.one (.lst (r.2.1.map (λx=>[AC.int .i64 x]))),.one (.lst (r.2.2.map (λx=>[AC.int .i64 x])))]):=by
 unfold kr at H;refine po_ func182 ntmps182 ?_;obtain⟨Ph,c1,H⟩:=bd_ H;replace c1:=sE c1;obtain⟨PW,c2,H⟩:=bd_ H;replace c2:=sE c2;refine aS ?_;refine br 11 1 rfl ?_;refine alM_ (λs:(List Int)×Int×Int=>match s with|(Qg,UA,Qz)=>[(7,.one (.c (.lst (Ph.1.map (λx=>[AC.lst (x.map cV)]))))),(8,.one (.c (.lst (Ph.2.map (λx=>[AC.int .i64 x]))))),(9,.one (.c (.lst (PW.1.map (λx=>[AC.lst (x.map cV)]))))),(10,.one (.c (.lst (PW.2.map (λx=>[AC.int .i64 x]))))),(11,.one (.own (Qg.map (λx=>[AC.int .i64 x])) 0)),(12,.one (.c (.int .i64 UA))),(13,.one (.c (.int .i64 Qz)))]) (λs=>match s with|(Qg,UA,Qz)=>[.spare Qg.length 1]) H (λ_=>aia _)
  (fm_ bg [] rfl aQ bq) ?_
 rintro⟨Qg,UA,Qz⟩ st3 PZ hk3;unfold eg at PZ;dsimp only at PZ ⊢;obtain⟨Qb,PZ⟩|⟨Qb,PZ⟩:=ae PZ
 .refine aS ?_
  refine alM_ (λs:Int=>match s with|k_7=>[(7,.one (.c (.lst (Ph.1.map (λx=>[AC.lst (x.map cV)]))))),(8,.one (.c (.lst (Ph.2.map (λx=>[AC.int .i64 x]))))),(9,.one (.c (.lst (PW.1.map (λx=>[AC.lst (x.map cV)]))))),(10,.one (.c (.lst (PW.2.map (λx=>[AC.int .i64 x]))))),(11,.one (.own (Qg.map (λx=>[AC.int .i64 x])) 0)),(12,.one (.c (.int .i64 k_7))),(13,.one (.c (.int .i64 Qz)))]) (λs=>match s with|k_7=>[.spare Qg.length 1]) PZ (λ_=>aia _)
   (fm_ bg [] rfl aQ bq) ?_
  rintro k_7 Zk Py VD;unfold ew at Py;dsimp only at Py ⊢;obtain⟨Qw,Py⟩|⟨Qw,Py⟩:=ae Py
  .obtain⟨Ux,Ud,i3,TK,Py⟩:=aw (f:=(λx=>[AC.lst (x.map cV)])) Py
   obtain⟨SG,VC,i4,U7,Py⟩:=aw (f:=(λx=>[AC.lst (x.map cV)])) Py;obtain⟨PY,c5,Py⟩:=bd_ Py;replace c5:=uD c5;obtain⟨Qj,Py⟩|⟨Qj,Py⟩:=ae Py
   .cases Py
    refine aS ?_;exact⟨_,rfl,fm_ bg [] rfl aQ bq⟩
   cases Py;have Qc:fH Ph PW Qg Qz (.inl k_7)=some _:=VD;unfold fH at Qc;dsimp only at Qc;obtain⟨P2,Qc⟩|⟨P2,Qc⟩:=ae Qc
   .obtain⟨UN,ZX,i6,ZY,Qc⟩:=aw (f:=(λx=>[AC.lst (x.map cV)])) Qc
    cases aim (i3.symm.trans i6);obtain⟨U9,Yi,i7,XY,Qc⟩:=aw (f:=(λx=>[AC.lst (x.map cV)])) Qc
    cases aim (i4.symm.trans i7);obtain⟨RL,c8,Qc⟩:=bd_ Qc;replace c8:=li c8;obtain⟨RI,Qc⟩|⟨RI,Qc⟩:=ae Qc
    .obtain⟨S8,i9z,i9,i9x,Qc⟩:=aw (f:=(λx=>[AC.int .i64 x])) Qc
     obtain⟨g10,Qc⟩:=aq Qc
     cases Qc;refine aS ?_;exact⟨_,rfl,fm_ fO [] dU aQ bq⟩
    obtain⟨g11,Qc⟩:=aq Qc
    cases Qc;refine aS ?_;exact⟨_,rfl,fm_ fO [] dU aQ bq⟩
   exact nomatch Qw.symm.trans P2
  cases Py;have Qc:fH Ph PW Qg Qz (.inl k_7)=some _:=VD;unfold fH at Qc;dsimp only at Qc;obtain⟨P2,Qc⟩|⟨P2,Qc⟩:=ae Qc
  .exact nomatch Qw.symm.trans P2
  obtain⟨g12,Qc⟩:=aq Qc
  cases Qc;refine aS ?_;exact⟨_,rfl,fm_ fO [] dU aQ bq⟩
 cases PZ;have Rh:jZ Ph (.inl (Qg,UA,Qz))=some _:=hk3;unfold jZ at Rh;dsimp only at Rh
 cases Rh;exact ao
def jS (Ph:(List (List Val))×(List Int)×(List Int)):((List (List Val))×Int)->Option (Step ((List (List Val))×Int) (aJ)):=λs=>match s with
 |(Rj,Qk)=>bif Qk<(Ph.1.length:Int)then(al Ph.1 Qk).bind λQG=>(al Ph.2.1 Qk).bind λRf=>(al Ph.2.2 Qk).bind λQs=>(kp Rj QG (i64.wrap (Rf-Qs))).bind λQN=>some (.next (QN,(i64.wrap (Qk+(1:Int)))))else
 some (.exit (Rj,Qk))
def nS (O7:aJ):Sum ((List (List Val))×Int) (aJ)->Option ((aJ))
 |.inl (Rj,Qk)=>some (⟨O7.kinds,Rj⟩:aJ)
 |.inr q=>some q
def ko (O7:aJ)(O4:aJ):Option (aJ):=(kr O7.rows O4.rows).bind λPh=>(af (jS Ph) fuel ([],(0:Int))).bind (nS O7)
theorem xu {p q:Prop}(k:q)(h:Bx q->p:=by
 intro hq
 repeat' (first|refine tk_ 4 rfl rfl rfl rfl rfl ?_|refine p_ rfl rfl rfl rfl rfl ?_|refine st_nil ?_|refine x_ rfl rfl rfl rfl rfl rfl rfl rfl ?_|refine l_ rfl rfl rfl rfl ?_|refine s_ rfl rfl rfl ?_|refine t_ rfl rfl rfl rfl ?_|refine k_ rfl rfl rfl ?_|refine k0_ rfl rfl ?_|refine c_ rfl rfl rfl rfl ?_|refine pick_t rfl rfl rfl rfl rfl rfl rfl ?_|refine pick_f rfl rfl rfl rfl rfl rfl rfl ?_|refine aw_seq ?_|refine aw_region nz _ rfl ?_|refine aw_drawn2 rD _ rfl mixed (by decide +kernel) ?_|refine aw_condT rfl ?_|refine aw_condF rfl ?_|refine aw_block ?_|refine aw_exit ?_|refine aw_ret ?_|refine aw_skip ?_|rw[ah3]|rw[mn_norm]|rw[mx_norm])
 exact hq.out):p:=h ⟨k⟩
theorem Iw {p:Prop}(h:p:=by
 repeat' (first|refine tk_ 4 rfl rfl rfl rfl rfl ?_|refine p_ rfl rfl rfl rfl rfl ?_|refine st_nil ?_|refine x_ rfl rfl rfl rfl rfl rfl rfl rfl ?_|refine l_ rfl rfl rfl rfl ?_|refine s_ rfl rfl rfl ?_|refine t_ rfl rfl rfl rfl ?_|refine k_ rfl rfl rfl ?_|refine k0_ rfl rfl ?_|refine c_ rfl rfl rfl rfl ?_|refine pick_t rfl rfl rfl rfl rfl rfl rfl ?_|refine pick_f rfl rfl rfl rfl rfl rfl rfl ?_|refine aw_seq ?_|refine aw_region nz _ rfl ?_|refine aw_drawn2 rD _ rfl mixed (by decide +kernel) ?_|refine aw_condT rfl ?_|refine aw_condF rfl ?_|refine aw_block ?_|refine aw_exit ?_|refine aw_ret ?_|refine aw_skip ?_|rw[ah3]|rw[mn_norm]|rw[mx_norm])
 refine az (aE rfl ?_ ?_)
 .repeat' (first|exact t7|rfl|exact ah1 rfl|omega|apply And.intro)
 .first|rfl|(simp only[ah4,ah2,ah6,ahW]<;>rfl)):p:=h
theorem E6 {O7:aJ}{O4:aJ}{r:aJ}(H:ko O7 O4=some r):PTz 137 [.agg (bn O7),.agg (bn O4)] (.val (.agg (bn r))):=by
 unfold ko at H;refine pa_ nz func137 rfl rfl ntmps137 m5 ?_;simp only[argT,PV.av,ah2,ah6];obtain⟨Ph,c1,H⟩:=bd_ H;replace c1:=uz c1;refine xu ?_;refine gK 3 1 1 rfl rfl ?_;refine alM_ (λs:(List (List Val))×Int=>match s with|(Rj,Qk)=>[(4,.one (.ptr 2 0)),(5,.one (.ptr 3 0)),(6,.one (.c (.lst (Ph.1.map (λx=>[AC.lst (x.map cV)]))))),(7,.one (.c (.lst (Ph.2.1.map (λx=>[AC.int .i64 x]))))),(8,.one (.c (.lst (Ph.2.2.map (λx=>[AC.int .i64 x]))))),(9,.one (.c (.int .i64 Qk)))]) (λs=>match s with|(Rj,Qk)=>[.box [.c (.lst (O7.kinds.map (λx=>[AC.int .i64 x]))),.c (.lst (O7.rows.map (λx=>[AC.lst (x.map cV)])))],.box [.c (.lst (O4.kinds.map (λx=>[AC.int .i64 x]))),.c (.lst (O4.rows.map (λx=>[AC.lst (x.map cV)])))],.box [.emp,.emp],.box [.c (.lst (O7.kinds.map (λx=>[AC.int .i64 x]))),.own (Rj.map (λx=>[AC.lst (x.map cV)])) 4],.spare Rj.length 1]) H (λ_=>aia _)
  (fm_ bg [] rfl aQ bq) ?_
 rintro⟨Rj,Qk⟩ Qr OZ Po;unfold jS at OZ;dsimp only at OZ ⊢;obtain⟨P1,OZ⟩|⟨P1,OZ⟩:=ae OZ
 .obtain⟨QG,Tu,i2,SR,OZ⟩:=aw (f:=(λx=>[AC.lst (x.map cV)])) OZ
  obtain⟨Rf,Ud,i3,TK,OZ⟩:=aw (f:=(λx=>[AC.int .i64 x])) OZ;obtain⟨Qs,VC,i4,U7,OZ⟩:=aw (f:=(λx=>[AC.int .i64 x])) OZ;obtain⟨QN,c5,OZ⟩:=bd_ OZ;replace c5:=ut c5
  cases OZ;refine xu ?_;exact⟨_,rfl,fm_ bg [] dU aQ bq⟩
 cases OZ;have O0:nS O7 (.inl (Rj,Qk))=some _:=Po;unfold nS at O0;dsimp only at O0
 cases O0;exact Iw
def lG (Ph:(List (List Val))×(List Int)×(List Int)):((List (List Val))×Int)->Option (Step ((List (List Val))×Int) (aJ)):=λs=>match s with
 |(Rj,Qk)=>bif Qk<(Ph.1.length:Int)then(al Ph.1 Qk).bind λQG=>(al Ph.2.1 Qk).bind λRf=>(al Ph.2.2 Qk).bind λQs=>(kp Rj QG (pe Rf Qs)).bind λQN=>some (.next (QN,(i64.wrap (Qk+(1:Int)))))else
 some (.exit (Rj,Qk))
def qu (O7:aJ):Sum ((List (List Val))×Int) (aJ)->Option ((aJ))
 |.inl (Rj,Qk)=>some (⟨O7.kinds,Rj⟩:aJ)
 |.inr q=>some q
def mG (O7:aJ)(O4:aJ):Option (aJ):=(kr O7.rows O4.rows).bind λPh=>(af (lG Ph) fuel ([],(0:Int))).bind (qu O7)
theorem yW {p q:Prop}(k:q)(h:Bx q->p:=by
 intro hq
 repeat' (first|refine tk_ 4 rfl rfl rfl rfl rfl ?_|refine p_ rfl rfl rfl rfl rfl ?_|refine st_nil ?_|refine x_ rfl rfl rfl rfl rfl rfl rfl rfl ?_|refine l_ rfl rfl rfl rfl ?_|refine s_ rfl rfl rfl ?_|refine t_ rfl rfl rfl rfl ?_|refine k_ rfl rfl rfl ?_|refine k0_ rfl rfl ?_|refine c_ rfl rfl rfl rfl ?_|refine pick_t rfl rfl rfl rfl rfl rfl rfl ?_|refine pick_f rfl rfl rfl rfl rfl rfl rfl ?_|refine aw_seq ?_|refine aw_region nz _ rfl ?_|refine aw_drawn2 rD _ rfl mixed (by decide +kernel) ?_|refine aw_condT rfl ?_|refine aw_condF rfl ?_|refine aw_block ?_|refine aw_exit ?_|refine aw_ret ?_|refine aw_skip ?_|rw[ah3]|rw[mn_norm]|rw[mx_norm])
 exact hq.out):p:=h ⟨k⟩
theorem Jy {p:Prop}(h:p:=by
 repeat' (first|refine tk_ 4 rfl rfl rfl rfl rfl ?_|refine p_ rfl rfl rfl rfl rfl ?_|refine st_nil ?_|refine x_ rfl rfl rfl rfl rfl rfl rfl rfl ?_|refine l_ rfl rfl rfl rfl ?_|refine s_ rfl rfl rfl ?_|refine t_ rfl rfl rfl rfl ?_|refine k_ rfl rfl rfl ?_|refine k0_ rfl rfl ?_|refine c_ rfl rfl rfl rfl ?_|refine pick_t rfl rfl rfl rfl rfl rfl rfl ?_|refine pick_f rfl rfl rfl rfl rfl rfl rfl ?_|refine aw_seq ?_|refine aw_region nz _ rfl ?_|refine aw_drawn2 rD _ rfl mixed (by decide +kernel) ?_|refine aw_condT rfl ?_|refine aw_condF rfl ?_|refine aw_block ?_|refine aw_exit ?_|refine aw_ret ?_|refine aw_skip ?_|rw[ah3]|rw[mn_norm]|rw[mx_norm])
 refine az (aE rfl ?_ ?_)
 .repeat' (first|exact t7|rfl|exact ah1 rfl|omega|apply And.intro)
 .first|rfl|(simp only[ah4,ah2,ah6,ahW]<;>rfl)):p:=h
theorem HY {O7:aJ}{O4:aJ}{r:aJ}(H:mG O7 O4=some r):PTz 138 [.agg (bn O7),.agg (bn O4)] (.val (.agg (bn r))):=by
 unfold mG at H;refine pa_ nz func138 rfl rfl ntmps138 m5 ?_;simp only[argT,PV.av,ah2,ah6];obtain⟨Ph,c1,H⟩:=bd_ H;replace c1:=uz c1;refine yW ?_;refine gK 3 1 1 rfl rfl ?_;refine alM_ (λs:(List (List Val))×Int=>match s with|(Rj,Qk)=>[(4,.one (.ptr 2 0)),(5,.one (.ptr 3 0)),(6,.one (.c (.lst (Ph.1.map (λx=>[AC.lst (x.map cV)]))))),(7,.one (.c (.lst (Ph.2.1.map (λx=>[AC.int .i64 x]))))),(8,.one (.c (.lst (Ph.2.2.map (λx=>[AC.int .i64 x]))))),(9,.one (.c (.int .i64 Qk)))]) (λs=>match s with|(Rj,Qk)=>[.box [.c (.lst (O7.kinds.map (λx=>[AC.int .i64 x]))),.c (.lst (O7.rows.map (λx=>[AC.lst (x.map cV)])))],.box [.c (.lst (O4.kinds.map (λx=>[AC.int .i64 x]))),.c (.lst (O4.rows.map (λx=>[AC.lst (x.map cV)])))],.box [.emp,.emp],.box [.c (.lst (O7.kinds.map (λx=>[AC.int .i64 x]))),.own (Rj.map (λx=>[AC.lst (x.map cV)])) 4],.spare Rj.length 1]) H (λ_=>aia _)
  (fm_ bg [] rfl aQ bq) ?_
 rintro⟨Rj,Qk⟩ Qr OZ Po;unfold lG at OZ;dsimp only at OZ ⊢;obtain⟨P1,OZ⟩|⟨P1,OZ⟩:=ae OZ
 .obtain⟨QG,Tu,i2,SR,OZ⟩:=aw (f:=(λx=>[AC.lst (x.map cV)])) OZ
  obtain⟨Rf,Ud,i3,TK,OZ⟩:=aw (f:=(λx=>[AC.int .i64 x])) OZ;obtain⟨Qs,VC,i4,U7,OZ⟩:=aw (f:=(λx=>[AC.int .i64 x])) OZ;obtain⟨QN,c5,OZ⟩:=bd_ OZ;replace c5:=ut c5
  cases OZ;refine yW ?_;exact⟨_,rfl,fm_ bg [] dU aQ bq⟩
 cases OZ;have O0:qu O7 (.inl (Rj,Qk))=some _:=Po;unfold qu at O0;dsimp only at O0
 cases O0;exact Jy
end
def kz (l:List Nat):List Int:=l.map λ(n:Nat)=>(n:Int)
theorem qc {l:List Nat}{i n:Nat}(h:l[i]?=some n):(kz l)[i]?=some ((n:Nat):Int):=by unfold kz;rw[aic,h];rfl
theorem sC {l:List (List Val)}(h:RK l):iT l=some (b6 none (aH l),kz (iA (aH l))):=by
 unfold iT;rw[ahV h.len,aiB.2 λr hr=>ahV (h.big r hr)];rfl
theorem sG {α:Type}(p:α->Bool):∀ l:List α,l.dropWhile p=l.drop (l.takeWhile p).length
 |[]=>rfl
 |x::l=>by
  by_cases hx:p x=true
  .rw[List.dropWhile_cons_of_pos hx,List.takeWhile_cons_of_pos hx,aib,List.drop_succ_cons];exact sG p l
  .rw[List.dropWhile_cons_of_neg hx,List.takeWhile_cons_of_neg hx];rfl
theorem ua {R O:List (List Val)}{m1 m2:List Int}{i:Nat}{r:List Val}(hri:R[i]?=some r)(hr:r.length<=1000000)(hO:∀ x∈O,x.length<=1000000)(XK:O.length<=1000):∀ (n k:Nat),k<=O.length->O.length-k<n ->
  af (ew (R,m1) (O,m2) (i:Int)) n (k:Int)=some (.inl ((k+((O.drop k).takeWhile λx=>decide (aX x r<0)).length:Nat):Int))
 |0,k,_,h=>by omega
 |n+1,k,hk,hn=>by
  rw[af];by_cases O8:k<O.length
  .obtain⟨x,hx⟩:=gol_ O8
   have ex:=(ahR.1 hx).2;have hb:ew (R,m1) (O,m2) (i:Int) (k:Int)=bif decide (aX x r<0)then some (.next ((k+1:Nat):Int))else some (.exit (k:Int)):=by
    unfold ew;dsimp only;rw[aG hx,ahT,gn_ hx,ahQ,gn_ hri,ahQ,ni x r (by have:=hO x (ahX hx);omega) m0,ahQ,wrapN m0]
   rw[hb,ail O8,ex];by_cases hc:aX x r<0
   .rw[ahV hc,List.takeWhile_cons_of_pos (p:=λx=>decide (aX x r<0)) (a:=x) (by simpa using hc),aib]
    show af _ n _=_;rw[ua hri hr hO XK n (k+1) m0 m0];congr 3;omega
   .rw[ahU hc,List.takeWhile_cons_of_neg (p:=λx=>decide (aX x r<0)) (a:=x) (by simpa using hc)]
    rfl
  .have:k=O.length:=m0
   subst this;have hb:ew (R,m1) (O,m2) (i:Int) (O.length:Int)=some (.exit (O.length:Int)):=by
    unfold ew;dsimp only;rw[lF_,ahS]
   rw[hb,aiG];rfl
theorem vz {R O:List (List Val)}{m1:List Int}{M:List Nat}(hM:M.length=O.length)(hR:∀ x∈R,x.length<=1000000)(hO:∀ x∈O,x.length<=1000000)(XK:O.length<=1000)(hRl:R.length<=1000):∀ (n i k:Nat) (s:List Nat),s.length=i->i<=R.length->k<=O.length->R.length-i<n ->
  (af (eg (R,m1) (O,kz M)) n (kz s,(k:Int),(i:Int))).bind (jZ (R,m1))=some (R,m1,kz (s++C4 (R.drop i) ((O.zip M).drop k)))
 |0,i,k,s,_,_,_,h=>by omega
 |n+1,i,k,s,hs,hi,hk,hn=>by
  rw[af];by_cases O8:i<R.length
  .obtain⟨r,hx⟩:=gol_ O8
   have ex:=(ahR.1 hx).2;have hzl:(O.zip M).length=O.length:=by rw[List.length_zip];omega
   have hmap:∀ k,((O.zip M).drop k).map (·.1)=O.drop k:=λk=>by
    rw[List.map_drop];congr 1;exact List.map_fst_zip m0
   have htw:∀ (l:List (List Val×Nat)),(l.takeWhile λp=>decide (aX p.1 r<0)).length=((l.map (·.1)).takeWhile λx=>decide (aX x r<0)).length:=λl=>by
    induction l with
    |nil=>rfl
    |cons y l ih =>
     rw[ah2];by_cases h:aX y.1 r<0
     .rw[List.takeWhile_cons_of_pos (p:=λp:List Val×Nat=>decide (aX p.1 r<0)) (a:=y) (by simpa using h),List.takeWhile_cons_of_pos (p:=λx=>decide (aX x r<0)) (a:=y.1) (by simpa using h),aib,aib,ih]
     .rw[List.takeWhile_cons_of_neg (p:=λp:List Val×Nat=>decide (aX p.1 r<0)) (a:=y) (by simpa using h),List.takeWhile_cons_of_neg (p:=λx=>decide (aX x r<0)) (a:=y.1) (by simpa using h)];rfl
   rw[ail O8,ex];unfold C4;rw[sG,htw,hmap k,List.drop_drop];have SI:=ua (m1:=m1) (m2:=kz M) hx (hR r (ahX hx)) hO XK fuel k hk (by unfold fuel;omega);have T_:k+((O.drop k).takeWhile λx=>decide (aX x r<0)).length<=O.length:=by
    have:=(List.takeWhile_sublist (l:=O.drop k) λx=>decide (aX x r<0)).length_le;rw[List.length_drop]at this;omega
   generalize k+((O.drop k).takeWhile λx=>decide (aX x r<0)).length=k2 at SI T_;have VY:(kz s).length=i:=by unfold kz;rw[ah3];exact hs
   have hb:eg (R,m1) (O,kz M) (kz s,(k:Int),(i:Int))=some (.next (kz (s++[match (O.zip M).drop k2 with|p::_=>if p.1=r then p.2 else 0|[]=>0]),((k2:Nat):Int),((i+1:Nat):Int))):=by
    unfold eg;dsimp only;rw[aG hx,ahT,SI,ahQ];unfold fH;dsimp only;rw[wrapN m0,VY,ahV (show i+1<=17592186044416 by omega)];by_cases h2:k2<O.length
    .obtain⟨x,Px⟩:=gol_ h2
     obtain⟨c,hc⟩:=gol_ (l:=M) (i:=k2) m0;have hz:(O.zip M)[k2]?=some (x,c):=by rw[List.getElem?_zip_eq_some];exact⟨Px,hc⟩
     have ez:=(ahR.1 hz).2;rw[aG Px,ahT,gn_ Px,ahQ,gn_ hx,ahQ,lO x r (hO x (ahX Px)) (hR r (ahX hx)),ahQ,gn_ (qc hc),ahQ,ail (show k2<(O.zip M).length by omega),ez];by_cases he:x=r
     .subst he
      simp[kz]
     .rw[ahU he]
      simp[kz,he]
    .have:k2=O.length:=m0
     subst this;rw[lF_,List.drop_eq_nil_of_le m0];simp[kz]
   rw[hb];show(af _ n _).bind _=_;rw[vz hM hR hO XK hRl n (i+1) k2 _ (by rw[ahZ,hs];rfl) m0 T_ m0,aig];rfl
  .have:i=R.length:=m0
   subst this;have hb:eg (R,m1) (O,kz M) (kz s,(k:Int),(R.length:Int))=some (.exit (kz s,(k:Int),(R.length:Int))):=by
    unfold eg;dsimp only;rw[lF_,ahS]
   rw[hb,aiG];show some (R,m1,kz s)=_;unfold C4;rw[aio]
theorem v6 {l:List (List Val)}(h:RK l):RK (b6 none (aH l)):=h.of (by have:=wt (aH l) none;have:=h.sort.len;omega) λr hr=>(Af l r).1 hr
theorem Ey (l:List (List Val)):iA (aH l)=(b6 none (aH l)).map λr=>l.count r:=by
 unfold iA;exact List.map_congr_left λr _=>dF l r
theorem ud {a b:List (List Val)}(ha:RK a)(hb:RK b):kr a b=some (b6 none (aH a),kz ((b6 none (aH a)).map λr=>a.count r),kz ((b6 none (aH a)).map λr=>b.count r)):=by
 have h1:=(v6 ha).len;have h2:=(v6 hb).len;have Tj:(iA (aH b)).length=(b6 none (aH b)).length:=ah3 _;unfold kr;rw[sC ha,ahQ,sC hb,ahQ];have:=vz (m1:=kz (iA (aH a))) Tj (v6 ha).big (v6 hb).big m0 m0 fuel 0 0 [] rfl (aia _) (aia _) (by unfold fuel;omega);rw[show(kz [],((0:Nat):Int),((0:Nat):Int))=(([],(0:Int),(0:Int)):List Int×Int×Int)from rfl]at this;rw[this,ahW,List.drop_zero,List.drop_zero,Ey a];have Zu:((b6 none (aH b)).zip (iA (aH b))).map (·.1)=b6 none (aH b):=List.map_fst_zip m0;rw[Hz (λr=>b.count r) _ _ (lh a) (by rw[Zu];exact lh b) (λp hp=>?_),Zu]
 .congr 4
  refine List.map_congr_left λr _=>?_
  split
  .rfl
  .rename_i h
   rw[Af]at h;exact(List.count_eq_zero.2 h).symm
 .obtain⟨i,hi⟩:=List.mem_iff_getElem?.1 hp
  rw[List.getElem?_zip_eq_some]at hi;obtain⟨h3,h4⟩:=hi;rw[Ey,aic,h3]at h4;exact(aim h4).symm
theorem vk {l:List (List Val)}{row:List Val}{n:Int}(h:l.length+n.toNat<=1000000):kp l row n=some (l++replicate n.toNat row):=by
 unfold kp;rw[ahV h];rfl
theorem Lc {a:List (List Val)}(ha:RK a){n:List Val->Nat}{x:List (List Val)}(h:aH x=tl n (b6 none (aH a)))(hx:RK x):RK (tl n (b6 none (aH a))):=by rw[<- h];exact hx.sort
theorem Fa {a b:aJ}(ha:RK a.rows)(hb:RK b.rows):ko a b=some ⟨a.kinds,aH (gY (λr=>b.rows.count r) a.rows).2⟩:=by
 have hR:=(v6 ha).len;have hrk:=Lc ha (zg a.rows b.rows) (ha.split _).2;have S_:=hrk.len;have Vq:=ha.len;have X4:=hb.len;unfold ko;rw[ud ha hb,ahQ,bX (l:=b6 none (aH a.rows)) (λr=>replicate (a.rows.count r-b.rows.count r) r) 1000000 ?_ ?_ (by unfold fuel;omega) [] (by simp only[tl]at S_;simp only[aik];omega)]
 .rw[ahQ,ahW,zg];rfl
 .intro s i x hx hs
  have hi:=(ahR.1 hx).1;have h1:((b6 none (aH a.rows)).map λr=>a.rows.count r)[i]?=some (a.rows.count x):=by rw[aic,hx];rfl
  have h2:((b6 none (aH a.rows)).map λr=>b.rows.count r)[i]?=some (b.rows.count x):=by rw[aic,hx];rfl
  have c1:=List.count_le_length (a:=x) (l:=a.rows);have c2:=List.count_le_length (a:=x) (l:=b.rows);have hn:(((a.rows.count x:Nat):Int)-((b.rows.count x:Nat):Int)).toNat=a.rows.count x-b.rows.count x:=m0
  rw[List.length_replicate]at hs;unfold jS;dsimp only;rw[aG hx,ahT,gn_ hx,ahQ,gn_ (qc h1),ahQ,gn_ (qc h2),ahQ,aV m0,vk (by rw[hn];exact hs),ahQ,wrapN m0,hn]
 .intro s
  unfold jS;dsimp only;rw[lF_,ahS]
theorem H0 {a b:aJ}(ha:RK a.rows)(hb:RK b.rows):mG a b=some ⟨a.kinds,aH (gY (λr=>b.rows.count r) a.rows).1⟩:=by
 have hR:=(v6 ha).len;have hrk:=Lc ha (D7 a.rows b.rows) (ha.split _).1;have S_:=hrk.len;have Vq:=ha.len;have X4:=hb.len;unfold mG;rw[ud ha hb,ahQ,bX (l:=b6 none (aH a.rows)) (λr=>replicate (min (a.rows.count r) (b.rows.count r)) r) 1000000 ?_ ?_ (by unfold fuel;omega) [] (by simp only[tl]at S_;simp only[aik];omega)]
 .rw[ahQ,ahW,D7];rfl
 .intro s i x hx hs
  have hi:=(ahR.1 hx).1;have h1:((b6 none (aH a.rows)).map λr=>a.rows.count r)[i]?=some (a.rows.count x):=by rw[aic,hx];rfl
  have h2:((b6 none (aH a.rows)).map λr=>b.rows.count r)[i]?=some (b.rows.count x):=by rw[aic,hx];rfl
  have hn:(pe ((a.rows.count x:Nat):Int) ((b.rows.count x:Nat):Int)).toNat=min (a.rows.count x) (b.rows.count x):=by unfold pe;split<;>omega
  rw[List.length_replicate]at hs;unfold lG;dsimp only;rw[aG hx,ahT,gn_ hx,ahQ,gn_ (qc h1),ahQ,gn_ (qc h2),ahQ,vk (by rw[hn];exact hs),ahQ,wrapN m0,hn]
 .intro s
  unfold lG;dsimp only;rw[lF_,ahS]
