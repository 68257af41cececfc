/- Parts. No condition. -/
import Derived.Test.YtnbnpnmkgemdeaaGreatDoorKAX
set_option maxHeartbeats 8000000
set_option maxRecDepth 100000
set_option linter.unusedSimpArgs false
set_option linter.unusedVariables false
namespace Go.Proofs.YtnbnpnmkgemdeaaGreatDoor
open Go.RowKit Go.MapKept Tryz
def afR:TI :={ xK with dyn:=true,owns:=λf=>f==165||xK.owns f }
theorem aW:TIok prog afR:=⟨ax.size,ax.agg,ax.elem,ax.field,ax.zero,ax.bytes,ax.kind,ax.struct,ax.zok,ax.eqs⟩
theorem aaN (r:List Val)(l:List Int)(hr:r.length<=1000000)(hl:l.length<=1000000):RTz 165 [] [.one (.c (bD r)),.one (.c (be l))] [.spare l.length 3] (.one (.own ((a_ r l).map cV) 0)):=by
 refine bB ax func165 rfl rfl ntmps165 m5 ?_;simp only[gp];obtain⟨n,hn⟩:∃ n,l.length=n:=⟨_,rfl⟩;have SE:(((l.map λx=>[AC.int .i64 x]).length:Nat):Int)=n:=by simp[hn]
 repeat' (first|(refine bQ rfl rfl rfl rfl rfl (ju ax (k:=3) (by_:=32) rfl rfl rfl rfl rfl rfl m9 m0 (by rw[SE];omega) (by rw[SE];omega)) ?_)|refine gv_ ax ar ?_|refine gi_ (λhb=>?_) (λhb=>?_)<;>try exact(fx_ hb).elim|fail)
 refine b7 (λi:Nat=>[(0,.one (.c (bD r))),(5,.one (.own ((a_ r (l.take i)).map cV) 0)),(11,.one (.c (be l))),(12,.one (.c (.int .i64 n))),(13,.one (.c (.int .i64 i)))]) (λi=>[.spare i 3]) (λi=>i<=n) (λi=>n-i) 0 m0 (λ_ _=>aia _)
  (fm_ ⟨rfl,rfl,rfl,aL SE,rfl,t7⟩ [] rfl ⟨t7,by show 0<1;omega,t7,t7,t7,t7⟩ ⟨t7,t7⟩) ?_
 intro i hi;by_cases O8:i<n
 .obtain⟨x,hx⟩:=gol_ (show i<l.length by omega)
  have hlen:((a_ r (l.take i)).map cV).length=i:=by simp[a_];omega
  have QR:(a_ r (l.take (i+1))).map cV=(a_ r (l.take i)).map cV++[cV (E4 r x)]:=by rw[bG hx];simp[a_]
  repeat' (first|(refine aO rfl rfl rfl rfl rfl rfl rfl rfl (aU hx) ?_ ?_;· exact⟨m0,rfl⟩)|refine au rfl rfl rfl rfl (K8 r x hr) rfl ?_|refine gv_ ax ar ?_|refine gi_ (λhb=>?_) (λhb=>?_)<;>try exact(fx_ hb).elim|(refine st_pop rfl rfl rfl rfl ?_ ?_;· (repeat' (first|exact t7|rfl|exact ah1 rfl|omega|(intro e he;simp at he;subst he;rfl)|exact hlen|(show(_+1)*32<=_;omega)|(show _+1<=_;omega)|apply And.intro)))|(refine st_lop rfl rfl rfl rfl ?_ ?_;· (repeat' (first|exact t7|rfl|exact ah1 rfl|omega|(intro e he;simp at he;subst he;rfl)|exact hlen|(show(_+1)*32<=_;omega)|(show _+1<=_;omega)|apply And.intro)))|(refine sS_ rfl rfl rfl ?_ ?_;· (repeat' (first|exact t7|rfl|exact ah1 rfl|omega|(intro e he;simp at he;subst he;rfl)|exact hlen|(show(_+1)*32<=_;omega)|(show _+1<=_;omega)|apply And.intro)))|(refine st_lit rfl rfl rfl rfl ?_ ?_;· (repeat' (first|exact t7|rfl|exact ah1 rfl|omega|(intro e he;simp at he;subst he;rfl)|exact hlen|(show(_+1)*32<=_;omega)|(show _+1<=_;omega)|apply And.intro)))|fail)
  exact⟨i+1,m0,m0,fm_ ⟨rfl,bY (by rw[QR];rfl),rfl,rfl,aL (a8 m0 m0),t7⟩ [] rfl ⟨t7,by show 0<1;omega,t7,t7,t7,t7⟩ ⟨t7,t7⟩⟩
 .have Rw:l.take i=l:=aiu m0
  have We:i=l.length:=m0
  rw[Rw,We]
  repeat' (first|refine gv_ ax ar ?_|refine gi_ (λhb=>?_) (λhb=>?_)<;>try exact(fx_ hb).elim|fail)
  exact⟨.inr rfl,⟨.inl ⟨4,rfl,rfl⟩,⟨[],rfl⟩,aia _,bU ⟨t7,t7⟩,by show 0<1;omega⟩⟩
theorem n9 {P:Program}{ti:TI}{ρ:Operand->Option AV}{L:List Ob}{inf:TypeInfo}(Pm:TIok P ti){t:TypeId}{E:Nat}(ht:ti.elem t=some E)(hE:E<65536)(Qf:ti.size E=some 1)(Xa:ti.zok E=true)(hz:P.info? E=some inf)(hz2:inf.zero=some (.slice none 0 0)) :
  nA P ρ L (.buildSlice t 1 #[(0,.const (.slice none 0 0))]) (.one (.sl L.length (E+65536) 0 1)) (L++[.row (E+65536) [[.emp]] 1]):=by
 intro B R γ w ev o ho hi hρ RN;obtain⟨dst,op,type,pos,after,guard⟩:=o;simp only at ho;subst ho;have hs1:inf.size=1:=by have:=Pm.size _ _ Qf;unfold dZ at this;rw[hz]at this;simpa using this
 have P4:(execOp ev { dst,op := .buildSlice t 1 #[(0,.const (.slice none 0 0))],type,pos,after,guard }).run P w = .ok (.value (.slice (some ⟨w.heap.size,0,none⟩) 1 1)) (w.alloc (.cells #[.slice none 0 0] E)):=by
  simp[execOp,Instr.buildSlice,run_underlying (lm Pm ht),sizeOf,typeInfo,program,Sem.run,hz,hs1,zeroValue,hz2,newRow,Instr.fill,RN.2,Value.cells];have e1:Array.range 1=#[0]:=rfl;rw[e1];simp
 have hm:Mv R R γ (γ++[.arr w.heap.size 1]) L (L++[.row (E+65536) [[.emp]] 1]):=Mv.push _ _ hi.len;refine⟨_,R,_,.inl ⟨_,P4,⟨rfl,rfl⟩,m5,λRl UC k2 e2=>?_⟩,?_,⟨Kept.alloc hi.bsz _,PH.sub_refl _,λ_ _ _=>rfl⟩,hm⟩
 .rw[ahY m0]at e2
  simp at e2;obtain⟨q1,q2,q3⟩:=e2;subst q1 q2 q3;exact⟨ah7 _,λ_=>⟨m5,.arr w.heap.size 1,by rw[<- hi.len];simp,.inl rfl⟩⟩
 .refine hi.push _ _ _ rfl ⟨⟨_,E,⟨di w _,by show(E:Nat)=(E+65536)%65536;omega,m0⟩,rfl,λi e j u x he hu hx=>?_⟩,m5,m0,m5,λo=>hi.none_at o⟩
  have SH:i=0:=by have:=(ahR.1 he).1;simpa using this
  subst SH;simp at he;subst he;have Zm:j=0:=by have:=(ahR.1 hx).1;simpa using this
  subst Zm;simp at hx hu;subst hx hu;exact⟨none,rfl⟩
def ed:Ob := .row (37+65536) [[.emp]] 1
def eF (g:List (List Val)):List (List AC):=g.map λr=>[bD r]
def sr:Nat->iY->List (List SV)
 |_,[]=>[]
 |i,g::r=>[.own (eF g) (5+2*i)]::sr (i+1) r
def L7:iY->List Ob
 |[]=>[]
 |g::r=>ed :: .spare g.length 1::L7 r
def Es:iY->List Ob
 |[]=>[]
 |g::r => .spare g.length 1::L7 r
theorem sd:∀ (G:iY) (k:Nat),(sr k G).length=G.length
 |[],_=>rfl
 |g::r,k=>by simp[sr,sd r]
theorem LK:∀ (G:iY) (k i:Nat) (g:List (List Val)),G[i]?=some g->(sr k G)[i]?=some [.own (eF g) (5+2*(k+i))]
 |[],_,_,_,h=>by simp at h
 |x::r,k,0,g,h=>by simp at h;subst h;rfl
 |x::r,k,i+1,g,h=>by
  have:=LK r (k+1) i g (by simpa using h);simp only[sr,List.getElem?_cons_succ];rw[this];have e:k+1+i=k+(i+1):=m0
  rw[e]
theorem LY:∀ (G:iY) (k i:Nat) (g':List (List Val)),i<G.length->(sr k G).set i [.own (eF g') (5+2*(k+i))]=sr k (G.set i g')
 |[],_,_,_,h=>by simp at h
 |x::r,k,0,g',h=>by simp[sr]
 |x::r,k,i+1,g',h=>by
  have:=LY r (k+1) i g' (by simpa using h);have e:k+1+i=k+(i+1):=m0
  rw[e]at this;simp only[sr,List.set_cons_succ,this]
theorem GU:∀ (G:iY) (k:Nat) (g:List (List Val)),sr k (G++[g])=sr k G++[[.own (eF g) (5+2*(k+G.length))]]
 |[],k,g=>rfl
 |x::r,k,g=>by
  have:=GU r (k+1) g;have e:k+1+r.length=k+(r.length+1):=m0
  rw[e]at this;simp[sr,this]
theorem DW:∀ (G:iY) (k n:Nat),4+2*(k+G.length)<=n ->∀ e∈sr k G,∀ x∈e,x.below n
 |[],_,_,_=>by intro e he;cases he
 |g::r,k,n,h=>by
  intro e he x hx;simp only[aib]at h;obtain rfl|he:=ah8.1 he
  .obtain rfl|hx:=ah8.1 hx
   .show 5+2*k<n;omega
   .cases hx
  .exact DW r (k+1) n m0 e he x hx
theorem Lh:∀ (r:iY),(L7 r).length=2*r.length
 |[]=>rfl
 |g::r=>by simp[L7,Lh r];omega
theorem Lp:∀ (r:iY) (i:Nat) (g:List (List Val)),r[i]?=some g->(L7 r)[2*i+1]?=some (.spare g.length 1)
 |[],_,_,h=>by simp at h
 |x::r,0,g,h=>by simp at h;subst h;rfl
 |x::r,i+1,g,h=>by
  have:=Lp r i g (by simpa using h);have e:2*(i+1)+1=(2*i+1)+1+1:=m0
  rw[e];simpa[L7]using this
theorem LX:∀ (r:iY) (i:Nat) (g':List (List Val)),i<r.length->(L7 r).set (2*i+1) (.spare g'.length 1)=L7 (r.set i g')
 |[],_,_,h=>by simp at h
 |x::r,0,g',h=>by simp[L7]
 |x::r,i+1,g',h=>by
  have:=LX r i g' (by simpa using h);have e:2*(i+1)+1=(2*i+1)+1+1:=m0
  rw[e];simp only[L7,List.set_cons_succ,this]
theorem H7:∀ (r:iY) (g:List (List Val)),L7 (r++[g])=L7 r++[ed,.spare g.length 1]
 |[],g=>rfl
 |x::r,g=>by simp[L7,H7 r g]
theorem LP {G:iY}(h:G≠[]):(Es G).length+1=2*G.length:=by
 cases G with
 |nil=>exact absurd rfl h
 |cons g r=>simp[Es,Lh];omega
theorem acL {G:iY}{i:Nat}{g:List (List Val)}(h:G[i]?=some g):(Es G)[2*i]?=some (.spare g.length 1):=by
 cases G with
 |nil=>simp at h
 |cons x r =>
  cases i with
  |zero=>simp at h;subst h;rfl
  |succ i =>
   have:=Lp r i g (by simpa using h);have e:2*(i+1)=(2*i+1)+1:=m0
   rw[e];simpa[Es]using this
theorem acs {G:iY}{i:Nat}(g':List (List Val))(h:i<G.length):(Es G).set (2*i) (.spare g'.length 1)=Es (G.set i g'):=by
 cases G with
 |nil=>simp at h
 |cons x r =>
  cases i with
  |zero=>simp[Es]
  |succ i =>
   have:=LX r i g' (by simpa using h);have e:2*(i+1)=(2*i+1)+1:=m0
   rw[e];simp only[Es,List.set_cons_succ,this]
theorem aaw {G:iY}(g:List (List Val))(h:G≠[]):Es (G++[g])=Es G++[ed,.spare g.length 1]:=by
 cases G with
 |nil=>exact absurd rfl h
 |cons x r=>simp[Es,H7]
theorem ca (n:Nat):ed.below n:=by
 intro e he x hx;obtain rfl|he:=ah8.1 he
 .obtain rfl|hx:=ah8.1 hx
  .trivial
  .cases hx
 .cases he
theorem D3 (n:Nat):∀ (r:iY),∀ x∈L7 r,x.below n
 |[],x,hx=>by cases hx
 |g::r,x,hx=>by
  obtain rfl|hx:=ah8.1 hx
  .exact ca n
  .obtain rfl|hx:=ah8.1 hx
   .trivial
   .exact D3 n r x hx
theorem NN (n:Nat)(G:iY):∀ x∈Es G,x.below n:=by
 cases G with
 |nil=>intro x hx;cases hx
 |cons g r =>
  intro x hx;obtain rfl|hx:=ah8.1 hx
  .trivial
  .exact D3 n r x hx
theorem Ef:∀ {n:Nat} {L:List Ob},(∀ x∈L,x.below n)->zT n L
 |_,[],_=>trivial
 |_,x::L,h=>⟨h x m5,Ef λy hy=>h y (aid _ hy)⟩
def hd3 (kk:List Int)(rows:List (List Val))(M:List (ByteArray×Int)):List Ob:=[.box [.c (be kk),.c (bA rows)],.box [.emp,.emp],.map (cE M)]
def v7 (kk:List Int)(rows:List (List Val))(M:List (ByteArray×Int))(G:iY):List Ob:=hd3 kk rows M++[ed,.row (37+65536*G.length) (sr 0 G) 1]++Es G
theorem ye {kk:List Int}{rows:List (List Val)}{M:List (ByteArray×Int)}{G:iY}(h:G≠[]):(v7 kk rows M G).length=4+2*G.length:=by
 have:=LP h;simp[v7,hd3];omega
theorem bz (n:Nat):(Ob.box [.emp,.emp]).below n:=by
 intro x hx;obtain rfl|hx:=ah8.1 hx
 .trivial
 obtain rfl|hx:=ah8.1 hx
 .trivial
 cases hx
theorem Nc {kk:List Int}{rows:List (List Val)}{M:List (ByteArray×Int)}{G:iY}{n:Nat}(hn:4+2*G.length<=n):∀ x∈v7 kk rows M G,x.below n:=by
 intro x hx;unfold v7 hd3 at hx;simp only[List.cons_append,ahW,ah8,aih,List.not_mem_nil,or_false,or_assoc]at hx;obtain rfl|rfl|rfl|rfl|rfl|hx:=hx
 .exact aR
 .exact bz n
 .exact bC n M
 .exact ca n
 .exact DW G 0 n m0
 .exact NN n G x hx
theorem KW {P:Program}{ti:TI}{N:Nat}{ds:List (Option Tmp)}{K:Tm->List Ob->Prop}{o:Oper}{rest:List Oper}{T:Tm}{L L':List Ob}{x y:Operand}{t tx E:TypeId}{es xs:List (List AC)}{i n k by_ d:Nat}{vx:AV}(hd:o.dst=some d)(hN:Nat.blt d N=true)(hg:fN ds T o.guard=some true)
  (ho:o.op = .call { callee := .builtin .append,args :=#[x,y],argTypes :=#[t,tx] }) (hx:look T x=some (.one (.own es i))) (hy:look T y=some vx) (hl:cX vx=some xs) (ht:ti.elem t=some E) (Qf:ti.size E=some k) (hb:ti.bytes E=some by_) (hL:L[i]?=some (.spare n k))
  (hφ:(ti.elem tx).isSome/\es.length=n/\(ti.zok E=true/\0<k)/\(∀ e∈xs,e.length=k)/\(n+xs.length)*by_<=140737488355328/\n+xs.length<=140737488355328) (Yx:L.set i (.spare (n+xs.length) k)=L')
  (h:aK P ti N ds K rest ((d,.one (.own (es++xs) i))::T) L'):aK P ti N ds K (o::rest) T L :=
 st_lop hd hN hg (v := .one (.own (es++xs) i)) (L':=L.set i (.spare (n+xs.length) k)) (φ:=(ti.elem tx).isSome/\k=k/\es.length=n/\(ti.zok E=true/\0<k)/\(∀ e∈xs,e.length=k)/\(n+xs.length)*by_<=140737488355328/\n+xs.length<=140737488355328)
  (by rw[ho];simp[yb,hx,hy,tq,hl,ht,Qf,hb,hL]) ⟨hφ.1,rfl,hφ.2⟩ (by rw[Yx];exact h)
noncomputable section
def rU (O5:(List pY))(O1:(List Int)):(Int)->Option (Step (Int) (Bool)):=λs=>match s with
 |i_1=>bif i_1<(O5.length:Int)then(al O5 i_1).bind λRi=>(fK Ri.row O1).bind λQQ=>bif (!QQ)then some (.ret false)else
 some (.next (IntKind.i64.wrap (i_1+(1:Int))))else
 some (.exit i_1)
def rN (O1:(List Int)):Sum (Int) (Bool)->Option ((Bool))
 |.inl i_1=>(kL O1).bind λQW=>some QW
 |.inr q=>some q
def Jz (O5:(List pY))(O1:(List Int)):Option (Bool):=(af (rU O5 O1) fuel (0:Int)).bind (rN O1)
theorem adI {O5:(List pY)}{O1:(List Int)}{r:Bool}(H:Jz O5 O1=some r):PTz 20 [.one (.lst (O5.map lu)),.one (.lst (O1.map (λx=>[AC.int .i64 x])))] (.val (.one (.bool r))):=by
 unfold Jz at H;refine po_ func20 ntmps20 ?_;refine aS ?_;refine alM_ (λs:Int=>match s with|i_1=>[(0,.one (.c (.lst (O5.map lu)))),(1,.one (.c (.lst (O1.map (λx=>[AC.int .i64 x]))))),(5,.one (.c (.int .i64 i_1)))]) (λs=>match s with|i_1=>[]) H (λ_=>aia _)
  (fm_ bg [] rfl aQ trivial) ?_
 rintro i_1 Qr OZ Po;unfold rU at OZ;dsimp only at OZ ⊢;obtain⟨PP,OZ⟩|⟨PP,OZ⟩:=ae OZ
 .obtain⟨Ri,QV,i1,QI,OZ⟩:=aw (f:=lu) OZ
  obtain⟨QQ,c2,OZ⟩:=bd_ OZ;replace c2:=Ep c2;obtain⟨Qu,OZ⟩|⟨Qu,OZ⟩:=ae OZ
  .cases OZ
   have O0:rN O1 (.inr false)=some _:=Po;unfold rN at O0;dsimp only at O0
   cases O0;exact ao
  cases OZ;refine aS ?_;exact⟨_,rfl,fm_ bg [] rfl aQ trivial⟩
 cases OZ;have O0:rN O1 (.inl i_1)=some _:=Po;unfold rN at O0;dsimp only at O0;obtain⟨QW,c3,O0⟩:=bd_ O0;replace c3:=wF c3
 cases O0;exact ao
end
noncomputable section
def n6 (O5:(List pY)):((List nB)×Int)->Option (Step ((List nB)×Int) ((List nB))):=λs=>match s with
 |(O2,i_2)=>bif i_2<(O5.length:Int)then(al O5 i_2).bind λPK=>bif O2.length+1<=3518437208883 then(some (.next ((O2++[(⟨PK.row,PK.valid⟩:nB)]),(IntKind.i64.wrap (i_2+(1:Int))))))else none else
 some (.exit (O2,i_2))
def sU:Sum ((List nB)×Int) ((List nB))->Option (((List nB)))
 |.inl (O2,i_2)=>some O2
 |.inr q=>some q
def uh (O5:(List pY)):Option ((List nB)):=(af (n6 O5) fuel ([],(0:Int))).bind (sU)
theorem KP {O5:(List pY)}{r:(List nB)}(H:uh O5=some r):PTz 17 [.one (.lst (O5.map lu))] (.val (.one (.lst (r.map oe)))):=by
 unfold uh at H;refine po_ func17 ntmps17 ?_;refine aS ?_;refine br 3 3 rfl ?_;refine alM_ (λs:(List nB)×Int=>match s with|(O2,i_2)=>[(0,.one (.c (.lst (O5.map lu)))),(3,.one (.own (O2.map oe) 0)),(4,.one (.c (.int .i64 i_2)))]) (λs=>match s with|(O2,i_2)=>[.spare O2.length 3]) H (λ_=>aia _)
  (fm_ bg [] rfl aQ bq) ?_
 rintro⟨O2,i_2⟩ Qr OZ Po;unfold n6 at OZ;dsimp only at OZ ⊢;obtain⟨PG,OZ⟩|⟨PG,OZ⟩:=ae OZ
 .obtain⟨PK,QV,i1,QI,OZ⟩:=aw (f:=lu) OZ
  obtain⟨g2,OZ⟩:=aq OZ
  cases OZ;refine aS ?_;exact⟨_,rfl,fm_ fO [] dU aQ bq⟩
 cases OZ;have O0:sU (.inl (O2,i_2))=some _:=Po;unfold sU at O0;dsimp only at O0
 cases O0;exact ao
def qz (O5:(List nB)):(Int)->Option (Step (Int) (Bool)):=λs=>match s with
 |i_2=>bif i_2<(O5.length:Int)then(al O5 i_2).bind λPK=>bif (60:Int)<(PK.row.length:Int)then some (.ret false)else
 some (.next (IntKind.i64.wrap (i_2+(1:Int))))else
 some (.exit i_2)
def pR:Sum (Int) (Bool)->Option ((Bool))
 |.inl i_2=>some true
 |.inr q=>some q
def L4 (O5:(List nB))(Pj:Int):Option (Bool):=bif Pj<(O5.length:Int)then some false else
 (af (qz O5) fuel (0:Int)).bind (pR)
theorem aaB {O5:(List nB)}{Pj:Int}{r:Bool}(H:L4 O5 Pj=some r):PTz 39 [.one (.lst (O5.map oe)),.one (.int .i64 Pj)] (.val (.one (.bool r))):=by
 unfold L4 at H;refine po_ func39 ntmps39 ?_;obtain⟨PT,H⟩|⟨PT,H⟩:=ae H
 .cases H
  exact ao
 refine aS ?_;refine alM_ (λs:Int=>match s with|i_2=>[(0,.one (.c (.lst (O5.map oe)))),(5,.one (.c (.int .i64 i_2)))]) (λs=>match s with|i_2=>[]) H (λ_=>aia _)
  (fm_ bg [] rfl aQ trivial) ?_
 rintro i_2 Qr OZ Po;unfold qz at OZ;dsimp only at OZ ⊢;obtain⟨PG,OZ⟩|⟨PG,OZ⟩:=ae OZ
 .obtain⟨PK,QV,i1,QI,OZ⟩:=aw (f:=oe) OZ
  obtain⟨Qu,OZ⟩|⟨Qu,OZ⟩:=ae OZ
  .cases OZ
   have O0:pR (.inr false)=some _:=Po;unfold pR at O0;dsimp only at O0
   cases O0;exact ao
  cases OZ;refine aS ?_;exact⟨_,rfl,fm_ bg [] rfl aQ trivial⟩
 cases OZ;have O0:pR (.inl i_2)=some _:=Po;unfold pR at O0;dsimp only at O0
 cases O0;exact ao
def JZ (O5:(List pY)):Option (Bool):=(uh O5).bind λPh=>(L4 Ph (16:Int)).bind λPW=>some PW
theorem adr {O5:(List pY)}{r:Bool}(H:JZ O5=some r):PTz 10 [.one (.lst (O5.map lu))] (.val (.one (.bool r))):=by
 unfold JZ at H;refine po_ func10 ntmps10 ?_;obtain⟨Ph,c1,H⟩:=bd_ H;replace c1:=KP c1;obtain⟨PW,c2,H⟩:=bd_ H;replace c2:=aaB c2
 cases H;exact ao
end
