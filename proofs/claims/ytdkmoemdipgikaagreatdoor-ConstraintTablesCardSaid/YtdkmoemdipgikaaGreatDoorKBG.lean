/- Parts. No condition. -/
import Derived.Test.YtdkmoemdipgikaaGreatDoorKBF
import Derived.Test.YtdkmoemdipgikaaGreatDoorKBC
set_option maxHeartbeats 8000000
set_option maxRecDepth 100000
set_option linter.unusedSimpArgs false
set_option linter.unusedVariables false
namespace Go.Proofs.YtdkmoemdipgikaaGreatDoor
open Go.RowKit Go.MapKept
def vSV (k i:Int)(nm:ByteArray):List SV:=[.c (.int .i64 k),.c (.str nm),.c (.int .i64 i),.emp,.c (.int .i64 0),.c (.int .i64 0)]
def MM (k i:Int)(nm:ByteArray)(f:aw):bD:=⟨k,nm,i,f.row,f.valid⟩
theorem ada (l:List aw)(k i:Int)(nm:ByteArray)(Fb:FuncId)(caps:List AC):RTz 36 [] [.one (.c (.lst (l.map aA))),.agg (vSV k i nm),.one (.c (.fn Fb caps))] [.box (vSV k i nm)] (.one (.clo 63 [.c (.ref [.lst (l.map aA)]),.c (.ref [.fn Fb caps]),.ptr 0 0])):=by
 refine afl (yx ae Tryz.func36 rfl rfl Tryz.ntmps36 m5 ?_);simp only[dN,vSV]
 repeat' (first|(refine cY 0 (ts:=[AC.lst (l.map aA)]) rfl rfl ?_)|(refine cY 2 (ts:=[AC.fn Fb caps]) rfl rfl ?_)|(refine bL rfl rfl rfl rfl rfl (nO rfl) ?_)|refine gw_ bw tabS_ok ?_|refine gi_ (fun hb=>?_) (fun hb=>?_)|fail)
 refine⟨.inr rfl,_,_,⟨rfl,rfl⟩,[1],.inl ⟨6,rfl,rfl⟩,rfl,m5,fun j x hx=>?_,bq ⟨?_,t7⟩,bS ⟨?_,t7⟩⟩
 ·match j,hx with
  |0,hx=>cases hx;rfl
  |j+1,hx=>simp at hx
 ·intro x hx;simp[vSV]at hx;rcases hx with rfl|rfl|rfl|rfl|rfl|rfl<;>trivial
 ·intro x hx;simp at hx;rcases hx with rfl|rfl|rfl<;>first|trivial|(show 0<1;omega)
@[reducible] def AL (vs:List bD)(v:bD):List Ob:=[.dead,.box [.own (vs.map bN) 2],.spare vs.length 6,.box ((bN v).map SV.c)]
@[reducible] def AL0 (vs:List bD)(k i:Int)(nm:ByteArray):List Ob:=[.dead,.box [.own (vs.map bN) 2],.spare vs.length 6,.box (vSV k i nm)]
def aed (v:AV)(L L':List Ob):Prop :=∃ (vs:List bD) (w:bD) (n:Nat),vs.length<=1000000/\v = .agg ((bN w).map SV.c)/\L=AL vs w++[.dead,.spare n 3]/\L'=AL (vs++[w]) w++[.dead,.spare n 3]
def kL (p:List Val->Bool)(k i:Int)(nm:ByteArray)(S:List aw):List bD:=(S.filter fun f=>p f.row).map (MM k i nm)
theorem aeJ (p:List Val->Bool)(k i:Int)(nm:ByteArray)(S:List aw)(f:aw):kL p k i nm (S++[f])=kL p k i nm S++(if p f.row then [MM k i nm f]else []):=by
 unfold kL;rw[List.filter_append,amJ];by_cases h:p f.row=true<;>simp[h]
theorem k9 (p:List Val->Bool)(k i:Int)(nm:ByteArray)(S:List aw):(kL p k i nm S).length<=S.length:=by
 unfold kL;rw[amI];exact List.length_filter_le _ _
theorem qq (vs:List bD)(v:bD):od 4 (AL vs v):=by
 refine eB fun x hx=>?_
 simp at hx;rcases hx with rfl|rfl|rfl|rfl
 ·trivial
 ·intro y hy;simp at hy;subst hy;show 2<4;omega
 ·trivial
 ·intro y hy;obtain⟨z,_,rfl⟩:=am6.1 hy;trivial
def BT (S:List aw)(Fb:FuncId)(caps:List AC)(y j:Nat):Tm:=[(0,.one (.c (.nul (.yld y)))),(2,.one (.c (.ref [.fn Fb caps]))),(3,.one (.ptr 3 0)),(8,.one (.c (.lst (S.map aA)))),(9,.one (.c (.int .i64 S.length))),(10,.one (.c (.int .i64 j)))]
theorem y7 (S:List aw)(Fb:FuncId)(caps:List AC)(y j:Nat):eF 4 (BT S Fb caps y j):=⟨t7,t7,(by show 3<4;omega),t7,t7,t7,t7⟩
theorem JO (l S:List aw)(vs0:List bD)(k i:Int)(nm:ByteArray)(Fb:FuncId)(caps:List AC)(p:List Val->Bool)(hSet:PTz 64 [.one (.lst (l.map aA))] (.val (.one (.lst (S.map aA)))))
  (hbad:∀ f∈S,PTz Fb ([.one (.lst (f.row.map cV))]++caps.map .one) (.val (.one (.bool (p f.row))))) (hS:S.length<=100000) (hvs:vs0.length<=100000) (hrow:∀ f∈S,f.row.length<=1000000)
  (y:Nat) (Φ:(Nat->Prop)->List Gh->World->Prop) (hΦ:yT 4 Φ) (hrd:RdS Tryz.prog y Φ aed) {Q:AX->Tm->List Ob->Prop} (hQ:∀ T L v,Fits T L [] (AL (vs0++kL p k i nm S) v)->Q .normal T L) :
  ∀ c,Tryz.f63.body=some c->r9 Fence.wide Tryz.prog false 32 4 Φ c Q (dN 0 [.one (.c (.nul (.yld y))),.one (.c (.ref [.lst (l.map aA)])),.one (.c (.ref [.fn Fb caps])),.one (.ptr 3 0)]) (AL0 vs0 k i nm):=by
 intro c hcb;obtain rfl:=am3 hcb;simp only[dN,AL0,vSV];refine gg hΦ (gO.normBox 3 (ts:=bN ⟨k,nm,i,[],⟨0,0⟩⟩) rfl rfl) ?_;simp only[List.set_cons_succ,List.set_cons_zero]
 repeat' (first
  |refine st_nil ?_
  |(refine st_pop rfl rfl rfl rfl ?_ ?_;· (repeat' (first|exact t7|rfl|exact amG rfl|omega|exact wideI (by intro _;rfl) _|(intro e he;simp at he;subst he;rfl)|exact amI .. |(simp only[amI];omega)|apply And.intro)))
  |(refine st_lop rfl rfl rfl rfl ?_ ?_;· (repeat' (first|exact t7|rfl|exact amG rfl|omega|exact wideI (by intro _;rfl) _|(intro e he;simp at he;subst he;rfl)|exact amI .. |(simp only[amI];omega)|apply And.intro)))
  |(refine sS_ rfl rfl rfl ?_ ?_;· (repeat' (first|exact t7|rfl|exact amG rfl|omega|exact wideI (by intro _;rfl) _|(intro e he;simp at he;subst he;rfl)|exact amI .. |(simp only[amI];omega)|apply And.intro)))
  |(refine st_lit rfl rfl rfl rfl ?_ ?_;· (repeat' (first|exact t7|rfl|exact amG rfl|omega|exact wideI (by intro _;rfl) _|(intro e he;simp at he;subst he;rfl)|exact amI .. |(simp only[amI];omega)|apply And.intro)))
  |refine st_skip rfl rfl rfl ?_
  |refine sk0_ rfl rfl ?_
  |refine aF rfl rfl rfl rfl hSet rfl ?_
  |(refine st_if rfl (fun hb=>?_) (fun hb=>?_)<;>(first|exact(fx_ hb).elim|rw[hb]))
  |refine cJ hΦ ?_
  |refine aD (id:=0) (.inl rfl) ae _ rfl rfl ?_
  |(refine b7 rfl (fun hb=>?_) (fun hb=>?_)<;>(try exact(fx_ hb).elim))
  |refine bM ?_
  |refine b6 ?_
  |refine cG ?_
  |refine b8 ?_)
 refine yy hΦ (fun s:Nat×bD=>BT S Fb caps y s.1) (fun s=>AL (vs0++kL p k i nm (S.take s.1)) s.2) (fun s=>s.1<=S.length/\s.2.kind=k/\s.2.table=nm/\s.2.index=i) (fun s=>S.length-s.1) (0,⟨k,nm,i,[],⟨0,0⟩⟩) ⟨amR _,rfl,rfl,rfl⟩ (fun _ _=>amM _)
  (fm_ ⟨rfl,rfl,rfl,rfl,aM m5,rfl,t7⟩ [] (by show _=AL (vs0++[]) _;rw[am5]) (y7 _ _ _ _ _) (qq _ _)) ?_
 rintro⟨j,v⟩ ⟨hj,hk,ht,hi⟩;obtain⟨vk,vt,vi,vr,vl⟩:=v;dsimp only at hj hk ht hi ⊢;have hk:=hk.symm;have ht:=ht.symm;have hi:=hi.symm;subst hk ht hi;have hlen:=k9 p k i nm (S.take j);rw[anm]at hlen;by_cases hlt:j<S.length
 ·obtain⟨f,hf⟩:=gol_ hlt
  have hbd:=hbad f (amC hf);have hr:=hrow f (amC hf);have hG:decide ((j:Int)<(S.length:Int))=true:=amA m0;have hnx:=aeJ p k i nm (S.take j) f;rw[<- bu hf]at hnx;have hvl:(vs0++kL p k i nm (S.take j)).length<=200000:=by rw[amE];omega
  have hap:(vs0++kL p k i nm (S.take (j+1)))=(vs0++kL p k i nm (S.take j))++(if p f.row then [MM k i nm f]else []):=by rw[hnx,amX]
  generalize vs0++kL p k i nm (S.take j)=vs at hvl hap ⊢;unfold BT
  cases hp:p f.row with
  |false =>
   rw[hp]at hbd
   repeat' (first
    |refine st_nil ?_
    |rw[hG]
    |(refine gg hΦ (gO.box 4 (ts:=aA f) rfl rfl) ?_)
    |(refine st_pop rfl rfl rfl rfl ?_ ?_;· (repeat' (first|exact t7|rfl|exact amG rfl|omega|exact wideI (by intro _;rfl) _|(intro e he;simp at he;subst he;rfl)|exact amI .. |(simp only[amI];omega)|apply And.intro)))
    |(refine aZ rfl rfl rfl rfl rfl rfl rfl rfl (aU hf) ?_ ?_;· exact⟨m0,rfl⟩)
    |(refine st_lop rfl rfl rfl rfl ?_ ?_;· (repeat' (first|exact t7|rfl|exact amG rfl|omega|exact wideI (by intro _;rfl) _|(intro e he;simp at he;subst he;rfl)|exact amI .. |(simp only[amI];omega)|apply And.intro)))
    |(refine sS_ rfl rfl rfl ?_ ?_;· (repeat' (first|exact t7|rfl|exact amG rfl|omega|exact wideI (by intro _;rfl) _|(intro e he;simp at he;subst he;rfl)|exact amI .. |(simp only[amI];omega)|apply And.intro)))
    |(refine st_lit rfl rfl rfl rfl ?_ ?_;· (repeat' (first|exact t7|rfl|exact amG rfl|omega|exact wideI (by intro _;rfl) _|(intro e he;simp at he;subst he;rfl)|exact amI .. |(simp only[amI];omega)|apply And.intro)))
    |refine st_skip rfl rfl rfl ?_
    |refine sk0_ rfl rfl ?_
    |refine aF rfl rfl rfl rfl hbd rfl ?_
    |(refine st_if rfl (fun hb=>?_) (fun hb=>?_)<;>(first|exact(fx_ hb).elim|rw[hb]))
    |refine cJ hΦ ?_
    |refine aD (id:=1) (.inl rfl) ae _ rfl rfl ?_
    |refine aD (id:=2) (.inl rfl) ae _ rfl rfl ?_
    |refine aD (id:=3) (.inl rfl) ae _ rfl rfl ?_
    |refine aD (id:=6) (.inl rfl) ae _ rfl rfl ?_
    |(refine b7 rfl (fun hb=>?_) (fun hb=>?_)<;>(try exact(fx_ hb).elim))
    |refine bM ?_
    |refine b6 ?_
    |refine cG ?_
    |refine b8 ?_)
   exact⟨(j+1,⟨k,nm,i,vr,vl⟩),⟨hlt,rfl,rfl,rfl⟩,by show S.length-(j+1)<S.length-j;omega,by rw[hp,if_neg m9,am5]at hap;rw[hap];exact fm_ ⟨rfl,rfl,rfl,rfl,rfl,aM (aS m0 m0),t7⟩ [_] rfl (y7 S Fb caps y (j+1)) (qq _ _)⟩
  |true =>
   rw[hp]at hbd
   repeat' (first
    |refine st_nil ?_
    |rw[hG]
    |(refine gg hΦ (gO.box 4 (ts:=aA f) rfl rfl) ?_)
    |(refine st_pop rfl rfl rfl rfl ?_ ?_;· (repeat' (first|exact t7|rfl|exact amG rfl|omega|exact wideI (by intro _;rfl) _|(intro e he;simp at he;subst he;rfl)|exact amI .. |(simp only[amI];omega)|apply And.intro)))
    |(refine aZ rfl rfl rfl rfl rfl rfl rfl rfl (aU hf) ?_ ?_;· exact⟨m0,rfl⟩)
    |(refine st_lop rfl rfl rfl rfl ?_ ?_;· (repeat' (first|exact t7|rfl|exact amG rfl|omega|exact wideI (by intro _;rfl) _|(intro e he;simp at he;subst he;rfl)|exact amI .. |(simp only[amI];omega)|apply And.intro)))
    |(refine sS_ rfl rfl rfl ?_ ?_;· (repeat' (first|exact t7|rfl|exact amG rfl|omega|exact wideI (by intro _;rfl) _|(intro e he;simp at he;subst he;rfl)|exact amI .. |(simp only[amI];omega)|apply And.intro)))
    |(refine st_lit rfl rfl rfl rfl ?_ ?_;· (repeat' (first|exact t7|rfl|exact amG rfl|omega|exact wideI (by intro _;rfl) _|(intro e he;simp at he;subst he;rfl)|exact amI .. |(simp only[amI];omega)|apply And.intro)))
    |refine st_skip rfl rfl rfl ?_
    |refine sk0_ rfl rfl ?_
    |refine aF rfl rfl rfl rfl hbd rfl ?_
    |(refine st_if rfl (fun hb=>?_) (fun hb=>?_)<;>(first|exact(fx_ hb).elim|rw[hb]))
    |refine cJ hΦ ?_
    |refine aD (id:=1) (.inl rfl) ae _ rfl rfl ?_
    |refine aD (id:=2) (.inl rfl) ae _ rfl rfl ?_
    |refine aD (id:=3) (.inl rfl) ae _ rfl rfl ?_
    |(refine abp (c := .region 4 _ true) ?_;refine gp [6] tabS_ok _ rfl mixed (by decide +kernel) rfl ?_)
    |(refine b7 rfl (fun hb=>?_) (fun hb=>?_)<;>(try exact(fx_ hb).elim))
    |refine bM ?_
    |refine b6 ?_
    |refine cG ?_
    |refine b8 ?_)
   refine gg hΦ (gO.normBox 3 (ts:=bN (MM k i nm f)) rfl rfl) ?_;refine Hr (id:=5) ae hΦ [_,_] _ [_] _ rfl rfl rfl rfl ?_
   repeat' (first
    |refine st_nil ?_
    |(refine st_pop rfl rfl rfl rfl ?_ ?_;· (repeat' (first|exact t7|rfl|exact amG rfl|omega|exact wideI (by intro _;rfl) _|(intro e he;simp at he;subst he;rfl)|exact amI .. |(simp only[amI];omega)|apply And.intro)))
    |(refine st_lop rfl rfl rfl rfl ?_ ?_;· (repeat' (first|exact t7|rfl|exact amG rfl|omega|exact wideI (by intro _;rfl) _|(intro e he;simp at he;subst he;rfl)|exact amI .. |(simp only[amI];omega)|apply And.intro)))
    |(refine sS_ rfl rfl rfl ?_ ?_;· (repeat' (first|exact t7|rfl|exact amG rfl|omega|exact wideI (by intro _;rfl) _|(intro e he;simp at he;subst he;rfl)|exact amI .. |(simp only[amI];omega)|apply And.intro)))
    |(refine st_lit rfl rfl rfl rfl ?_ ?_;· (repeat' (first|exact t7|rfl|exact amG rfl|omega|exact wideI (by intro _;rfl) _|(intro e he;simp at he;subst he;rfl)|exact amI .. |(simp only[amI];omega)|apply And.intro)))
    |refine st_skip rfl rfl rfl ?_
    |refine sk0_ rfl rfl ?_
    |(refine st_if rfl (fun hb=>?_) (fun hb=>?_)<;>(first|exact(fx_ hb).elim|rw[hb])))
   refine acM hrd rfl rfl rfl rfl rfl ⟨vs,MM k i nm f,(f.row.map cV).length,m0,rfl,rfl,rfl⟩ ?_
   repeat' (first
    |refine st_nil ?_
    |(refine st_pop rfl rfl rfl rfl ?_ ?_;· (repeat' (first|exact t7|rfl|exact amG rfl|omega|exact wideI (by intro _;rfl) _|(intro e he;simp at he;subst he;rfl)|exact amI .. |(simp only[amI];omega)|apply And.intro)))
    |(refine st_lop rfl rfl rfl rfl ?_ ?_;· (repeat' (first|exact t7|rfl|exact amG rfl|omega|exact wideI (by intro _;rfl) _|(intro e he;simp at he;subst he;rfl)|exact amI .. |(simp only[amI];omega)|apply And.intro)))
    |(refine sS_ rfl rfl rfl ?_ ?_;· (repeat' (first|exact t7|rfl|exact amG rfl|omega|exact wideI (by intro _;rfl) _|(intro e he;simp at he;subst he;rfl)|exact amI .. |(simp only[amI];omega)|apply And.intro)))
    |(refine st_lit rfl rfl rfl rfl ?_ ?_;· (repeat' (first|exact t7|rfl|exact amG rfl|omega|exact wideI (by intro _;rfl) _|(intro e he;simp at he;subst he;rfl)|exact amI .. |(simp only[amI];omega)|apply And.intro)))
    |refine st_skip rfl rfl rfl ?_
    |refine sk0_ rfl rfl ?_
    |(refine st_if rfl (fun hb=>?_) (fun hb=>?_)<;>(first|exact(fx_ hb).elim|rw[hb]))
    |refine cJ hΦ ?_
    |refine aD (id:=6) (.inl rfl) ae _ rfl rfl ?_
    |(refine b7 rfl (fun hb=>?_) (fun hb=>?_)<;>(try exact(fx_ hb).elim))
    |refine bM ?_
    |refine b6 ?_
    |refine cG ?_
    |refine b8 ?_)
   exact⟨(j+1,MM k i nm f),⟨hlt,rfl,rfl,rfl⟩,by show S.length-(j+1)<S.length-j;omega,by rw[hp,if_pos rfl]at hap;rw[hap];exact fm_ ⟨rfl,rfl,rfl,rfl,rfl,aM (aS m0 m0),t7⟩ [_,_] rfl (y7 S Fb caps y (j+1)) (qq _ _)⟩
 ·have hG:decide ((j:Int)<(S.length:Int))=false:=amz m0
  have htk:S.take j=S:=am_ m0;unfold BT
  repeat' (first
   |refine st_nil ?_
   |rw[hG]
   |(refine st_pop rfl rfl rfl rfl ?_ ?_;· (repeat' (first|exact t7|rfl|exact amG rfl|omega|exact wideI (by intro _;rfl) _|(intro e he;simp at he;subst he;rfl)|exact amI .. |(simp only[amI];omega)|apply And.intro)))
   |(refine st_lop rfl rfl rfl rfl ?_ ?_;· (repeat' (first|exact t7|rfl|exact amG rfl|omega|exact wideI (by intro _;rfl) _|(intro e he;simp at he;subst he;rfl)|exact amI .. |(simp only[amI];omega)|apply And.intro)))
   |(refine sS_ rfl rfl rfl ?_ ?_;· (repeat' (first|exact t7|rfl|exact amG rfl|omega|exact wideI (by intro _;rfl) _|(intro e he;simp at he;subst he;rfl)|exact amI .. |(simp only[amI];omega)|apply And.intro)))
   |(refine st_lit rfl rfl rfl rfl ?_ ?_;· (repeat' (first|exact t7|rfl|exact amG rfl|omega|exact wideI (by intro _;rfl) _|(intro e he;simp at he;subst he;rfl)|exact amI .. |(simp only[amI];omega)|apply And.intro)))
   |refine st_skip rfl rfl rfl ?_
   |refine sk0_ rfl rfl ?_
   |(refine st_if rfl (fun hb=>?_) (fun hb=>?_)<;>(first|exact(fx_ hb).elim|rw[hb]))
   |refine cJ hΦ ?_
   |refine aD (id:=1) (.inl rfl) ae _ rfl rfl ?_
   |(refine b7 rfl (fun hb=>?_) (fun hb=>?_)<;>(try exact(fx_ hb).elim))
   |refine bM ?_
   |refine b6 ?_
   |refine cG ?_
   |refine b8 ?_)
  rw[htk];exact hQ _ _ _ (fm_ trivial [] (am5 _).symm trivial (qq _ _))
def iN (g:Nat->List bD):Nat->List bD
 |0=>[]
 |i+1=>iN g i++g i
theorem zS {g:Nat->List bD}{k:Nat}(h:∀ i,(g i).length<=k):∀ n,(iN g n).length<=n*k
 |0=>by simp[iN]
 |n+1=>by
  have:=zS h n;have:=h n;rw[iN,amE,Nat.add_mul];omega
theorem Ox (vs:List bD)(w:bD):AL (vs++[w]) w=[.dead,.box [.own (vs.map bN++[bN w]) 2],.spare (vs.length+1) 6,.box ((bN w).map SV.c)]:=by simp[AL]
theorem EK {L':List Ob}{vs:List bD}{w:bD}{n:Nat}(e:L'=AL (vs++[w]) w++[.dead,.spare n 3]):od L'.length L':=by
 subst e;refine eB fun x hx=>?_
 rcases amY.1 hx with hx|hx
 ·simp at hx
  rcases hx with rfl|rfl|rfl|rfl
  ·trivial
  ·intro y hy;simp at hy;subst hy;show 2<6;omega
  ·trivial
  ·intro y hy;obtain⟨z,_,rfl⟩:=am6.1 hy;trivial
 ·simp at hx
  rcases hx with rfl|rfl<;>trivial
@[reducible] def NL (vs:List bD):List Ob:=[.dead,.box [.own (vs.map bN) 2],.spare vs.length 6]
theorem kz (vs:List bD):od 3 (NL vs):=by
 refine eB fun x hx=>?_
 simp at hx;rcases hx with rfl|rfl|rfl
 ·trivial
 ·intro y hy;simp at hy;subst hy;show 2<3;omega
 ·trivial
theorem wa {ys:List AV}{L:List Ob}(h:∀ x∈ys,x.below 0):eQ [] [] ys L:=⟨rfl,List.nodup_nil,fun i y hy=>by simp at hy,fun x hx=>(by cases hx),h⟩
theorem DY {n:Nat}(k i:Int)(nm:ByteArray):∀ x∈vSV k i nm,x.below n:=by
 intro x hx;simp[vSV]at hx;rcases hx with rfl|rfl|rfl|rfl|rfl|rfl<;>trivial
def vP (t:bv)(S:List aw)(p:Nat->List Val->Bool)(i:Nat):List bD:=match t.columns[i]? with
 |some c=>bif c.nullable then []else kL (p i) 1 i t.nm S
 |none=>[]
theorem adH (t:bv)(S:List aw)(p:Nat->List Val->Bool)(i:Nat):(vP t S p i).length<=S.length:=by
 unfold vP;split
 ·rename_i c _
  cases c.nullable
  ·exact k9 _ _ _ _ _
  ·exact amR _
 ·exact amR _
def NT (t:bv)(l:List aw)(i:Nat):Tm:=[(1,.one (.c (.lst (l.map aA)))),(2,.one (.c (.ref (bn t)))),(5,.one (.ptr 1 0)),(11,.one (.c (.lst (t.columns.map ez)))),(12,.one (.c (.int .i64 t.columns.length))),(13,.one (.c (.int .i64 i)))]
theorem An (t:bv)(l:List aw)(i:Nat):eF 3 (NT t l i):=⟨t7,t7,(by show 1<3;omega),t7,t7,t7,t7⟩
def NT1 (t:bv)(l:List aw)(i:Nat):Tm:=[(1,.one (.c (.lst (l.map aA)))),(2,.one (.c (.ref (bn t)))),(5,.one (.ptr 1 0)),(6,.one (.c (.ref [.int .i64 i]))),(8,.one (.c (.fn 35 [.ref [.int .i64 i]]))),(11,.one (.c (.lst (t.columns.map ez)))),(12,.one (.c (.int .i64 t.columns.length))),(13,.one (.c (.int .i64 i)))]
theorem aa7 (t:bv)(l:List aw)(i:Nat):eF 3 (NT1 t l i):=⟨t7,t7,(by show 1<3;omega),t7,t7,t7,t7,t7,t7⟩
theorem aa4 (t:bv)(l S:List aw)(p:Nat->List Val->Bool)(hSet:PTz 64 [.one (.lst (l.map aA))] (.val (.one (.lst (S.map aA)))))
  (hnull:∀ (i:Nat) f,f∈S->PTz 35 ([.one (.lst (f.row.map cV))]++([.ref [.int .i64 i]]:List AC).map .one) (.val (.one (.bool (p i f.row))))) (hS:S.length<=100) (hc:t.columns.length<=1000) (hrow:∀ f∈S,f.row.length<=1000000) :
  RTz 12 [] [.agg ((bn t).map SV.c),.one (.c (.lst (l.map aA)))] [.spare (iN (vP t S p) t.columns.length).length 6] (.one (.own ((iN (vP t S p) t.columns.length).map bN) 0)):=by
 have hΦ:yT 0 (fun _ _ _=>True):=ik;refine wA ae Tryz.func12 rfl rfl Tryz.ntmps12 m5 ?_;simp only[dN,bn,amH,amL]
 repeat' (first
  |refine st_nil ?_
  |(refine gg hΦ (gO.box 0 (ts:=bn t) rfl rfl) ?_)
  |(refine gg hΦ (gO.tokBox 1 0 6 rfl rfl) ?_)
  |(refine st_pop rfl rfl rfl rfl ?_ ?_;· (repeat' (first|exact t7|rfl|exact amG rfl|omega|exact wideI (by intro _;rfl) _|(intro e he;simp at he;subst he;rfl)|exact amI .. |(simp only[amI];omega)|(simp only[amS,am1];omega)|apply And.intro)))
  |(refine st_lop rfl rfl rfl rfl ?_ ?_;· (repeat' (first|exact t7|rfl|exact amG rfl|omega|exact wideI (by intro _;rfl) _|(intro e he;simp at he;subst he;rfl)|exact amI .. |(simp only[amI];omega)|(simp only[amS,am1];omega)|apply And.intro)))
  |(refine sS_ rfl rfl rfl ?_ ?_;· (repeat' (first|exact t7|rfl|exact amG rfl|omega|exact wideI (by intro _;rfl) _|(intro e he;simp at he;subst he;rfl)|exact amI .. |(simp only[amI];omega)|(simp only[amS,am1];omega)|apply And.intro)))
  |(refine st_lit rfl rfl rfl rfl ?_ ?_;· (repeat' (first|exact t7|rfl|exact amG rfl|omega|exact wideI (by intro _;rfl) _|(intro e he;simp at he;subst he;rfl)|exact amI .. |(simp only[amI];omega)|(simp only[amS,am1];omega)|apply And.intro)))
  |refine st_skip rfl rfl rfl ?_
  |refine sk0_ rfl rfl ?_
  |(refine st_if rfl (fun hb=>?_) (fun hb=>?_)<;>(first|exact(fx_ hb).elim|rw[hb]))
  |refine cJ hΦ ?_
  |refine aD (id:=0) (.inl rfl) ae _ rfl rfl ?_
  |refine aD (id:=1) (.inl rfl) ae _ rfl rfl ?_
  |refine aD (id:=2) (.inl rfl) ae _ rfl rfl ?_
  |(refine b7 rfl (fun hb=>?_) (fun hb=>?_)<;>(try exact(fx_ hb).elim))
  |refine bM ?_
  |refine b6 ?_
  |refine cG ?_
  |refine b8 ?_)
 refine yy hΦ (fun i:Nat=>NT t l i) (fun i=>NL (iN (vP t S p) i)) (fun i=>i<=t.columns.length) (fun i=>t.columns.length-i) 0 (amR _) (fun _ _=>amR _)
  (fm_ ⟨rfl,rfl,rfl,rfl,aM m5,rfl,t7⟩ [] rfl (An _ _ _) (kz _)) ?_
 intro i hi;have hlen:=zS (adH t S p) i;have hlen2:=Nat.mul_le_mul hi hS;by_cases hlt:i<t.columns.length
 ·obtain⟨c,hcx⟩:=gol_ hlt
  have hG:decide ((i:Int)<(t.columns.length:Int))=true:=amA m0;have hnx:iN (vP t S p) (i+1)=iN (vP t S p) i++(bif c.nullable then []else kL (p i) 1 i t.nm S):=by rw[iN];congr 1;unfold vP;rw[hcx]
  have hvl:(iN (vP t S p) i).length<=100000:=by
   have:i*S.length<=1000*100:=Nat.mul_le_mul m0 hS;omega
  generalize iN (vP t S p) i=vs at hvl hnx ⊢;unfold NT
  cases hn:c.nullable with
  |true =>
   rw[hn,amy,am5]at hnx
   repeat' (first
    |refine st_nil ?_
    |rw[hG]
    |rw[hn]
    |(refine gg hΦ (gO.box 3 (ts:=[AC.int .i64 i]) rfl rfl) ?_)
    |(refine gg hΦ (gO.box 4 (ts:=ez c) rfl rfl) ?_)
    |(refine st_pop rfl rfl rfl rfl ?_ ?_;· (repeat' (first|exact t7|rfl|exact amG rfl|omega|exact wideI (by intro _;rfl) _|(intro e he;simp at he;subst he;rfl)|exact amI .. |(simp only[amI];omega)|(simp only[amS,am1];omega)|apply And.intro)))
    |(refine aZ rfl rfl rfl rfl rfl rfl rfl rfl (aU hcx) ?_ ?_;· exact⟨m0,rfl⟩)
    |(refine st_lop rfl rfl rfl rfl ?_ ?_;· (repeat' (first|exact t7|rfl|exact amG rfl|omega|exact wideI (by intro _;rfl) _|(intro e he;simp at he;subst he;rfl)|exact amI .. |(simp only[amI];omega)|(simp only[amS,am1];omega)|apply And.intro)))
    |(refine sS_ rfl rfl rfl ?_ ?_;· (repeat' (first|exact t7|rfl|exact amG rfl|omega|exact wideI (by intro _;rfl) _|(intro e he;simp at he;subst he;rfl)|exact amI .. |(simp only[amI];omega)|(simp only[amS,am1];omega)|apply And.intro)))
    |(refine st_lit rfl rfl rfl rfl ?_ ?_;· (repeat' (first|exact t7|rfl|exact amG rfl|omega|exact wideI (by intro _;rfl) _|(intro e he;simp at he;subst he;rfl)|exact amI .. |(simp only[amI];omega)|(simp only[amS,am1];omega)|apply And.intro)))
    |refine st_skip rfl rfl rfl ?_
    |refine sk0_ rfl rfl ?_
    |(refine st_if rfl (fun hb=>?_) (fun hb=>?_)<;>(first|exact(fx_ hb).elim|rw[hb]))
    |refine cJ hΦ ?_
    |refine aD (id:=3) (.inl rfl) ae _ rfl rfl ?_
    |refine aD (id:=4) (.inl rfl) ae _ rfl rfl ?_
    |refine aD (id:=5) (.inl rfl) ae _ rfl rfl ?_
    |refine aD (id:=10) (.inl rfl) ae _ rfl rfl ?_
    |(refine b7 rfl (fun hb=>?_) (fun hb=>?_)<;>(try exact(fx_ hb).elim))
    |refine bM ?_
    |refine b6 ?_
    |refine cG ?_
    |refine b8 ?_)
   exact⟨i+1,hlt,by show t.columns.length-(i+1)<t.columns.length-i;omega,by rw[hnx];exact fm_ ⟨rfl,rfl,rfl,rfl,rfl,aM (aS m0 m0),t7⟩ [_,_] rfl (An _ _ _) (kz _)⟩
  |false =>
   rw[hn,amx]at hnx
   repeat' (first
    |refine st_nil ?_
    |rw[hG]
    |rw[hn]
    |(refine gg hΦ (gO.box 3 (ts:=[AC.int .i64 i]) rfl rfl) ?_)
    |(refine gg hΦ (gO.box 4 (ts:=ez c) rfl rfl) ?_)
    |(refine st_pop rfl rfl rfl rfl ?_ ?_;· (repeat' (first|exact t7|rfl|exact amG rfl|omega|exact wideI (by intro _;rfl) _|(intro e he;simp at he;subst he;rfl)|exact amI .. |(simp only[amI];omega)|(simp only[amS,am1];omega)|apply And.intro)))
    |(refine aZ rfl rfl rfl rfl rfl rfl rfl rfl (aU hcx) ?_ ?_;· exact⟨m0,rfl⟩)
    |(refine st_lop rfl rfl rfl rfl ?_ ?_;· (repeat' (first|exact t7|rfl|exact amG rfl|omega|exact wideI (by intro _;rfl) _|(intro e he;simp at he;subst he;rfl)|exact amI .. |(simp only[amI];omega)|(simp only[amS,am1];omega)|apply And.intro)))
    |(refine sS_ rfl rfl rfl ?_ ?_;· (repeat' (first|exact t7|rfl|exact amG rfl|omega|exact wideI (by intro _;rfl) _|(intro e he;simp at he;subst he;rfl)|exact amI .. |(simp only[amI];omega)|(simp only[amS,am1];omega)|apply And.intro)))
    |(refine st_lit rfl rfl rfl rfl ?_ ?_;· (repeat' (first|exact t7|rfl|exact amG rfl|omega|exact wideI (by intro _;rfl) _|(intro e he;simp at he;subst he;rfl)|exact amI .. |(simp only[amI];omega)|(simp only[amS,am1];omega)|apply And.intro)))
    |refine st_skip rfl rfl rfl ?_
    |refine sk0_ rfl rfl ?_
    |(refine st_if rfl (fun hb=>?_) (fun hb=>?_)<;>(first|exact(fx_ hb).elim|rw[hb]))
    |refine cJ hΦ ?_
    |refine aD (id:=3) (.inl rfl) ae _ rfl rfl ?_
    |refine aD (id:=4) (.inl rfl) ae _ rfl rfl ?_
    |refine aD (id:=5) (.inl rfl) ae _ rfl rfl ?_
    |refine aD (id:=6) (.inl rfl) ae _ rfl rfl ?_
    |(refine b7 rfl (fun hb=>?_) (fun hb=>?_)<;>(try exact(fx_ hb).elim))
    |refine bM ?_
    |refine b6 ?_
    |refine cG ?_
    |refine b8 ?_)
   refine gg hΦ (gO.fit (T':=NT1 t l i) (L':=NL vs) (amR _) (fm_ ⟨rfl,rfl,rfl,rfl,rfl,rfl,rfl,rfl,t7⟩ [_,_] rfl (aa7 _ _ _) (kz _))) ?_;unfold NT1
   repeat' (first
    |refine st_nil ?_
    |(refine st_pop rfl rfl rfl rfl ?_ ?_;· (repeat' (first|exact t7|rfl|exact amG rfl|omega|exact wideI (by intro _;rfl) _|(intro e he;simp at he;subst he;rfl)|exact amI .. |(simp only[amI];omega)|(simp only[amS,am1];omega)|apply And.intro)))
    |(refine st_lop rfl rfl rfl rfl ?_ ?_;· (repeat' (first|exact t7|rfl|exact amG rfl|omega|exact wideI (by intro _;rfl) _|(intro e he;simp at he;subst he;rfl)|exact amI .. |(simp only[amI];omega)|(simp only[amS,am1];omega)|apply And.intro)))
    |(refine sS_ rfl rfl rfl ?_ ?_;· (repeat' (first|exact t7|rfl|exact amG rfl|omega|exact wideI (by intro _;rfl) _|(intro e he;simp at he;subst he;rfl)|exact amI .. |(simp only[amI];omega)|(simp only[amS,am1];omega)|apply And.intro)))
    |(refine st_lit rfl rfl rfl rfl ?_ ?_;· (repeat' (first|exact t7|rfl|exact amG rfl|omega|exact wideI (by intro _;rfl) _|(intro e he;simp at he;subst he;rfl)|exact amI .. |(simp only[amI];omega)|(simp only[amS,am1];omega)|apply And.intro)))
    |refine st_skip rfl rfl rfl ?_
    |refine sk0_ rfl rfl ?_
    |(refine cB [] rfl rfl rfl rfl (ada l 1 i t.nm 35 [.ref [.int .i64 i]]) rfl (wa (bS ⟨t7,DY _ _ _,t7,t7⟩)) rfl rfl ?_)
    |(refine st_if rfl (fun hb=>?_) (fun hb=>?_)<;>(first|exact(fx_ hb).elim|rw[hb]))
    |refine cJ hΦ ?_
    |refine aD (id:=7) (.inl rfl) ae _ rfl rfl ?_
    |(refine b7 rfl (fun hb=>?_) (fun hb=>?_)<;>(try exact(fx_ hb).elim))
    |refine bM ?_
    |refine b6 ?_
    |refine cG ?_
    |refine b8 ?_)
   refine BC (rel:=aed) (A':=fun v=>AL (vs++kL (p i) 1 i t.nm S) v) [(5,.one (.ptr 1 0))] rfl Tryz.func63 rfl rfl rfl rfl rfl ?_ ?_ (fun _=>amM _) ?_ ?_
   ·intro q hq;simp at hq;subst hq;exact⟨rfl,1,0,rfl⟩
   ·rintro y v L L' ⟨vs,w,n,hvs,rfl,rfl,rfl⟩
    have hb6:=EK (vs:=vs) (w:=w) (n:=n) rfl;rw[Ox]at hb6 ⊢;refine⟨amM _,?_⟩;unfold AL
    repeat' (first
     |refine st_nil ?_
     |(refine st_pop rfl rfl rfl rfl ?_ ?_;· (repeat' (first|exact t7|rfl|exact amG rfl|omega|exact wideI (by intro _;rfl) _|(intro e he;simp at he;subst he;rfl)|exact amI .. |(simp only[amI];omega)|(simp only[amS,am1];omega)|apply And.intro)))
     |(refine st_lop rfl rfl rfl rfl ?_ ?_;· (repeat' (first|exact t7|rfl|exact amG rfl|omega|exact wideI (by intro _;rfl) _|(intro e he;simp at he;subst he;rfl)|exact amI .. |(simp only[amI];omega)|(simp only[amS,am1];omega)|apply And.intro)))
     |(refine sS_ rfl rfl rfl ?_ ?_;· (repeat' (first|exact t7|rfl|exact amG rfl|omega|exact wideI (by intro _;rfl) _|(intro e he;simp at he;subst he;rfl)|exact amI .. |(simp only[amI];omega)|(simp only[amS,am1];omega)|apply And.intro)))
     |(refine st_lit rfl rfl rfl rfl ?_ ?_;· (repeat' (first|exact t7|rfl|exact amG rfl|omega|exact wideI (by intro _;rfl) _|(intro e he;simp at he;subst he;rfl)|exact amI .. |(simp only[amI];omega)|(simp only[amS,am1];omega)|apply And.intro)))
     |refine st_skip rfl rfl rfl ?_
     |refine sk0_ rfl rfl ?_
     |(refine st_if rfl (fun hb=>?_) (fun hb=>?_)<;>(first|exact(fx_ hb).elim|rw[hb]))
     |refine cJ ik ?_
     |refine aD (id:=8) (.inr ⟨_,rfl⟩) ae _ rfl rfl ?_
     |(refine b7 rfl (fun hb=>?_) (fun hb=>?_)<;>(try exact(fx_ hb).elim))
     |refine bM ?_
     |refine b6 ?_
     |refine cG ?_
     |refine b8 ?_)
    refine⟨rfl,?_⟩
    repeat' (first
     |refine st_nil ?_
     |(refine st_pop rfl rfl rfl rfl ?_ ?_;· (repeat' (first|exact t7|rfl|exact amG rfl|omega|exact wideI (by intro _;rfl) _|(intro e he;simp at he;subst he;rfl)|exact amI .. |(simp only[amI];omega)|(simp only[amS,am1];omega)|apply And.intro)))
     |(refine st_lop rfl rfl rfl rfl ?_ ?_;· (repeat' (first|exact t7|rfl|exact amG rfl|omega|exact wideI (by intro _;rfl) _|(intro e he;simp at he;subst he;rfl)|exact amI .. |(simp only[amI];omega)|(simp only[amS,am1];omega)|apply And.intro)))
     |(refine sS_ rfl rfl rfl ?_ ?_;· (repeat' (first|exact t7|rfl|exact amG rfl|omega|exact wideI (by intro _;rfl) _|(intro e he;simp at he;subst he;rfl)|exact amI .. |(simp only[amI];omega)|(simp only[amS,am1];omega)|apply And.intro)))
     |(refine st_lit rfl rfl rfl rfl ?_ ?_;· (repeat' (first|exact t7|rfl|exact amG rfl|omega|exact wideI (by intro _;rfl) _|(intro e he;simp at he;subst he;rfl)|exact amI .. |(simp only[amI];omega)|(simp only[amS,am1];omega)|apply And.intro)))
     |refine st_skip rfl rfl rfl ?_
     |refine sk0_ rfl rfl ?_
     |(refine st_if rfl (fun hb=>?_) (fun hb=>?_)<;>(first|exact(fx_ hb).elim|rw[hb]))
     |refine cJ ik ?_
     |refine aD (id:=9) (.inr ⟨_,rfl⟩) ae _ rfl rfl ?_
     |(refine b7 rfl (fun hb=>?_) (fun hb=>?_)<;>(try exact(fx_ hb).elim))
     |refine bM ?_
     |refine b6 ?_
     |refine cG ?_
     |refine b8 ?_)
    exact⟨rfl,fm_ trivial [_] rfl t7 hb6⟩
   ·intro y Φ hΦ2 hrd
    exact JO l S vs 1 i t.nm 35 [.ref [.int .i64 i]] (p i) hSet (fun f hf=>hnull i f hf) m0 hvl hrow y Φ hΦ2 hrd (fun T L v h=>⟨.inl rfl,v,h⟩) _ rfl
   ·intro z
    repeat' (first
     |refine st_nil ?_
     |(refine st_pop rfl rfl rfl rfl ?_ ?_;· (repeat' (first|exact t7|rfl|exact amG rfl|omega|exact wideI (by intro _;rfl) _|(intro e he;simp at he;subst he;rfl)|exact amI .. |(simp only[amI];omega)|(simp only[amS,am1];omega)|apply And.intro)))
     |(refine st_lop rfl rfl rfl rfl ?_ ?_;· (repeat' (first|exact t7|rfl|exact amG rfl|omega|exact wideI (by intro _;rfl) _|(intro e he;simp at he;subst he;rfl)|exact amI .. |(simp only[amI];omega)|(simp only[amS,am1];omega)|apply And.intro)))
     |(refine sS_ rfl rfl rfl ?_ ?_;· (repeat' (first|exact t7|rfl|exact amG rfl|omega|exact wideI (by intro _;rfl) _|(intro e he;simp at he;subst he;rfl)|exact amI .. |(simp only[amI];omega)|(simp only[amS,am1];omega)|apply And.intro)))
     |(refine st_lit rfl rfl rfl rfl ?_ ?_;· (repeat' (first|exact t7|rfl|exact amG rfl|omega|exact wideI (by intro _;rfl) _|(intro e he;simp at he;subst he;rfl)|exact amI .. |(simp only[amI];omega)|(simp only[amS,am1];omega)|apply And.intro)))
     |refine st_skip rfl rfl rfl ?_
     |refine sk0_ rfl rfl ?_
     |(refine st_if rfl (fun hb=>?_) (fun hb=>?_)<;>(first|exact(fx_ hb).elim|rw[hb]))
     |refine cJ hΦ ?_
     |refine aD (id:=10) (.inl rfl) ae _ rfl rfl ?_
     |(refine b7 rfl (fun hb=>?_) (fun hb=>?_)<;>(try exact(fx_ hb).elim))
     |refine bM ?_
     |refine b6 ?_
     |refine cG ?_
     |refine b8 ?_)
    exact⟨i+1,hlt,by show t.columns.length-(i+1)<t.columns.length-i;omega,by rw[hnx];exact fm_ ⟨rfl,rfl,rfl,rfl,rfl,aM (aS m0 m0),t7⟩ [_] rfl (An _ _ _) (kz _)⟩
 ·have hG:decide ((i:Int)<(t.columns.length:Int))=false:=amz m0
  have e:i=t.columns.length:=m0
  subst e;generalize iN (vP t S p) t.columns.length=vs;unfold NT
  repeat' (first
   |refine st_nil ?_
   |rw[hG]
   |(refine st_pop rfl rfl rfl rfl ?_ ?_;· (repeat' (first|exact t7|rfl|exact amG rfl|omega|exact wideI (by intro _;rfl) _|(intro e he;simp at he;subst he;rfl)|exact amI .. |(simp only[amI];omega)|(simp only[amS,am1];omega)|apply And.intro)))
   |(refine st_lop rfl rfl rfl rfl ?_ ?_;· (repeat' (first|exact t7|rfl|exact amG rfl|omega|exact wideI (by intro _;rfl) _|(intro e he;simp at he;subst he;rfl)|exact amI .. |(simp only[amI];omega)|(simp only[amS,am1];omega)|apply And.intro)))
   |(refine sS_ rfl rfl rfl ?_ ?_;· (repeat' (first|exact t7|rfl|exact amG rfl|omega|exact wideI (by intro _;rfl) _|(intro e he;simp at he;subst he;rfl)|exact amI .. |(simp only[amI];omega)|(simp only[amS,am1];omega)|apply And.intro)))
   |(refine st_lit rfl rfl rfl rfl ?_ ?_;· (repeat' (first|exact t7|rfl|exact amG rfl|omega|exact wideI (by intro _;rfl) _|(intro e he;simp at he;subst he;rfl)|exact amI .. |(simp only[amI];omega)|(simp only[amS,am1];omega)|apply And.intro)))
   |refine st_skip rfl rfl rfl ?_
   |refine sk0_ rfl rfl ?_
   |(refine st_if rfl (fun hb=>?_) (fun hb=>?_)<;>(first|exact(fx_ hb).elim|rw[hb]))
   |refine cJ hΦ ?_
   |refine aD (id:=3) (.inl rfl) ae _ rfl rfl ?_
   |refine aD (id:=11) (.inl rfl) ae _ rfl rfl ?_
   |(refine b7 rfl (fun hb=>?_) (fun hb=>?_)<;>(try exact(fx_ hb).elim))
   |refine bM ?_
   |refine b6 ?_
   |refine cG ?_
   |refine b8 ?_)
  exact⟨.inr rfl,[2],.inl ⟨4,rfl,rfl⟩,rfl,m5,fun j x hx=>(match j,hx with|0,hx=>by cases hx;rfl|j+1,hx=>by simp at hx),bq ⟨t7,t7⟩,bS ⟨(show 0<1 by omega),t7⟩⟩
def alK:TI :={ xm with owns:=fun f=>f==14||xm.owns f }
theorem agW:TIok Tryz.prog alK:=⟨ae.size,ae.agg,ae.elem,ae.field,ae.zero,ae.bytes,ae.kind,ae.struct,ae.zok,ae.eqs⟩
theorem JK (t:bv)(l:List aw)(vn vu vc:List bD)(hN:RTz 12 [] [.agg ((bn t).map SV.c),.one (.c (.lst (l.map aA)))] [.spare vn.length 6] (.one (.own (vn.map bN) 0)))
  (hU:PTz 41 [.agg (bn t),.one (.lst (l.map aA))] (.val (.one (.lst (vu.map bN)))))
  (hC:RTz 14 [] [.agg ((bn t).map SV.c),.one (.c (.lst (l.map aA)))] [.spare vc.length 6] (.one (.own (vc.map bN) 0)))
  (h1:vn.length<=10000000) (h2:vu.length<=10000000) (h3:vc.length<=10000000) :
  PTz 16 [.agg (bn t),.one (.lst (l.map aA))] (.val (.one (.lst ((vn++vu++vc).map bN)))):=by
 refine pa_ ae Tryz.func16 rfl rfl Tryz.ntmps16 m5 ?_;simp only[argT,PV.av,bn,amH,amL];have hl1:(vn.map bN).length=vn.length:=amI ..;have hl2:(vu.map bN).length=vu.length:=amI ..;refine aw_seq ?_
 repeat' (first|(refine cY 0 (ts:=bn t) rfl rfl ?_)|refine gw_ trivial trivial ?_|refine gi_ (fun hb=>?_) (fun hb=>?_)|refine aw_region (id:=0) ae _ rfl ?_|fail)
 refine gp [2] ae _ rfl mixed (by decide +kernel) rfl ?_
 repeat' (first|refine aF rfl rfl rfl rfl hU rfl ?_|(refine cB [] rfl rfl rfl rfl hN rfl (wa (bS ⟨(by intro x hx;obtain⟨y,_,rfl⟩:=am6.1 hx;trivial),t7,t7⟩)) rfl rfl ?_)|refine gw_ trivial trivial ?_|refine gi_ (fun hb=>?_) (fun hb=>?_)|fail)
 have hl3:(vc.map bN).length=vc.length:=amI ..;have hl12:(vn.map bN++vu.map bN).length=vn.length+vu.length:=by rw[amE,hl1,hl2]
 repeat' (first|(refine cB [] rfl rfl rfl rfl hC rfl (wa (bS ⟨(by intro x hx;obtain⟨y,_,rfl⟩:=am6.1 hx;trivial),t7,t7⟩)) rfl rfl ?_)|refine gw_ trivial trivial ?_|refine gi_ (fun hb=>?_) (fun hb=>?_)|refine aw_region (id:=2) agW _ rfl ?_|fail)
 rw[amJ,amJ];refine⟨.inr rfl,?_⟩
 first|exact⟨t7,rfl⟩|exact⟨⟨t7,t7⟩,rfl⟩|(refine⟨?_,rfl⟩;repeat' (first|exact t7|rfl|apply And.intro))
open Go.RowKit
abbrev gM:=List (ByteArray×List (List AC))
def bO (s:ByteArray)(x:List AC):gM->gM
 |[]=>[(s,[x])]
 |(t,ps)::r=>if s=t then(t,ps++[x])::r else(t,ps)::bO s x r
def kO (s:ByteArray):gM->List (List AC)
 |[]=>[]
 |(t,ps)::r=>if s=t then ps else kO s r
def iy (s:ByteArray):gM->Option Nat
 |[]=>none
 |(t,_)::r=>if s=t then some 0 else(iy s r).map (· +1)
def qh (d:Nat):Nat->gM->List (AC×AV)
 |_,[]=>[]
 |k,(s,ps)::r=>(.str s,.one (.own ps (5+d*k)))::qh d (k+1) r
def Do (n w:Nat):gM->List Ob
 |[]=>[]
 |(_,ps)::r=>List.replicate n .dead ++ .spare ps.length w::Do n w r
theorem xY (d:Nat):∀ (S:gM) (k:Nat),(qh d k S).length=S.length
 |[],_=>rfl
 |(_,_)::r,k=>by simp[qh,xY d r]
theorem N9 (n w:Nat):∀ S:gM,(Do n w S).length=(n+1)*S.length
 |[]=>rfl
 |(_,_)::r=>by simp[Do,N9 n w r,Nat.mul_add];omega
theorem tz (d:Nat):∀ (S:gM) (k:Nat),strKeys (qh d k S)
 |[],_,p,hp=>by cases hp
 |(s,_)::r,k,p,hp=>by
  rcases amN.1 hp with rfl|hp
  ·exact⟨s,rfl⟩
  ·exact tz d r (k+1) p hp
theorem pR (d:Nat)(s:ByteArray):∀ (S:gM) (k:Nat),kP s (qh d k S)=iy s S
 |[],_=>rfl
 |(t,_)::r,k=>by
  show(if s=t then some 0 else(kP s (qh d (k+1) r)).map (· +1))=_;rw[pR d s r (k+1)];rfl
theorem Ff (d:Nat):∀ (S:gM) (k j:Nat) (q:ByteArray×List (List AC)),S[j]?=some q->(qh d k S)[j]?=some (.str q.1,.one (.own q.2 (5+d*(k+j))))
 |[],_,_,_,h=>by simp at h
 |x::r,k,0,q,h=>by simp at h;subst h;rfl
 |x::r,k,j+1,q,h=>by
  have:=Ff d r (k+1) j q (by simpa using h);rw[show k+1+j=k+(j+1)by omega]at this;simpa[qh]using this
theorem vC {s:ByteArray}:∀ {S:gM} {j:Nat},iy s S=some j ->∃ ps,S[j]?=some (s,ps)/\kO s S=ps
 |(t,ps)::r,j,h=>by
  unfold iy at h;by_cases e:s=t
  ·rw[if_pos e]at h;cases h;subst e
   exact⟨ps,rfl,by simp[kO]⟩
  ·rw[if_neg e]at h
   cases hr:iy s r with
   |none=>rw[hr]at h;cases h
   |some i =>
    rw[hr]at h;cases h;obtain⟨ps,h1,h2⟩:=vC hr;exact⟨ps,by simpa using h1,by rw[kO,if_neg e,h2]⟩
theorem qk {s:ByteArray}(x:List AC):∀ {S:gM} {j:Nat} {ps:List (List AC)},iy s S=some j->S[j]?=some (s,ps)->bO s x S=S.set j (s,ps++[x])
 |(t,qs)::r,j,ps,h,hj=>by
  unfold iy at h;by_cases e:s=t
  ·rw[if_pos e]at h;cases h;subst e
   simp at hj;subst hj;simp[bO]
  ·rw[if_neg e]at h
   cases hr:iy s r with
   |none=>rw[hr]at h;cases h
   |some i =>
    rw[hr]at h;cases h;rw[bO,if_neg e,qk x hr (by simpa using hj)];rfl
theorem pw {s:ByteArray}(x:List AC):∀ {S:gM},iy s S=none->bO s x S=S++[(s,[x])]
 |[],_=>rfl
 |(t,qs)::r,h=>by
  unfold iy at h;by_cases e:s=t
  ·rw[if_pos e]at h;cases h
  ·rw[if_neg e]at h
   cases hr:iy s r with
   |some i=>rw[hr]at h;cases h
   |none=>rw[bO,if_neg e,pw x hr];rfl
theorem OH (d:Nat):∀ (S:gM) (k j:Nat) (s:ByteArray) (ps:List (List AC)),j<S.length->(qh d k S).set j (.str s,.one (.own ps (5+d*(k+j))))=qh d k (S.set j (s,ps))
 |[],_,_,_,_,h=>by simp at h
 |x::r,k,0,s,ps,_=>rfl
 |x::r,k,j+1,s,ps,h=>by
  have:=OH d r (k+1) j s ps (by simpa using h);rw[show k+1+j=k+(j+1)by omega]at this;simp only[qh,List.set_cons_succ];rw[this]
theorem Jm (d:Nat):∀ (S:gM) (k:Nat) (s:ByteArray) (ps:List (List AC)),qh d k (S++[(s,ps)])=qh d k S++[(.str s,.one (.own ps (5+d*(k+S.length))))]
 |[],k,s,ps=>by simp[qh]
 |x::r,k,s,ps=>by
  have:=Jm d r (k+1) s ps;rw[show k+1+r.length=k+(x::r).length by simp;omega]at this;simp only[List.cons_append,qh,this]
theorem NA (n w:Nat):∀ (S:gM) (j:Nat) (q:ByteArray×List (List AC)),S[j]?=some q->(Do n w S)[(n+1)*j+n]?=some (.spare q.2.length w)
 |[],_,_,h=>by simp at h
 |x::r,0,q,h=>by
  simp at h;subst h;obtain⟨s,ps⟩:=x;rw[Do,amD m5];simp
 |x::r,j+1,q,h=>by
  obtain⟨s,ps⟩:=x;have:=NA n w r j q (by simpa using h);rw[Do,amD (by rw[List.length_replicate,Nat.mul_add];omega),List.length_replicate,show(n+1)*(j+1)+n-n=((n+1)*j+n)+1 by rw[Nat.mul_add];omega];simpa using this
theorem NM (n w:Nat):∀ (S:gM) (j:Nat) (s:ByteArray) (ps:List (List AC)),j<S.length->(Do n w S).set ((n+1)*j+n) (.spare ps.length w)=Do n w (S.set j (s,ps))
 |[],_,_,_,h=>by simp at h
 |x::r,0,s,ps,_=>by
  obtain⟨s',ps'⟩:=x;rw[Do,List.set_append_right _ _ m5];simp[Do]
 |x::r,j+1,s,ps,h=>by
  obtain⟨s',ps'⟩:=x;have:=NM n w r j s ps (by simpa using h);rw[Do,List.set_append_right _ _ (by rw[List.length_replicate,Nat.mul_add];omega),List.length_replicate,show(n+1)*(j+1)+n-n=((n+1)*j+n)+1 by rw[Nat.mul_add];omega];rw[List.set_cons_succ,this,List.set_cons_succ,Do]
theorem IX (n w:Nat):∀ (S:gM) (s:ByteArray) (ps:List (List AC)),Do n w (S++[(s,ps)])=Do n w S++(List.replicate n .dead++[.spare ps.length w])
 |[],s,ps=>rfl
 |x::r,s,ps=>by obtain⟨_,_⟩:=x;simp[Do,IX n w r s ps]
theorem Et (d n:Nat):∀ (S:gM) (k:Nat),6+d*(k+S.length)<=n+d ->∀ p∈qh d k S,p.2.below n
 |[],_,_,p,hp=>by cases hp
 |(s,ps)::r,k,h,p,hp=>by
  have h':6+d*(k+1+r.length)<=n+d:=by
   have e:k+1+r.length=k+((s,ps)::r).length:=by simp;omega
   rw[e];exact h
  rcases amN.1 hp with rfl|hp
  ·show 5+d*k<n
   have:d*(k+1+r.length)=d*k+d+d*r.length:=by rw[Nat.mul_add,Nat.mul_add,Nat.mul_one]
   omega
  ·exact Et d n r (k+1) h' p hp
theorem Ds (n w m:Nat):∀ (S:gM),∀ x∈Do n w S,x.below m
 |[],x,hx=>by cases hx
 |(s,ps)::r,x,hx=>by
  rw[Do]at hx;rcases amY.1 hx with hx|hx
  ·rw[List.eq_of_mem_replicate hx];trivial
  ·rcases amN.1 hx with rfl|hx
   ·trivial
   ·exact Ds n w m r x hx
@[reducible] def LS (A B:List Ob)(n w:Nat)(S:gM):List Ob:=A ++ .map (qh (n+1) 0 S)::(B++Do n w S)
section
variable {A B:List Ob} {n w:Nat}
theorem vm (_:A.length+B.length+n=4)(S:gM):(LS A B n w S).length=A.length+1+B.length+(n+1)*S.length:=by simp[N9];omega
theorem abm (hb:A.length+B.length+n=4)(S:gM)(m:Nat)(hA:∀ x∈A,x.below m)(hB:∀ x∈B,x.below m)(hm:(LS A B n w S).length<=m):∀ x∈LS A B n w S,x.below m:=by
 rw[vm hb]at hm;intro x hx;rcases amY.1 hx with hx|hx
 ·exact hA x hx
 ·rcases amN.1 hx with rfl|hx
  ·exact Et (n+1) m S 0 (by rw[anb];omega)
  ·rcases amY.1 hx with hx|hx
   ·exact hB x hx
   ·exact Ds n w m S x hx
theorem aiu (hb:A.length+B.length+n=4){S:gM}{j:Nat}{q:ByteArray×List (List AC)}(G:List Ob)(h:S[j]?=some q):(LS A B n w S++G)[5+(n+1)*j]?=some (.spare q.2.length w):=by
 have hlt:=(amw.1 h).1;have hm:(n+1)*(j+1)<=(n+1)*S.length:=Nat.mul_le_mul_left _ hlt;rw[Nat.mul_add]at hm;rw[amK (by rw[vm hb];omega),amD m0,show 5+(n+1)*j-A.length=(B.length+((n+1)*j+n))+1 by omega,List.getElem?_cons_succ,amD m0,show B.length+((n+1)*j+n)-B.length=(n+1)*j+n by omega];exact NA n w S j q h
theorem aiP (hb:A.length+B.length+n=4){S:gM}{j:Nat}{s:ByteArray}{ps:List (List AC)}(x:List AC)(G:List Ob)(h:iy s S=some j)(hj:S[j]?=some (s,ps)) :
  ((LS A B n w S++G).set (5+(n+1)*j) (Ob.spare (ps.length+1) w)).set A.length (Ob.map (lE (qh (n+1) 0 S) s (.one (.own (ps++[x]) (5+(n+1)*j)))))=LS A B n w (bO s x S)++G:=by
 have hlt:=(amw.1 hj).1;have hm:(n+1)*(j+1)<=(n+1)*S.length:=Nat.mul_le_mul_left _ hlt;rw[Nat.mul_add]at hm;rw[List.set_append_left _ _ (by rw[vm hb];omega),List.set_append_left _ _ (by rw[List.length_set,vm hb];omega)];congr 1;have e1:=NM n w S j s (ps++[x]) hlt;rw[amE,List.length_singleton]at e1;have e3:(LS A B n w S).set (5+(n+1)*j) (Ob.spare (ps.length+1) w)=A++Ob.map (qh (n+1) 0 S)::(B++Do n w (S.set j (s,ps++[x]))):=by
  rw[List.set_append_right _ _ m0,show 5+(n+1)*j-A.length=(B.length+((n+1)*j+n))+1 by omega,List.set_cons_succ,List.set_append_right _ _ m0,show B.length+((n+1)*j+n)-B.length=(n+1)*j+n by omega,e1]
 rw[e3,qk x h hj,List.set_append_right _ _ (amM _),Nat.sub_self,List.set_cons_zero];have e2:lE (qh (n+1) 0 S) s (.one (.own (ps++[x]) (5+(n+1)*j)))=qh (n+1) 0 (S.set j (s,ps++[x])):=by
  unfold lE;rw[pR,h];have:=OH (n+1) S 0 j s (ps++[x]) hlt;rw[anb]at this;exact this
 rw[e2]
theorem aiR (hb:A.length+B.length+n=4){S:gM}{s:ByteArray}(x:List AC)(h:iy s S=none) :
  (LS A B n w S++(List.replicate n Ob.dead++[Ob.spare 1 w])).set A.length (Ob.map (lE (qh (n+1) 0 S) s (.one (.own [x] (5+(n+1)*S.length)))))=LS A B n w (bO s x S):=by
 rw[List.set_append_left _ _ (by rw[vm hb];omega),List.set_append_right _ _ (amM _),Nat.sub_self,List.set_cons_zero,pw x h];have e2:lE (qh (n+1) 0 S) s (.one (.own [x] (5+(n+1)*S.length)))=qh (n+1) 0 (S++[(s,[x])]):=by
  unfold lE;rw[pR,h,Jm,anb]
 rw[e2];show _=A++Ob.map (qh (n+1) 0 (S++[(s,[x])]))::(B++Do n w (S++[(s,[x])]));rw[IX];simp
end
theorem ae_ {d:Nat}{S:gM}{j:Nat}{s:ByteArray}{ps:List (List AC)}(z:AV)(h:iy s S=some j)(hj:S[j]?=some (s,ps)):iF (qh d 0 S) s z = .one (.own ps (5+d*j)):=by
 unfold iF;rw[pR,h];have:=Ff d S 0 j _ hj;rw[anb]at this;simp only[this]
theorem afk {d:Nat}{S:gM}{s:ByteArray}(z:AV)(h:iy s S=none):iF (qh d 0 S) s z=z:=by
 unfold iF;rw[pR,h]
@[reducible] def pc (p:au):List AC:=[.int .i64 p.lo,.int .i64 p.hi,.int .i64 1]
def LC (S:gM):List Ob:=LS [.dead] [.box [.mp 1]] 2 3 S
theorem il (S:gM):(LC S).length=3+3*S.length:=vm rfl S
theorem iA (S:gM)(m:Nat)(hm:(LC S).length<=m):∀ x∈LC S,x.below m :=
 abm rfl S m (fun x hx=>by simp at hx;subst hx;trivial) (fun x hx=>by simp at hx;subst hx;intro y hy;simp at hy;subst hy;rw[il]at hm;show 1<m;omega) hm
theorem aic {S:gM}{j:Nat}{q:ByteArray×List (List AC)}(G:List Ob)(h:S[j]?=some q):(LC S++G)[5+3*j]?=some (.spare q.2.length 3):=aiu (A:=[.dead]) (B:=[.box [.mp 1]]) (n:=2) (w:=3) rfl G h
theorem aiT {S:gM}{j:Nat}{s:ByteArray}{ps:List (List AC)}(x:List AC)(G:List Ob)(h:iy s S=some j)(hj:S[j]?=some (s,ps)) :
  ((LC S++G).set (5+3*j) (Ob.spare (ps.length+1) 3)).set 1 (Ob.map (lE (qh 3 0 S) s (.one (.own (ps++[x]) (5+3*j)))))=LC (bO s x S)++G:=aiP (A:=[.dead]) (B:=[.box [.mp 1]]) (n:=2) (w:=3) rfl x G h hj
theorem aie {S:gM}{s:ByteArray}(x:List AC)(h:iy s S=none) :
  (LC S++[Ob.dead,Ob.dead,Ob.spare 1 3]).set 1 (Ob.map (lE (qh 3 0 S) s (.one (.own [x] (5+3*S.length)))))=LC (bO s x S):=aiR (A:=[.dead]) (B:=[.box [.mp 1]]) (n:=2) (w:=3) rfl x h
section
variable {P:Program} {ti:TI} {N:Nat} {ds:List (Option Tmp)} {K:Tm->List Ob->Prop} {rest:List Oper} {o:Oper} {T:Tm} {L:List Ob} {ρ:Operand->Option AV}
theorem JS {v:AV}{L':List Ob}(hd:o.dst=none)(hg:fD ds T o.guard=some true)(hl:bP ti o.op=true)(hk:sk o.op=0)(hs:kZ P (look T) L o.op v L')(h:aB P ti N ds K rest T L'):aB P ti N ds K (o::rest) T L :=
 ⟨by rw[hd];trivial,dC hg (.inr (.inr (.inr (.inr (.inr (.inr (.inr ⟨v,L',⟨hl,fun _ => .inl hk⟩,hs,by rw[hd];exact h⟩)))))))⟩
theorem ab' {t kt et:TypeId}{x k:Operand}{s:ByteArray}{id d:Nat}{S:gM}{z:AV}(hti:TIok P ti)(hx:ρ x=some (.one (.mp id)))(hk:ρ k=some (.one (.c (.str s))))(hL:L[id]?=some (.map (qh d 0 S)))
  (ht:ti.kind t=some (.map kt et)) (hkt:ti.kind kt=some .string) (hz:ti.zero et=some z) (h:iy s S=none):kZ P ρ L (.lookup t x k false) z L:=by
 have:=oO (P:=P) hx hk hL (tz d S 0) (hti.kind _ _ ht) (hti.kind _ _ hkt) (hti.zero _ _ hz);rwa[afk z h]at this
theorem acC {t kt et:TypeId}{x k:Operand}{s:ByteArray}{id d j:Nat}{S:gM}{ps:List (List AC)}{z:AV}(hti:TIok P ti)(hx:ρ x=some (.one (.mp id)))(hk:ρ k=some (.one (.c (.str s))))(hL:L[id]?=some (.map (qh d 0 S)))
  (ht:ti.kind t=some (.map kt et)) (hkt:ti.kind kt=some .string) (hz:ti.zero et=some z) (h:iy s S=some j) (hj:S[j]?=some (s,ps)):kZ P ρ L (.lookup t x k false) (.one (.own ps (5+d*j))) L:=by
 have:=oO (P:=P) hx hk hL (tz d S 0) (hti.kind _ _ ht) (hti.kind _ _ hkt) (hti.zero _ _ hz);rwa[ae_ z h hj]at this
theorem It {t kt et:TypeId}{x k y:Operand}{s:ByteArray}{id d:Nat}{S:gM}{v:AV}(hti:TIok P ti)(hx:ρ x=some (.one (.mp id)))(hk:ρ k=some (.one (.c (.str s))))(hy:ρ y=some v)(hL:L[id]?=some (.map (qh d 0 S)))
  (ht:ti.kind t=some (.map kt et)) (hkt:ti.kind kt=some .string):kZ P ρ L (.mapUpdate t x k y) .undef (L.set id (.map (lE (qh d 0 S) s v))) :=
 ir hx hk hy hL (tz d S 0) (hti.kind _ _ ht) (hti.kind _ _ hkt)
end
theorem uI {s:ByteArray}(x:List AC){S:gM}:S.length<=(bO s x S).length/\(bO s x S).length<=S.length+1:=by
 cases h:iy s S with
 |none=>rw[pw x h];simp
 |some j =>
  obtain⟨ps,hj,_⟩:=vC h;rw[qk x h hj,List.length_set];omega
theorem aa2 (t:bv)(f:aw)(S:gM)(s:ByteArray)(ks:List Val)(hkey:PTz 73 [.agg (bn t),.one (.lst (f.row.map cV))] (.val (.one (.lst (ks.map cV)))))(henc:PTz 72 [.one (.lst (ks.map cV))] (.val (.one (.str s))))(hi:iy s S=none)(hS:S.length<=100000) :
  RTz 122 (LC S++[.dead]) [.agg ((aA f).map SV.c),.one (.c (.ref (bn t))),.one (.ptr 2 0)] (LC (bO s (pc f.valid) S)) (.tup []):=by
 refine cw bw Tryz.func122 rfl rfl Tryz.ntmps122 m5 ?_;simp only[dN,bn,amH,amL];have hl:=il S;have hne:¬ (2:Nat)=(LC S++[Ob.dead]).length:=by rw[amE,hl];simp;omega
 refine aw_seq ?_;refine aw_region bw _ rfl ?_
 repeat' (first
  |refine st_nil ?_
  |(refine st_pop rfl rfl rfl rfl ?_ ?_;· (repeat' (first|exact t7|rfl|exact amG rfl|omega|exact wideI (by intro _;rfl) _|(intro e he;simp at he;subst he;rfl)|exact amI .. |(simp only[amI];omega)|(simp only[amS,am1];omega)|apply And.intro)))
  |(refine st_lop rfl rfl rfl rfl ?_ ?_;· (repeat' (first|exact t7|rfl|exact amG rfl|omega|exact wideI (by intro _;rfl) _|(intro e he;simp at he;subst he;rfl)|exact amI .. |(simp only[amI];omega)|(simp only[amS,am1];omega)|apply And.intro)))
  |(refine sS_ rfl rfl rfl ?_ ?_;· (repeat' (first|exact t7|rfl|exact amG rfl|omega|exact wideI (by intro _;rfl) _|(intro e he;simp at he;subst he;rfl)|exact amI .. |(simp only[amI];omega)|(simp only[amS,am1];omega)|apply And.intro)))
  |(refine st_lit rfl rfl rfl rfl ?_ ?_;· (repeat' (first|exact t7|rfl|exact amG rfl|omega|exact wideI (by intro _;rfl) _|(intro e he;simp at he;subst he;rfl)|exact amI .. |(simp only[amI];omega)|(simp only[amS,am1];omega)|apply And.intro)))
  |refine st_skip rfl rfl rfl ?_
  |refine sk0_ rfl rfl ?_
  |(refine st_if rfl (fun hb=>?_) (fun hb=>?_)<;>(first|exact(fx_ hb).elim|rw[hb]))
    |refine aw_drawn2 tabS_ok _ rfl mixed (by decide +kernel) ?_
  |(refine aw_cond rfl (fun hb=>?_) (fun hb=>?_)<;>(try exact(fx_ hb).elim))
  |refine aw_block ?_
  |refine aw_exit ?_
  |refine aw_ret ?_
  |refine aw_skip ?_)
 show Aw _ _ _ _ _ _ _;refine xU (A:=LC S++[Ob.dead]) (cs:=(aA f).map SV.c) (ts:=aA f) (T':=[(3,.one (.c (.ref (aA f)))),(0,.agg ((aA f).map SV.c)),(1,.one (.c (.ref (bn t)))),(2,.one (.ptr 2 0))]) rfl (by simp only[amH,amL,unA,unS,if_neg hne,if_true,List.drop_zero];rfl) ?_
 repeat' (first
  |refine st_nil ?_
  |(refine st_pop rfl rfl rfl rfl ?_ ?_;· (repeat' (first|exact t7|rfl|exact amG rfl|omega|exact wideI (by intro _;rfl) _|(intro e he;simp at he;subst he;rfl)|exact amI .. |(simp only[amI];omega)|(simp only[amS,am1];omega)|apply And.intro)))
  |(refine st_lop rfl rfl rfl rfl ?_ ?_;· (repeat' (first|exact t7|rfl|exact amG rfl|omega|exact wideI (by intro _;rfl) _|(intro e he;simp at he;subst he;rfl)|exact amI .. |(simp only[amI];omega)|(simp only[amS,am1];omega)|apply And.intro)))
  |(refine sS_ rfl rfl rfl ?_ ?_;· (repeat' (first|exact t7|rfl|exact amG rfl|omega|exact wideI (by intro _;rfl) _|(intro e he;simp at he;subst he;rfl)|exact amI .. |(simp only[amI];omega)|(simp only[amS,am1];omega)|apply And.intro)))
  |(refine st_lit rfl rfl rfl rfl ?_ ?_;· (repeat' (first|exact t7|rfl|exact amG rfl|omega|exact wideI (by intro _;rfl) _|(intro e he;simp at he;subst he;rfl)|exact amI .. |(simp only[amI];omega)|(simp only[amS,am1];omega)|apply And.intro)))
  |refine st_skip rfl rfl rfl ?_
  |refine sk0_ rfl rfl ?_
  |refine aF rfl rfl rfl rfl hkey rfl ?_
  |refine aF rfl rfl rfl rfl henc rfl ?_
  |(refine st_if rfl (fun hb=>?_) (fun hb=>?_)<;>(first|exact(fx_ hb).elim|rw[hb]))
  |refine aw_seq ?_
  |refine aw_region bw _ rfl ?_
   |(refine aw_cond rfl (fun hb=>?_) (fun hb=>?_)<;>(try exact(fx_ hb).elim))
  |refine aw_block ?_
  |refine aw_exit ?_
  |refine aw_ret ?_
  |refine aw_skip ?_)
 refine gp [3] fc _ rfl mixed (by decide +kernel) rfl ?_
 repeat' (first|(refine cR rfl rfl rfl rfl rfl (ab' (S:=S) fc rfl rfl rfl rfl rfl rfl hi) ?_)|(refine JS rfl rfl rfl rfl (It (S:=S) fc rfl rfl rfl rfl rfl rfl) ?_)|refine gw_ fc tabS_ok ?_|refine gi_ (fun hb=>?_) (fun hb=>?_)|fail)
 have hl2:(LC S++[Ob.dead]++[Ob.dead]).length=5+3*S.length:=by rw[amE,amE,hl];simp;omega
 refine⟨.inl rfl,⟨.inr ⟨.tup [],⟨t7,rfl⟩,rfl⟩,⟨[],?_⟩,?_,iA _ _ (amM _),t7⟩⟩
 ·rw[hl2,am5,<- aie (pc f.valid) hi]
  simp only[amX,List.cons_append,amB];rfl
 ·rw[amE,hl,il,pw _ hi];simp;omega
theorem abI (t:bv)(f:aw)(S:gM)(s:ByteArray)(ks:List Val)(hkey:PTz 73 [.agg (bn t),.one (.lst (f.row.map cV))] (.val (.one (.lst (ks.map cV)))))(henc:PTz 72 [.one (.lst (ks.map cV))] (.val (.one (.str s)))){j:Nat}{ps:List (List AC)}(hi:iy s S=some j)(hj:S[j]?=some (s,ps))(hps:ps.length<=100000)(hw:∀ e∈ps,e.length=3)(hS:S.length<=100000) :
  RTz 122 (LC S++[.dead]) [.agg ((aA f).map SV.c),.one (.c (.ref (bn t))),.one (.ptr 2 0)] (LC (bO s (pc f.valid) S)++[.dead]) (.tup []):=by
 refine cw bw Tryz.func122 rfl rfl Tryz.ntmps122 m5 ?_;simp only[dN,bn,amH,amL];have hl:=il S;have hne:¬ (2:Nat)=(LC S++[Ob.dead]).length:=by rw[amE,hl];simp;omega
 refine aw_seq ?_;refine aw_region bw _ rfl ?_
 repeat' (first
  |refine st_nil ?_
  |(refine st_pop rfl rfl rfl rfl ?_ ?_;· (repeat' (first|exact t7|rfl|exact amG rfl|omega|exact wideI (by intro _;rfl) _|(intro e he;simp at he;subst he;rfl)|exact amI .. |(simp only[amI];omega)|(simp only[amS,am1];omega)|apply And.intro)))
  |(refine st_lop rfl rfl rfl rfl ?_ ?_;· (repeat' (first|exact t7|rfl|exact amG rfl|omega|exact wideI (by intro _;rfl) _|(intro e he;simp at he;subst he;rfl)|exact amI .. |(simp only[amI];omega)|(simp only[amS,am1];omega)|apply And.intro)))
  |(refine sS_ rfl rfl rfl ?_ ?_;· (repeat' (first|exact t7|rfl|exact amG rfl|omega|exact wideI (by intro _;rfl) _|(intro e he;simp at he;subst he;rfl)|exact amI .. |(simp only[amI];omega)|(simp only[amS,am1];omega)|apply And.intro)))
  |(refine st_lit rfl rfl rfl rfl ?_ ?_;· (repeat' (first|exact t7|rfl|exact amG rfl|omega|exact wideI (by intro _;rfl) _|(intro e he;simp at he;subst he;rfl)|exact amI .. |(simp only[amI];omega)|(simp only[amS,am1];omega)|apply And.intro)))
  |refine st_skip rfl rfl rfl ?_
  |refine sk0_ rfl rfl ?_
  |(refine st_if rfl (fun hb=>?_) (fun hb=>?_)<;>(first|exact(fx_ hb).elim|rw[hb]))
    |refine aw_drawn2 tabS_ok _ rfl mixed (by decide +kernel) ?_
  |(refine aw_cond rfl (fun hb=>?_) (fun hb=>?_)<;>(try exact(fx_ hb).elim))
  |refine aw_block ?_
  |refine aw_exit ?_
  |refine aw_ret ?_
  |refine aw_skip ?_)
 show Aw _ _ _ _ _ _ _;refine xU (A:=LC S++[Ob.dead]) (cs:=(aA f).map SV.c) (ts:=aA f) (T':=[(3,.one (.c (.ref (aA f)))),(0,.agg ((aA f).map SV.c)),(1,.one (.c (.ref (bn t)))),(2,.one (.ptr 2 0))]) rfl (by simp only[amH,amL,unA,unS,if_neg hne,if_true,List.drop_zero];rfl) ?_
 repeat' (first
  |refine st_nil ?_
  |(refine st_pop rfl rfl rfl rfl ?_ ?_;· (repeat' (first|exact t7|rfl|exact amG rfl|omega|exact wideI (by intro _;rfl) _|(intro e he;simp at he;subst he;rfl)|exact amI .. |(simp only[amI];omega)|(simp only[amS,am1];omega)|apply And.intro)))
  |(refine st_lop rfl rfl rfl rfl ?_ ?_;· (repeat' (first|exact t7|rfl|exact amG rfl|omega|exact wideI (by intro _;rfl) _|(intro e he;simp at he;subst he;rfl)|exact amI .. |(simp only[amI];omega)|(simp only[amS,am1];omega)|apply And.intro)))
  |(refine sS_ rfl rfl rfl ?_ ?_;· (repeat' (first|exact t7|rfl|exact amG rfl|omega|exact wideI (by intro _;rfl) _|(intro e he;simp at he;subst he;rfl)|exact amI .. |(simp only[amI];omega)|(simp only[amS,am1];omega)|apply And.intro)))
  |(refine st_lit rfl rfl rfl rfl ?_ ?_;· (repeat' (first|exact t7|rfl|exact amG rfl|omega|exact wideI (by intro _;rfl) _|(intro e he;simp at he;subst he;rfl)|exact amI .. |(simp only[amI];omega)|(simp only[amS,am1];omega)|apply And.intro)))
  |refine st_skip rfl rfl rfl ?_
  |refine sk0_ rfl rfl ?_
  |refine aF rfl rfl rfl rfl hkey rfl ?_
  |refine aF rfl rfl rfl rfl henc rfl ?_
  |(refine st_if rfl (fun hb=>?_) (fun hb=>?_)<;>(first|exact(fx_ hb).elim|rw[hb]))
  |refine aw_seq ?_
  |refine aw_region bw _ rfl ?_
   |(refine aw_cond rfl (fun hb=>?_) (fun hb=>?_)<;>(try exact(fx_ hb).elim))
  |refine aw_block ?_
  |refine aw_exit ?_
  |refine aw_ret ?_
  |refine aw_skip ?_)
 refine gp [3] fc _ rfl mixed (by decide +kernel) rfl ?_;have hsp:=aic (Ob.dead::[Ob.dead]) hj
 repeat' (first|(refine N2 rfl rfl rfl rfl rfl rfl rfl rfl rfl rfl (by rw[amX];exact hsp) ⟨rfl,rfl,⟨rfl,m0⟩,(by intro e he;simp at he;subst he;rfl),(by simp only[amS,am1];omega),(by simp only[amS,am1];omega)⟩ rfl ?_)|(refine cR rfl rfl rfl rfl rfl (acC (S:=S) fc rfl rfl rfl rfl rfl rfl hi hj) ?_)|(refine JS rfl rfl rfl rfl (It (S:=S) fc rfl rfl rfl (by rw[amQ m0];rfl) rfl rfl) ?_)|refine gw_ fc tabS_ok ?_|refine gi_ (fun hb=>?_) (fun hb=>?_)|fail)
 refine⟨.inl rfl,⟨.inr ⟨.tup [],⟨t7,rfl⟩,rfl⟩,⟨[Ob.dead],?_⟩,?_,?_,t7⟩⟩
 ·have:=aiT (pc f.valid) [Ob.dead,Ob.dead] hi hj
  rw[amX];exact this.trans (by rw[amX];rfl)
 ·rw[amE,amE,il,il,qk _ hi hj,List.length_set];exact amM _
 ·intro x hx
  rcases amY.1 hx with hx|hx
  ·exact iA _ _ (by rw[amE];omega) x hx
  ·simp at hx;subst hx;trivial
theorem wR {α:Type}:∀ (σ:List Nat) (l xs:List α),dp l σ xs=dp l σ (xs.take σ.length)
 |[],l,xs=>by cases xs<;>rfl
 |i::σ,l,[]=>rfl
 |i::σ,l,x::xs=>by rw[amS,List.take_succ_cons,dp,dp];exact wR σ _ xs
theorem abq {L L1:List Ob}(hlen:L.length<=L1.length)(hb:∀ x∈L1,x.below L1.length):joinL (List.range L.length) L L1=L1:=by
 have ho:ct (List.range L.length) L.length L1.length=List.range L1.length:=by
  unfold ct jN;rw[List.length_range];apply List.ext_getElem?;intro i;by_cases h:i<L.length
  ·rw[amK (by simpa using h),List.getElem?_range h,List.getElem?_range m0]
  ·rw[amD m8,List.length_range,amT]
   by_cases h2:i<L1.length
   ·rw[List.getElem?_range m0,List.getElem?_range h2];simp;omega
   ·rw[anj m8,anj m8];rfl
 unfold joinL;rw[ho,cQ fun x hx=>Ob.ren_range (hb x hx)];unfold join;rw[wR,List.length_range];have hl:L.length=(L1.take L.length).length:=by rw[anm];omega
 have h1:=oa L (L1.take L.length) [] 0 [] hl rfl;have h2:(List.range L.length).map (0 + ·)=List.range L.length:=cQ fun i _=>anb i
 rw[h2]at h1;simp only[amB,am5]at h1;rw[h1,ang]
section
variable {P:Program} {ti:TI} {N:Nat} {ds:List (Option Tmp)} {K:Tm->List Ob->Prop} {rest:List Oper} {o:Oper} {T:Tm} {L L1:List Ob}
theorem aah {g:FuncId}{args:List AV}{d:Nat}(hd:o.dst=some d)(hN:Nat.blt d N=true)(hg:fD ds T o.guard=some true)(hp:dj ti (look T) o.op=some (g,args))(hc:Run P g L args L1 (.tup []))(hb:∀ x∈L,x.below L.length)(hb1:∀ x∈L1,x.below L1.length)(ha:∀ x∈args,x.below L.length)(hlen:L.length<=L1.length)
  (h:aB P ti N ds K rest ((d,.tup [])::T) L1):aB P ti N ds K (o::rest) T L:=by
 refine cB (List.range L.length) hd hN hg hp hc (cQ fun x hx=>AV.ren_range (ha x hx)).symm ⟨by rw[List.length_range],List.nodup_range,fun i x hx=>?_,hb,ha⟩ rfl (abq hlen hb1) h;have hi:i<L.length:=(amw.1 hx).1;rw[ft hi,Ob.ren_range (hb x (amC hx))];exact hx
end
theorem ET:∀ {T' T:Tm},xu T' T ->∀ p∈T,T'.lookup p.1=some p.2
 |T',[],_,p,hp=>by cases hp
 |T',q::T,h,p,hp=>by
  rcases amN.1 hp with rfl|hp
  ·exact h.1
  ·exact ET h.2 p hp
theorem gO.slots {N n0:Nat}{T T':Tm}{L:List Ob}(h:xu T T'):gO N n0 T L T' L:=gO.less fun t x hx=>ET h _ (ig hx)
section
variable (kf:aw->ByteArray) (xf:aw->List AC)
def km (l:List aw):gM:=l.foldl (fun S f=>bO (kf f) (xf f) S) []
theorem Md (l:List aw)(f:aw):km kf xf (l++[f])=bO (kf f) (xf f) (km kf xf l):=by
 unfold km;rw[List.foldl_append];rfl
def em (S:gM):List ByteArray:=S.map (·.1)
theorem Jq (s t:ByteArray)(x:List AC):∀ S:gM,kO t (bO s x S)=if s=t then kO t S++[x]else kO t S
 |[]=>by
  by_cases e:s=t
  ·subst e;simp[bO,kO]
  ·rw[if_neg e];simp[bO,kO,Ne.symm e]
 |(u,ps)::r=>by
  rw[bO];by_cases e:s=u
  ·subst e
   rw[if_pos rfl];by_cases e2:s=t
   ·subst e2;simp[kO]
   ·rw[if_neg e2];simp[kO,Ne.symm e2]
  ·rw[if_neg e]
   by_cases e2:t=u
   ·subst e2
    rw[if_neg e];simp[kO]
   ·simp only[kO,if_neg e2]
    exact Jq s t x r
theorem ve (s:ByteArray)(x:List AC):∀ S:gM,(s∈em S/\em (bO s x S)=em S)\/(s∉em S/\em (bO s x S)=em S++[s])
 |[] => .inr ⟨by simp[em],rfl⟩
 |(u,ps)::r=>by
  rw[bO];by_cases e:s=u
  ·subst e;exact .inl ⟨by simp[em],by simp[em]⟩
  ·rw[if_neg e]
   rcases ve s x r with⟨h1,h2⟩|⟨h1,h2⟩
   ·exact .inl ⟨amU _ h1,congrArg (u :: ·) h2⟩
   ·exact .inr ⟨fun h=>(amN.1 h).elim e h1,congrArg (u :: ·) h2⟩
theorem w9 (l:List aw):(em (km kf xf l)).Nodup:=by
 suffices ∀ (S:gM),(em S).Nodup->(em (l.foldl (fun S f=>bO (kf f) (xf f) S) S)).Nodup from this [] List.nodup_nil
 induction l with
 |nil=>exact fun S h=>h
 |cons f l ih =>
  intro S h;refine ih _ ?_;rcases ve (kf f) (xf f) S with⟨_,e⟩|⟨hn,e⟩
  ·rw[e];exact h
  ·rw[e,List.nodup_append]
   refine⟨h,m5,fun a ha b hb=>?_⟩;simp at hb;subst hb;rintro rfl;exact hn ha
theorem Dh (l:List aw)(s:ByteArray):s∈em (km kf xf l) ↔ ∃ f∈l,kf f=s:=by
 suffices ∀ (S:gM),s∈em (l.foldl (fun S f=>bO (kf f) (xf f) S) S)↔s∈em S \/ ∃ f∈l,kf f=s from(this []).trans (by simp[em])
 induction l with
 |nil=>intro S;simp
 |cons f l ih =>
  intro S;rw[anl,ih];rcases ve (kf f) (xf f) S with⟨h,e⟩|⟨h,e⟩
  ·rw[e]
   constructor
   ·rintro(h1|⟨g,h1,h2⟩)
    ·exact .inl h1
    ·exact .inr ⟨g,amU _ h1,h2⟩
   ·rintro(h1|⟨g,h1,rfl⟩)
    ·exact .inl h1
    ·rcases amN.1 h1 with rfl|h1
     ·exact .inl h
     ·exact .inr ⟨g,h1,rfl⟩
  ·rw[e]
   simp only[amY,amN,List.not_mem_nil,or_false];constructor
   ·rintro((h1|rfl)|⟨g,h1,h2⟩)
    ·exact .inl h1
    ·exact .inr ⟨f,.inl rfl,rfl⟩
    ·exact .inr ⟨g,.inr h1,h2⟩
   ·rintro(h1|⟨g,rfl|h1,rfl⟩)
    ·exact .inl (.inl h1)
    ·exact .inl (.inr rfl)
    ·exact .inr ⟨g,h1,rfl⟩
theorem ahb (l:List aw)(s:ByteArray):kO s (km kf xf l)=(l.filter fun f=>decide (kf f=s)).map xf:=by
 suffices ∀ (S:gM),kO s (l.foldl (fun S f=>bO (kf f) (xf f) S) S)=kO s S++(l.filter fun f=>decide (kf f=s)).map xf from(this []).trans (by simp[kO])
 induction l with
 |nil=>intro S;simp
 |cons f l ih =>
  intro S;rw[anl,ih,Jq];by_cases h:kf f=s
  ·rw[if_pos h];simp[h]
  ·rw[if_neg h];simp[h]
theorem afz {S:gM}(h:(em S).Nodup):∀ {q:ByteArray×List (List AC)},q∈S->kO q.1 S=q.2:=by
 induction S with
 |nil=>intro q hq;cases hq
 |cons p r ih =>
  obtain⟨u,ps⟩:=p;intro q hq;unfold em at h;rw[amH,List.nodup_cons]at h;rcases amN.1 hq with rfl|hq
  ·simp[kO]
  ·have hne:q.1≠u:=fun e=>h.1 (by rw[<- e];exact am6.2 ⟨q,hq,rfl⟩)
   rw[kO,if_neg hne];exact ih h.2 hq
theorem DR {l:List aw}{q:ByteArray×List (List AC)}(hq:q∈km kf xf l):q.2=(l.filter fun f=>decide (kf f=q.1)).map xf /\ ∃ f∈l,kf f=q.1 :=
 ⟨by rw[<- afz (w9 kf xf l) hq,ahb],(Dh kf xf l q.1).1 (am6.2 ⟨q,hq,rfl⟩)⟩
theorem ahz (l:List aw):(km kf xf l).length<=l.length:=by
 suffices ∀ (S:gM),(l.foldl (fun S f=>bO (kf f) (xf f) S) S).length<=S.length+l.length from by have:=this [];simpa[km]using this
 induction l with
 |nil=>intro S;simp
 |cons f l ih =>
  intro S;rw[anl];have h1:=ih (bO (kf f) (xf f) S);have h2:=(uI (s:=kf f) (xf f) (S:=S)).2;simp only[amS];omega
end
