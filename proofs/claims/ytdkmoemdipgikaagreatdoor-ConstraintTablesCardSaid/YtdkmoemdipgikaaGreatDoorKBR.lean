/- Parts. No condition. -/
import Derived.Test.YtdkmoemdipgikaaGreatDoorKBO
import Derived.Test.YtdkmoemdipgikaaGreatDoorKBQ
import Derived.Test.YtdkmoemdipgikaaGreatDoorKBN
set_option maxHeartbeats 8000000
set_option maxRecDepth 100000
set_option linter.unusedSimpArgs false
set_option linter.unusedVariables false
namespace Go.Proofs.YtdkmoemdipgikaaGreatDoor
open _root_.ByteArray (empty)
open Go.RowKit Go.MapKept
theorem Hv {l:List aw}{R:List (List Val)}(h:bY l R)(q:List Val->Bool):bY (l.filter fun f=>q f.row) (R.filter q):=by
 refine⟨h.1.filter q,fun x=>?_⟩;rw[List.mem_filter,h.2];constructor
 ·rintro⟨⟨f,hf,hv,rfl⟩,hq⟩;exact⟨f,List.mem_filter.2 ⟨hf,hq⟩,hv,rfl⟩
 ·rintro⟨f,hf,hv,rfl⟩
  obtain⟨h1,h2⟩:=List.mem_filter.1 hf;exact⟨⟨f,h1,hv,rfl⟩,h2⟩
theorem MY (l:List aw)(q:List Val->Bool){r:List Val}(hr:q r=true):aV (l.filter fun f=>q f.row) r=aV l r:=by
 unfold aV;rw[List.filter_filter];congr 1;refine List.filter_congr fun f _=>?_
 by_cases e:f.row=r
 ·rw[e,hr];simp
 ·rw[amz e];simp
theorem AU (l:List aw)(q:List Val->Bool):∀ R:List (List Val),setOf (l.filter fun f=>q f.row) (R.filter q)=(setOf l R).filter fun f=>q f.row
 |[]=>rfl
 |x::R=>by
  have e:setOf l (x::R)=((rk (aV l x)).map fun p=>(⟨x,p⟩:aw))++setOf l R:=rfl;rw[e,List.filter_append,<- AU l q R]
  cases hq:q x with
  |true =>
   rw[List.filter_cons_of_pos hq];have e2:setOf (l.filter fun f=>q f.row) (x::R.filter q)=((rk (aV (l.filter fun f=>q f.row) x)).map fun p=>(⟨x,p⟩:aw))++setOf (l.filter fun f=>q f.row) (R.filter q):=rfl;rw[e2,MY l q hq];congr 1;refine(List.filter_eq_self.2 fun f hf=>?_).symm;obtain⟨p,_,rfl⟩:=am6.1 hf;exact hq
  |false =>
   rw[List.filter_cons_of_neg (by rw[hq];simp)];have e3:((rk (aV l x)).map fun p=>(⟨x,p⟩:aw)).filter (fun f=>q f.row)=[]:=by
    rw[List.filter_eq_nil_iff];intro f hf;obtain⟨p,_,rfl⟩:=am6.1 hf;show ¬ q x=true;rw[hq];simp
   rw[e3,amB]
theorem Nb.filter {l:List aw}(h:Nb l)(q:aw->Bool):Nb (l.filter q) :=
 ⟨Nat.le_trans (List.length_filter_le _ _) h.len,fun f hf=>h.fct f (List.mem_filter.1 hf).1⟩
theorem JX (k i:Int)(t:bv)(l:List aw)(h:Nb l){R:List (List Val)}(hR:bY l R)(q:List Val->Bool):DG k t i (l.filter fun f=>q f.row)=some (kL q k i t.nm (setOf l R)):=by
 obtain⟨R2,h1,_,h3⟩:=yD (l.filter fun f=>q f.row) (h.filter _);rw[<- (Hv hR q).ext h1,AU]at h3;have hl:=h.len;have hsl:=gw hR m0;have hfl:=List.length_filter_le (fun f:aw=>q f.row) (setOf l R);unfold DG;rw[h3,amv];rw[bA (l:=(setOf l R).filter fun f=>q f.row) (fun f=>[MM k i t.nm f]) 1954687338268 ?_ ?_ (by unfold fuel;omega) [] (by rw[fo_,amI];simp only[am1];omega)]
 ·rw[amv,fo_,amB];rfl
 ·intro s j x hx hs
  have hj:=(amw.1 hx).1;unfold uJ;dsimp only;rw[aC hx,amy,gn_ hx,amv,amA (show s.length+1<=1954687338268 from hs),amy,wrapN m0];rfl
 ·intro s
  unfold uJ;dsimp only;rw[lF_,amx]
theorem vh (g:Nat->List bD):∀ n,iN g n=(List.range n).flatMap g
 |0=>rfl
 |n+1=>by rw[iN,vh g n,List.range_succ,List.flatMap_append];simp
theorem IB {β ρ:Type}{n:Nat}{body:(List β×Int)->Option (Step (List β×Int) ρ)}(g:Nat->List β)(N:Nat)(h1:∀ (s:List β) (i:Nat),i<n->s.length+(g i).length<=N->body (s,(i:Int))=some (.next (s++g i,((i+1:Nat):Int))))(h2:∀ s:List β,body (s,((n:Nat):Int))=some (.exit (s,((n:Nat):Int))))(hn:n<fuel)(hN:((List.range n).flatMap g).length<=N) :
  ap body fuel ([],(0:Int))=some (.inl ((List.range n).flatMap g,((n:Nat):Int))):=by
 have e:=bA (l:=List.range n) (body:=body) g N (fun s i x hx hs=>by
  obtain⟨hi,e⟩:=amw.1 hx;rw[List.getElem_range]at e;subst e;exact h1 s i (by simpa using hi) hs) (fun s=>by rw[List.length_range];exact h2 s) (by rw[List.length_range];exact hn) [] (by simpa using hN)
 rw[List.length_range,amB]at e;exact e
def NOK (w:Nat)(l:List aw):Prop :=∀ f∈l,f.row.length=w /\ ∀ v∈f.row,v.kind=0->v=⟨0,0,empty⟩
def gV (t:bv)(i:Nat)(row:List Val):Bool:=match t.columns[i]? with
 |some c => !c.nullable&&(match row[i]? with|some v=>decide (v.kind=0)|none=>false)
 |none=>false
theorem acv (t:bv)(l:List aw)(h:Nb l)(hn:NOK t.columns.length l)(hc:t.columns.length<=1000){R:List (List Val)}(hR:bY l R):lG t l=some ((List.range t.columns.length).flatMap fun i=>kL (gV t i) 1 i t.nm (setOf l R)):=by
 have hl:=h.len;have hsl:=gw hR m0;have hfl:=jh (fun i:Nat=>kL (gV t i) 1 (i:Int) t.nm (setOf l R)) 42 (List.range t.columns.length) fun i _=>by have:=k9 (gV t i) 1 (i:Int) t.nm (setOf l R);omega
 rw[List.length_range]at hfl;have hil:∀ i:Nat,(kL (gV t i) 1 (i:Int) t.nm (setOf l R)).length<=42:=fun i=>by have:=k9 (gV t i) 1 (i:Int) t.nm (setOf l R);omega
 unfold lG;rw[IB (n:=t.columns.length) (fun i:Nat=>kL (gV t i) 1 (i:Int) t.nm (setOf l R)) 1954687338268 ?_ ?_ (by unfold fuel;omega) m0]
 ·rfl
 ·intro s i hi hs
  obtain⟨c,hcx⟩:=gol_ hi;have hin:ap (ju t l (i:Int)) fuel ([],(0:Int))=some (.inl (l.filter fun f=>gV t i f.row,((l.length:Nat):Int))):=by
   have hfm:∀ L:List aw,(L.flatMap fun f=>if gV t i f.row=true then [f]else [])=L.filter fun f=>gV t i f.row:=by
    intro L
    induction L with
    |nil=>rfl
    |cons f L ih =>
     rw[am8,ih]
     cases hq:gV t i f.row with
     |true=>rw[if_pos rfl,List.filter_cons_of_pos (p:=fun f:aw=>gV t i f.row) hq];rfl
     |false=>rw[if_neg m5,List.filter_cons_of_neg (p:=fun f:aw=>gV t i f.row) (by rw[hq];simp)];rfl
   have hll:=List.length_filter_le (fun f:aw=>gV t i f.row) l;rw[bA (l:=l) (fun f=>if gV t i f.row=true then [f]else []) 3518437208883 ?_ ?_ (by unfold fuel;omega) [] (by rw[hfm];simp only[am1];omega)]
   ·rw[hfm];rfl
   ·intro s' j x hx hs'
    have hj:=(amw.1 hx).1;have hw:=(hn x (amC hx)).1;obtain⟨v,hv⟩:=gol_ (show i<x.row.length by omega);have hq:gV t i x.row=(!c.nullable&&decide (v.kind=0)):=by unfold gV;rw[hcx,hv]
    unfold ju;dsimp only;rw[aC hx,amy,gn_ hcx,amv];rw[hq]at hs' ⊢
    cases hcn:c.nullable with
    |true =>
     rw[hcn]at hs';simp only[Bool.not_true,amx,Bool.false_and];rw[wrapN m0,if_neg m5,am5]
    |false =>
     rw[hcn]at hs';simp only[Bool.not_false,amy,am4]at hs' ⊢;rw[gn_ hx,amv,gn_ hv,amv];by_cases hz:v.kind=0
     ·rw[amA hz]at hs' ⊢
      rw[if_pos rfl]at hs' ⊢;rw[amy,amA (show s'.length+1<=3518437208883 from hs'),amy,wrapN m0]
     ·rw[amz hz,amx,wrapN m0,if_neg m5,am5]
   ·intro s'
    unfold ju;dsimp only;rw[lF_,amx]
  unfold nh;dsimp only;rw[amA (show((i:Nat):Int)<((t.columns.length:Nat):Int)by omega),amy,hin,amv];unfold jD;dsimp only;rw[JX 1 i t l h hR (gV t i),amv,amA hs,amy,wrapN m0]
 ·intro s
  unfold nh;dsimp only;rw[lF_,amx]
theorem afq (row:List Val)(i:Nat):∃ b,zT row (i:Int)=some b/\b=match row[i]? with|some v=>bT [.c (.int .i64 v.kind),.c (.int .i64 v.int),.c (.str v.text)] [.c (.int .i64 (0:Int)),.c (.int .i64 (0:Int)),.c (.str empty)]|none=>false:=by
 unfold zT;by_cases hi:i<row.length
 ·obtain⟨v,hv⟩:=gol_ hi
  rw[aC hv,amy,gn_ hv,amv,hv];exact⟨_,rfl,rfl⟩
 ·rw[amz (show ¬ ((i:Nat):Int)<((row.length:Nat):Int)by omega),amx,anj m0]
  exact⟨_,rfl,rfl⟩
theorem OA (row:List Val)(i:Nat)(hz:∀ v∈row,v.kind=0->v=⟨0,0,empty⟩):(zT row (i:Int)).isSome=true/\aeu i row=match row[i]? with|some v=>decide (v.kind=0)|none=>false:=by
 obtain⟨b,h1,h2⟩:=afq row i;unfold aeu;rw[h1];refine⟨rfl,?_⟩;show b=_;rw[h2]
 cases hv:row[i]? with
 |none=>rfl
 |some v =>
  show bT _ _=decide (v.kind=0);by_cases hk:v.kind=0
  ·rw[hz v (amC hv) hk]
   simp[bT]
  ·rw[amz hk]
   simp[bT,hk]
theorem adD (t:bv)(l:List aw)(h:Nb l)(hn:NOK t.columns.length l)(hc:t.columns.length<=1000){R:List (List Val)}(hR:bY l R)(hS:xq l=some (setOf l R)):tp t l=some ((List.range t.columns.length).flatMap fun i=>kL (gV t i) 1 i t.nm (setOf l R)):=by
 have hl:=h.len;have hsl:=gw hR m0;have hrow:∀ f∈setOf l R,f.row.length<=60 /\ ∀ v∈f.row,v.kind=0->v=⟨0,0,empty⟩:=fun f hf=>by
  obtain⟨_,g,hg,_,e⟩:=jz hR hf;rw[<- e];exact⟨(h.fct g hg).1,(hn g hg).2⟩
 unfold tp;rw[hS,amv,if_pos ⟨m0,hc,fun f hf=>by have:=(hrow f hf).1;omega,fun f hf i=>(OA f.row i (hrow f hf).2).1⟩,vh];congr 2;funext i;unfold vP
 cases hcx:t.columns[i]? with
 |none =>
  show []=kL (gV t i) 1 (i:Int) t.nm (setOf l R);unfold kL;rw[List.filter_eq_nil_iff.2 (fun f _=>by unfold gV;rw[hcx];simp)];rfl
 |some c =>
  show(bif c.nullable then []else kL (aeu i) 1 (i:Int) t.nm (setOf l R))=kL (gV t i) 1 (i:Int) t.nm (setOf l R)
  cases hcn:c.nullable with
  |true =>
   show []=kL (gV t i) 1 (i:Int) t.nm (setOf l R);unfold kL;rw[List.filter_eq_nil_iff.2 (fun f _=>by unfold gV;rw[hcx];simp[hcn])];rfl
  |false =>
   rw[amx];unfold kL;congr 1;refine List.filter_congr fun f hf=>?_
   rw[(OA f.row i (hrow f hf).2).2];unfold gV;rw[hcx];simp only[hcn,Bool.not_false,am4]
def ahj (e:Ex)(row:List Val):Bool:=decide (tF_ ((gH (hgt e) e row).getD gy)=0)
theorem ac0 {e:Ex}(h:nF (hgt e) e)(row:List Val):∃ v,ui e row=some v/\mG e row=some v/\ahj e row=decide (v=0):=by
 obtain⟨v,h1,h2,_⟩:=En row (hgt e) e h;refine⟨tF_ v,?_,?_,?_⟩
 ·unfold ui;rw[h2,amv,f_];rfl
 ·unfold mG;rw[h1,amv,jK];rfl
 ·unfold ahj;rw[h1];rfl
theorem IQ {e:Ex}(h:nF (hgt e) e)(row:List Val):EM row e=some (ahj e row):=by
 obtain⟨v,h1,_,h3⟩:=ac0 h row;unfold EM;rw[h1,h3];rfl
def jp (t:bv)(i:Nat)(row:List Val):Bool:=match t.checks[i]? with
 |some e=>ahj e row
 |none=>false
theorem aew (t:bv)(l:List aw)(h:Nb l)(he:∀ e∈t.checks,nF (hgt e) e)(hc:t.checks.length<=1000){R:List (List Val)}(hR:bY l R)(hS:xq l=some (setOf l R)):uG t l=some ((List.range t.checks.length).flatMap fun i=>kL (jp t i) 4 i t.nm (setOf l R)):=by
 have hl:=h.len;have hsl:=gw hR m0;have hrow:∀ f∈setOf l R,f.row.length<=60:=fun f hf=>by
  obtain⟨_,g,hg,_,e⟩:=jz hR hf;rw[<- e];exact(h.fct g hg).1
 unfold uG;rw[hS,amv,if_pos ⟨m0,hc,fun f hf=>by have:=hrow f hf;omega,fun e hm f hf=>by rw[IQ (he e hm)];rfl⟩,vh];congr 2;funext i;unfold v6
 cases hcx:t.checks[i]? with
 |none =>
  show []=kL (jp t i) 4 (i:Int) t.nm (setOf l R);unfold kL;rw[List.filter_eq_nil_iff.2 (fun f _=>by unfold jp;rw[hcx];simp)];rfl
 |some e =>
  show kL (agD e) 4 (i:Int) t.nm (setOf l R)=kL (jp t i) 4 (i:Int) t.nm (setOf l R);unfold kL;congr 1;refine List.filter_congr fun f hf=>?_
  unfold agD jp;rw[hcx,IQ (he e (amC hcx))];rfl
theorem aaW (t:bv)(l:List aw)(h:Nb l)(he:∀ e∈t.checks,nF (hgt e) e)(hc:t.checks.length<=1000){R:List (List Val)}(hR:bY l R):qj t l=some ((List.range t.checks.length).flatMap fun i=>kL (jp t i) 4 i t.nm (setOf l R)):=by
 have hl:=h.len;have hsl:=gw hR m0;have hfl:=jh (fun i:Nat=>kL (jp t i) 4 (i:Int) t.nm (setOf l R)) 42 (List.range t.checks.length) fun i _=>by have:=k9 (jp t i) 4 (i:Int) t.nm (setOf l R);omega
 rw[List.length_range]at hfl;unfold qj;rw[IB (n:=t.checks.length) (fun i:Nat=>kL (jp t i) 4 (i:Int) t.nm (setOf l R)) 1954687338268 ?_ ?_ (by unfold fuel;omega) m0]
 ·rfl
 ·intro s i hi hs
  obtain⟨c,hcx⟩:=gol_ hi;have hin:ap (nw t l (i:Int)) fuel ([],(0:Int))=some (.inl (l.filter fun f=>jp t i f.row,((l.length:Nat):Int))):=by
   have hfm:∀ L:List aw,(L.flatMap fun f=>if jp t i f.row=true then [f]else [])=L.filter fun f=>jp t i f.row:=by
    intro L
    induction L with
    |nil=>rfl
    |cons f L ih =>
     rw[am8,ih]
     cases hq:jp t i f.row with
     |true=>rw[if_pos rfl,List.filter_cons_of_pos (p:=fun f:aw=>jp t i f.row) hq];rfl
     |false=>rw[if_neg m5,List.filter_cons_of_neg (p:=fun f:aw=>jp t i f.row) (by rw[hq];simp)];rfl
   have hll:=List.length_filter_le (fun f:aw=>jp t i f.row) l;rw[bA (l:=l) (fun f=>if jp t i f.row=true then [f]else []) 3518437208883 ?_ ?_ (by unfold fuel;omega) [] (by rw[hfm];simp only[am1];omega)]
   ·rw[hfm];rfl
   ·intro s' j x hx hs'
    have hj:=(amw.1 hx).1;obtain⟨v,_,hv1,hv2⟩:=ac0 (he c (amC hcx)) x.row;have hq:jp t i x.row=decide (v=0):=by unfold jp;rw[hcx];exact hv2
    unfold nw;dsimp only;rw[aC hx,amy,gn_ hcx,amv,gn_ hx,amv,hv1,amv];rw[hq]at hs' ⊢;by_cases hz:v=0
    ·rw[amA hz]at hs' ⊢
     rw[if_pos rfl]at hs' ⊢;rw[amy,amA (show s'.length+1<=3518437208883 from hs'),amy,wrapN m0]
    ·rw[amz hz,amx,wrapN m0,if_neg m5,am5]
   ·intro s'
    unfold nw;dsimp only;rw[lF_,amx]
  unfold qX;dsimp only;rw[amA (show((i:Nat):Int)<((t.checks.length:Nat):Int)by omega),amy,hin,amv];unfold qH;dsimp only;rw[JX 4 i t l h hR (jp t i),amv,amA hs,amy,wrapN m0]
 ·intro s
  unfold qX;dsimp only;rw[lF_,amx]
theorem agt {v:Val}(h:vF v=true)(hk:v.kind=0):v=⟨0,0,empty⟩:=by
 have hx:=fe v;rw[h]at hx;unfold cH at hx;rw[amA hk,amy]at hx;by_cases i0:v.int=0
 ·rw[amA i0,amy]at hx
  have:=(jA _).1 (am3 hx);obtain⟨k,n,s⟩:=v;simp only at hk i0 this;rw[hk,i0,this]
 ·rw[amz i0,amx]at hx;cases hx
theorem LK {row:List Val}{kinds:List Int}(hk:kinds.length<=1000000):∃ b,qB row kinds=some b/\(b=true->row.length=kinds.length /\ ∀ v∈row,vF v=true):=by
 by_cases he:row.length=kinds.length
 ·obtain⟨b,hb⟩:=abw row kinds m0
  refine⟨b,hb,fun hbt=>⟨he,?_⟩⟩;subst hbt;unfold qB at hb;rw[show decide (((row.length:Nat):Int)≠((kinds.length:Nat):Int))=false from amz m0,amx]at hb;have key:∀ (n i:Nat),i<=row.length->row.length-i<n->(ap (fj row kinds) n (i:Int)).bind Dt=some true ->∀ v∈row.drop i,vF v=true:=by
   intro n
   induction n with
   |zero=>intro i _ h;omega
   |succ n ih =>
    intro i hi hn hb v hv;rw[ap]at hb;by_cases hlt:i<row.length
    ·obtain⟨x,hx⟩:=gol_ hlt
     obtain⟨k,hk⟩:=gol_ (l:=kinds) (i:=i) m0;have h1:fj row kinds (i:Int)=bif (!vF x)then some (.ret false)else bif decide (x.kind≠0)then bif decide (x.kind≠k)then some (.ret false)else some (.next ((i+1:Nat):Int))else some (.next ((i+1:Nat):Int)):=by
      unfold fj;dsimp only;rw[aC hx,amy,gn_ hx,gn_ hk];simp only[amv];rw[fe,amv,wrapN m0]
     have hd:row.drop i=x::row.drop (i+1):=by rw[am2 hlt,(amw.1 hx).2]
     rw[hd]at hv
     cases hvx:vF x with
     |false=>rw[h1,hvx]at hb;exact absurd (show(some false:Option Bool)=some true from hb) m9
     |true =>
      have h2:fj row kinds (i:Int)=some (.next ((i+1:Nat):Int)):=by
       rw[h1,hvx,Bool.not_true,amx]
       cases c1:decide (x.kind≠0)with
       |false=>rfl
       |true =>
        cases c2:decide (x.kind≠k)with
        |false=>rfl
        |true=>rw[h1,hvx,Bool.not_true,amx,c1,c2]at hb;exact absurd (show(some false:Option Bool)=some true from hb) m9
      rw[h2]at hb;rcases amN.1 hv with rfl|hv
      ·exact hvx
      ·exact ih (i+1) m0 m0 hb v hv
    ·rw[List.drop_eq_nil_of_le m0]at hv;cases hv
  exact fun v hv=>key fuel 0 (amR _) (by unfold fuel;omega) hb v (by rw[List.drop_zero];exact hv)
 ·refine⟨false,?_,fun h=>by cases h⟩
  unfold qB;rw[show decide (((row.length:Nat):Int)≠((kinds.length:Nat):Int))=true from amA m0];rfl
theorem M7 {r:Rln}(hl:r.facts.length<=1000)(hk:r.kinds.length<=48):∃ b,FL r=some b/\(b=true->(∀ f∈r.facts,az f.valid=true)/\(∀ f∈r.facts,f.row.length=r.kinds.length) /\ ∀ f∈r.facts,∀ v∈f.row,vF v=true):=by
 have key:∀ (n i:Nat),i<=r.facts.length->r.facts.length-i<n ->∃ b,(ap (ic r) n (i:Int)).bind (eE r)=some b/\(b=true ->∀ f∈r.facts.drop i,az f.valid=true/\f.row.length=r.kinds.length /\ ∀ v∈f.row,vF v=true):=by
  intro n
  induction n with
  |zero=>intro i _ h;omega
  |succ n ih =>
   intro i hi hn;rw[ap];by_cases hlt:i<r.facts.length
   ·obtain⟨x,hx⟩:=gol_ hlt
    have hd:r.facts.drop i=x::r.facts.drop (i+1):=by rw[am2 hlt,(amw.1 hx).2]
    obtain⟨b,hb,hb2⟩:=LK (row:=x.row) (kinds:=r.kinds) m0;have h1:ic r (i:Int)=bif !(az x.valid)then some (.ret false)else bif !b then some (.ret false)else some (.next ((i+1:Nat):Int)):=by
     unfold ic;dsimp only;rw[aC hx,amy,gn_ hx,amv,gY,amv,hb,amv,wrapN m0]
    rw[h1]
    cases hp:az x.valid with
    |false=>exact⟨false,rfl,fun h=>by cases h⟩
    |true =>
     cases b with
     |false=>exact⟨false,rfl,fun h=>by cases h⟩
     |true =>
      obtain⟨c,hc,hc2⟩:=ih (i+1) m0 m0;refine⟨c,hc,fun h f hf=>?_⟩;rw[hd]at hf;rcases amN.1 hf with rfl|hf
      ·exact⟨hp,hb2 rfl⟩
      ·exact hc2 h f hf
   ·have:i=r.facts.length:=m0
    subst this;have h1:ic r ((r.facts.length:Nat):Int)=some (.exit ((r.facts.length:Nat):Int)):=by
     unfold ic;dsimp only;rw[lF_,amx]
    rw[h1];obtain⟨b,hb⟩:=abb r.kinds m0;have:∃ c,eE r (.inl ((r.facts.length:Nat):Int))=some c:=by
     unfold eE;dsimp only;rw[hb]
     cases decide ((0:Int)<((r.kinds.length:Nat):Int))<;>cases decide (((r.kinds.length:Nat):Int)<=48)<;>exact⟨_,rfl⟩
    obtain⟨c,hc⟩:=this;refine⟨c,hc,fun _ f hf=>?_⟩;rw[anq]at hf;cases hf
 obtain⟨b,hb,hb2⟩:=key fuel 0 (amR _) (by unfold fuel;omega);refine⟨b,hb,fun h=>?_⟩;have:=hb2 h;rw[List.drop_zero]at this;exact⟨fun f hf=>(this f hf).1,fun f hf=>(this f hf).2.1,fun f hf=>(this f hf).2.2⟩
def Ans {S ρ:Type}(P:S->Prop)(Z:ρ->Prop)(x:Option (Step S ρ)):Prop:=(∃ s',x=some (.next s')/\P s') \/ ∃ q,x=some (.ret q)/\Z q
section
variable {S ρ α:Type} {P:S->Prop} {Z:ρ->Prop}
theorem fa {b:Bool}{x y:Option (Step S ρ)}(h1:b=true->Ans P Z x)(h2:b=false->Ans P Z y):Ans P Z (bif b then x else y):=by
 cases b
 ·exact h2 rfl
 ·exact h1 rfl
theorem jc {s:S}(h:P s):Ans P Z (some (.next s)) := .inl ⟨s,rfl,h⟩
theorem eO {q:ρ}(h:Z q):Ans P Z (some (.ret q)) := .inr ⟨q,rfl,h⟩
theorem fG {o:Option α}{a:α}{f:α->Option (Step S ρ)}(e:o=some a)(h:Ans P Z (f a)):Ans P Z (o.bind f):=by rw[e];exact h
end
theorem di {S ρ:Type}{body:S->Option (Step S ρ)}(P:Nat->S->Prop)(Q:S->Prop)(Z:ρ->Prop)(len:Nat)(h1:∀ i s,P i s->i<len->Ans (P (i+1)) Z (body s))(h2:∀ s,P len s->body s=some (.exit s)/\Q s) :
  ∀ (n i:Nat) (s:S),P i s->i<=len->len-i<n ->∃ r,ap body n s=some r/\(∀ s',r = .inl s'->Q s') /\ ∀ q,r = .inr q->Z q
 |0,i,s,_,_,h=>by omega
 |n+1,i,s,hp,hi,hn=>by
  rw[ap];by_cases hlt:i<len
  ·rcases h1 i s hp hlt with⟨s',e,hp'⟩|⟨q,e,hz⟩
   ·rw[e];exact di P Q Z len h1 h2 n (i+1) s' hp' m0 m0
   ·rw[e];exact⟨.inr q,rfl,fun s' h=>(by cases h),fun q' h=>by injection h with h;rw[<- h];exact hz⟩
  ·have:i=len:=m0
   subst this;obtain⟨e,hq⟩:=h2 s hp;rw[e];exact⟨.inl s,rfl,fun s' h=>(by injection h with h;rw[<- h];exact hq),fun q h=>by cases h⟩
theorem acE (l:List ByteArray)(s:ByteArray)(hl:l.length<=4000000000000):∃ b,Du l s=some b:=by
 obtain⟨r,hr,_⟩:=di (body:=qx l s) (fun i s=>s=(i:Int)) (fun _=>True) (fun _=>True) l.length (fun i s hs hi=>by
  subst hs;obtain⟨x,hx⟩:=gol_ hi;unfold qx;dsimp only;rw[aC hx,amy,wrapN m0];exact fG (gn_ hx) (fa (fun _=>eO trivial) fun _=>jc rfl)) (fun s hs=>by
  subst hs;unfold qx;dsimp only;rw[lF_,amx];exact⟨rfl,t7⟩) fuel 0 0 rfl (amR _) (by unfold fuel;omega)
 unfold Du;rw[hr]
 cases r<;>exact⟨_,rfl⟩
theorem agn (s:ByteArray){i:Nat}(h:i<s.size):∃ b,xp s (i:Int)=some b:=by
 refine⟨s[i],?_⟩;unfold xp;rw[if_pos m0,Int.toNat_natCast];exact getElem?_pos s i h
theorem pD (s:ByteArray):∃ b,oT s=some b:=by
 unfold oT
 cases h0:(s.toList==(⟨#[]⟩:ByteArray).toList)with
 |true=>exact⟨_,rfl⟩
 |false =>
  rw[amx];by_cases h24:(24:Int)<((s.size:Nat):Int)
  ·rw[amA h24];exact⟨_,rfl⟩
  rw[amz h24,amx];have hpos:0<s.size:=by
   rcases Nat.eq_zero_or_pos s.size with h|h
   ·exfalso
    have:s=empty:=by
     obtain⟨⟨l⟩⟩:=s;have:l=[]:=amW h;rw[this];rfl
    rw[(jA s).2 this]at h0;cases h0
   ·exact h
  have hget:∀ i:Nat,i<s.size ->∃ b,xp s (i:Int)=some b:=fun i hi=>agn s hi
  obtain⟨b0,hb0⟩:=hget 0 hpos;rw[show(0:Int)=((0:Nat):Int)from rfl,hb0,amv];obtain⟨w,hw⟩:∃ w,nB=some w/\w.length<=1000:=by unfold nB;exact⟨_,rfl,by decide⟩
  obtain⟨bi,hbi⟩:=acE w s m0;obtain⟨r1,hr1,_⟩:=di (body:=jL s) (fun i s=>s=(i:Int)) (fun _=>True) (fun _=>True) s.size (fun i st hs hi=>by
   subst hs;obtain⟨x,hx⟩:=hget i hi;unfold jL;dsimp only;rw[amA (show((i:Nat):Int)<((s.size:Nat):Int)by omega),amy,wrapN m0];refine fG hx ?_
   repeat' (first|exact eO trivial|exact jc rfl|refine fa (fun _=>?_) (fun _=>?_))) (fun st hs=>by
   subst hs;unfold jL;dsimp only;rw[amz (show ¬ ((s.size:Nat):Int)<((s.size:Nat):Int)by omega),amx];exact⟨rfl,t7⟩) fuel 0 0 rfl (amR _) (by unfold fuel;omega)
  obtain⟨r2,hr2,_⟩:=di (body:=kJ s) (fun i s=>s=(i:Int)) (fun _=>True) (fun _=>True) s.size (fun i st hs hi=>by
   subst hs;obtain⟨x,hx⟩:=hget i hi;unfold kJ;dsimp only;rw[amA (show((i:Nat):Int)<((s.size:Nat):Int)by omega),amy,wrapN m0];refine fG hx ?_
   repeat' (first|exact eO trivial|exact jc rfl|refine fa (fun _=>?_) (fun _=>?_))) (fun st hs=>by
   subst hs;unfold kJ;dsimp only;rw[amz (show ¬ ((s.size:Nat):Int)<((s.size:Nat):Int)by omega),amx];exact⟨rfl,t7⟩) fuel 0 0 rfl (amR _) (by unfold fuel;omega)
  rw[show((0:Nat):Int)=0 from rfl,hr1,hr2];have hk1:∃ b,cq s r1=some b:=by
   cases r1 with
   |inr q=>exact⟨_,rfl⟩
   |inl i=>unfold cq;dsimp only;rw[hw.1,amv,hbi];exact⟨_,rfl⟩
  have hk2:∃ b,cu s r2=some b:=by
   cases r2 with
   |inr q=>exact⟨_,rfl⟩
   |inl i=>unfold cu;dsimp only;rw[hw.1,amv,hbi];exact⟨_,rfl⟩
  repeat' (first|exact hk1|exact hk2|exact⟨_,rfl⟩|refine t8 ?_ ?_)
theorem wS (t:bv)(hl:t.columns.length<=4000000000000):mB t=some (t.columns.map (·.kind)):=by
 unfold mB;rw[bA (l:=t.columns) (fun c=>[c.kind]) 17592186044416 ?_ ?_ (by unfold fuel;omega) [] (by rw[fo_];simp;omega)]
 ·rw[amv,fo_,amB];rfl
 ·intro s i x hx hs
  have hi:=(amw.1 hx).1;unfold lj;dsimp only;rw[aC hx,amy,gn_ hx,amv,amA (show s.length+1<=17592186044416 from hs),amy,wrapN m0]
 ·intro s
  unfold lj;dsimp only;rw[lF_,amx]
theorem Ir (t:bv)(s:ByteArray)(hl:t.columns.length<=4000000000000):∃ b,uN t s=some b:=by
 obtain⟨r,hr,_⟩:=di (body:=kH t s) (fun i s=>s=(i:Int)) (fun _=>True) (fun _=>True) t.columns.length (fun i s hs hi=>by
  subst hs;obtain⟨x,hx⟩:=gol_ hi;unfold kH;dsimp only;rw[aC hx,amy,wrapN m0];exact fG (gn_ hx) (fa (fun _=>eO trivial) fun _=>jc rfl)) (fun s hs=>by
  subst hs;unfold kH;dsimp only;rw[lF_,amx];exact⟨rfl,t7⟩) fuel 0 0 rfl (amR _) (by unfold fuel;omega)
 unfold uN;rw[hr]
 cases r<;>exact⟨_,rfl⟩
theorem HK (t:bv):∃ r,ug t=some r/\(r=0->1<=t.columns.length/\t.columns.length<=12):=by
 unfold ug;by_cases h1:((t.columns.length:Nat):Int)<1
 ·rw[amA h1];exact⟨_,rfl,fun h=>by cases h⟩
 rw[amz h1,amx];by_cases h2:(12:Int)<((t.columns.length:Nat):Int)
 ·rw[amA h2];exact⟨_,rfl,fun h=>by cases h⟩
 rw[amz h2,amx];obtain⟨r,hr,_⟩:=di (body:=jW t) (fun i s=>s=(i:Int)) (fun _=>True) (fun _=>True) t.columns.length (fun i s hs hi=>by
  subst hs;obtain⟨x,hx⟩:=gol_ hi;obtain⟨b,hb⟩:=pD x.nm;obtain⟨k,hk⟩:=Ir t x.nm m0;unfold jW;dsimp only;rw[aC hx,amy,wrapN m0];refine fG (gn_ hx) (fG hb (fa (fun _=>eO trivial) fun _=>fa (fun _=>eO trivial) fun _=>fa (fun _=>eO trivial) fun _=>fG hk (fa (fun _=>eO trivial) fun _=>jc rfl)))) (fun s hs=>by
  subst hs;unfold jW;dsimp only;rw[lF_,amx];exact⟨rfl,t7⟩) fuel 0 0 rfl (amR _) (by unfold fuel;omega)
 rw[hr]
 cases r<;>exact⟨_,rfl,fun _=>by omega⟩
theorem KY (t:bv)(hl:t.key.length<=40000000000000):∃ r,yo t=some r/\(r=0->t.key.length<=t.columns.length):=by
 unfold yo;by_cases h0:((t.key.length:Nat):Int)=0
 ·rw[amA h0];exact⟨_,rfl,fun h=>by cases h⟩
 rw[amz h0,amx];obtain⟨r,hr,hq,hz⟩:=di (body:=mA t) (fun i s=>s=(i:Int) /\ ∀ j,i=j+1 ->∃ x,t.key[j]?=some x/\(j:Int)<=x/\x<((t.columns.length:Nat):Int)) (fun _=>t.key.length<=t.columns.length) (fun q=>q≠0) t.key.length (fun i s hs hi=>by
  obtain⟨rfl,hp⟩:=hs;obtain⟨x,hx⟩:=gol_ hi;unfold mA;dsimp only;rw[aC hx,amy,wrapN m0];refine fG (gn_ hx) ?_;unfold sD;by_cases x0:0<=x
  ·rw[amA x0,amy,amv]
   by_cases x1:x<((t.columns.length:Nat):Int)
   ·rw[amA x1,Bool.not_true,amx]
    obtain⟨c,hc⟩:=gol_ (l:=t.columns) (i:=x.toNat) m0;have hg:aq t.columns x=some c:=by unfold aq;rw[if_pos x0];exact hc
    rw[hg];simp only[amv];refine fa (fun hpos=>?_) fun hpos=>?_
    ·have hpos:=amZ hpos
     obtain⟨j,rfl⟩:∃ j,i=j+1:=⟨i-1,m0⟩;obtain⟨y,hy,y1,y2⟩:=hp j rfl;rw[aS (show((j+1:Nat):Int)-1=((j:Nat):Int)by omega) m0];refine fG (gn_ hy) (fa (fun _=>eO m9) fun hle=>?_);have hle:=of_decide_eq_false hle;refine fa (fun _=>eO m9) fun _=>jc ⟨rfl,fun k hk=>?_⟩
     obtain rfl:j+1=k:=m0
     exact⟨x,hx,m0,x1⟩
    ·have hpos:=of_decide_eq_false hpos
     refine fa (fun _=>eO m9) fun _=>jc ⟨rfl,fun k hk=>?_⟩
     obtain rfl:i=k:=m0
     exact⟨x,hx,m0,x1⟩
   ·rw[amz x1]
    exact eO m9
  ·rw[amz x0]
   exact eO m9) (fun s hs=>by
  obtain⟨rfl,hp⟩:=hs;unfold mA;dsimp only;rw[lF_,amx];refine⟨rfl,?_⟩
  cases hk:t.key.length with
  |zero=>exact amR _
  |succ j =>
   obtain⟨x,_,h1,h2⟩:=hp j hk;omega) fuel 0 0 ⟨rfl,fun j h=>by omega⟩ (amR _) (by unfold fuel;omega)
 rw[hr]
 cases r with
 |inl s=>exact⟨_,rfl,fun _=>hq s rfl⟩
 |inr q=>exact⟨_,rfl,fun h=>absurd h (hz q rfl)⟩
theorem LD (t:bv)(f:Fgn)(hl:f.columns.length<=40000000000000):∃ r,AO t f=some r:=by
 unfold AO;obtain⟨b,hb⟩:=pD f.table;rw[hb,amv];have key:∃ r,ap (jB t f) fuel (0:Int)=some r:=by
  obtain⟨r,hr,_⟩:=di (body:=jB t f) (fun i s=>s=(i:Int)) (fun _=>True) (fun _=>True) f.columns.length (fun i s hs hi=>by
   subst hs;obtain⟨x,hx⟩:=gol_ hi;obtain⟨e,he⟩:∃ e,sD t x=some e:=by unfold sD;exact t8 ⟨_,rfl⟩ ⟨_,rfl⟩
   obtain⟨r,hr,_⟩:=di (body:=mU f (i:Int) x) (fun k s=>s=(k:Int)) (fun _=>True) (fun _=>True) i (fun k s hs hk=>by
    subst hs;obtain⟨y,hy⟩:=gol_ (l:=f.columns) (i:=k) m0;unfold mU;dsimp only;rw[amA (show((k:Nat):Int)<((i:Nat):Int)by omega),amy,wrapN m0];exact fG (gn_ hy) (fa (fun _=>eO trivial) fun _=>jc rfl)) (fun s hs=>by
    subst hs;unfold mU;dsimp only;rw[amz (show ¬ ((i:Nat):Int)<((i:Nat):Int)by omega),amx];exact⟨rfl,t7⟩) fuel 0 0 rfl (amR _) (by unfold fuel;omega)
   unfold jB;dsimp only;rw[aC hx,amy];refine fG (gn_ hx) (fG he (fa (fun _=>eO trivial) fun _=>?_));rw[hr,amv];unfold jx
   cases r with
   |inl k=>dsimp only;rw[wrapN m0];exact jc rfl
   |inr q=>exact eO trivial) (fun s hs=>by
   subst hs;unfold jB;dsimp only;rw[lF_,amx];exact⟨rfl,t7⟩) fuel 0 0 rfl (amR _) (by unfold fuel;omega)
  exact⟨r,hr⟩
 obtain⟨r,hr⟩:=key;rw[hr];refine t8 ⟨_,rfl⟩ (t8 ⟨_,rfl⟩ ?_)
 cases r<;>exact⟨_,rfl⟩
theorem LX (t:bv)(hc:t.columns.length<=12)(hf:∀ f∈t.foreigns,f.columns.length<=40000000000000)(ho:∀ e∈t.checks,xk e):∃ r,Ar t=some r/\(r=0->t.checks.length<=4 /\ ∀ e∈t.checks,nF (hgt e) e):=by
 unfold Ar;by_cases h1:(4:Int)<((t.foreigns.length:Nat):Int)
 ·rw[amA h1];exact⟨_,rfl,fun h=>by cases h⟩
 rw[amz h1,amx];obtain⟨r,hr,_,hz⟩:=di (body:=mo t) (fun i s=>s=(i:Int)) (fun _=>True) (fun q=>q≠0) t.foreigns.length (fun i s hs hi=>by
  subst hs;obtain⟨x,hx⟩:=gol_ hi;obtain⟨e,he⟩:=LD t x (hf x (amC hx));unfold mo;dsimp only;rw[aC hx,amy,wrapN m0];exact fG (gn_ hx) (fG he (fa (fun h=>eO (amZ h)) fun _=>jc rfl))) (fun s hs=>by
  subst hs;unfold mo;dsimp only;rw[lF_,amx];exact⟨rfl,t7⟩) fuel 0 0 rfl (amR _) (by unfold fuel;omega)
 rw[hr,amv]
 cases r with
 |inr q=>exact⟨q,rfl,fun h=>absurd h (hz q rfl)⟩
 |inl s =>
  unfold jy;dsimp only;by_cases h2:(4:Int)<((t.checks.length:Nat):Int)
  ·rw[amA h2];exact⟨_,rfl,fun h=>by cases h⟩
  rw[amz h2,amx];obtain⟨r,hr,hq,hz⟩:=di (body:=mb t) (fun i s=>s=(i:Int) /\ ∀ e∈t.checks.take i,nF (hgt e) e) (fun _ =>∀ e∈t.checks,nF (hgt e) e) (fun q=>q≠0) t.checks.length (fun i s hs hi=>by
   obtain⟨rfl,hp⟩:=hs;obtain⟨x,hx⟩:=gol_ hi;have hox:=ho x (amC hx);obtain⟨d,hd⟩:=CX (hgt x) x (amM _) hox;obtain⟨c,hc1,hc2⟩:=C9 (t.columns.map (·.kind)) (hgt x) x (amM _) hox;have hck:tt x (t.columns.map (·.kind))=some (bif decide ((24:Int)<d)then((0:Int),(26:Int))else(c.1,c.2)):=by
    unfold tt;rw[hd,amv,hc1]
    cases decide ((24:Int)<d)<;>rfl
   unfold mb;dsimp only;rw[aC hx,amy,wrapN m0];refine fG (gn_ hx) (fG (wS t m0) (fG hck (fa (fun h=>eO (amZ h)) fun h=>?_)));have h:=of_decide_eq_false h;have hP:(fun s=>s=((i+1:Nat):Int) /\ ∀ e∈t.checks.take (i+1),nF (hgt e) e) ((i+1:Nat):Int):=by
    refine⟨rfl,fun e he=>?_⟩;rw[bu hx]at he;rcases amY.1 he with he|he
    ·exact hp e he
    ·rw[am'.1 he]
     refine hc2 ?_
     cases h24:decide ((24:Int)<d)with
     |true=>rw[h24]at h;exact absurd (show((26:Int))≠0 by decide) h
     |false=>rw[h24]at h;exact Decidable.not_not.1 h
   refine fa (fun _=>fa (fun _=>eO m9) fun _=>jc hP) fun _=>jc hP) (fun s hs=>by
   obtain⟨rfl,hp⟩:=hs;unfold mb;dsimp only;rw[lF_,amx];refine⟨rfl,fun e he=>hp e ?_⟩;rw[List.take_length];exact he) fuel 0 0 ⟨rfl,fun e he=>by simp at he⟩ (amR _) (by unfold fuel;omega)
  rw[hr,amv]
  cases r with
  |inl s=>exact⟨_,rfl,fun _=>⟨m0,hq s rfl⟩⟩
  |inr q=>exact⟨q,rfl,fun h=>absurd h (hz q rfl)⟩
structure TOK (t:bv):Prop where
 cols:t.columns.length<=12
 key:t.key.length<=12
 chk:t.checks.length<=4
 ex:∀ e∈t.checks,nF (hgt e) e
theorem Fj {t:bv}(ho:wy t):∃ r,pi t=some r/\(r=0->TOK t):=by
 have hk:=ho.key.1;have hf:∀ f∈t.foreigns,f.columns.length<=40000000000000:=fun f hm=>by
  have:=(ho.foreigns.2 f hm).columns.1;unfold reachBytes at this;omega
 unfold reachBytes at hk;unfold pi;obtain⟨b,hb⟩:=pD t.nm;rw[hb,amv]
 cases b with
 |false=>exact⟨_,rfl,fun h=>by cases h⟩
 |true =>
  rw[Bool.not_true,amx];obtain⟨c,hc,hc2⟩:=HK t;rw[hc,amv];by_cases h0:c=0
  ·obtain⟨_,hcl⟩:=hc2 h0
   rw[amA h0,amy];obtain⟨k,hk1,hk2⟩:=KY t m0;rw[hk1,amv];by_cases h1:k=0
   ·rw[amA h1,amy]
    have hkl:=hk2 h1;obtain⟨r,hr,hr2⟩:=LX t hcl hf ho.checks.2;rw[hr];exact⟨r,rfl,fun h=>⟨hcl,m0,(hr2 h).1,(hr2 h).2⟩⟩
   ·rw[amz h1,amx]
    exact⟨k,rfl,fun h=>absurd h h1⟩
  ·rw[amz h0,amx]
   exact⟨c,rfl,fun h=>absurd h h0⟩
theorem LH {t:bv}{l:List aw}(ho:wy t)(hl:l.length<=1000):∃ b,AG t l=some b/\(b=true->TOK t/\NOK t.columns.length l /\ ∀ f∈l,∀ v∈f.row,KD v):=by
 unfold AG;obtain⟨r,hr,hr2⟩:=Fj ho;rw[hr,amv];by_cases h0:r=0
 ·have ht:=hr2 h0
  have hc:=ht.cols;rw[amA h0,amy,wS t m0,amv];obtain⟨b,hb,hb2⟩:=M7 (r:=⟨t.columns.map (·.kind),l⟩) hl (by show(t.columns.map _).length<=48;rw[amI];omega);rw[hb];refine⟨b,rfl,fun h=>?_⟩;obtain⟨_,h2,h3⟩:=hb2 h;refine⟨ht,fun f hf=>⟨?_,fun v hv hk=>agt (h3 f hf v hv) hk⟩,fun f hf v hv=>(sa (h3 f hf v hv)).vok⟩;have:=h2 f hf;rw[amI]at this;exact this
 ·rw[amz h0]
  exact⟨false,rfl,fun h=>by cases h⟩
noncomputable section
def alv:TI :={ xm with owns:=fun f=>f==13||xm.owns f }
theorem xF:TIok Tryz.prog alv:=⟨ae.size,ae.agg,ae.elem,ae.field,ae.zero,ae.bytes,ae.kind,ae.struct,ae.zok,ae.eqs⟩
def zB (t:bv)(l:List aw):Option (List bD):=(lG t l).bind fun r_1=>(u7 t l).bind fun r_2=>(qj t l).bind fun r_3=>bif decide (r_1.length<=10000000/\r_2.length<=10000000/\r_3.length<=10000000)then some (r_1++r_2++r_3)else none
theorem abx {t:bv}{l:List aw}{r:List bD}(H:zB t l=some r):PTz 17 [.agg (bn t),.one (.lst (l.map aA))] (.val (.one (.lst (r.map bN)))):=by
 unfold zB at H;obtain⟨vn,c1,H⟩:=bd_ H;obtain⟨vu,c2,H⟩:=bd_ H;obtain⟨vc,c3,H⟩:=bd_ H;obtain⟨⟨h1,h2,h3⟩,H⟩:=bo H
 cases H;have hN:RTz 13 [] [.agg ((bn t).map SV.c),.one (.c (.lst (l.map aA)))] [.dead,.spare vn.length 6] (.one (.own (vn.map bN) 1)):=LO c1;have hU:=acn c2;have hC:=EV c3;refine pa_ ae Tryz.func17 rfl rfl Tryz.ntmps17 m5 ?_;simp only[argT,PV.av,bn,amH,amL];have hl1:(vn.map bN).length=vn.length:=amI ..;have hl2:(vu.map bN).length=vu.length:=amI ..;have hl3:(vc.map bN).length=vc.length:=amI ..;have hl12:(vn.map bN++vu.map bN).length=vn.length+vu.length:=by rw[amE,hl1,hl2]
 repeat' (first|(refine cY 0 (ts:=bn t) rfl rfl ?_)|refine aF rfl rfl rfl rfl hU rfl ?_|refine aF rfl rfl rfl rfl hC rfl ?_|(refine cB [] rfl rfl rfl rfl hN rfl (wa (bS ⟨(by intro x hx;obtain⟨y,_,rfl⟩:=am6.1 hx;trivial),t7,t7⟩)) rfl rfl ?_)|refine gw_ trivial trivial ?_|refine gi_ (fun hb=>?_) (fun hb=>?_)|refine aw_region (id:=0) xF _ rfl ?_|refine aw_region (id:=1) xF _ rfl ?_|refine aw_region (id:=2) xF _ rfl ?_|refine aw_region (id:=3) xF _ rfl ?_|fail)
 rw[amJ,amJ];refine⟨.inr rfl,?_⟩
 first|exact⟨t7,rfl⟩|exact⟨⟨t7,t7⟩,rfl⟩|(refine⟨?_,rfl⟩;repeat' (first|exact t7|rfl|apply And.intro))
end
theorem lA (a:List bD)(hl:a.length<=1000000)(hr:∀ v∈a,v.row.length<=1000000):oJ a a=some true:=by
 obtain⟨r,hr,_,hz⟩:=di (body:=jv a a) (fun i s=>s=(i:Int)) (fun _=>True) (fun _=>False) a.length (fun i s hs hi=>by
  subst hs;obtain⟨x,hx⟩:=gol_ hi;have hxr:=hr x (amC hx);unfold jv;dsimp only;rw[aC hx,amy,wrapN m0];refine fG (gn_ hx) (fG (gn_ hx) ?_);rw[amz (show ¬ x.kind≠x.kind by simp),amx,amz (show ¬ x.index≠x.index by simp),cz,amA (show x.valid.lo=x.valid.lo/\x.valid.hi=x.valid.hi from⟨rfl,rfl⟩),show(x.table.toList==x.table.toList)=true by simp];simp only[Bool.not_true,amx];refine fG (ef _ _ m0 m0) ?_;rw[tCr_.refl];exact jc rfl) (fun s hs=>by
  subst hs;unfold jv;dsimp only;rw[lF_,amx];exact⟨rfl,t7⟩) fuel 0 0 rfl (amR _) (by unfold fuel;omega)
 unfold oJ;rw[amz (show ¬ ((a.length:Nat):Int)≠((a.length:Nat):Int)by simp),amx];have hr:ap (jv a a) fuel (0:Int)=some r:=hr;rw[hr]
 cases r with
 |inl s=>rfl
 |inr q=>exact(hz q rfl).elim
theorem Lt (l:List aw)(hl:l.length<=4000000000000):∃ b,zZ l 14=some b/\(b=true->l.length<=14 /\ ∀ f∈l,f.row.length<=60):=by
 unfold zZ;by_cases h1:(14:Int)<((l.length:Nat):Int)
 ·rw[amA h1];exact⟨_,rfl,fun h=>by cases h⟩
 rw[amz h1,amx];obtain⟨r,hr,hq,hz⟩:=di (body:=nr l) (fun i s=>s=(i:Int) /\ ∀ f∈l.take i,f.row.length<=60) (fun _ =>∀ f∈l,f.row.length<=60) (fun q=>q=false) l.length (fun i s hs hi=>by
  obtain⟨rfl,hp⟩:=hs;obtain⟨x,hx⟩:=gol_ hi;unfold nr;dsimp only;rw[aC hx,amy,wrapN m0];refine fG (gn_ hx) (fa (fun _=>eO rfl) fun h=>jc ⟨rfl,fun f hf=>?_⟩);have h:=of_decide_eq_false h;rw[bu hx]at hf;rcases amY.1 hf with hf|hf
  ·exact hp f hf
  ·rw[am'.1 hf];omega) (fun s hs=>by
  obtain⟨rfl,hp⟩:=hs;unfold nr;dsimp only;rw[lF_,amx];refine⟨rfl,fun f hf=>hp f ?_⟩;rw[List.take_length];exact hf) fuel 0 0 ⟨rfl,fun f hf=>by simp at hf⟩ (amR _) (by unfold fuel;omega)
 rw[hr]
 cases r with
 |inl s=>exact⟨_,rfl,fun _=>⟨m0,hq s rfl⟩⟩
 |inr q=>exact⟨q,rfl,fun h=>by rw[hz q rfl]at h;cases h⟩
theorem GN (t:bv)(l:List aw)(hl:l.length<=4000000000000):∃ b,pN [t] [l]=some b/\(b=true->l.length<=14 /\ ∀ f∈l,f.row.length<=60):=by
 obtain⟨b,hb,hb2⟩:=Lt l hl;obtain⟨r2,hr2,hq2,hz2⟩:=di (body:=iz [l]) (fun i s=>s=(i:Int)/\(0<i->b=true)) (fun _=>b=true) (fun q=>q=false) 1 (fun i s hs hi=>by
  obtain⟨rfl,hp⟩:=hs;obtain rfl:i=0:=m0
  unfold iz;dsimp only;rw[show decide (((0:Nat):Int)<((([l].length:Nat)):Int))=true from rfl,amy,show aq [l] ((0:Nat):Int)=some l from rfl,amv,hb,amv];refine fa (fun _=>eO rfl) fun h=>jc ⟨rfl,fun _=>?_⟩
  cases b with
  |true=>rfl
  |false=>cases h) (fun s hs=>by
  obtain⟨rfl,hp⟩:=hs;exact⟨rfl,hp m0⟩) fuel 0 0 ⟨rfl,fun h=>by omega⟩ m0 (by unfold fuel;omega)
 obtain⟨r1,hr1,_,hz1⟩:=di (body:=iH [t]) (fun i s=>s=(i:Int)) (fun _=>True) (fun q=>q=false) 1 (fun i s hs hi=>by
  subst hs;obtain rfl:i=0:=m0
  unfold iH;dsimp only;rw[show decide (((0:Nat):Int)<((([t].length:Nat)):Int))=true from rfl,amy,show aq [t] ((0:Nat):Int)=some t from rfl,amv];exact fa (fun _=>eO rfl) fun _=>fa (fun _=>eO rfl) fun _=>fa (fun _=>eO rfl) fun _=>jc rfl) (fun s hs=>by subst hs;exact⟨rfl,t7⟩) fuel 0 0 rfl m0 (by unfold fuel;omega)
 unfold pN;rw[show decide ((4:Int)<((([t].length:Nat)):Int))=false from rfl,show decide ((4:Int)<((([l].length:Nat)):Int))=false from rfl,amx,amx];have hr1:ap (iH [t]) fuel (0:Int)=some r1:=hr1;have hr2:ap (iz [l]) fuel (0:Int)=some r2:=hr2;rw[hr1,amv]
 cases r1 with
 |inr q=>exact⟨q,rfl,fun h=>by rw[hz1 q rfl]at h;cases h⟩
 |inl s =>
  unfold cZ;dsimp only;rw[hr2,amv]
  cases r2 with
  |inr q=>exact⟨q,rfl,fun h=>by rw[hz2 q rfl]at h;cases h⟩
  |inl s2=>exact⟨true,rfl,fun _=>hb2 (hq2 s2 rfl)⟩
def AQ (t:bv)(l:List aw)(R:List (List Val)):List bD:=(List.range t.columns.length).flatMap fun i:Nat=>kL (gV t i) 1 (i:Int) t.nm (setOf l R)
def BH (t:bv)(l:List aw)(R:List (List Val)):List bD:=(List.range t.checks.length).flatMap fun i:Nat=>kL (jp t i) 4 (i:Int) t.nm (setOf l R)
def Gp (t:bv)(l:List aw)(R:List (List Val)):List bD:=R.flatMap (gB t l)
def VSm (a:List bD):Prop:=a.length<=100000 /\ ∀ v∈a,v.row.length<=60
theorem VSm.append {a b:List bD}(ha:a.length<=10000 /\ ∀ v∈a,v.row.length<=60)(hb:b.length<=20000 /\ ∀ v∈b,v.row.length<=60):(a++b).length<=30000 /\ ∀ v∈a++b,v.row.length<=60 :=
 ⟨by rw[amE];omega,fun v hv=>(amY.1 hv).elim (ha.2 v) (hb.2 v)⟩
theorem aau (q:List Val->Bool)(k i:Int)(nm:ByteArray)(S:List aw)(hS:∀ f∈S,f.row.length<=60):∀ v∈kL q k i nm S,v.row.length<=60:=by
 intro v hv;obtain⟨f,hf,rfl⟩:=am6.1 hv;exact hS f (List.mem_filter.1 hf).1
theorem I_ (t:bv)(l:List aw)(ht:TOK t)(h:Nb l)(hn:NOK t.columns.length l){R:List (List Val)}(hR:bY l R) :
  (tp t l=some (AQ t l R)/\lG t l=some (AQ t l R))/\(uG t l=some (BH t l R)/\qj t l=some (BH t l R))/\(tq t l=some (AQ t l R++Gp t l R++BH t l R)/\zB t l=some (AQ t l R++Gp t l R++BH t l R)) /\
  ((AQ t l R).length<=10000 /\ ∀ v∈AQ t l R,v.row.length<=60)/\((Gp t l R).length<=10000 /\ ∀ v∈Gp t l R,v.row.length<=60)/\((BH t l R).length<=10000 /\ ∀ v∈BH t l R,v.row.length<=60):=by
 obtain⟨c1,c2,c3,c4⟩:=ht;obtain⟨R2,e1,e2,e3⟩:=yD l h;obtain rfl:=hR.ext e1;have hl:=h.len;have hsl:=gw hR m0;have hrl:=zY hR;have hrow:∀ r∈R,r.length<=60:=fun r hr=>by
  obtain⟨f,hf,_,e⟩:=(hR.2 r).1 hr;rw[<- e];exact(h.fct f hf).1
 have hS:∀ f∈setOf l R,f.row.length<=60:=fun f hf=>hrow f.row (jz hR hf).1
 have n1:=adD t l h hn m0 hR e2;have n2:=acv t l h hn m0 hR;have k1:=aew t l h c4 m0 hR e2;have k2:=aaW t l h c4 m0 hR;have u1:=ajn t l h m0 hR e2;have u2:=acd t l h m0 hR e3;have lN:(AQ t l R).length<=10000:=by
  have:=jh (fun i:Nat=>kL (gV t i) 1 (i:Int) t.nm (setOf l R)) 42 (List.range t.columns.length) fun i _=>by have:=k9 (gV t i) 1 (i:Int) t.nm (setOf l R);omega
  rw[List.length_range]at this;have h2:=am7 42 c1;show((List.range t.columns.length).flatMap fun i:Nat=>kL (gV t i) 1 (i:Int) t.nm (setOf l R)).length<=10000;omega
 have lC:(BH t l R).length<=10000:=by
  have:=jh (fun i:Nat=>kL (jp t i) 4 (i:Int) t.nm (setOf l R)) 42 (List.range t.checks.length) fun i _=>by have:=k9 (jp t i) 4 (i:Int) t.nm (setOf l R);omega
  rw[List.length_range]at this;have h2:=am7 42 c3;show((List.range t.checks.length).flatMap fun i:Nat=>kL (jp t i) 4 (i:Int) t.nm (setOf l R)).length<=10000;omega
 have lU:(Gp t l R).length<=10000:=by
  have:=jh (gB t l) 200 R fun r _=>su t l hl r
  show(R.flatMap (gB t l)).length<=10000;omega
 have rN:∀ v∈AQ t l R,v.row.length<=60:=fun v hv=>by
  obtain⟨i,_,hv⟩:=List.mem_flatMap.1 hv;exact aau _ _ _ _ _ hS v hv
 have rC:∀ v∈BH t l R,v.row.length<=60:=fun v hv=>by
  obtain⟨i,_,hv⟩:=List.mem_flatMap.1 hv;exact aau _ _ _ _ _ hS v hv
 have rU:∀ v∈Gp t l R,v.row.length<=60:=fun v hv=>by
  obtain⟨r,hr,hv⟩:=List.mem_flatMap.1 hv;obtain⟨p,_,rfl⟩:=am6.1 hv;exact hrow r hr
 have n1:tp t l=some (AQ t l R):=n1;have n2:lG t l=some (AQ t l R):=n2;have k1:uG t l=some (BH t l R):=k1;have k2:qj t l=some (BH t l R):=k2;have u1:gUV t l=some (Gp t l R):=u1;have u2:u7 t l=some (Gp t l R):=u2;refine⟨⟨n1,n2⟩,⟨k1,k2⟩,⟨?_,?_⟩,⟨lN,rN⟩,⟨lU,rU⟩,⟨lC,rC⟩⟩
 ·unfold tq
  rw[n1,amv,u1,amv,k1,amv,amA ⟨m0,m0,m0⟩,amy]
 ·unfold zB
  rw[n2,amv,u2,amv,k2,amv,amA ⟨m0,m0,m0⟩,amy]
def aE:Ex:=Ex.mk 11 0 ⟨0,0,empty⟩ empty [Ex.mk 2 1 ⟨0,0,empty⟩ empty [],Ex.mk 1 0 ⟨1,0,empty⟩ empty []]
def aT:bv:=⟨⟨#[116]⟩,[⟨⟨#[97]⟩,1,false⟩,⟨⟨#[98]⟩,1,false⟩],[0],[],[aE]⟩
def aF1:aw:=⟨[⟨1,1,empty⟩,⟨0,0,empty⟩],⟨0,3⟩⟩
def aF2:aw:=⟨[⟨1,2,empty⟩,⟨1,0,empty⟩],⟨1,4⟩⟩
def aF3:aw:=⟨[⟨1,2,empty⟩,⟨1,5,empty⟩],⟨3,6⟩⟩
def aL:List aw:=[aF1,aF2,aF3]
def aW:List bD:=[⟨1,⟨#[116]⟩,1,aF1.row,aF1.valid⟩,⟨2,⟨#[116]⟩,0,aF2.row,⟨3,4⟩⟩,⟨2,⟨#[116]⟩,0,aF3.row,⟨3,4⟩⟩,⟨4,⟨#[116]⟩,0,aF2.row,aF2.valid⟩]
def aR:List (List Val):=[aF1.row,aF2.row,aF3.row]
theorem alW:TOK aT:=by
 refine⟨by decide,by decide,by decide,fun e he=>?_⟩;rw[am'.1 he];have h2:hgt aE=2:=rfl;rw[h2];refine⟨by decide,fun x hx=>⟨?_,fun y hy=>?_⟩⟩
 ·rcases amN.1 hx with rfl|hx
  ·decide
  ·rw[am'.1 hx];decide
 ·rcases amN.1 hx with rfl|hx
  ·cases hy
  ·rw[am'.1 hx]at hy;cases hy
theorem alH:Nb aL:=by
 refine⟨by decide,fun f hf=>?_⟩;have key:∀ f∈aL,f.row.length<=60 /\ ∀ v∈f.row,KD v:=by
  unfold aL aF1 aF2 aF3 KD;decide +kernel
 exact key f hf
theorem alG:NOK aT.columns.length aL:=by
 have key:∀ f∈aL,f.row.length=aT.columns.length /\ ∀ v∈f.row,v.kind=0->v.int=0/\v.text.size=0:=by
  unfold aL aF1 aF2 aF3;decide +kernel
 intro f hf;obtain⟨h1,h2⟩:=key f hf;refine⟨h1,fun v hv hk=>?_⟩;obtain⟨h3,h4⟩:=h2 v hv hk;obtain⟨k,n,⟨⟨s⟩⟩⟩:=v;have hs:s=[]:=amW h4;simp only at hk h3;rw[hk,h3,hs];rfl
theorem aly:bY aL aR:=by
 have h1:um aR:=by unfold um;decide +kernel
 refine⟨h1,fun x=>?_⟩;have hv:∀ f∈aL,az f.valid=true:=by decide +kernel
 have hm:aR=aL.map (·.row):=rfl;rw[hm,am6];constructor
 ·rintro⟨f,hf,rfl⟩;exact⟨f,hf,hv f hf,rfl⟩
 ·rintro⟨f,hf,_,rfl⟩;exact⟨f,hf,rfl⟩
theorem alo:AQ aT aL aR++Gp aT aL aR++BH aT aL aR=aW:=k7
theorem aj':tq aT aL=some aW:=by
 have h:=(I_ aT aL alW alH alG aly).2.2.1.1;rw[alo]at h;exact h
theorem ajY:tk [aT] [aL]=some aW:=by
 unfold tk;rw[bA (l:=[aT]) (fun _=>aW) 1954687338268 ?_ ?_ (by unfold fuel;simp) [] (by simp[aW])]
 ·rfl
 ·intro s i x hx hs
  obtain⟨hi,e⟩:=amw.1 hx;obtain rfl:i=0:=by simpa using hi
  obtain rfl:aT=x:=e;have hin:ap (oF [aT] [aL] aT aL) fuel (s++aW,(0:Int))=some (.inl (s++aW,0)):=by
   have hf:fuel=(fuel-1)+1:=rfl;rw[hf,ap];unfold oF;dsimp only;rw[show decide ((0:Int)<((aT.foreigns.length:Nat):Int))=false from rfl,amx]
  unfold sQ;dsimp only;rw[show decide (((0:Nat):Int)<((([aT].length:Nat)):Int))=true from rfl,amy,show aq [aT] ((0:Nat):Int)=some aT from rfl,amv,show decide (((([aL].length:Nat)):Int)<=((0:Nat):Int))=false from rfl,amx,show aq [aL] ((0:Nat):Int)=some aL from rfl,amv,aj',amv,amA hs,amy,hin];rfl
 ·intro s;rfl
theorem als:lZ [aT] [aL] 4=some true:=by
 unfold lZ;rw[ajY,amv];kernel_rfl
theorem alL:lZ [aT] [aL] 3=some false:=by
 unfold lZ;rw[ajY,amv];kernel_rfl
theorem B9:tj=some true:=by
 unfold tj;rw[show kX 1 (-9) 0 3=some aF1 from rfl,amv,show kX 2 0 1 4=some aF2 from rfl,amv,show kX 2 5 3 6=some aF3 from rfl,amv];rw[show aq [aF1,aF2,aF3] (0:Int)=some aF1 from rfl,amv,show aq [aF1,aF2,aF3] (1:Int)=some aF2 from rfl,amv,show aq [aF1,aF2,aF3] (2:Int)=some aF3 from rfl,amv,show F2=some aT from rfl,amv];change (tq aT aL).bind _=_;rw[aj',amv];change (oJ aW aW).bind _=_;rw[lA aW m9 m9,amv,amy,show xx aW=some 12 from rfl,amv,show decide ((12:Int)=12)=true from rfl,amy];change (lZ [aT] [aL] 4).bind _=_;rw[als,amv,amy];change (lZ [aT] [aL] 3).bind _=_;rw[alL];rfl
theorem Aw.awake_pure:PTz 10 [] (.val (.one (.bool true))):=JG B9
noncomputable section
def nZ (a_t:bv)(a_l:(List aw)):Option (Bool):=(pN [a_t] [a_l]).bind fun r_1=>bif (!r_1)then some (true)else
 (AG a_t a_l).bind fun r_4=>bif (!r_4)then some (true)else
 (tp a_t a_l).bind fun r_7=>(lG a_t a_l).bind fun r_8=>(oJ r_7 r_8).bind fun r_9=>bif r_9 then(uG a_t a_l).bind fun r_11=>(qj a_t a_l).bind fun r_12=>(oJ r_11 r_12).bind fun r_13=>bif r_13 then(tq a_t a_l).bind fun r_15=>(zB a_t a_l).bind fun r_16=>(oJ r_15 r_16).bind fun r_17=>bif r_17 then some (true)else
 some false else
 some false else
 some false
theorem Cm {a_t:bv}{a_l:(List aw)}{r:Bool}(H:nZ a_t a_l=some r):PTz 3 [.agg (bn a_t),.one (.lst (a_l.map aA))] (.val (.one (.bool r))):=by
 unfold nZ at H;refine po_ Tryz.func3 Tryz.ntmps3 ?_;obtain⟨r_1,c1,H⟩:=bd_ H;replace c1:=Jp c1
 try simp only[amJ,amH,amL,amB,aN]at c1
 rcases af H with⟨q_2,H⟩|⟨q_2,H⟩
 ·have hc_3:=Aw.awake_pure
  try simp only[amJ,amH,amL,amB,aN]at hc_3
  cases H;exact bV
 obtain⟨r_4,c2,H⟩:=bd_ H;replace c2:=aba c2;rcases af H with⟨q_5,H⟩|⟨q_5,H⟩
 ·have hc_6:=Aw.awake_pure
  try simp only[amJ,amH,amL,amB,aN]at hc_6
  cases H;exact bV
 obtain⟨r_7,c3,H⟩:=bd_ H;replace c3:=afx c3;obtain⟨r_8,c4,H⟩:=bd_ H;replace c4:=ab7 c4;obtain⟨r_9,c5,H⟩:=bd_ H;replace c5:=rG c5;rcases af H with⟨q_10,H⟩|⟨q_10,H⟩
 ·obtain⟨r_11,c6,H⟩:=bd_ H
  replace c6:=ac8 c6;obtain⟨r_12,c7,H⟩:=bd_ H;replace c7:=EV c7;obtain⟨r_13,c8,H⟩:=bd_ H;replace c8:=rG c8;rcases af H with⟨q_14,H⟩|⟨q_14,H⟩
  ·obtain⟨r_15,c9,H⟩:=bd_ H
   replace c9:=Br c9;obtain⟨r_16,c10,H⟩:=bd_ H;replace c10:=abx c10;obtain⟨r_17,c11,H⟩:=bd_ H;replace c11:=rG c11;rcases af H with⟨q_18,H⟩|⟨q_18,H⟩
   ·have hc_19:=Aw.awake_pure
    try simp only[amJ,amH,amL,amB,aN]at hc_19
    cases H;exact bV
   cases H;exact bV
  cases H;exact bV
 cases H;exact bV
end
theorem xo {t:bv}{l:List aw}(ho:wy t)(hl:nC 40 tD l):nZ t l=some true:=by
 have hlen:l.length<=4000000000000:=by
  have:=hl.1;unfold reachBytes at this;omega
 unfold nZ;obtain⟨b,hb,hb2⟩:=GN t l hlen;rw[hb,amv]
 cases b with
 |false=>rfl
 |true =>
  obtain⟨h14,h60⟩:=hb2 rfl;rw[Bool.not_true,amx];obtain⟨c,hc,hc2⟩:=LH ho (l:=l) m0;rw[hc,amv]
  cases c with
  |false=>rfl
  |true =>
   obtain⟨ht,hn,hv⟩:=hc2 rfl;have hf:Nb l:=⟨h14,fun f hf=>⟨h60 f hf,hv f hf⟩⟩;obtain⟨R,hR,_⟩:=yD l hf;obtain⟨⟨n1,n2⟩,⟨k1,k2⟩,⟨t1,t2⟩,⟨lN,rN⟩,⟨lU,rU⟩,lC,rC⟩:=I_ t l ht hf hn hR;rw[Bool.not_true,amx,n1,amv,n2,amv,lA _ m0 (fun v hv=>by have:=rN v hv;omega),amv,amy,
    k1,amv,k2,amv,lA _ m0 (fun v hv=>by have:=rC v hv;omega),amv,amy,t1,amv,t2,amv,
    lA _ (by rw[amE,amE];omega) (fun v hv=>by
     rcases amY.1 hv with hv|hv
     ·rcases amY.1 hv with hv|hv
      ·have:=rN v hv;omega
      ·have:=rU v hv;omega
     ·have:=rC v hv;omega),amv,amy]
theorem pe {t:bv}{l:List aw}(q0:wy t)(q1:nC 40 tD l):PTz 3 [.agg (bn t),.one (.lst (l.map aA))] (.val (.one (.bool true))):=Cm (xo q0 q1)
