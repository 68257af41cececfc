/- Parts of the proof, joined. No condition. -/
import Derived.Test.YtfpbmfalamappaaGreatDoorKAA
import Derived.Test.YtfpbmfalamappaaGreatDoorKWD
import Derived.Test.YtfpbmfalamappaaGreatDoorKBD
import Derived.Test.YtfpbmfalamappaaGreatDoorKWC
import Derived.Test.YtfpbmfalamappaaGreatDoorKAI
import Derived.Test.YtfpbmfalamappaaGreatDoorKBE
import Derived.Test.YtfpbmfalamappaaGreatDoorKAJ
import Derived.ProofKit
import Derived.OpenShut
import Derived.ChangeOld
import Derived.Deep.Slices
set_option linter.unusedSimpArgs false
set_option linter.unusedVariables false
namespace Go.Proofs.YtfpbmfalamappaaGreatDoor
open Go.RowKit Go.MapKept
set_option maxRecDepth 100000
def xS (k:aZ):KR:=(k.key,k.row)
theorem Jo {α:Type} (y:α) (b:List α):jE (y::b) (1:Int) (((y::b).length:Nat):Int)=some b:=by
 have h : ∀ (l:List α) (a c:Int),0<=a->a<=c->c<=(l.length:Nat)->jE l a c=some ((l.take c.toNat).drop a.toNat):=fun l a c h1 h2 h3=>by
  unfold jE
  simp [h1,h2,h3]
 rw [h _ _ _ (by omega) (by rw [abw];omega) (by omega)]
 simp
theorem Ws {α:Type} (l:List α) (c:Nat) (h:c<=l.length):jE l (0:Int) ((c:Nat):Int)=some (l.take c):=by
 unfold jE
 simp [h]
theorem Vs {α:Type} (l:List α) (c:Nat) (h:c<=l.length):jE l ((c:Nat):Int) ((l.length:Nat):Int)=some (l.drop c):=by
 unfold jE
 simp [h]
theorem Ci {σ ρ:Type} {body:σ->Option (Step σ ρ)} {s t:σ} (h:body s=some (.exit t)) : ∀ n,0<n->ax body n s=some (.inl t)
 | 0,hn=>absurd hn (by omega)
 | n+1,_=>by rw [ax,h]
theorem y9 : ∀ (n:Nat) (a b out:List aZ),a.length+b.length<n->out.length+a.length+b.length<=1000->(∀ x∈a,x.key.length<=1000000)->(∀ x∈b,x.key.length<=1000000) -> ∃ r,(ax iE n (a,b,out)).bind fC=some r/\r.map xS=out.map xS++FV (a.map xS) (b.map xS)
 | 0,a,b,out,h,_,_,_=>by omega
 | n+1,[],b,out,h,hl,ha,hb=>by
  have e:iE ([],b,out)=some (.exit ([],b,out)):=rfl
  rw [ax,e]
  refine ⟨out++[]++b,?_,by simp [FV]⟩
  show fC (.inl ([],b,out))=_
  unfold fC
  dsimp only
  simp only [abF] at hl
  rw [abb (show out.length+([]:List aZ).length<=2932031007402 by simp;omega),aa',abb (show out.length+([]:List aZ).length+b.length<=2932031007402 by simp;omega),aa']
 | n+1,x::a,[],out,h,hl,ha,hb=>by
  have e:iE (x::a,[],out)=some (.exit (x::a,[],out)):=by
   unfold iE
   dsimp only
   rw [abb (show (0:Int)<(((x::a).length:Nat):Int) by rw [abw];omega),aa'];rfl
  rw [ax,e]
  refine ⟨out++(x::a)++[],?_,by simp [zW]⟩
  show fC (.inl (x::a,[],out))=_
  unfold fC
  dsimp only
  simp only [abw,abF] at hl
  rw [abb (show out.length+(x::a).length<=2932031007402 by rw [abw];omega),aa',abb (show out.length+(x::a).length+([]:List aZ).length<=2932031007402 by simp;omega),aa']
 | n+1,x::a,y::b,out,h,hl,ha,hb=>by
  simp only [abw] at h hl
  have hx:=ha x (by simp)
  have hy:=hb y (by simp)
  have e:iE (x::a,y::b,out)=bif decide (bD y.key x.key<0) then some (.next (x::a,b,out++[y])) else some (.next (a,y::b,out++[x])):=by
   unfold iE
   dsimp only
   rw [abb (show (0:Int)<(((x::a).length:Nat):Int) by rw [abw];omega),aa',abb (show (0:Int)<(((y::b).length:Nat):Int) by rw [abw];omega),aa',show aL (y::b) (0:Int)=some y from rfl,aa8,show aL (x::a) (0:Int)=some x from rfl,aa8,qI _ _ (by omega) (by omega),aa8,abb (show out.length+1<=2932031007402 by omega),aa',aa',Jo,Jo];rfl
  rw [ax,e]
  rw [abk,abk,xy]
  by_cases hc:bD y.key x.key<0
  ·rw [abb hc,if_pos (show bD (xS y).1 (xS x).1<0 from hc)]
   obtain ⟨r,h1,h2⟩:=y9 n (x::a) b (out++[y]) (by simp only [abw];omega) (by simp only [abw,abg,abF];omega) ha (fun z hz=>hb z (by simp [hz]))
   exact ⟨r,h1,by rw [h2];simp⟩
  ·rw [aba hc,if_neg (show ¬ bD (xS y).1 (xS x).1<0 from hc)]
   obtain ⟨r,h1,h2⟩:=y9 n a (y::b) (out++[x]) (by simp only [abw];omega) (by simp only [abw,abg,abF];omega) (fun z hz=>ha z (by simp [hz])) hb
   exact ⟨r,h1,by rw [h2];simp⟩
theorem QA {l r:List aZ} (hp:(r.map xS).Perm (l.map xS)) (h : ∀ x∈l,x.key.length<=1000000) : ∀ x∈r,x.key.length<=1000000:=by
 intro x hx
 have:xS x∈l.map xS:=hp.mem_iff.1 (List.mem_map_of_mem hx)
 obtain ⟨y,hy,e⟩:=abK.1 this
 have e1:y.key=x.key:=congrArg Prod.fst e
 rw [<- e1];exact h y hy
theorem Br : ∀ (n:Nat) (l:List aZ),0<n->l.length<=n->n<=1000->(∀ x∈l,x.key.length<=1000000) -> ∃ r,Co n l=some r/\r.map xS=BZ n (l.map xS)
 | 0,_,h,_,_,_=>absurd h (by omega)
 | n+1,l,_,hl,hn,hk=>by
  unfold Co DZ BZ
  by_cases h2:l.length<2
  ·rw [abb (show ((l.length:Nat):Int)<2 by omega),if_pos (by rw [abl];exact h2)]
   exact ⟨l,rfl,rfl⟩
  ·have hw:IntKind.i64.wrap (((l.length:Nat):Int).tdiv 2)=((l.length/2:Nat):Int):=by
    rw [bJ]
    ·rw [Int.tdiv_eq_ediv_of_nonneg (by omega)];omega
    ·rw [Int.tdiv_eq_ediv_of_nonneg (by omega)];omega
   rw [aba (show ¬ ((l.length:Nat):Int)<2 by omega),aa_,if_neg (by rw [abl];exact h2),show decide ((2:Int)≠0)=true from rfl,aa',hw,Ws l _ (by omega),aa8]
   obtain ⟨r1,a1,a2⟩:=Br n (l.take (l.length/2)) (by omega) (by rw [abY];omega) (by omega) (fun x hx=>hk x (List.mem_of_mem_take hx))
   obtain ⟨r2,b1,b2⟩:=Br n (l.drop (l.length/2)) (by omega) (by rw [List.length_drop];omega) (by omega) (fun x hx=>hk x (List.mem_of_mem_drop hx))
   have p1:=(wL n ((l.take (l.length/2)).map xS) (by rw [abl,abY];omega)).2.1
   have p2:=(wL n ((l.drop (l.length/2)).map xS) (by rw [abl,List.length_drop];omega)).2.1
   rw [<- a2] at p1
   rw [<- b2] at p2
   have l1:=p1.length_eq;have l2:=p2.length_eq
   simp only [abl,abY,List.length_drop] at l1 l2
   rw [a1,aa8,aa',Vs l _ (by omega),aa8,b1,aa8]
   obtain ⟨r,c1,c2⟩:=y9 fuel r1 r2 [] (by unfold fuel;omega) (by simp only [abF];omega) (QA p1 fun x hx=>hk x (List.mem_of_mem_take hx)) (QA p2 fun x hx=>hk x (List.mem_of_mem_drop hx))
   refine ⟨r,c1,?_⟩
   rw [c2,a2,b2,abo,abd,abl,List.map_take,List.map_drop]
theorem ML {A:List aZ} {i:Nat} {x:aZ} (hx:A[i]?=some x) (hA : ∀ y∈A,y.key.length<=1000000) (hl:A.length<=1000) : ∀ (n k:Nat) (rows:List (List Val)),k<=A.length->A.length-k<n->rows.length<=k->ax (iD A (i:Int)) n (rows,(k:Int))=some (.inl (rows++((A.drop k).takeWhile fun p=>decide (p.key=x.key)).map aZ.row,((k+((A.drop k).takeWhile fun p=>decide (p.key=x.key)).length:Nat):Int)))
 | 0,k,rows,_,h,_=>by omega
 | n+1,k,rows,hk,hn,hr=>by
  rw [ax]
  by_cases hlt:k<A.length
  ·obtain ⟨y,hy⟩:=gol_ hlt
   have hb:iD A (i:Int) (rows,(k:Int))=bif decide (y.key=x.key) then some (.next (rows++[y.row],((k+1:Nat):Int))) else some (.exit (rows,(k:Int))):=by
    unfold iD
    dsimp only
    rw [aY hy,aa',gn_ hy,aa8,gn_ hx,aa8,pI _ _ (hA y (abe hy)) (hA x (abe hx)),aa8,abb (show rows.length+1<=5864062014805 by omega),aa',wrapN (by omega)]
   rw [hb,abG hlt,(aa9.1 hy).2]
   by_cases he:y.key=x.key
   ·rw [abb he,List.takeWhile_cons_of_pos (p:=fun p:aZ=>decide (p.key=x.key)) (a:=y) (by simpa using he),abk,abw]
    show ax _ n _=_
    rw [ML hx hA hl n (k+1) _ (by omega) (by omega) (by simp;omega),abB]
    congr 3
    omega
   ·rw [aba he,List.takeWhile_cons_of_neg (p:=fun p:aZ=>decide (p.key=x.key)) (a:=y) (by simpa using he)]
    show some (Sum.inl (rows,(k:Int)))=_
    simp
  ·have:k=A.length:=by omega
   subst this
   have hb:iD A (i:Int) (rows,((A.length:Nat):Int))=some (.exit (rows,((A.length:Nat):Int))):=by
    unfold iD
    dsimp only
    rw [lF_,aa_]
   rw [hb,ab1]
   simp
theorem TY (k:List Val) : ∀ l:List aZ,((l.takeWhile fun p=>decide (p.key=k)).map aZ.row=((l.map xS).takeWhile fun p=>decide (p.1=k)).map (·.2))/\(l.drop (l.takeWhile fun p=>decide (p.key=k)).length).map xS=(l.map xS).dropWhile fun p=>decide (p.1=k)
 | []=>⟨rfl,rfl⟩
 | x::l=>by
  have ih:=TY k l
  rw [abk]
  by_cases e:x.key=k
  ·rw [List.takeWhile_cons_of_pos (p:=fun p:aZ=>decide (p.key=k)) (a:=x) (abb e),List.takeWhile_cons_of_pos (p:=fun p:KR=>decide (p.1=k)) (a:=xS x) (abb (show (xS x).1=k from e)),List.dropWhile_cons_of_pos (p:=fun p:KR=>decide (p.1=k)) (a:=xS x) (abb (show (xS x).1=k from e)),abw,List.drop_succ_cons,abk,abk,ih.1]
   exact ⟨rfl,ih.2⟩
  ·rw [List.takeWhile_cons_of_neg (p:=fun p:aZ=>decide (p.key=k)) (a:=x) (fun h=>e (abD h)),List.takeWhile_cons_of_neg (p:=fun p:KR=>decide (p.1=k)) (a:=xS x) (fun h=>e (abD h)),List.dropWhile_cons_of_neg (p:=fun p:KR=>decide (p.1=k)) (a:=xS x) (fun h=>e (abD h))]
   exact ⟨rfl,rfl⟩
def NK (aggs:List Ag) (p:List Val × List (List Val)):List Val:=p.1++aggs.map fun a=>fZ a.op a.arg p.2
theorem F4 {A:List aZ} {aggs:List Ag} {r1:List Int × Int} (hl:A.length<=100) (hA : ∀ y∈A,y.key.length<=48) (hag:aggs.length<=48) (hfit : ∀ a∈aggs, ∀ y∈A,a.arg<((y.row.length:Nat):Int)) (hv : ∀ y∈A, ∀ v∈y.row,WZ v) : ∀ (n i:Nat) (c:List (List Val)),i<=A.length->A.length-i<n->c.length<=i->(∀ r∈c,r.length<=1000) ->
  (ax (iF aggs A) n (c,(i:Int))).bind (jM r1)=some ⟨r1.1,aI (c++(runs n ((A.drop i).map xS)).map (NK aggs))⟩
 | 0,i,c,_,h,_,_=>by omega
 | n+1,i,c,hi,hn,hc,hcr=>by
  rw [ax]
  by_cases hlt:i<A.length
  ·obtain ⟨x,hx⟩:=gol_ hlt
   have ex:=(aa9.1 hx).2
   have hA2 : ∀ y∈A,y.key.length<=1000000:=fun y hy=>by have:=hA y hy;omega
   have hrl:=ML hx hA2 (by omega) fuel i [] (Nat.le_of_lt hlt) (by unfold fuel;omega) (abv _)
   rw [abd] at hrl
   have hd:A.drop i=x::A.drop (i+1):=by rw [abG hlt,ex]
   have htw:=TY x.key (A.drop (i+1))
   have hR:((A.drop i).takeWhile fun p=>decide (p.key=x.key)).map aZ.row=x.row::(((A.drop (i+1)).map xS).takeWhile fun p=>decide (p.1=x.key)).map (·.2):=by
    rw [hd,List.takeWhile_cons_of_pos (p:=fun p:aZ=>decide (p.key=x.key)) (a:=x) (by simp),abk,htw.1]
   have hL:((A.drop i).takeWhile fun p=>decide (p.key=x.key)).length=((A.drop (i+1)).takeWhile fun p=>decide (p.key=x.key)).length+1:=by
    rw [hd,List.takeWhile_cons_of_pos (p:=fun p:aZ=>decide (p.key=x.key)) (a:=x) (by simp),abw]
   have hRl:(((A.drop i).takeWhile fun p=>decide (p.key=x.key)).map aZ.row).length<=A.length:=by
    rw [abl]
    have:=(List.takeWhile_sublist (l:=A.drop i) fun p:aZ=>decide (p.key=x.key)).length_le
    rw [List.length_drop] at this;omega
   have hRm : ∀ r∈((A.drop i).takeWhile fun p=>decide (p.key=x.key)).map aZ.row, ∃ y∈A,y.row=r:=fun r hr=>by
    obtain ⟨y,hy,e⟩:=abK.1 hr
    exact ⟨y,List.mem_of_mem_drop ((List.takeWhile_sublist _).subset hy),e⟩
   have hk2:i+((A.drop i).takeWhile fun p=>decide (p.key=x.key)).length<=A.length:=by
    have:=(List.takeWhile_sublist (l:=A.drop i) fun p:aZ=>decide (p.key=x.key)).length_le
    rw [List.length_drop] at this;omega
   have hone:=Jq (key:=x.key) (rows:=((A.drop i).takeWhile fun p=>decide (p.key=x.key)).map aZ.row) (l:=aggs) (by have:=hA x (abe hx);omega) (by omega) (by omega) (fun a ha r hr=>by obtain ⟨y,hy,e⟩:=hRm r hr;rw [<- e];exact hfit a ha y hy) (fun r hr=>by obtain ⟨y,hy,e⟩:=hRm r hr;rw [<- e];exact hv y hy)
   have hb:iF aggs A (c,(i:Int))=some (.next (c++[NK aggs (x.key,x.row::(((A.drop (i+1)).map xS).takeWhile fun p=>decide (p.1=x.key)).map (·.2))],((i+(((A.drop (i+1)).takeWhile fun p=>decide (p.key=x.key)).length+1):Nat):Int))):=by
    unfold iF
    dsimp only
    rw [aY hx,aa',hrl,aa8]
    unfold jN
    dsimp only
    rw [gn_ hx,aa8,hone,aa8,abb (show c.length+1<=5864062014805 by omega),aa',hR,hL]
    rfl
   rw [hb]
   show (ax _ n _).bind _=_
   rw [F4 hl hA hag hfit hv n _ _ (by omega) (by omega) (by simp;omega) (fun r hr=>?_)]
   ·have hdd:(A.drop (i+(((A.drop (i+1)).takeWhile fun p=>decide (p.key=x.key)).length+1))).map xS=((A.drop (i+1)).map xS).dropWhile fun p=>decide (p.1=x.key):=by
     rw [<- htw.2,List.drop_drop]
     congr 2;omega
    rw [hdd,hd,abk,abB]
    rfl
   ·rcases abC.1 hr with hr|hr
    ·exact hcr r hr
    ·rw [List.mem_singleton] at hr
     have:=hA x (abe hx)
     rw [hr]
     unfold NK
     rw [abg,abl]
     show x.key.length+_<=_
     omega
  ·have:i=A.length:=by omega
   subst this
   have hb:iF aggs A (c,((A.length:Nat):Int))=some (.exit (c,((A.length:Nat):Int))):=by
    unfold iF
    dsimp only
    rw [lF_,aa_]
   rw [hb,ab1]
   show jM r1 (.inl (c,((A.length:Nat):Int)))=_
   unfold jM
   dsimp only
   rw [fO _ (by omega) (fun r hr=>by have:=hcr r hr;omega)]
   have:(runs (n+1) (([]:List aZ).map xS)).map (NK aggs)=[]:=rfl
   rw [this,abJ];rfl
def JO (keys:List Int) (aggs:List Ag) (rows:List (List Val)):List (List Val):=aI ((fF [] (rows.map fun r=>bY r keys)).map fun k=>NK aggs (k,rows.filter fun r=>decide (bY r keys=k)))
theorem Mc (keys:List Int) (aggs:List Ag) {rows:List (List Val)} {n m:Nat} (hn:rows.length<=n) (hm:rows.length<=m):aI ((runs m (BZ n (rows.map fun r=>(bY r keys,r)))).map (NK aggs))=JO keys aggs rows:=by
 obtain ⟨h1,h2,h3⟩:=wL n (rows.map fun r=>(bY r keys,r)) (by rw [abl];exact hn)
 have hl:=h2.length_eq
 rw [abl] at hl
 rw [Qm m _ (by omega) h1]
 have hs:(BZ n (rows.map fun r=>(bY r keys,r))).map (·.1)=aI (rows.map fun r=>bY r keys):=by
  refine ol tCr_ ?_ (eH _) (((h2.map (·.1)).trans ?_).trans (bn _).symm)
  ·exact List.pairwise_map.2 h1
  ·rw [List.map_map];exact List.Perm.refl _
 have hf : ∀ k,((BZ n (rows.map fun r=>(bY r keys,r))).filter fun p=>decide (p.1=k)).map (·.2)=rows.filter fun r=>decide (bY r keys=k):=fun k=>by
  rw [h3 k,List.filter_map,List.map_map]
  exact List.map_id' _
 rw [hs,List.map_map]
 unfold JO
 rw [NY (fun r=>bY r keys) (fun k g=>NK aggs (k,g)) rows]
 congr 1
 refine List.map_congr_left fun k _=>?_
 show NK aggs (k,_)=_
 rw [hf k]
theorem Xb {b:Bag} {keys:List Int} {aggs:List Ag} {gk:List Int × Int} (hb:ym 40 b) (hkl:keys.length<=48) (hal:aggs.length<=48) (hfit : ∀ a∈aggs,a.arg<((b.kinds.length:Nat):Int)) (hg:kZ b.kinds keys aggs=some gk) (h0:keys≠[]\/b.rows≠[]):rO b keys aggs=some ⟨gk.1,JO keys aggs b.rows⟩:=by
 have hl:=hb.len
 unfold rO
 rw [hg,aa8,eu (l:=b.rows) (fun r=>[(⟨bY r keys,r⟩:aZ)]) 2932031007402 ?_ ?_ (by unfold fuel;omega) [] (by rw [fo_];simp;omega)]
 ·rw [aa8,abd,fo_]
  unfold mo
  dsimp only
  have hkk : ∀ x∈b.rows.map (fun r=>(⟨bY r keys,r⟩:aZ)),x.key.length<=48:=fun x hx=>by
   obtain ⟨r,_,rfl⟩:=abK.1 hx
   show (keys.map _).length<=48
   rw [abl];exact hkl
  obtain ⟨A,a1,a2⟩:=Br 64 (b.rows.map fun r=>(⟨bY r keys,r⟩:aZ)) (by omega) (by rw [abl];omega) (by omega) (fun x hx=>by have:=hkk x hx;omega)
  have hmm:(b.rows.map fun r=>(⟨bY r keys,r⟩:aZ)).map xS=b.rows.map fun r=>(bY r keys,r):=by rw [List.map_map];rfl
  rw [hmm] at a2
  have hperm:=(wL 64 (b.rows.map fun r=>(bY r keys,r)) (by rw [abl];omega)).2.1
  rw [<- a2] at hperm
  have hAl:=hperm.length_eq
  rw [abl,abl] at hAl
  have hAm : ∀ y∈A, ∃ r∈b.rows,y.key=bY r keys/\y.row=r:=fun y hy=>by
   have:xS y∈b.rows.map fun r=>(bY r keys,r):=hperm.mem_iff.1 (List.mem_map_of_mem hy)
   obtain ⟨r,hr,e⟩:=abK.1 this
   exact ⟨r,hr,(congrArg Prod.fst e).symm,(congrArg Prod.snd e).symm⟩
  rw [a1,aa8]
  by_cases hA0:A.length=0
  ·have hr0:b.rows=[]:=abA (by omega)
   have hk0:keys≠[]:=h0.resolve_right fun h=>h hr0
   have hkp : ¬ keys.length=0:=fun h=>hk0 (abA h)
   rw [abb (show ((A.length:Nat):Int)=0 by omega),aa',aba (show ¬ ((keys.length:Nat):Int)=0 by omega),aa_,Ci (s:=()) (t:=()) rfl fuel (by unfold fuel;omega),aa8]
   unfold qd
   dsimp only
   rw [fO _ (by simp) (fun r hr=>by cases hr),hr0];rfl
  ·rw [aba (show ¬ ((A.length:Nat):Int)=0 by omega),aa_]
   have:=F4 (r1:=gk) (A:=A) (aggs:=aggs) (by omega) (fun y hy=>by obtain ⟨r,_,e,_⟩:=hAm y hy;rw [e];show (keys.map _).length<=48;rw [abl];exact hkl) hal (fun a ha y hy=>by obtain ⟨r,hr,_,e⟩:=hAm y hy;rw [e,hb.row r hr];exact hfit a ha) (fun y hy v hv=>by obtain ⟨r,hr,_,e⟩:=hAm y hy;rw [e] at hv;exact XG (hb.val r hr v hv)) fuel 0 [] (abv _) (by unfold fuel;omega) (abp _) (fun r hr=>by cases hr)
   rw [show ((([]:List (List Val)),((0:Nat):Int)):List (List Val) × Int)=([],(0:Int)) from rfl] at this
   rw [this,List.drop_zero,abd,a2,Mc keys aggs (by omega) (by unfold fuel;omega)]
 ·intro s i x hx hs
  have hi:=(aa9.1 hx).1
  unfold jU
  dsimp only
  rw [aY hx,aa',gn_ hx,aa8,Sm x (by omega),aa8,wrapN (by omega),abb (show s.length+1<=2932031007402 from hs),aa']
 ·intro s
  unfold jU
  dsimp only
  rw [lF_,aa_]
theorem Vk {b:Bag} {aggs:List Ag} {gk:List Int × Int} (hal:aggs.length<=48) (hg:kZ b.kinds [] aggs=some gk) (h0:b.rows=[]):rO b [] aggs=some ⟨gk.1,[aggs.map fun a=>fZ a.op a.arg []]⟩:=by
 unfold rO
 have hlp:ax (jU b []) fuel ([],(0:Int))=some (.inl ([],(0:Int))):=Ci (by unfold jU;dsimp only;rw [h0];rfl) fuel (by unfold fuel;omega)
 rw [hg,aa8,hlp,aa8]
 unfold mo
 dsimp only
 rw [show Co 64 []=some [] from rfl,aa8,show decide (((([]:List aZ).length:Nat):Int)=0)=true from rfl,aa',show decide (((([]:List Int).length:Nat):Int)=0)=true from rfl,aa',Jq (key:=[]) (rows:=[]) (l:=aggs) (by simp) (by omega) (by simp) (fun _ _ r hr=>by cases hr) (fun r hr=>by cases hr),aa8,show decide (1<=5864062014805)=true from rfl,aa',Ci (s:=()) (t:=()) rfl fuel (by unfold fuel;omega),aa8]
 unfold p9
 dsimp only
 rw [fO _ (by simp) (fun r hr=>by rw [List.mem_singleton] at hr;rw [hr,abd,abl];omega)]
 rfl
theorem YR (ky:List Val->List Val) (rows:List (List Val)) {k:List Val} (hk:k∈fF [] (rows.map ky)):ky ((rows.filter fun r=>decide (ky r=k)).headD [])=k:=by
 obtain ⟨r,hr,e⟩:=abK.1 ((ma _ _).1 hk)
 cases hf:rows.filter fun r=>decide (ky r=k) with
 | nil =>
  have:=List.filter_eq_nil_iff.1 hf r hr
  simp [e] at this
 | cons x l =>
  have:x∈rows.filter fun r=>decide (ky r=k):=by rw [hf];simp
  exact abD (List.mem_filter.1 this).2
def agP (aggs:List Ag):List LX:=aggs.map fun a=>(a.op,a.arg)
def grpB (b:Bag) (keys:List Int) (aggs:List Ag):Bool:=decide (b.kinds.length<=100000)&&decide (keys.length<=1000)&&decide (aggs.length<=1000)&&decide (0<keys.length+aggs.length)&&decide (b.rows.length<=300)&&C_ b.rows
theorem grpB_of {b:Bag} {keys:List Int} {aggs:List Ag} (h:grpB b keys aggs=true):b.kinds.length<=100000/\keys.length<=1000/\aggs.length<=1000/\0<keys.length+aggs.length/\b.rows.length<=300 /\ ∀ r∈b.rows,r.length<=1000 /\ ∀ v∈r,Uj v:=by
 unfold grpB at h
 simp only [abr,decide_eq_true_eq] at h
 obtain ⟨⟨⟨⟨⟨h1,h2⟩,h3⟩,h4⟩,h5⟩,h6⟩:=h
 exact ⟨h1,h2,h3,h4,h5,(GI h6).2⟩
def grpRows (keys:List Int) (aggs:List Ag) (rows:List (List Val)):List (List Val):=bif keys.isEmpty then [aggs.map fun a=>fZ a.op a.arg rows] else JO keys aggs rows
def gGroupS (b:Bag) (keys:List Int) (aggs:List Ag):Option Bag:=bif grpB b keys aggs then some ⟨(uH b.kinds keys (agP aggs)).1,grpRows keys aggs b.rows⟩ else none
theorem atV_vok {r:List Val} (h : ∀ v∈r,Uj v) (i:Int):Uj (Qq r i):=by
 have hn:Uj uD:=⟨⟨by decide,by decide⟩,⟨by decide,by decide⟩,by show (0:Nat)<=10000000000;omega⟩
 unfold Qq
 split
 ·cases hx:r[i.toNat]? with
  | none=>exact hn
  | some v=>exact h v (abe hx)
 ·exact hn
theorem grp_rows (keys:List Int) (aggs:List Ag) (rows:List (List Val)):aI ((kM (fun r=>dD dG (bY r keys)) rows).G.map (oL keys (agP aggs)))=JO keys aggs rows:=by
 have e:(kM (fun r=>dD dG (bY r keys)) rows).G=KS (fun r=>bY r keys) rows:=Zi (fun r=>bY r keys) rows
 rw [e]
 unfold KS JO
 rw [List.map_map]
 congr 1
 refine List.map_congr_left fun k hk=>?_
 have hh:=YR (fun r=>bY r keys) rows hk
 show bY ((rows.filter fun r=>decide (bY r keys=k)).headD []) keys++(agP aggs).map _=NK aggs _
 rw [hh]
 unfold NK agP
 rw [List.map_map];rfl
theorem agP_tree (aggs:List Ag):jb (agP aggs) = .lst (aggs.map JH):=by
 unfold jb agP
 rw [List.map_map];rfl
theorem agP_vals (aggs:List Ag) (rows:List (List Val)):((agP aggs).map fun z=>fZ z.1 z.2 rows)=aggs.map fun a=>fZ a.op a.arg rows:=by
 unfold agP
 rw [List.map_map];rfl
theorem gGroupS_ok {b:Bag} {keys:List Int} {aggs:List Ag} {r:Bag} (H:gGroupS b keys aggs=some r):Pure Tryz.prog 18 [.agg (cBag b), .one (.lst (keys.map (fun x=>[AC.int .i64 x]))), .one (.lst (aggs.map JH))] (.val (.agg (cBag r))):=by
 unfold gGroupS at H
 obtain ⟨g,H⟩:=nP H
 obtain rfl:=abH H
 obtain ⟨h1,h2,h3,h4,h5,h6⟩:=grpB_of g
 rw [<- agP_tree]
 have hal:(agP aggs).length=aggs.length:=abl _
 have hrow : ∀ r∈b.rows,r.length<=1000000:=fun r hr=>by have:=(h6 r hr).1;omega
 obtain ⟨kinds,rows⟩:=b
 simp only at h1 h5 h6 hrow
 cases keys with
 | nil =>
  have ha:agP aggs≠[]:=fun e=>by rw [e] at hal;simp at hal h4;omega
  cases rows with
  | nil =>
   have:=WR kinds (agP aggs) h1 (by omega) ha
   rw [agP_vals] at this
   exact this
  | cons x l =>
   have:=WT kinds (agP aggs) (x::l) h1 (by omega) ha h5 (by simp) hrow
   rw [agP_vals] at this
   exact this
 | cons k ks =>
  have:=Xt dG kinds (k::ks) (agP aggs) rows h1 (by omega) (by omega) h5 (by simp) hrow (fun r hr=>xE (bY r (k::ks)) (by show ((k::ks).map _).length<=_;rw [abl];exact h2) (fun v hv=>by
   obtain ⟨i,_,rfl⟩:=abK.1 hv
   exact atV_vok (h6 r hr).2 i))
  rw [grp_rows] at this
  exact this
theorem grp_step {kinds:List Int} {l:List Ag} {a:Ag} {i:Nat} (hx:l[i]?=some a) (hi:i<=1000) {acc:List Int} (hacc:acc.length<=1000000):yn kinds l (acc,(i:Int))=bif decide (Ff kinds (a.op,a.arg)=0) then some (.next (acc++[Hf kinds (a.op,a.arg)],((i+1:Nat):Int))) else some (.ret ([],Ff kinds (a.op,a.arg))):=by
 unfold yn
 dsimp only
 rw [aY hx,aa',gn_ hx,aa8,wrapN (by omega),abb (show acc.length+1<=17592186044416 by omega)]
 obtain ⟨op,arg⟩:=a
 dsimp only
 have hK : ∀ x,kinds[arg.toNat]?=some x->kinds.getD arg.toNat 0=x:=fun x h=>Qi h
 by_cases hr:arg<0
 ·by_cases hm:arg = -1
  ·subst hm
   by_cases h1:op=1
   ·subst h1;simp [Ff,Hf]
   ·by_cases h2:op=2
    ·subst h2;simp [Ff,Hf,Qf]
    ·by_cases h3:op=3
     ·subst h3;simp [Ff,Hf,Qf]
     ·by_cases h4:op=4
      ·subst h4;simp [Ff,Hf,Qf]
      ·have h5:(bif decide (op<1) then true else decide (4<op))=true:=by
        by_cases h6:op<1
        ·simp [h6]
        ·have:4<op:=by omega
         simp [h6,this]
       simp [Ff,h5,h1,h2,h3,h4]
  ·by_cases h1:op=1
   ·subst h1;simp [Ff,Hf,Qf,hr,hm]
   ·by_cases h2:op=2
    ·subst h2;simp [Ff,Hf,Qf,hr,hm]
    ·by_cases h3:op=3
     ·subst h3;simp [Ff,Hf,Qf,hr,hm]
     ·by_cases h4:op=4
      ·subst h4;simp [Ff,Hf,Qf,hr,hm]
      ·have h5:(bif decide (op<1) then true else decide (4<op))=true:=by
        by_cases h6:op<1
        ·simp [h6]
        ·have:4<op:=by omega
         simp [h6,this]
       simp [Ff,h5,h1,h2,h3,h4]
 ·have hm : ¬ arg = -1:=by omega
  by_cases hl:((kinds.length:Nat):Int)<=arg
  ·by_cases h1:op=1
   ·subst h1;simp [Ff,Hf,Qf,hr,hm,hl]
   ·by_cases h2:op=2
    ·subst h2;simp [Ff,Hf,Qf,hr,hm,hl]
    ·by_cases h3:op=3
     ·subst h3;simp [Ff,Hf,Qf,hr,hm,hl]
     ·by_cases h4:op=4
      ·subst h4;simp [Ff,Hf,Qf,hr,hm,hl]
      ·have h5:(bif decide (op<1) then true else decide (4<op))=true:=by
        by_cases h6:op<1
        ·simp [h6]
        ·have:4<op:=by omega
         simp [h6,this]
       simp [Ff,h5,h1,h2,h3,h4]
  ·obtain ⟨x,hx2⟩:=gol_ (show arg.toNat<kinds.length by omega)
   have hg:aL kinds arg=some x:=by
    have:=gn_ hx2
    rwa [show ((arg.toNat:Nat):Int)=arg by omega] at this
   have hd:=hK x hx2
   rw [hg]
   by_cases h1:op=1
   ·subst h1;simp [Ff,Hf,Qf,hr,hm,hl]
   ·by_cases h2:op=2
    ·subst h2
     by_cases hx1:x=1
     ·simp [Ff,Hf,Qf,hr,hm,hl,hx2,hx1]
     ·simp [Ff,Hf,Qf,hr,hm,hl,hx2,hx1]
    ·by_cases h3:op=3
     ·subst h3;simp [Ff,Hf,Qf,hr,hm,hl,hx2]
     ·by_cases h4:op=4
      ·subst h4;simp [Ff,Hf,Qf,hr,hm,hl,hx2]
      ·have h5:(bif decide (op<1) then true else decide (4<op))=true:=by
        by_cases h6:op<1
        ·simp [h6]
        ·have:4<op:=by omega
         simp [h6,this]
       simp [Ff,h5,h1,h2,h3,h4]
theorem agP_get {l:List Ag} {i:Nat} {a:Ag} (h:l[i]?=some a):(agP l)[i]?=some (a.op,a.arg):=by unfold agP;rw [abx,h];rfl
theorem grp_loop2 (kinds:List Int) {l:List Ag} (hl:l.length<=1000) : ∀ (n i:Nat) (acc:List Int),acc.length<=1000+i->i<=l.length->l.length-i<n->(ax (yn kinds l) n (acc,(i:Int))).bind aQ=some (lG kinds ((agP l).drop i) acc)
 | 0,i,acc,_,_,h=>by omega
 | n+1,i,acc,ha,hi,hn=>by
  rw [ax]
  by_cases hlt:i<l.length
  ·obtain ⟨a,hx⟩:=gol_ hlt
   rw [grp_step hx (by omega) (by omega),KY kinds (agP l) acc (agP_get hx)]
   cases decide (Ff kinds (a.op,a.arg)=0) with
   | true=>exact grp_loop2 kinds hl n (i+1) _ (by rw [abg,List.length_singleton];omega) (by omega) (by omega)
   | false=>rfl
  ·have:i=l.length:=by omega
   subst this
   have hb:yn kinds l (acc,((l.length:Nat):Int))=some (.exit (acc,((l.length:Nat):Int))):=by
    unfold yn
    dsimp only
    rw [lF_,aa_]
   have hd:(agP l).drop l.length=[]:=List.drop_eq_nil_of_le (by unfold agP;rw [abl];exact abp _)
   rw [hb,hd];rfl
theorem grp_loop1 (kinds:List Int) {keys:List Int} {l:List Ag} (hk:keys.length<=1000) (hl:l.length<=1000) : ∀ (n i:Nat) (acc:List Int),acc.length=i->i<=keys.length->keys.length-i<n->(ax (x8 kinds keys) n (acc,(i:Int))).bind (fu kinds l)=some (bif decide ((iw kinds (keys.drop i) acc).2=0) then lG kinds (agP l) (iw kinds (keys.drop i) acc).1 else ([],(iw kinds (keys.drop i) acc).2))
 | 0,i,acc,_,_,h=>by omega
 | n+1,i,acc,ha,hi,hn=>by
  rw [ax]
  by_cases hlt:i<keys.length
  ·obtain ⟨k,hx⟩:=gol_ hlt
   have hb:x8 kinds keys (acc,(i:Int))=bif Qf kinds k then some (.next (acc++[kinds.getD k.toNat 0],((i+1:Nat):Int))) else some (.ret ([],6)):=by
    unfold x8
    dsimp only
    rw [aY hx,aa',gn_ hx,aa8,wrapN (by omega),abb (show acc.length+1<=17592186044416 by omega)]
    by_cases h1:k<0
    ·simp [Qf,h1]
    ·by_cases h2:((kinds.length:Nat):Int)<=k
     ·simp [Qf,h1,h2]
     ·obtain ⟨x,hx2⟩:=gol_ (show k.toNat<kinds.length by omega)
      have hg:aL kinds k=some x:=by
       have:=gn_ hx2
       rwa [show ((k.toNat:Nat):Int)=k by omega] at this
      have hd:=Qi hx2
      rw [hg]
      simp [Qf,h1,h2,hx2]
   rw [hb,JS kinds keys acc hx]
   cases Qf kinds k with
   | true=>exact grp_loop1 kinds hk hl n (i+1) _ (by rw [abg,ha];rfl) (by omega) (by omega)
   | false=>rfl
  ·have:i=keys.length:=by omega
   subst this
   have hb:x8 kinds keys (acc,((keys.length:Nat):Int))=some (.exit (acc,((keys.length:Nat):Int))):=by
    unfold x8
    dsimp only
    rw [lF_,aa_]
   rw [hb,ab1]
   show fu kinds l (.inl (acc,((keys.length:Nat):Int)))=some (lG kinds (agP l) acc)
   unfold fu
   dsimp only
   have:=grp_loop2 kinds hl fuel 0 acc (by omega) (abv _) (by unfold fuel;omega)
   rw [List.drop_zero] at this
   exact this
theorem gGrouped21_eq (kinds:List Int) {keys:List Int} {l:List Ag} (hk:keys.length<=1000) (hl:l.length<=1000):kZ kinds keys l=some (uH kinds keys (agP l)):=by
 have:=grp_loop1 kinds hk hl fuel 0 [] rfl (abv _) (by unfold fuel;omega)
 rw [List.drop_zero] at this
 unfold kZ
 exact this
theorem grpAggs_fit (kinds:List Int) : ∀ (l:List LX) (acc:List Int),(lG kinds l acc).2=0 -> ∀ a∈l,a.2<((kinds.length:Nat):Int)\/a.2<0
 | [],_,_,a,ha=>by cases ha
 | x::l,acc,h,a,ha=>by
  unfold lG at h
  by_cases he:Ff kinds x=0
  ·rw [abb he,aa'] at h
   rcases abq.1 ha with rfl|ha
   ·unfold Ff at he
    by_cases h1:a.2<((kinds.length:Nat):Int)
    ·exact .inl h1
    ·by_cases h2:a.2<0
     ·exact .inr h2
     ·exfalso
      have hin:Qf kinds a.2=false:=by unfold Qf;simp;omega
      rw [hin] at he
      have hm : ¬ a.2 = -1:=by omega
      rw [aba hm] at he
      cases hq:(bif decide (a.1<1) then true else decide (4<a.1)) with
      | true=>rw [hq] at he;simp at he
      | false=>rw [hq] at he;simp at he
   ·exact grpAggs_fit kinds l _ h a ha
  ·rw [aba he,aa_] at h
   exact absurd h he
set_option maxHeartbeats 8000000
noncomputable section
def gLawGroups (a_b:Bag) (a_keys:(List Int)) (a_l:(List Ag)):Option (Bool):=(gFew21 a_b (40:Int)).bind fun r_1=>bif (!r_1) then some (true) else
 (I8 a_b a_keys a_l).bind fun r_4=>bif (!r_4) then some (true) else
 (gGroupS a_b a_keys a_l).bind fun r_7=>(rO a_b a_keys a_l).bind fun r_8=>(gExactly r_7 r_8).bind fun r_9=>bif r_9 then some (true) else
 some false
theorem gLawGroups_ok {a_b:Bag} {a_keys:(List Int)} {a_l:(List Ag)} {r:Bool} (H:gLawGroups a_b a_keys a_l=some r):Pure Tryz.prog 4 [.agg (cBag a_b), .one (.lst (a_keys.map (fun x=>[AC.int .i64 x]))), .one (.lst (a_l.map JH))] (.val (.one (.bool r))):=by
 unfold gLawGroups at H
 refine po_ Tryz.func4 Tryz.ntmps4 ?_
 obtain ⟨r_1,c1,H⟩:=bd_ H
 replace c1:=gFew21_ok c1
 rcases cnd_ H with ⟨q_2,H⟩|⟨q_2,H⟩
 ·have hc_3:=awake_pure
  try simp only [abm,abk,abo,abd,tE_eq,tP_eq] at hc_3
  cases H
  exact go_
 obtain ⟨r_4,c2,H⟩:=bd_ H
 replace c2:=Vn c2
 rcases cnd_ H with ⟨q_5,H⟩|⟨q_5,H⟩
 ·have hc_6:=awake_pure
  try simp only [abm,abk,abo,abd,tE_eq,tP_eq] at hc_6
  cases H
  exact go_
 obtain ⟨r_7,c3,H⟩:=bd_ H
 replace c3:=gGroupS_ok c3
 obtain ⟨r_8,c4,H⟩:=bd_ H
 replace c4:=WY c4
 obtain ⟨r_9,c5,H⟩:=bd_ H
 replace c5:=gExactly_ok c5
 rcases cnd_ H with ⟨q_10,H⟩|⟨q_10,H⟩
 ·have hc_11:=awake_pure
  try simp only [abm,abk,abo,abd,tE_eq,tP_eq] at hc_11
  cases H
  exact go_
 cases H
 exact go_
end
theorem gGroupedL_eq {b:Bag} {keys:List Int} {l:List Ag} {c:Bool} (hk:keys.length<=4000000000000000000) (hl:l.length<=4000000000000000000) (h:I8 b keys l=some c) (hc:c=true):0<keys.length+l.length/\keys.length+l.length<=48/\(uH b.kinds keys (agP l)).2=0:=by
 subst hc
 unfold I8 at h
 rw [bJ (by omega)] at h
 by_cases h0:((keys.length:Nat):Int)+((l.length:Nat):Int)=0
 ·rw [abb h0] at h;exact absurd (abH h) (by decide)
 ·rw [aba h0,aa_] at h
  by_cases h1:(48:Int)<((keys.length:Nat):Int)+((l.length:Nat):Int)
  ·rw [abb h1] at h;exact absurd (abH h) (by decide)
  ·rw [aba h1,aa_,gGrouped21_eq b.kinds (by omega) (by omega),aa8] at h
   exact ⟨by omega,by omega,abD (abH h)⟩
theorem gGroupedL_ex (b:Bag) {keys:List Int} {l:List Ag} (hk:keys.length<=4000000000000000000) (hl:l.length<=4000000000000000000) : ∃ c,I8 b keys l=some c:=by
 unfold I8
 rw [bJ (by omega)]
 by_cases h0:((keys.length:Nat):Int)+((l.length:Nat):Int)=0
 ·rw [abb h0];exact ⟨_,rfl⟩
 ·rw [aba h0,aa_]
  by_cases h1:(48:Int)<((keys.length:Nat):Int)+((l.length:Nat):Int)
  ·rw [abb h1];exact ⟨_,rfl⟩
  ·rw [aba h1,aa_,gGrouped21_eq b.kinds (by omega) (by omega)]
   exact ⟨_,rfl⟩
theorem agP_mem {l:List Ag} {a:Ag} (h:a∈l):(a.op,a.arg)∈agP l:=List.mem_map_of_mem (f:=fun a:Ag=>(a.op,a.arg)) h
theorem grpF_fit {kinds keys:List Int} {l:List Ag} (h:(uH kinds keys (agP l)).2=0) (hk:0<kinds.length) : ∀ a∈l,a.arg<((kinds.length:Nat):Int):=by
 intro a ha
 unfold uH at h
 cases hc:decide ((iw kinds keys []).2=0) with
 | false=>rw [hc,aa_] at h;exact absurd h (of_decide_eq_false hc)
 | true =>
  rw [hc,aa'] at h
  rcases grpAggs_fit kinds (agP l) _ h _ (agP_mem ha) with h1|h1
  ·exact h1
  ·have:a.arg<0:=h1
   omega
theorem grpB_mk {b:Bag} {keys:List Int} {l:List Ag} (hb:ym 40 b) (h0:0<keys.length+l.length) (h1:keys.length+l.length<=48):grpB b keys l=true:=by
 have hk:=hb.kinds;have hl:=hb.len
 unfold grpB
 rw [abb (show b.kinds.length<=100000 by omega),abb (show keys.length<=1000 by omega),abb (show l.length<=1000 by omega),abb h0,abb (show b.rows.length<=300 by omega),(hb.rk (by omega)).keys];rfl
theorem gGroupS_eq {b:Bag} {keys:List Int} {l:List Ag} (hb:ym 40 b) (h0:0<keys.length+l.length) (h1:keys.length+l.length<=48):gGroupS b keys l=some ⟨(uH b.kinds keys (agP l)).1,grpRows keys l b.rows⟩:=by
 unfold gGroupS
 rw [grpB_mk hb h0 h1];rfl
theorem groups_nil (l:List Ag) {rows:List (List Val)} (h:rows≠[]):JO [] l rows=[l.map fun a=>fZ a.op a.arg rows]:=by
 have hp : ∀ r,bY r []=[]:=fun _=>rfl
 have hd:fF [] (rows.map fun r=>bY r [])=[[]]:=by
  have hm : ∀ x,x∈fF [] (rows.map fun r=>bY r [])↔x=[]:=fun x=>by
   rw [ma]
   constructor
   ·intro hx;obtain ⟨r,_,e⟩:=abK.1 hx;exact e.symm
   ·intro hx;subst hx
    obtain ⟨r,hr⟩:=List.exists_mem_of_ne_nil _ h
    exact abK.2 ⟨r,hr,rfl⟩
  have hn:=He (rows.map fun r=>bY r [])
  generalize fF [] (rows.map fun r=>bY r [])=D at hm hn
  match D,hm,hn with
  | [],hm,_=>exact absurd ((hm []).2 rfl) (by simp)
  | [x],hm,_=>rw [(hm x).1 (by simp)]
  | x::y::D,hm,hn =>
   have h1:=(hm x).1 (by simp)
   have h2:=(hm y).1 (by simp)
   rw [h1,h2] at hn
   exact absurd (List.nodup_cons.1 hn).1 (by simp)
 have hf:(rows.filter fun r=>decide (bY r []=[]))=rows:=List.filter_eq_self.2 fun r _=>abb (hp r)
 unfold JO
 rw [hd,abk,abo,hf]
 rfl
theorem grp_same {b:Bag} {keys:List Int} {l:List Ag} (hb:ym 40 b) (h1:keys.length+l.length<=48) (he:(uH b.kinds keys (agP l)).2=0):rO b keys l=some ⟨(uH b.kinds keys (agP l)).1,grpRows keys l b.rows⟩:=by
 have hg:=gGrouped21_eq b.kinds (keys:=keys) (l:=l) (by omega) (by omega)
 by_cases hk:keys=[]
 ·subst hk
  by_cases hr:b.rows=[]
  ·rw [Vk (by simp at h1;omega) hg hr,hr];rfl
  ·rw [Xb hb (by simp) (by simp at h1;omega) (grpF_fit he hb.pos) hg (.inr hr),groups_nil l hr];rfl
 ·rw [Xb hb (by omega) (by omega) (grpF_fit he hb.pos) hg (.inl hk)]
  unfold grpRows
  cases keys with
  | nil=>exact absurd rfl hk
  | cons k ks=>rfl
theorem grpRows_small {keys:List Int} {l:List Ag} {rows:List (List Val)} (hr:rows.length<=40) (h1:keys.length+l.length<=48):(grpRows keys l rows).length<=1000 /\ ∀ r∈grpRows keys l rows,r.length<=1000:=by
 unfold grpRows
 cases keys with
 | nil =>
  simp only [List.isEmpty_nil,aa']
  refine ⟨by simp,fun r hx=>?_⟩
  rw [List.mem_singleton] at hx
  rw [hx,abl]
  simp at h1;omega
 | cons k ks =>
  simp only [List.isEmpty_cons,aa_]
  unfold JO
  have hd:(fF [] (rows.map fun r=>bY r (k::ks))).length<=rows.length:=by
   have:=DK (rows.map fun r=>bY r (k::ks))
   rw [Kz,abl] at this
   exact this
  refine ⟨by rw [(bn _).length_eq,abl];omega,fun r hx=>?_⟩
  have hx:=(bn _).mem_iff.1 hx
  obtain ⟨y,hy,rfl⟩:=abK.1 hx
  rw [ma] at hy
  obtain ⟨z,_,rfl⟩:=abK.1 hy
  unfold NK
  rw [abg,abl]
  show ((k::ks).map _).length+_<=_
  rw [abl];omega
theorem gLawGroups_true (b:Bag) {keys:List Int} {l:List Ag} (hk:keys.length<=4000000000000000000) (hl:l.length<=4000000000000000000):gLawGroups b keys l=some true:=by
 unfold gLawGroups
 obtain ⟨c,hc,hc2⟩:=jK b 40 (by omega)
 rw [show (40:Int)=((40:Nat):Int) from rfl,hc,aa8]
 cases c with
 | false=>rfl
 | true =>
  have hb:=hc2 rfl
  rw [Bool.not_true,aa_]
  obtain ⟨c,hc⟩:=gGroupedL_ex b hk hl
  rw [hc,aa8]
  cases c with
  | false=>rfl
  | true =>
   obtain ⟨h0,h1,he⟩:=gGroupedL_eq hk hl hc rfl
   have hkk:=hb.kinds
   have hgl:=FY b.kinds keys (agP l)
   have hal:(agP l).length=l.length:=abl _
   have hs:=grpRows_small (keys:=keys) (l:=l) hb.len h1
   rw [Bool.not_true,aa_,gGroupS_eq hb h0 h1,aa8,grp_same hb h1 he,aa8,yl _ (by show (uH b.kinds keys (agP l)).1.length<=_;omega) (by show (grpRows keys l b.rows).length<=_;omega) (fun r hr=>by have:=hs.2 r hr;omega)];rfl
structure VI (x:Ag):Prop where
 op:KH x.op
 arg:KH x.arg
section
variable {H:Type} {enc:TypeId × Value->H} {W:World} {hT:TabR (fun b o=>W.cell? ⟨b,o,none⟩)} {base:Nat} {spare:Nat->Bool} {held:Bool}
theorem Y3 : ∀ (fuel:Nat) {cs:List Value} {x:DataW H × List MemPlace}, DataW.trod enc Tryz.prog W base spare held fuel 48 cs=some x->WOk 48 x.1 -> ∃ a:Ag,CRd hT cs (JH a)/\VI a:=by
 intro fuel
 intro cs x h hw
 obtain ⟨xs,n,hfu,hxe,hlen,hxs,hf⟩:=DataW.trod_struct Tryz.underlying48 h
 rw [show Tryz.prog.cellsOf 48=2 by kernel_rfl] at hlen
 obtain ⟨c0,c1,rfl⟩:=M7 hlen
 obtain ⟨y0,h0,w0⟩:=Bc Tryz.underlying48 hxe hw hxs hf 0 (t:=3) (o:=0) (k:=1) rfl rfl rfl (by kernel_rfl)
 replace h0:DataW.trod enc Tryz.prog W base spare held n 3 [c0]=some y0:=h0
 obtain ⟨l0,r0,q0⟩:=gW Tryz.underlying3 h0
 obtain ⟨y1,h1,w1⟩:=Bc Tryz.underlying48 hxe hw hxs hf 1 (t:=3) (o:=1) (k:=1) rfl rfl rfl (by kernel_rfl)
 replace h1:DataW.trod enc Tryz.prog W base spare held n 3 [c1]=some y1:=h1
 obtain ⟨l1,r1,q1⟩:=gW Tryz.underlying3 h1
 exact ⟨⟨l0,l1⟩,(r0.app r1),⟨q0,q1⟩⟩
theorem Xk {cs:List Value} {fuel:Nat} {x:DataW H × List MemPlace} (h:DataW.trod enc Tryz.prog W base spare held fuel 29 cs=some x) (hw:WOk 29 x.1) : ∃ l:List Ag,CRd hT cs [.lst (l.map JH)]/\LOk 16 VI l :=
 dR (k:=2) (f:=JH) (Q:=VI) Tryz.underlying29 (by kernel_rfl) (by kernel_rfl) (by decide) (fun _=>rfl) h hw (fun f c x _ h hw=>Y3 f h hw)
end
theorem snapshotGroups_pure {b:Bag} {keys:List Int} {aggs:List Ag} (q0:okBag b) (q1:LOk 8 KH keys) (q2:LOk 16 VI aggs):Pure Tryz.prog 4 [.agg (cBag b), .one (.lst (keys.map (fun x=>[AC.int .i64 x]))), .one (.lst (aggs.map JH))] (.val (.one (.bool true))):=gLawGroups_ok (gLawGroups_true b (hk:=by have h:=q1.1;unfold reachBytes at h;omega) (hl:=by have h:=q2.1;unfold reachBytes at h;omega))
end Go.Proofs.YtfpbmfalamappaaGreatDoor
