/- Parts. No condition. -/
import Derived.Test.YtlcceppoloaecaaGreatDoorKBL
set_option maxHeartbeats 8000000
set_option maxRecDepth 100000
set_option linter.unusedSimpArgs false
set_option linter.unusedVariables false
namespace Go.Proofs.YtlcceppoloaecaaGreatDoor
open IntKind (i64)
open Go.RowKit Go.MapKept
theorem NW {s:ByteArray}:∀ {G:List bA},d_ s G=none ->∀ g∈G,s≠cH g.f.row
 |[],_,_,h=>by cases h
 |g0::G,h,g,hg=>by
  unfold d_ at h;by_cases e:s=cH g0.f.row
  ·rw[if_pos e]at h;cases h
  ·rw[if_neg e]at h
   cases hr:d_ s G with
   |none =>
    rcases aqp.1 hg with rfl|hg
    ·exact e
    ·exact NW hr g hg
   |some j=>rw[hr]at h;cases h
theorem agt {G:List bA}(h:G.Pairwise fun a b=>cH a.f.row≠cH b.f.row)(f:ap):(fp G f).Pairwise fun a b=>cH a.f.row≠cH b.f.row:=by
 unfold fp
 cases aq f.valid with
 |false=>exact h
 |true =>
  rw[aqa]
  cases hf:d_ (cH f.row) G with
  |none =>
   show(G++[(⟨f,[f.valid]⟩:bA)]).Pairwise _;refine List.pairwise_append.2 ⟨h,m5,fun a ha b hb=>?_⟩;rw[aqP.1 hb];exact fun e=>NW hf a ha e.symm
  |some i =>
   show(match G[i]? with|some g=>G.set i (⟨g.f,g.ps++[f.valid]⟩:bA)|none=>G).Pairwise _
   cases hg:G[i]? with
   |none=>exact h
   |some g =>
    show(G.set i (⟨g.f,g.ps++[f.valid]⟩:bA)).Pairwise _;have hk:(G.set i (⟨g.f,g.ps++[f.valid]⟩:bA)).map (fun a=>cH a.f.row)=G.map fun a=>cH a.f.row:=by
     rw[List.map_set];have:(G.map fun a=>cH a.f.row)[i]?=some (cH g.f.row):=by rw[aqw,hg];rfl
     apply List.ext_getElem?;intro j;by_cases e:i=j
     ·subst e
      have O0:=(ap_.1 this).1;rw[aqs O0,this]
     ·rw[aqt e]
    have hp:∀ l:List bA,(l.map fun a=>cH a.f.row).Pairwise (fun a b=>a≠b)↔l.Pairwise fun a b=>cH a.f.row≠cH b.f.row:=fun l=>List.pairwise_map
    rw[<- hp,hk,hp];exact h
theorem agu (l:List ap):(df l).Pairwise fun a b=>cH a.f.row≠cH b.f.row:=by
 have:∀ (l:List ap) (G:List bA),(G.Pairwise fun a b=>cH a.f.row≠cH b.f.row)->(l.foldl fp G).Pairwise fun a b=>cH a.f.row≠cH b.f.row:=by
  intro l
  induction l with
  |nil=>intro G h;exact h
  |cons f l ih=>intro G h;exact ih _ (agt h f)
 exact this l [] List.Pairwise.nil
theorem aey (l:List ap):((df l).map fun g=>(⟨g.f.row,g.ps⟩:ac)).Pairwise fun a b=>a.row≠b.row:=by
 rw[List.pairwise_map];refine(agu l).imp ?_;intro a b h e;exact h (by show cH a.f.row=cH b.f.row;rw[show a.f.row=b.f.row from e])
def aj5 (a b:ac):Bool:=decide (fr a b<0)
theorem ahQ {α:Type}{R:α->α->Prop}(hs:∀ a b,R a b->R b a):∀ {l:List α},l.Pairwise R ->∀ a∈l,∀ b∈l,a≠b->R a b
 |[],_,a,ha,_,_,_=>by cases ha
 |x::l,h,a,ha,b,hb,Pn=>by
  obtain⟨h1,h2⟩:=aq5.1 h;rcases aqp.1 ha with ea|ha
  ·rcases aqp.1 hb with eb|hb
   ·exact absurd (ea.trans eb.symm) Pn
   ·rw[ea];exact h1 b hb
  ·rcases aqp.1 hb with eb|hb
   ·rw[eb];exact hs _ _ (h1 a ha)
   ·exact ahQ hs h2 a ha b hb Pn
theorem agO {X:List ac}(hd:X.Pairwise fun a b=>a.row≠b.row):wV aj5 (fun x=>x∈X):=by
 refine⟨fun x _=>?_,fun x y z _ _ _ h1 h2=>?_,fun x y hx hy h1 h2=>?_⟩
 ·unfold aj5 fr
  rw[tCr_.refl];rfl
 ·exact aqc (tCr_.trans _ _ _ (aqC h1) (aqC h2))
 ·have h1:¬ bK x.row y.row<0:=of_decide_eq_false h1
  have h2:¬ bK y.row x.row<0:=of_decide_eq_false h2;have hz:bK x.row y.row=0:=by
   have:=tCr_.anti x.row y.row;have:=tCr_.anti y.row x.row;omega
  have UK:=tCr_.zero _ _ hz;refine Classical.byContradiction fun Pn=>?_
  exact ahQ (R:=fun a b:ac=>a.row≠b.row) (fun _ _ h e=>h e.symm) hd x hx y hy Pn UK
theorem aat (X:List ac):dC aj5 (lH fr X):=by
 refine(Gm (c:=fr) (fun a b d h1 h2=>?_) (fun a b h=>?_) X).imp ?_
 ·have:=tCr_.anti
  by_cases e1:bK a.row b.row=0
  ·have:=tCr_.zero _ _ e1;show bK a.row d.row<=0;rw[this];exact h2
  ·by_cases e2:bK b.row d.row=0
   ·have:=tCr_.zero _ _ e2;show bK a.row d.row<=0;rw[<- this];exact h1
   ·exact Int.le_of_lt (tCr_.trans _ _ _ (show bK a.row b.row<0 by have:bK a.row b.row<=0:=h1;omega) (show bK b.row d.row<0 by have:bK b.row d.row<=0:=h2;omega))
 ·have:=tCr_.anti b.row a.row
  show bK b.row a.row<=0;have h:¬ bK a.row b.row<0:=h;have h3:=tCr_.anti a.row b.row;omega
 ·intro a b h
  have h:bK a.row b.row<=0:=h;refine aqb ?_;show ¬ bK b.row a.row<0;have:=tCr_.anti b.row a.row;omega
theorem aiY (X:List ac)(hr:∀ s∈X,s.row.length<=4000000000000):lY ul aj5 (fun x=>x∈X):=fun x y hx hy=>⟨_,af1 x y (hr x hx) (hr y hy),rfl⟩
theorem aeM {X:List ac}(hd:X.Pairwise fun a b=>a.row≠b.row)(hl:X.length<=100000000)(hr:∀ s∈X,s.row.length<=4000000000000):xb X.length X ul=some (lH fr X):=by
 obtain⟨r,h1,h2,h3⟩:=aao (agO hd) (aiY X hr) hl (fun z hz=>hz) rfl;rw[h1,Ia (agO hd) (fun x hx=>h3.mem_iff.1 hx) h2 (aat X) (h3.trans (oY fr X).symm)]
theorem acj (v:Nat)(X:List ac):cl af 2 v X = .row v ((X.map gE).map oq) 2:=by
 unfold cl;rw[List.map_map,List.map_map];rfl
theorem aed (v:Nat){X:List ac}{n:Nat}(hn:X.length=n)(hd:X.Pairwise fun a b=>a.row≠b.row)(hl:n<=100000000)(hr:∀ s∈X,s.row.length<=4000000000000):RTz 238 [.row v ((X.map gE).map oq) 2] [.one (.sl 0 v 0 n),.one (.c (.fn 239 []))] [.row v (((lH fr X).map gE).map oq) 2] (.tup []):=by
 subst hn;have:=MY (n:=X.length) (a_x:=X) (a_cmp:=ul) (v:=v) (zr:=239) (zc:=[]) (fun y0 y1 r h=>gRowsC_ok h) (aeM hd hl hr);rw[acj,acj]at this;exact this
theorem ajm {P:Program}{ti:TI}{N:Nat}{ds:List (Option Tmp)}{K:Tm->List Ob->Prop}{o:Oper}{rest:List Oper}{T:Tm}{L L':List Ob}{x y:Operand}{t tx E:TypeId}{es xs:List (List AC)}{i n k by_ d:Nat}{vx:AV}(hd:o.dst=some d)(hN:Nat.blt d N=true)(hg:fR ds T o.guard=some true)
  (ho:o.op = .call { callee := .builtin .append,args :=#[x,y],argTypes :=#[t,tx] }) (hx:look T x=some (.one (.own es i))) (hy:look T y=some vx) (hl:dx vx=some xs) (ht:ti.elem t=some E) (PN:ti.size E=some k) (hb:ti.bytes E=some by_) (hL:L[i]?=some (.spare n k))
  (hφ:(ti.elem tx).isSome/\es.length=n/\(ti.zok E=true/\0<k)/\(∀ e∈xs,e.length=k)/\(n+xs.length)*by_<=140737488355328/\n+xs.length<=140737488355328) (Wa:L.set i (.spare (n+xs.length) k)=L')
  (h:aI P ti N ds K rest ((d,.one (.own (es++xs) i))::T) L'):aI P ti N ds K (o::rest) T L :=
 st_lop hd hN hg (v := .one (.own (es++xs) i)) (L':=L.set i (.spare (n+xs.length) k)) (φ:=(ti.elem tx).isSome/\k=k/\es.length=n/\(ti.zok E=true/\0<k)/\(∀ e∈xs,e.length=k)/\(n+xs.length)*by_<=140737488355328/\n+xs.length<=140737488355328)
  (by rw[ho];simp[zM,hx,hy,rF,hl,ht,PN,hb,hL]) ⟨hφ.1,rfl,hφ.2⟩ (by rw[Wa];exact h)
theorem ae2 (l:List ap)(hl:l.length<=300)(h:∀ f∈l,f.row.length<=1000 /\ ∀ v∈f.row,VOK v):PTz 202 [.one (.lst (l.map aG))] (.val (.one (.lst ((lR l).map af)))):=by
 refine pa_ ci Tryz.func202 rfl rfl Tryz.ntmps202 m5 ?_;simp only[argT,PV.av,aqj,aqn];obtain⟨n,hn⟩:∃ n,l.length=n:=⟨_,rfl⟩;have ZP:(((l.map aG).length:Nat):Int)=n:=by simp[hn]
 repeat' (first|refine gw_ ci aX ?_|refine gi_ (fun hb=>?_) (fun hb=>?_)|(refine b7 rfl rfl rfl rfl rfl zC ?_)|fail)
 refine cA (fun i:Nat=>[(0,.one (.c (.lst (l.map aG)))),(3,.one (.mp 0)),(4,MB (df (l.take i))),(11,.one (.c (.lst (l.map aG)))),(12,.one (.c (.int .i64 n))),(13,.one (.c (.int .i64 i)))]) (fun i=>NV (df (l.take i))) (fun i=>i<=n) (fun i=>n-i) 0 m0 (fun _ _=>aqu _)
  (fm_ ⟨rfl,rfl,rfl,rfl,aT ZP,rfl,t7⟩ [] rfl ⟨t7,(by cases (df (l.take 0))<;>first|(show 0<_;simp[NV,sb])|skip),r8 _,t7,t7,t7,t7⟩ (kT _)) ?_
 intro i hi;have Vg:=uB (l.take i);have Yv:=Bc (l.take i);rw[aq0]at Vg;by_cases O0:i<n
 ·obtain⟨f,hx⟩:=gol_ (show i<l.length by omega)
  have Xg:=aqe hx;have hN:decide ((i:Int)<n)=true:=by simp;exact O0
  have Qo:df (l.take (i+1))=fp (df (l.take i)) f:=by rw[bO hx];exact Nb _ _
  have Qs:=gPV_ok (iP f.valid);have Yw:=afi f.row (h f Xg).1 (h f Xg).2;have WG:(l.map aG)[((i:Nat):Int).toNat]?=some (aG f):=bq hx;generalize df (l.take i)=G at Vg Yv Qo;unfold fp at Qo;obtain⟨row,lo,QE⟩:=f;dsimp only at Qo Yw Qs;have T0:l.length<=300:=hl
  repeat' (first|refine gw_ trivial trivial ?_|refine gi_ (fun hb=>?_) (fun hb=>?_)|fail)
  refine aw_region ci _ rfl ?_
  repeat' (first|rw[hN]|(refine bB rfl rfl rfl rfl rfl rfl rfl rfl WG ?_ ?_;· exact⟨m0,rfl⟩)|refine gw_ trivial trivial ?_|refine gi_ (fun hb=>?_) (fun hb=>?_)|fail)
  refine aw_region ci _ rfl ?_
  repeat' (first|(refine aea rfl rfl rfl rfl rfl rfl rfl ?_)|(refine bB rfl rfl rfl rfl rfl rfl rfl rfl WG ?_ ?_;· exact⟨m0,rfl⟩)|refine gw_ trivial trivial ?_|refine gi_ (fun hb=>?_) (fun hb=>?_)|fail)
  refine ako (A:=NV G) rfl (by simp only[aqj,aqn,agB];simp only[unA,unS,if_true,List.drop_zero];rfl) ?_
  cases hv:aq ⟨lo,QE⟩with
  |false =>
   rw[hv,ap']at Qo;rw[hv]at Qs
   repeat' (first|rw[hN]|(refine bB rfl rfl rfl rfl rfl rfl rfl rfl WG ?_ ?_;· exact⟨m0,rfl⟩)|refine aM rfl rfl rfl rfl Qs rfl ?_|refine aM rfl rfl rfl rfl Yw rfl ?_|refine gw_ ci aX ?_|refine gi_ (fun hb=>?_) (fun hb=>?_)|fail)
   exact⟨i+1,m0,m0,by rw[Qo];exact fm_ ⟨rfl,rfl,rfl,rfl,rfl,aT (a7 m0 m0),t7⟩ [.dead] rfl ⟨t7,(by cases G<;>first|(show 0<_;simp[NV,sb])),r8 _,t7,t7,t7,t7⟩ (kT _)⟩
  |true =>
   rw[hv,aqa]at Qo;rw[hv]at Qs
   cases hf:d_ (cH row) G with
   |some j =>
    have Y7:=BZ hf;obtain⟨g,hg⟩:=gol_ Y7;rw[hf]at Qo;dsimp only at Qo;rw[hg]at Qo;dsimp only at Qo;have UP:G≠[]:=by intro e;rw[e]at Y7;simp at Y7
    have XW:=(Yv g (aqe hg)).1;rw[aq0]at XW;rw[oR UP,r6 UP];have ej:0+((j:Nat):Int).toNat=j:=by simp
    have hgj:(eV 0 G)[0+((j:Nat):Int).toNat]?=some [.c (b8 g.f.row),.own (tN g.ps) (4+3*(0+j))]:=by rw[ej];exact LJ G 0 j g hg
    have hLl:=lm UP;have hLj:(sb G++[Ob.dead])[4+3*(0+j)]?=some (.spare g.ps.length 2):=by
     rw[aqm m0];rw[show 4+3*(0+j)=3*j+1+1+1+1 by omega];exact akF hg
    have RS:(sb G++[Ob.dead]).set (4+3*(0+j)) (.spare (g.ps.length+1) 2) = .map (oE 0 G) :: .dead::Ah G :: .row (194+65536*G.length) (eV 0 G) 2::(uQ (G.set j ⟨g.f,g.ps++[⟨lo,QE⟩]⟩)++[.dead]):=by
     rw[List.set_append_left _ _ m0];have e6:g.ps.length+1=(g.ps++[(⟨lo,QE⟩:ax)]).length:=by simp
     rw[e6,show 4+3*(0+j)=3*j+1+1+1+1 by omega,<- ajw (g.ps++[(⟨lo,QE⟩:ax)]) hg];rfl
    have TV:(tN g.ps).length=g.ps.length:=by simp[tN]
    have XX:(.map (oE 0 G) :: .dead::Ah G :: .row (194+65536*G.length) (eV 0 G) 2::(uQ (G.set j ⟨g.f,g.ps++[⟨lo,QE⟩]⟩)++[Ob.dead])).set 3 (.row (194+65536*G.length) ((eV 0 G).set (0+((j:Nat):Int).toNat) [.c (b8 g.f.row),.own (tN g.ps++[[.int .i64 lo,.int .i64 QE]]) (4+3*(0+j))]) 2)=sb (G.set j ⟨g.f,g.ps++[⟨lo,QE⟩]⟩)++[.dead]:=by
     have e7:tN g.ps++[[.int .i64 lo,.int .i64 QE]]=tN (g.ps++[⟨lo,QE⟩]):=by simp[tN,aN]
     rw[ej,e7,Ns G 0 j g _ hg];unfold sb;rw[ak0 _ hg,akv hg,List.length_set];rfl
    have Tq:G.set j ⟨g.f,g.ps++[⟨lo,QE⟩]⟩≠[]:=by intro e;have:=congrArg List.length e;simp at this;exact UP this
    repeat' (first|(refine kR rfl rfl rfl rfl rfl rfl rfl (e:=[.c (b8 g.f.row),.own (tN g.ps) (4+3*(0+j))]) (by exact hgj) rfl ?_)|(refine ajm (k:=2) (by_:=16) rfl rfl rfl rfl rfl rfl rfl rfl rfl rfl (by exact hLj) ⟨rfl,TV,⟨rfl,by decide⟩,by intro e he;simp at he;subst he;rfl,by show(_+1)*16<=_;omega,by show _+1<=_;omega⟩ (by exact RS) ?_)|(refine m_ rfl rfl rfl rfl rfl rfl (e:=[.c (b8 g.f.row),.own (tN g.ps) (4+3*(0+j))]) (by exact hgj) ⟨aqo _,rfl⟩ (by exact XX) ?_)|refine aM rfl rfl rfl rfl Qs rfl ?_|refine aM rfl rfl rfl rfl Yw rfl ?_|refine gw_ ci aX ?_|refine gi_ (fun hb=>?_) (fun hb=>?_)|(refine dI rfl rfl rfl rfl rfl (ahh ci hf rfl rfl rfl rfl rfl rfl) ?_)|fail)
    exact⟨i+1,m0,m0,by rw[Qo,oR Tq,r6 Tq,List.length_set];exact fm_ ⟨rfl,rfl,rfl,rfl,rfl,aT (a7 m0 m0),t7⟩ [.dead] rfl ⟨t7,(by show 0<_;rw[lm Tq];omega),(by show 3<_;rw[lm Tq,List.length_set];omega),t7,t7,t7,t7⟩ (by rw[<- oR Tq];exact kT _)⟩
   |none =>
    rw[hf]at Qo;dsimp only at Qo
    cases Yx:G with
    |nil =>
     rw[Yx]at hf Qo
     repeat' (first|(refine JA rfl rfl rfl rfl (Ep (G:=[]) ⟨⟨row,⟨lo,QE⟩⟩,[⟨lo,QE⟩]⟩ ci hf rfl rfl rfl rfl rfl rfl rfl) ?_)|(refine b7 rfl rfl rfl rfl rfl (B9 (k:=2) (E:=194) (cs:=[.c (b8 row),.emp]) ci rfl rfl m9 m9 rfl m9 rfl rfl) ?_)|(refine b7 rfl rfl rfl rfl rfl (Lq (E:=194) (k:=2) (by_:=48) (xs:=[[.c (b8 row),.emp]]) ci rfl rfl rfl ⟨rfl,_,rfl,aqi rfl⟩ rfl m9 rfl rfl rfl m9 (aqi rfl) (aqi rfl) (aqi rfl)) ?_)|(refine kR rfl rfl rfl rfl rfl rfl rfl (e:=[.c (b8 row),.emp]) r5 rfl ?_)|(refine m_ rfl rfl rfl rfl rfl rfl (e:=[.c (b8 row),.emp]) r5 ⟨aqo _,rfl⟩ rfl ?_)|refine aM rfl rfl rfl rfl Qs rfl ?_|refine aM rfl rfl rfl rfl Yw rfl ?_|refine gw_ ci aX ?_|refine gi_ (fun hb=>?_) (fun hb=>?_)|(refine dI rfl rfl rfl rfl rfl (Ef (G:=[]) ci hf rfl rfl rfl rfl rfl rfl) ?_)|fail)
     exact⟨i+1,m0,m0,by rw[Qo];exact fm_ ⟨rfl,rfl,rfl,rfl,rfl,aT (a7 m0 m0),t7⟩ [] rfl ⟨t7,(by show 0<5;omega),r8 _,t7,t7,t7,t7⟩ (kT _)⟩
    |cons g0 G0 =>
     have UP:G≠[]:=by rw[Yx];simp
     rw[<- Yx];rw[oR UP,r6 UP];have htl:=acH UP;obtain⟨gn,W7⟩:∃ gn:bA,gn=⟨⟨row,⟨lo,QE⟩⟩,[⟨lo,QE⟩]⟩:=⟨_,rfl⟩;have hgk:cH gn.f.row=cH row:=by rw[W7]
     rw[<- W7]at Qo;have hgbe:gbG gn=Ob.row (194+65536) [[SV.c (b8 row),SV.emp]] 2:=by rw[W7];rfl
     have hLa:(Ob.map (oE 0 (G++[gn]))::Ob.dead::Ah G::Ob.row (194+65536*G.length) (eV 0 G) 2::(uQ G++[Ob.dead])).length=3+3*G.length:=by simp;omega
     have hq:((Ob.map (oE 0 (G++[gn]))::Ob.dead::Ah G::Ob.row (194+65536*G.length) (eV 0 G) 2::(uQ G++[Ob.dead]))++[Ob.row (194+65536) [[SV.c (b8 row),SV.emp]] 2])[3+3*G.length]?=some (Ob.row (194+65536) [[SV.c (b8 row),SV.emp]] 2):=by
      rw[aqf (by rw[hLa];exact aqo _),hLa,Nat.sub_self];rfl
     have S5:KZ ((Ob.map (oE 0 (G++[gn]))::Ob.dead::Ah G::Ob.row (194+65536*G.length) (eV 0 G) 2::(uQ G++[Ob.dead]))++[Ob.row (194+65536) [[SV.c (b8 row),SV.emp]] 2]) (.one (.sl (3+3*G.length) (194+65536) 0 1))=some [[SV.c (b8 row),SV.emp]]:=by
      simp only[KZ,hq];rfl
     have hsok:DC anC ((Ob.map (oE 0 (G++[gn]))::Ob.dead::Ah G::Ob.row (194+65536*G.length) (eV 0 G) 2::(uQ G++[Ob.dead]))++[Ob.row (194+65536) [[SV.c (b8 row),SV.emp]] 2]) 2 191 (.one (.sl (3+3*G.length) (194+65536) 0 1)):=⟨rfl,[[SV.c (b8 row),SV.emp]],hq,aqo _⟩;have hL2:((Ob.map (oE 0 (G++[gn]))::Ob.dead::Ah G::Ob.row (194+65536*G.length) (eV 0 G) 2::(uQ G++[Ob.dead]))++[Ob.row (194+65536) [[SV.c (b8 row),SV.emp]] 2]).set 3 (Ob.row (194+65536*G.length+65536) (eV 0 G++[[SV.c (b8 row),SV.emp]]) 2)=Ob.map (oE 0 (G++[gn]))::Ob.dead::Ah G::Ob.row (194+65536*G.length+65536) (eV 0 G++[[SV.c (b8 row),SV.emp]]) 2::(uQ G++[Ob.dead,Ob.row (194+65536) [[SV.c (b8 row),SV.emp]] 2]):=by simp
     have hL2l:(Ob.map (oE 0 (G++[gn]))::Ob.dead::Ah G::Ob.row (194+65536*G.length+65536) (eV 0 G++[[SV.c (b8 row),SV.emp]]) 2::(uQ G++[Ob.dead,Ob.row (194+65536) [[SV.c (b8 row),SV.emp]] 2])).length=4+3*G.length:=by simp;omega
     have eG:0+((G.length:Nat):Int).toNat=G.length:=by simp
     have hgG:(eV 0 G++[[SV.c (b8 row),.emp]])[0+((G.length:Nat):Int).toNat]?=some [SV.c (b8 row),SV.emp]:=by
      rw[eG,aqf (by rw[nS];exact aqo _),nS];simp
     have e10:(G++[gn]).length=G.length+1:=by simp
     have e9:194+65536*(G++[gn]).length=194+65536*G.length+65536:=by rw[e10];omega
     have Tq:G++[gn]≠[]:=by simp
     have XX:((Ob.map (oE 0 (G++[gn]))::Ob.dead::Ah G::Ob.row (194+65536*G.length+65536) (eV 0 G++[[SV.c (b8 row),SV.emp]]) 2::(uQ G++[Ob.dead,Ob.row (194+65536) [[SV.c (b8 row),SV.emp]] 2]))++[Ob.spare 1 2]).set 3 (Ob.row (194+65536*G.length+65536) ((eV 0 G++[[SV.c (b8 row),.emp]]).set (0+((G.length:Nat):Int).toNat) [SV.c (b8 row),SV.own [[.int .i64 lo,.int .i64 QE]] (Ob.map (oE 0 (G++[gn]))::Ob.dead::Ah G::Ob.row (194+65536*G.length+65536) (eV 0 G++[[SV.c (b8 row),SV.emp]]) 2::(uQ G++[Ob.dead,Ob.row (194+65536) [[SV.c (b8 row),SV.emp]] 2])).length]) 2)=sb (G++[gn]):=by
      have e8:(eV 0 G++[[SV.c (b8 row),.emp]]).set G.length [SV.c (b8 row),SV.own [[.int .i64 lo,.int .i64 QE]] (4+3*G.length)]=eV 0 (G++[gn]):=by
       rw[Gp,List.set_append_right _ _ (by rw[nS];exact aqo _),nS,W7];simp[tN,aN]
      rw[eG,hL2l,e8];unfold sb;rw[ahU gn UP,aiz gn UP,e9,hgbe,W7];simp[bxG]
     repeat' (first|refine aM rfl rfl rfl rfl Qs rfl ?_|refine aM rfl rfl rfl rfl Yw rfl ?_|refine gw_ ci aX ?_|refine gi_ (fun hb=>?_) (fun hb=>?_)|(refine dI rfl rfl rfl rfl rfl (Ef (G:=G) ci hf rfl rfl rfl rfl rfl rfl) ?_)|fail)
     refine JA (L':=(Ob.map (oE 0 (G++[gn]))::Ob.dead::Ah G::Ob.row (194+65536*G.length) (eV 0 G) 2::(uQ G++[Ob.dead]))) rfl rfl rfl rfl (Ep (G:=G) (id:=0) gn ci hf hgk rfl rfl rfl rfl rfl rfl) ?_
     repeat' (first|(refine JA (L':=(Ob.map (oE 0 (G++[gn]))::Ob.dead::Ah G::Ob.row (194+65536*G.length) (eV 0 G) 2::(uQ G++[Ob.dead]))) rfl rfl rfl rfl (Ep (G:=G) (id:=0) gn ci hf hgk rfl rfl rfl rfl rfl rfl) ?_)|(refine b7 (v := .one (.sl (3+3*G.length) (194+65536) 0 1)) (L':=(Ob.map (oE 0 (G++[gn]))::Ob.dead::Ah G::Ob.row (194+65536*G.length) (eV 0 G) 2::(uQ G++[Ob.dead]))++[Ob.row (194+65536) [[SV.c (b8 row),SV.emp]] 2]) rfl rfl rfl rfl rfl (by rw[<- hLa];exact B9 (k:=2) (E:=194) (cs:=[SV.c (b8 row),SV.emp]) ci rfl rfl m9 m9 rfl m9 rfl rfl) ?_)|(refine b7 (v := .one (.sl 3 (194+65536*G.length+65536) 0 (G.length+1))) (L':=(Ob.map (oE 0 (G++[gn]))::Ob.dead::Ah G::Ob.row (194+65536*G.length+65536) (eV 0 G++[[SV.c (b8 row),SV.emp]]) 2::(uQ G++[Ob.dead,Ob.row (194+65536) [[SV.c (b8 row),SV.emp]] 2]))) rfl rfl rfl rfl rfl (by rw[<- hL2];exact dX (k:=2) (by_:=48) (xs:=[[SV.c (b8 row),SV.emp]]) ci rfl rfl rfl S5 hsok rfl (by show(194+65536*G.length)%65536=194;omega) rfl rfl rfl m9 (nS G 0) (by show(_+1)*48<=_;omega) (by show _+1<=_;omega)) ?_)|(refine kR rfl rfl rfl rfl rfl rfl rfl (e:=[SV.c (b8 row),SV.emp]) (by exact hgG) rfl ?_)|(refine m_ rfl rfl rfl rfl rfl rfl (e:=[SV.c (b8 row),SV.emp]) (by exact hgG) ⟨aqo _,rfl⟩ (by exact XX) ?_)|refine aM rfl rfl rfl rfl Qs rfl ?_|refine aM rfl rfl rfl rfl Yw rfl ?_|refine gw_ ci aX ?_|refine gi_ (fun hb=>?_) (fun hb=>?_)|(refine dI rfl rfl rfl rfl rfl (Ef (G:=G) ci hf rfl rfl rfl rfl rfl rfl) ?_)|fail)
     exact⟨i+1,m0,m0,by rw[Qo,oR Tq,r6 Tq,e9,e10];exact fm_ ⟨rfl,rfl,rfl,rfl,rfl,aT (a7 m0 m0),t7⟩ [] (aqI _).symm ⟨t7,(by show 0<_;rw[lm Tq];omega),(by show 3<_;rw[lm Tq,e10];omega),t7,t7,t7,t7⟩ (by rw[<- oR Tq];exact kT _)⟩
 ·have ZQ:l.take i=l:=aqO m0
  have hN:decide ((i:Int)<n)=false:=by simp;omega
  rw[ZQ]at Vg Yv ⊢;have XW:=uB l;have hrP:lR l=lH fr ((df l).map fun g=>(⟨g.f.row,g.ps⟩:ac)):=rfl;rw[hrP];clear hrP;have ZR:∀ g∈df l,g.f.row.length<=1000:=fun g hg=>(h _ (Bc l g hg).2.1).1
  have XY:=aey l;generalize df l=G at Vg Yv XW ZR XY ⊢
  repeat' (first|refine gw_ trivial trivial ?_|refine gi_ (fun hb=>?_) (fun hb=>?_)|fail)
  refine aw_region ci _ rfl ?_
  repeat' (first|rw[hN]|(refine bB rfl rfl rfl rfl rfl rfl rfl rfl WG ?_ ?_;· exact⟨m0,rfl⟩)|refine gw_ trivial trivial ?_|refine gi_ (fun hb=>?_) (fun hb=>?_)|fail)
  cases Yx:G with
  |nil =>
   have e0:(lH fr (([]:List bA).map fun g=>(⟨g.f.row,g.ps⟩:ac))).map af=[]:=rfl;rw[e0]
   repeat' (first|refine aM rfl rfl rfl rfl abt rfl ?_|refine gw_ ci aX ?_|refine gi_ (fun hb=>?_) (fun hb=>?_)|fail)
   exact aZ (bg rfl (by trivial) rfl)
  |cons g0 G0 =>
   have UP:G≠[]:=by rw[Yx];simp
   rw[<- Yx,oR UP,r6 UP];refine aa3 3 rfl (Da G 0) ?_;have e1:(G.map fun g=>[b8 g.f.row,AC.lst (tN g.ps)]).map (List.map SV.c)=((G.map fun g=>(⟨g.f.row,g.ps⟩:ac)).map gE).map oq:=by
    simp only[List.map_map];rfl
   rw[e1];obtain⟨X,hX⟩:∃ X:List ac,X=G.map fun g=>⟨g.f.row,g.ps⟩:=⟨_,rfl⟩
   have hXl:X.length=G.length:=by rw[hX];simp
   have hXr:∀ s∈X,s.row.length<=1000:=by
    intro s hs;rw[hX]at hs;obtain⟨g,hg,rfl⟩:=aqJ.1 hs;exact ZR g hg
   rw[<- hX];have e2:(sb G).set 3 (.row (194+65536*G.length) ((X.map gE).map oq) 2) = .map (oE 0 G) :: .dead::Ah G :: .row (194+65536*G.length) ((X.map gE).map oq) 2::uQ G:=rfl;rw[e2];rw[<- hX]at XY;have O8:=aed (194+65536*G.length) (X:=X) (n:=G.length) hXl XY m0 (fun s hs=>by have:=hXr s hs;omega);refine aw_region ci _ rfl ?_
   repeat' (first|(refine cI [3] rfl rfl rfl rfl O8 rfl (apC rfl (bW ⟨(by show 0<1;omega),t7,t7⟩)) rfl (jG3 (L' := .map (oE 0 G) :: .dead::Ah G :: .row (194+65536*G.length) (((lH fr X).map gE).map oq) 2::uQ G) rfl) ?_)|refine gw_ trivial trivial ?_|refine gi_ (fun hb=>?_) (fun hb=>?_)|fail)
   refine pD 3 (L := .map (oE 0 G) :: .dead::Ah G :: .row (194+65536*G.length) (((lH fr X).map gE).map oq) 2::uQ G) rfl (afG _) ?_;simp only[aqj,aqn,thA,thS,and_self,if_true,List.drop_zero];have e3:(((lH fr X).map gE).map fun x=>[x.1,x.2]).take G.length=(lH fr X).map af:=by
    rw[aqO (by simp[(oY fr X).length_eq,hXl]),List.map_map];rfl
   rw[e3]
   repeat' (first|refine gw_ ci aX ?_|refine gi_ (fun hb=>?_) (fun hb=>?_)|fail)
   exact aZ (bg rfl (by trivial) rfl)
theorem tj {α:Type}(l:List α):l=[] \/ ∃ m x,l=m++[x]:=by
 cases h:l.getLast? with
 |none=>exact .inl (by simpa using h)
 |some x=>exact .inr ⟨l.dropLast,x,by obtain⟨ys,rfl⟩:=List.getLast?_eq_some_iff.1 h;simp⟩
def an4:TI :={ tab with owns:=fun f=>f==160||tab.owns f }
theorem gM:TIok Tryz.prog an4:=⟨tab_ok.size,tab_ok.agg,tab_ok.elem,tab_ok.field,tab_ok.zero,tab_ok.bytes,tab_ok.kind,tab_ok.struct,tab_ok.zok,tab_ok.eqs⟩
def qD (l:List ax)(p:ax):List ax:=match l.getLast? with
 |some q=>if p.lo<=q.hi then l.dropLast++[⟨q.lo,zb q.hi p.hi⟩]else l++[p]
 |none=>l++[p]
theorem Cj (p:ax):qD [] p=[p]:=rfl
theorem sU (l:List ax)(q p:ax):qD (l++[q]) p=if p.lo<=q.hi then l++[⟨q.lo,zb q.hi p.hi⟩]else(l++[q])++[p]:=by
 unfold qD;rw[List.getLast?_concat];simp only[List.dropLast_concat]
theorem NU (l:List ax)(p:ax):(qD l p).length<=l.length+1:=by
 rcases tj l with rfl|⟨m,q,rfl⟩
 ·rw[Cj];simp
 ·rw[sU];split<;>simp
theorem Dq (l:List ax)(p:ax)(hl:l.length<=1000000):GM Tryz.prog 160 (l.map aN) 2 [.agg (aN p)] ((qD l p).map aN):=by
 refine K0 Tryz.func160 rfl rfl Tryz.ntmps160 m5 ?_;simp only[argT,PV.av,aqj,aqn];rcases tj l with rfl|⟨m,q,rfl⟩
 ·rw[Cj]
  repeat' (first|refine gw_ tab_ok tabS_ok ?_|refine gi_ (fun hb=>?_) (fun hb=>?_)|fail)
  exact⟨.inr rfl,rfl,rfl⟩
 ·have hlen:(m++[q]).length=m.length+1:=by simp
  have hm:m.length<=1000000:=m0
  have SU:((m++[q]).map aN)[((m.length:Nat):Int).toNat]?=some (aN q):=by rw[Int.toNat_natCast,aql,aqf m5];simp
  have UQ:i64.wrap (((m.length+1:Nat):Int)-1)=((m.length:Nat):Int):=a7 m0 m0;have UE:decide ((0:Int)<((m.length+1:Nat):Int))=true:=aqc m0;have ZQ:List.drop (((0:Nat):Int)).toNat (List.take (((m.length:Nat):Int)).toNat ((m++[q]).map aN))=m.map aN:=by rw[Int.toNat_natCast,Int.toNat_natCast,List.drop_zero,aql,List.take_left' m5]
  have hln:((m++[q]).map aN).length=m.length+1:=by simp
  rw[sU];by_cases hpq:p.lo<=q.hi
  ·have UY:decide (p.lo<=q.hi)=true:=aqc hpq
   rw[if_pos hpq]
   repeat' (first|rw[hln]|rw[UQ]|rw[UE]|rw[UY]|rw[ZQ]|rw[mx_norm]|(refine bB rfl rfl rfl rfl rfl rfl rfl rfl SU ?_ ?_;· exact⟨m0,rfl⟩)|refine gw_ tab_ok tabS_ok ?_|refine gi_ (fun hb=>?_) (fun hb=>?_)|fail)
   exact⟨.inr rfl,(by rw[aql];rfl),m5⟩
  ·have UY:decide (p.lo<=q.hi)=false:=aqb hpq
   rw[if_neg hpq]
   repeat' (first|rw[hln]|rw[UQ]|rw[UE]|rw[UY]|(refine bB rfl rfl rfl rfl rfl rfl rfl rfl SU ?_ ?_;· exact⟨m0,rfl⟩)|refine gw_ tab_ok tabS_ok ?_|refine gi_ (fun hb=>?_) (fun hb=>?_)|fail)
   exact⟨.inr rfl,(by rw[aql (l₁:=m++[q])];rfl),m5⟩
def Fo (n:Int):List Stp->List ax->List ax
 |[],out=>out
 |[x],out=>if n<=x.n then qD out ⟨x.lo,1099511627776⟩else out
 |x::y::r,out=>Fo n (y::r) (if n<=x.n then qD out ⟨x.lo,y.lo⟩else out)
def aT9 (l:List Stp)(n:Int)(s:List ax×Nat):Tm:=[(0,.one (.c (.lst (l.map kJ)))),(1,.one (.c (.int .i64 n))),(5,.one (.own (s.1.map aN) 0)),(6,.one (.c (.int .i64 s.2)))]
theorem jC9 (l:List Stp)(n:Int)(s:List ax×Nat):gk 1 (aT9 l n s):=⟨t7,t7,(by show 0<1;omega),t7,t7⟩
theorem ah9 {n:Int}{l:List Stp}{i:Nat}{x:Stp}(hx:l[i]?=some x)(out:List ax):Fo n (l.drop i) out=Fo n (l.drop (i+1)) (if n<=x.n then qD out ⟨x.lo,((l[i+1]?).map (·.lo)).getD 1099511627776⟩else out):=by
 obtain⟨h1,h2⟩:=ap_.1 hx;rw[aqF h1,h2];by_cases h:i+1<l.length
 ·rw[aqF h,aqh h];rfl
 ·rw[List.drop_eq_nil_of_le m0,aqX m0];rfl
theorem ahb (l:List Stp)(n:Int)(hl:l.length<=100000):PTz 152 [.one (.lst (l.map kJ)),.one (.int .i64 n)] (.val (.one (.lst ((Fo n l []).map aN)))):=by
 generalize hR:Fo n l []=R;refine pa_ gM Tryz.func152 rfl rfl Tryz.ntmps152 m5 ?_;simp only[argT,PV.av,aqj,aqn]
 repeat' (first|refine gw_ gM tabS_ok ?_|refine gi_ (fun hb=>?_) (fun hb=>?_)|fail)
 refine bU 5 2 rfl ?_;refine cA (aT9 l n) (fun s=>[.spare s.1.length 2]) (fun s=>s.2<=l.length/\Fo n (l.drop s.2) s.1=R/\s.1.length<=s.2) (fun s=>l.length-s.2) ([],0) ⟨aqu _,hR,aqo _⟩ (fun _ _=>aqu _)
  (fm_ ⟨rfl,rfl,rfl,rfl,t7⟩ [] rfl (jC9 _ _ _) ⟨t7,t7⟩) ?_
 rintro⟨out,i⟩ ⟨h1,h2,h3⟩;dsimp only at h1 h2 h3;unfold aT9;dsimp only;by_cases O0:i<l.length
 ·obtain⟨x,hx⟩:=gol_ O0
  have hG:decide (((i:Nat):Int)<((l.length:Nat):Int))=true:=aqc m0;have UQ:i64.wrap (((i:Nat):Int)+1)=((i+1:Nat):Int):=a7 m0 m0;rw[ah9 hx]at h2;generalize hy:((l[i+1]?).map (·.lo)).getD 1099511627776=y at h2;have hjn:=Dq out ⟨x.lo,y⟩ m0;have hlen:=NU out ⟨x.lo,y⟩;by_cases hk:n<=x.n
  ·have hK:decide (n<=x.n)=true:=aqc hk
   rw[if_pos hk]at h2;by_cases UG:i+1<l.length
   ·obtain⟨z,hz⟩:=gol_ UG
    have Tq:decide (((i+1:Nat):Int)<((l.length:Nat):Int))=true:=aqc m0;rw[hz]at hy;obtain rfl:z.lo=y:=hy
    repeat' (first|rw[aqk]|rw[hG]|rw[UQ]|rw[Tq]|rw[hK]|(refine Jw rfl rfl rfl rfl (by rw[aqk];rfl) hjn ?_)|(refine D5 0 1 [(0,.one (.c (.lst (l.map kJ)))),(1,.one (.c (.int .i64 n))),(5,.one (.own ((qD out ⟨x.lo,z.lo⟩).map aN) 0)),(6,.one (.c (.int .i64 ((i:Nat):Int))))] (aqu _) m0 rfl (by intro z hz;simp at hz) (by intro z hz;simp only[aqp,List.not_mem_nil,or_false]at hz;rcases hz with rfl|rfl|rfl|rfl;exact .inl ⟨rfl,t7⟩;exact .inl ⟨rfl,t7⟩;exact .inr ⟨_,rfl,rfl⟩;exact .inl ⟨rfl,t7⟩) ?_)|(refine bB rfl rfl rfl rfl rfl rfl rfl rfl (bq hx) ?_ ?_;· exact⟨m0,rfl⟩)|(refine bB rfl rfl rfl rfl rfl rfl rfl rfl (bq hz) ?_ ?_;· exact⟨m0,rfl⟩)|refine gw_ gM tabS_ok ?_|refine gi_ (fun hb=>?_) (fun hb=>?_)|fail)
    exact⟨(qD out ⟨x.lo,z.lo⟩,i+1),⟨by show i+1<=_;omega,h2,by show(qD out ⟨x.lo,z.lo⟩).length<=i+1;omega⟩,by show l.length-(i+1)<l.length-i;omega,fm_ ⟨rfl,rfl,rfl,rfl,t7⟩ [] rfl (jC9 _ _ _) ⟨t7,t7⟩⟩
   ·have Tq:decide (((i+1:Nat):Int)<((l.length:Nat):Int))=false:=aqb m0
    rw[aqX m0]at hy;obtain rfl:1099511627776=y:=hy
    repeat' (first|rw[aqk]|rw[hG]|rw[UQ]|rw[Tq]|rw[hK]|(refine Jw rfl rfl rfl rfl (by rw[aqk];rfl) hjn ?_)|(refine D5 0 1 [(0,.one (.c (.lst (l.map kJ)))),(1,.one (.c (.int .i64 n))),(5,.one (.own ((qD out ⟨x.lo,1099511627776⟩).map aN) 0)),(6,.one (.c (.int .i64 ((i:Nat):Int))))] (aqu _) m0 rfl (by intro z hz;simp at hz) (by intro z hz;simp only[aqp,List.not_mem_nil,or_false]at hz;rcases hz with rfl|rfl|rfl|rfl;exact .inl ⟨rfl,t7⟩;exact .inl ⟨rfl,t7⟩;exact .inr ⟨_,rfl,rfl⟩;exact .inl ⟨rfl,t7⟩) ?_)|(refine bB rfl rfl rfl rfl rfl rfl rfl rfl (bq hx) ?_ ?_;· exact⟨m0,rfl⟩)|refine gw_ gM tabS_ok ?_|refine gi_ (fun hb=>?_) (fun hb=>?_)|fail)
    exact⟨(qD out ⟨x.lo,1099511627776⟩,i+1),⟨by show i+1<=_;omega,h2,by show(qD out ⟨x.lo,1099511627776⟩).length<=i+1;omega⟩,by show l.length-(i+1)<l.length-i;omega,fm_ ⟨rfl,rfl,rfl,rfl,t7⟩ [] rfl (jC9 _ _ _) ⟨t7,t7⟩⟩
  ·have hK:decide (n<=x.n)=false:=aqb hk
   rw[if_neg hk]at h2;by_cases UG:i+1<l.length
   ·obtain⟨z,hz⟩:=gol_ UG
    have Tq:decide (((i+1:Nat):Int)<((l.length:Nat):Int))=true:=aqc m0
    repeat' (first|rw[aqk]|rw[hG]|rw[UQ]|rw[Tq]|rw[hK]|(refine bB rfl rfl rfl rfl rfl rfl rfl rfl (bq hx) ?_ ?_;· exact⟨m0,rfl⟩)|(refine bB rfl rfl rfl rfl rfl rfl rfl rfl (bq hz) ?_ ?_;· exact⟨m0,rfl⟩)|refine gw_ gM tabS_ok ?_|refine gi_ (fun hb=>?_) (fun hb=>?_)|fail)
    exact⟨(out,i+1),⟨by show i+1<=_;omega,h2,by show(out).length<=i+1;omega⟩,by show l.length-(i+1)<l.length-i;omega,fm_ ⟨rfl,rfl,rfl,rfl,t7⟩ [] rfl (jC9 _ _ _) ⟨t7,t7⟩⟩
   ·have Tq:decide (((i+1:Nat):Int)<((l.length:Nat):Int))=false:=aqb m0
    repeat' (first|rw[aqk]|rw[hG]|rw[UQ]|rw[Tq]|rw[hK]|(refine bB rfl rfl rfl rfl rfl rfl rfl rfl (bq hx) ?_ ?_;· exact⟨m0,rfl⟩)|refine gw_ gM tabS_ok ?_|refine gi_ (fun hb=>?_) (fun hb=>?_)|fail)
    exact⟨(out,i+1),⟨by show i+1<=_;omega,h2,by show(out).length<=i+1;omega⟩,by show l.length-(i+1)<l.length-i;omega,fm_ ⟨rfl,rfl,rfl,rfl,t7⟩ [] rfl (jC9 _ _ _) ⟨t7,t7⟩⟩
 ·have hG:decide (((i:Nat):Int)<((l.length:Nat):Int))=false:=aqb m0
  rw[List.drop_eq_nil_of_le m0]at h2;have h2:out=R:=h2;subst h2
  repeat' (first|rw[aqk]|rw[hG]|refine gw_ gM tabS_ok ?_|refine gi_ (fun hb=>?_) (fun hb=>?_)|fail)
  refine⟨.inr rfl,?_⟩
  first|exact⟨t7,rfl⟩|exact⟨⟨t7,t7⟩,rfl⟩|(refine⟨?_,rfl⟩;repeat' (first|exact t7|rfl|apply And.intro))
noncomputable section
def NZ (Ph:ax)(PK:ax):Option (Int):=bif (cg [.c (.int .i64 Ph.lo),.c (.int .i64 Ph.hi)] [.c (.int .i64 PK.lo),.c (.int .i64 PK.hi)])then some (0:Int)else
 bif (decide (Ph.lo<PK.lo))then some (-1:Int)else
 bif (decide (Ph.lo=PK.lo))then bif (decide (Ph.hi<PK.hi))then some (-1:Int)else
 some (1:Int)else
 some (1:Int)
theorem ahw {Ph:ax}{PK:ax}{r:Int}(H:NZ Ph PK=some r):PTz 211 [.agg (aN Ph),.agg (aN PK)] (.val (.one (.int .i64 r))):=by
 unfold NZ at H;refine po_ Tryz.func211 Tryz.ntmps211 ?_;rcases aj H with⟨Qv,H⟩|⟨Qv,H⟩
 ·cases H
  exact Fa
 rcases aj H with⟨Qq,H⟩|⟨Qq,H⟩
 ·cases H
  exact Fa
 rcases aj H with⟨Qf,H⟩|⟨Qf,H⟩
 ·rcases aj H with⟨P9,H⟩|⟨P9,H⟩
  ·cases H
   exact Fa
  cases H;exact Fa
 cases H;exact Fa
def fJ (a_l:(List ax))(Ph:ax):((List ax)×Int)->Option (Step ((List ax)×Int) ((List ax))):=fun s=>match s with
 |(OZ,i_2)=>bif (decide (i_2<((a_l.length:Nat):Int)))then(aF a_l i_2).bind fun P7=>(NZ P7 Ph).bind fun P2=>bif (decide (P2<=(0:Int)))then bif (decide (OZ.length+1<=8796093022208))then(some (.next ((OZ++[P7]),(i64.wrap (i_2+(1:Int))))))else none else
 some (.exit (OZ,i_2))else
 some (.exit (OZ,i_2))
def jf (a_l:(List ax))(Ph:ax):Sum ((List ax)×Int) ((List ax))->Option (((List ax)))
 |.inl (OZ,i_2)=>bif (decide (OZ.length+1<=8796093022208))then((ga a_l i_2 ((a_l.length:Nat):Int)).bind fun Uy=>bif (decide (OZ.length+Uy.length+1<=8796093022208))then(some (OZ++[Ph]++Uy))else none)else none
 |.inr q=>some q
def vO (a_l:(List ax))(Ph:ax):Option ((List ax)):=(ao (fJ a_l Ph) fuel ([],(0:Int))).bind (jf a_l Ph)
theorem abA {a_l:(List ax)}{Ph:ax}{r:(List ax)}(H:vO a_l Ph=some r):PTz 153 [.one (.lst (a_l.map aN)),.agg (aN Ph)] (.val (.one (.lst (r.map aN)))):=by
 unfold vO at H;refine po_ Tryz.func153 Tryz.ntmps153 ?_;refine aY ?_;refine bU 5 2 rfl ?_;refine alM_ (fun s:(List ax)×Int=>match s with|(OZ,i_2)=>[(0,.one (.c (.lst (a_l.map aN)))),(3,.one (.ptr 0 0)),(5,.one (.own (OZ.map aN) 1)),(6,.one (.c (.int .i64 i_2)))]) (fun s=>match s with|(OZ,i_2)=>[.box [.c (.int .i64 Ph.lo),.c (.int .i64 Ph.hi)],.spare OZ.length 2]) H (fun _=>aqu _)
  (fm_ bF [] rfl bn cm) ?_
 rintro⟨OZ,i_2⟩ st1 OU Py;unfold fJ at OU;dsimp only at OU ⊢;rcases aj OU with⟨Qf,OU⟩|⟨Qf,OU⟩
 ·obtain⟨P7,SG,i1,R9,OU⟩:=bw (f:=aN) OU
  obtain⟨P2,c2,OU⟩:=bd_ OU;replace c2:=ahw c2;rcases aj OU with⟨QT,OU⟩|⟨QT,OU⟩
  ·obtain⟨g3,OU⟩:=aK OU
   cases OU;refine aY ?_;exact⟨_,rfl,fm_ qI [] oO bn cm⟩
  cases OU;have O3:jf a_l Ph (.inl (OZ,i_2))=some _:=Py;unfold jf at O3;dsimp only at O3;obtain⟨g4,O3⟩:=aK O3;obtain⟨Uy,u5,O3⟩:=bd_ O3;obtain⟨⟨u5a,u5b,u5c⟩,u5⟩:=cR u5;have VA:=wo (f:=aN) u5;have u5y:List.drop i_2.toNat (List.take ((((a_l.map aN).length:Nat):Int)).toNat (a_l.map aN))=Uy.map aN:=by rw[aqk];exact VA
  obtain⟨g6,O3⟩:=aK O3
  cases O3
  repeat' (first|rw[u5y]|refine gs_ ?_|rw[VA]|rw[show((0:Nat):Int)=0 from rfl])
  refine aZ (bg rfl ?_ ?_)
  ·repeat' (first|exact t7|rfl|exact aqi rfl|omega|apply And.intro)
  ·first|rfl|(simp only[aql,aqj,aqn,aqd]<;>rfl)
 cases OU;have O3:jf a_l Ph (.inl (OZ,i_2))=some _:=Py;unfold jf at O3;dsimp only at O3;obtain⟨g7,O3⟩:=aK O3;obtain⟨Uy,u8,O3⟩:=bd_ O3;obtain⟨⟨u8a,u8b,u8c⟩,u8⟩:=cR u8;have u8x:=wo (f:=aN) u8;have u8y:List.drop i_2.toNat (List.take ((((a_l.map aN).length:Nat):Int)).toNat (a_l.map aN))=Uy.map aN:=by rw[aqk];exact u8x
 obtain⟨g9,O3⟩:=aK O3
 cases O3
 repeat' (first|rw[u8y]|refine gs_ ?_|rw[u8x]|rw[show((0:Nat):Int)=0 from rfl])
 refine aZ (bg rfl ?_ ?_)
 ·repeat' (first|exact t7|rfl|exact aqi rfl|omega|apply And.intro)
 ·first|rfl|(simp only[aql,aqj,aqn,aqd]<;>rfl)
def NJ (l:List Stp)(n:Int):Option (List ax):=bif decide (l.length<=100000)then some (Fo n l [])else none
theorem aiM {l:List Stp}{n:Int}{r:List ax}(H:NJ l n=some r):PTz 152 [.one (.lst (l.map kJ)),.one (.int .i64 n)] (.val (.one (.lst (r.map aN)))):=by
 unfold NJ at H;obtain⟨g,H⟩:=aK H
 cases H;exact ahb l n g
def lu (Qp:(List ax)):((List ax)×Int)->Option (Step ((List ax)×Int) ((List ax))):=fun s=>match s with
 |(P8,i_7)=>bif (decide (i_7<((Qp.length:Nat):Int)))then(aF Qp i_7).bind fun U5=>(vO P8 U5).bind fun Qr=>some (.next (Qr,(i64.wrap (i_7+(1:Int)))))else
 some (.exit (P8,i_7))
def wG (Sr:Int):Sum ((List ax)×Int) ((List ax))->Option (Step ((List ax)×Int) ((List ax)))
 |.inl (P8,i_7)=>some (.next (P8,(i64.wrap (Sr+(1:Int)))))
 |.inr q=>some (.ret q)
def ld (a_l:(List Stp)):((List ax)×Int)->Option (Step ((List ax)×Int) ((List ax))):=fun s=>match s with
 |(OZ,Sr)=>bif (decide (Sr<=(1048576:Int)))then(NJ a_l Sr).bind fun Qp=>bif (decide (((Qp.length:Nat):Int)=(0:Int)))then some (.ret OZ)else
 (ao (lu Qp) fuel (OZ,(0:Int))).bind (wG Sr)else
 some (.exit (OZ,Sr))
def oM:Sum ((List ax)×Int) ((List ax))->Option (((List ax)))
 |.inl (OZ,Sr)=>some OZ
 |.inr q=>some q
def adx (a_l:(List Stp)):Option ((List ax)):=(ao (ld a_l) fuel ([],(1:Int))).bind (oM)
theorem ail {a_l:(List Stp)}{r:(List ax)}(H:adx a_l=some r):PTz 94 [.one (.lst (a_l.map kJ))] (.val (.one (.lst (r.map aN)))):=by
 unfold adx at H;refine po_ Tryz.func94 Tryz.ntmps94 ?_;refine aY ?_;refine adf 3 rfl rfl ?_;refine alM_ (fun s:(List ax)×Int=>match s with|(OZ,Sr)=>[(0,.one (.c (.lst (a_l.map kJ)))),(3,.one (.c (.lst (OZ.map aN)))),(4,.one (.c (.int .i64 Sr)))]) (fun s=>match s with|(OZ,Sr)=>[]) H (fun _=>aqu _)
  (fm_ bF [] rfl bn trivial) ?_
 rintro⟨OZ,Sr⟩ st3 PL TS;unfold ld at PL;dsimp only at PL ⊢;rcases aj PL with⟨Qf,PL⟩|⟨Qf,PL⟩
 ·obtain⟨Qp,c1,PL⟩:=bd_ PL
  replace c1:=aiM c1;rcases aj PL with⟨Q6,PL⟩|⟨Q6,PL⟩
  ·cases PL
   have Tn:oM (.inr OZ)=some _:=TS;unfold oM at Tn;dsimp only at Tn
   cases Tn;exact Fa
  refine aY ?_;refine alM_ (fun s:(List ax)×Int=>match s with|(P8,i_7)=>[(0,.one (.c (.lst (a_l.map kJ)))),(3,.one (.c (.lst (P8.map aN)))),(4,.one (.c (.int .i64 Sr))),(5,.one (.c (.lst (Qp.map aN)))),(6,.one (.c (.int .i64 i_7)))]) (fun s=>match s with|(P8,i_7)=>[]) PL (fun _=>aqu _)
   (fm_ bF [] rfl bn trivial) ?_
  rintro⟨P8,i_7⟩ st4 O9 hk4;unfold lu at O9;dsimp only at O9 ⊢;rcases aj O9 with⟨RX,O9⟩|⟨RX,O9⟩
  ·obtain⟨U5,Wq,i2,Ws,O9⟩:=bw (f:=aN) O9
   obtain⟨Qr,c3,O9⟩:=bd_ O9;replace c3:=abA c3
   cases O9;refine aY ?_;exact⟨_,rfl,fm_ qI [] rfl bn trivial⟩
  cases O9;have RH:wG Sr (.inl (P8,i_7))=some _:=hk4;unfold wG at RH;dsimp only at RH
  cases RH;refine aY ?_;exact⟨_,rfl,fm_ qI [] rfl bn trivial⟩
 cases PL;have Tn:oM (.inl (OZ,Sr))=some _:=TS;unfold oM at Tn;dsimp only at Tn
 cases Tn;exact Fa
end
