/- Parts. No condition. -/
import Derived.Test.YtlcceppoloaecaaGreatDoorKBU
set_option maxHeartbeats 8000000
set_option maxRecDepth 100000
set_option linter.unusedSimpArgs false
set_option linter.unusedVariables false
namespace Go.Proofs.YtlcceppoloaecaaGreatDoor
open _root_.List (replicate)
open IntKind (i64)
open Go.RowKit Go.MapKept
def cT (e:Ex)(x y:ap):Bool:=hU e (x.row++y.row)
def jnY (e:Ex)(x y:ap):List ap:=bif iS x.valid y.valid&&cT e x y then [⟨x.row++y.row,nk x.valid y.valid⟩]else []
def jnX (e:Ex)(b:List ap)(x:ap):List ap:=b.flatMap (jnY e x)
def qJ (e:Ex)(a b:List ap):List ap:=a.flatMap (jnX e b)
def alX (e:Ex)(n:Nat)(b:List ap)(x:ap):List ap:=bN (x.row++replicate n bJ) (gm (cT e) b x)
def j8 (e:Ex)(n:Nat)(a b:List ap):List ap:=a.flatMap (alX e n b)
def seX (e:Ex)(b:List ap)(x:ap):List ap:=bN x.row (ER (cT e) b x)
def Ox (e:Ex)(a b:List ap):List ap:=a.flatMap (seX e b)
def cM (e:Ex)(b:List (List Val))(x:List Val):List (List Val):=b.flatMap fun y=>bif hU e (x++y)then [x++y]else []
theorem ku (g:ap->List ap)(k:List Val->List (List Val))(t:Int):∀ l:List ap,(∀ f∈l,aD (g f) t=if aL f.valid t=true then k f.row else [])->aD (l.flatMap g) t=(aD l t).flatMap k
 |[],_=>rfl
 |f::l,h=>by
  rw[aqM,cZ,h f m5,ku g k t l fun f hf=>h f (by simp[hf]),fO,List.flatMap_append];by_cases hc:aL f.valid t=true
  ·rw[if_pos hc,if_pos hc];simp
  ·rw[if_neg hc,if_neg hc];rfl
theorem G2 {p q:ax}(h:iS p q=true)(t:Int):aL (nk p q) t=(aL p t&&aL q t):=by
 obtain⟨h1,h2,h3,h4⟩:=(sW p q).1 h;exact LV ((wO p q).2 ⟨h1,h2,h3,h4⟩) t
theorem K5 {p q:ax}(h:iS p q=false)(t:Int):(aL p t&&aL q t)=false:=by
 refine Jq ?_ t
 cases hb:ovB p q with
 |false=>rfl
 |true=>rw[(sW p q).2 ((wO p q).1 hb)]at h;cases h
theorem JR (r:List Val)(t:Int):∀ {l:List ax},b9 l->aD (bN r l) t=if dR l t=true then [r]else []
 |[],_=>rfl
 |p::l,h=>by
  have hp:=h.val p m5;have hl:b9 l:=h.2.2;show aD ((⟨r,p⟩:ap)::bN r l) t=_;rw[fO,JR r t hl,lN,hp,aqH,yo h t,lN,hp,aqH];have hc:aL p t=zR p t:=ES (by rw[fe,fw,hp];simp);rw[show aL (⟨r,p⟩:ap).valid t=zR p t from hc];by_cases h1:zR p t=true
  ·have:=(fw p t).1 h1
   rw[h1,aqb (show ¬ p.hi<=t by omega)];rfl
  ·have h1f:zR p t=false:=by cases hh:zR p t with|false=>rfl|true=>exact absurd hh h1
   rw[h1f]
   cases decide (p.hi<=t)<;>cases dR l t<;>rfl
theorem Ih {p:ax}(hp:aq p=true)(t:Int):aL p t=zR p t:=ES (by rw[fe,fw,hp];simp)
theorem Lh (e:Ex)(r:List Val)(B:List (List Val)):(cM e B r).isEmpty = !(B.any fun s=>hU e (r++s)):=by
 induction B with
 |nil=>rfl
 |cons s B ih =>
  unfold cM at ih ⊢;rw[aqM,List.any_cons]
  cases hU e (r++s)with
  |true=>rfl
  |false=>rw[ap',Bool.false_or,<- ih];rfl
theorem abf (e:Ex)(x:ap)(t:Int):∀ b:List ap,dR (da (cT e) b x) t=(aL x.valid t&&((aD b t).any fun s=>hU e (x.row++s)))
 |[]=>by cases aL x.valid t<;>rfl
 |y::b=>by
  have e1:da (cT e) (y::b) x=(bif iS x.valid y.valid&&cT e x y then [nk x.valid y.valid]else [])++da (cT e) b x:=rfl;rw[e1,o7,abf e x t b,fO,List.any_append];unfold cT
  cases ho:iS x.valid y.valid with
  |false =>
   have:=K5 ho t;rw[Bool.false_and,ap',js]
   cases h1:aL x.valid t<;>cases h2:aL y.valid t<;>rw[h1,h2]at this<;>first|rfl|cases this|simp
  |true =>
   have:=G2 ho t;rw[aqH]
   cases hs:hU e (x.row++y.row)with
   |false=>rw[ap',js];cases aL x.valid t<;>cases aL y.valid t<;>simp[hs]
   |true =>
    rw[aqa,xo (JS ho),<- Ih (JS ho),this]
    cases aL x.valid t<;>cases aL y.valid t<;>simp[hs]
theorem amI (e:Ex)(n:Nat)(b:List ap)(x:ap)(hx:aq x.valid=true)(t:Int):aD (alX e n b x) t=if aL x.valid t=true then(if (cM e (aD b t) x.row).isEmpty=true then [x.row++replicate n bJ]else [])else []:=by
 obtain⟨h1,h2⟩:=Ld (c:=cT e) (b:=b) hx;unfold alX;rw[JR _ t h1,h2,abf,Lh,<- Ih hx]
 cases aL x.valid t<;>cases ((aD b t).any fun s=>hU e (x.row++s))<;>rfl
theorem amt (e:Ex)(b:List ap)(x:ap)(hx:aq x.valid=true)(t:Int):aD (seX e b x) t=if aL x.valid t=true then(if (cM e (aD b t) x.row).isEmpty=true then []else [x.row])else []:=by
 obtain⟨h1,h2⟩:=wn (c:=cT e) (b:=b) hx;unfold seX;rw[JR _ t h1,h2,abf,Lh]
 cases aL x.valid t<;>cases ((aD b t).any fun s=>hU e (x.row++s))<;>rfl
theorem Ji (e:Ex)(n:Nat)(a b:List ap)(ha:∀ f∈a,aq f.valid=true)(t:Int):aD (j8 e n a b) t=(aD a t).flatMap fun r=>if (cM e (aD b t) r).isEmpty=true then [r++replicate n bJ]else [] :=
 ku _ (fun r=>if (cM e (aD b t) r).isEmpty=true then [r++replicate n bJ]else []) t a fun x hx=>amI e n b x (ha x hx) t
theorem amS (e:Ex)(a b:List ap)(ha:∀ f∈a,aq f.valid=true)(t:Int):aD (Ox e a b) t=(aD a t).flatMap fun r=>if (cM e (aD b t) r).isEmpty=true then []else [r] :=
 ku _ (fun r=>if (cM e (aD b t) r).isEmpty=true then []else [r]) t a fun x hx=>amt e b x (ha x hx) t
theorem oS {α β:Type}(g k:α->List β):∀ l:List α,(l.flatMap fun x=>g x++k x).Perm (l.flatMap g++l.flatMap k)
 |[] => .refl _
 |x::l=>by
  rw[aqM,aqM,aqM];refine(List.Perm.append_left _ (oS g k l)).trans ?_;rw[aqA,aqA];refine List.Perm.append_left _ ?_;rw[<- aqA,<- aqA];exact List.Perm.append_right _ List.perm_append_comm
theorem afB (e:Ex)(a b:List ap)(ha:∀ f∈a,aq f.valid=true)(t:Int):(aD (Ox e a b++j8 e 0 a b) t).Perm (aD a t):=by
 rw[cZ,amS e a b ha,Ji e 0 a b ha];refine(oS _ _ _).symm.trans ?_;have:((aD a t).flatMap fun r=>(if (cM e (aD b t) r).isEmpty=true then []else [r])++(if (cM e (aD b t) r).isEmpty=true then [r++replicate 0 bJ]else []))=aD a t:=by
  generalize aD a t=A
  induction A with
  |nil=>rfl
  |cons r A ih =>
   rw[aqM,ih];split<;>simp
 rw[this]
theorem ajz (e:Ex)(x y:ap):(jnY e x y).length<=1:=by unfold jnY;cases iS x.valid y.valid&&cT e x y<;>simp
theorem akC (e:Ex)(b:List ap)(x:ap):(jnX e b x).length<=b.length:=vA _ (ajz e x) b
theorem nP {α β:Type}(g:α->List β)(k:Nat):∀ l:List α,(∀ x∈l,(g x).length<=k)->(l.flatMap g).length<=l.length*k
 |[],_=>by simp
 |x::l,h=>by
  have h1:=h x m5;have h2:=nP g k l fun y hy=>h y (by simp[hy])
  rw[aqM,aqg,aqv,Nat.add_mul];omega
theorem qn (e:Ex){a b:List ap}(ha:a.length<=12)(hb:b.length<=12):(qJ e a b).length<=144:=by
 have:=nP (jnX e b) 12 a fun x _=>by have:=akC e b x;omega
 unfold qJ;omega
theorem o5 (e:Ex)(n:Nat){a b:List ap}(ha:a.length<=12)(hb:b.length<=12)(hv:∀ f∈a,aq f.valid=true):(j8 e n a b).length<=156:=by
 have:=nP (alX e n b) 13 a fun x hx=>by
  have:=Af (c:=cT e) (b:=b) (hv x hx);unfold alX bN;rw[aqk];omega
 unfold j8;omega
theorem IE (e:Ex){a b:List ap}(ha:a.length<=12)(hb:b.length<=12)(hv:∀ f∈a,aq f.valid=true):(Ox e a b).length<=144:=by
 have:=nP (seX e b) 12 a fun x hx=>by
  have:=Jg (c:=cT e) (b:=b) (hv x hx);unfold seX bN;rw[aqk];omega
 unfold Ox;omega
theorem akq {e:Ex}{a b:List ap}{f:ap}(h:f∈qJ e a b):∃ x∈a,∃ y∈b,f.row=x.row++y.row:=by
 obtain⟨x,hx,h⟩:=List.mem_flatMap.1 h;obtain⟨y,hy,h⟩:=List.mem_flatMap.1 h;refine⟨x,hx,y,hy,?_⟩;unfold jnY at h
 cases hc:iS x.valid y.valid&&cT e x y with
 |false=>rw[hc]at h;cases h
 |true=>rw[hc,aqa,aqP]at h;rw[h]
theorem acV {e:Ex}{n:Nat}{a b:List ap}{f:ap}(h:f∈j8 e n a b):∃ x∈a,f.row=x.row++replicate n bJ:=by
 obtain⟨x,hx,h⟩:=List.mem_flatMap.1 h;obtain⟨p,_,rfl⟩:=aqJ.1 h;exact⟨x,hx,rfl⟩
theorem ajG {e:Ex}{a b:List ap}{f:ap}(h:f∈Ox e a b):∃ x∈a,f.row=x.row:=by
 obtain⟨x,hx,h⟩:=List.mem_flatMap.1 h;obtain⟨p,_,rfl⟩:=aqJ.1 h;exact⟨x,hx,rfl⟩
section
variable {σ:Type} (Um:σ->Nat->List Val->ax->σ) (e:Ex)
def B0 (i:Nat)(x:ap):List ap->σ->σ
 |[],s=>s
 |y::b,s=>B0 i x b (bif iS x.valid y.valid&&cT e x y then Um s i (x.row++y.row) (nk x.valid y.valid)else s)
def FT (b:List ap):List ap->Nat->σ->σ
 |[],_,s=>s
 |x::a,i,s=>FT b a (i+1) (B0 Um e i x b s)
theorem K7 (a b:List ap)(l m:List cz)(s:σ):nw Um e a b (l++m) s=nw Um e a b m (nw Um e a b l s):=by unfold nw;rw[List.foldl_append]
theorem aco {a b0:List ap}{i:Nat}{x:ap}(hx:a[i]?=some x):∀ (b pre:List ap) (s:σ),b0=pre++b->nw Um e a b0 (kX (fun y:ap=>iS x.valid y.valid) (i:Int) b pre.length) s=B0 Um e i x b s
 |[],pre,s,_=>rfl
 |y::b,pre,s,h0=>by
  have ih:=aco (b0:=b0) hx b (pre++[y]);rw[aqg]at ih;have hy:b0[pre.length]?=some y:=by rw[h0];simp
  unfold kX at ih ⊢;rw[iy,aql,K7,B0];have hone:nw Um e a b0 ((bif iS x.valid y.valid then [((pre.length:Nat):Int)]else []).map fun j=>(⟨(i:Int),j⟩:cz)) s=bif iS x.valid y.valid&&cT e x y then Um s i (x.row++y.row) (nk x.valid y.valid)else s:=by
   cases ho:iS x.valid y.valid with
   |false=>rfl
   |true =>
    show acG Um s (aav e a b0 ⟨(i:Int),((pre.length:Nat):Int)⟩)=_;unfold aav cT;simp only[Int.toNat_natCast,hx,hy]
    cases hU e (x.row++y.row)<;>rfl
  rw[hone];exact ih _ (by rw[h0];simp)
theorem JK {a0 b:List ap}:∀ (a pre:List ap) (s:σ),a0=pre++a->nw Um e a0 b (dW (fun x y:ap=>iS x.valid y.valid) b a pre.length) s=FT Um e b a pre.length s
 |[],pre,s,_=>rfl
 |x::a,pre,s,h0=>by
  have ih:=JK (a0:=a0) (b:=b) a (pre++[x]);rw[aqg]at ih;have hx:a0[pre.length]?=some x:=by rw[h0];simp
  have h1:nw Um e a0 b (kX (fun y:ap=>iS x.valid y.valid) ((pre.length:Nat):Int) b 0) s=B0 Um e pre.length x b s:=aco (b0:=b) Um e hx b [] s rfl;rw[dW,K7,FT,h1];exact ih _ (by rw[h0];simp)
end
def aek (l:List ap)(_:Nat)(row:List Val)(p:ax):List ap:=l++[⟨row,p⟩]
theorem LZ (e:Ex)(i:Nat)(x:ap):∀ (b:List ap) (s:List ap),B0 aek e i x b s=s++jnX e b x
 |[],s=>by simp[B0,jnX]
 |y::b,s=>by
  rw[B0,LZ e i x b];show _=s++(jnY e x y++jnX e b x);unfold jnY
  cases iS x.valid y.valid&&cT e x y with
  |false=>rfl
  |true=>show(s++[_])++_=_;rw[aqA];rfl
theorem NN (e:Ex)(b:List ap):∀ (a:List ap) (i:Nat) (s:List ap),FT aek e b a i s=s++qJ e a b
 |[],i,s=>by simp[FT,qJ]
 |x::a,i,s=>by
  rw[FT,NN e b a,LZ,aqA];rfl
theorem agU (e:Ex)(a b:List ap):nw aek e a b (dW (fun x y:ap=>iS x.valid y.valid) b a 0) []=qJ e a b:=by
 have:=JK (a0:=a) (b:=b) aek e a [] [] rfl;rw[NN]at this;exact this
def me (ps:List (List ax))(i:Nat)(_:List Val)(p:ax):List (List ax):=ps.set i (ps.getD i []++[p])
theorem wT (e:Ex)(i:Nat)(x:ap):∀ (b:List ap) (ps:List (List ax)),i<ps.length->B0 me e i x b ps=ps.set i (ps.getD i []++da (cT e) b x)
 |[],ps,h=>by
  show ps=ps.set i (ps.getD i []++[]);rw[aqI,aq1,aqh h];show ps=ps.set i ps[i];rw[List.set_getElem_self]
 |y::b,ps,h=>by
  show B0 me e i x b _=ps.set i (ps.getD i []++((bif iS x.valid y.valid&&cT e x y then [nk x.valid y.valid]else [])++da (cT e) b x))
  cases iS x.valid y.valid&&cT e x y with
  |false=>exact wT e i x b ps h
  |true =>
   rw[aqa,wT e i x b _ (by unfold me;simpa using h)];unfold me;rw[List.set_set,aq1,aqs h,aqa];show ps.set i ((ps.getD i []++[_])++_)=_;rw[aqA]
theorem N2 (e:Ex)(b:List ap):∀ (a:List ap) (pre:List (List ax)),FT me e b a pre.length (pre++replicate a.length [])=pre++a.map (da (cT e) b)
 |[],pre=>by simp[FT]
 |x::a,pre=>by
  rw[FT,wT e _ x b _ m5];have e1:(pre++replicate (x::a).length []).getD pre.length []=([]:List ax):=by
   rw[aq1,aqf (aqo _),Nat.sub_self];rfl
  rw[e1,aqd,List.set_append_right _ _ (aqo _),Nat.sub_self,aqv,List.replicate_succ,List.set_cons_zero];have ih:=N2 e b a (pre++[da (cT e) b x]);rw[aqg,aqA]at ih;show FT me e b a (pre.length+1) _=_;rw[show pre++da (cT e) b x::replicate a.length []=pre++([da (cT e) b x]++replicate a.length [])from rfl];refine ih.trans ?_;simp
theorem agy (e:Ex)(a b:List ap):nw me e a b (dW (fun x y:ap=>iS x.valid y.valid) b a 0) (replicate a.length [])=a.map (da (cT e) b):=by
 have:=JK (a0:=a) (b:=b) me e a [] (replicate a.length []) rfl;have h2:=N2 e b a [];rw[aqd]at h2;exact this.trans h2
def aop (f:FuncId):Bool:=Nat.beq f 52||Nat.beq f 54||Nat.beq f 92||Nat.beq f 145||Nat.beq f 18||Nat.beq f 62||aoA f
def apQ:TI :={ tab with owns:=aop,dyn:=true }
theorem bC:TIok Tryz.prog apQ:=⟨tab_ok.size,tab_ok.agg,tab_ok.elem,tab_ok.field,tab_ok.zero,tab_ok.bytes,tab_ok.kind,tab_ok.struct,tab_ok.zok,tab_ok.eqs⟩
def anD:TI :={ tab with owns:=aop,soft:=true }
theorem bZ:TIok Tryz.prog anD:=⟨tab_ok.size,tab_ok.agg,tab_ok.elem,tab_ok.field,tab_ok.zero,tab_ok.bytes,tab_ok.kind,tab_ok.struct,tab_ok.zok,tab_ok.eqs⟩
theorem aj4 {l r:List ap}(H:pi l=some r):RTz 92 [] [.one (.c (.lst (l.map aG)))] [.spare r.length 3] (.one (.own (r.map aG) 0)):=by
 unfold pi at H;obtain⟨r1,H1,H2⟩:=bd_ H;obtain rfl:=aqG H2;have hb:=abg (F_a_f:=146) (caps_a_f:=[]) (fun x0 r h=>gBag1_ok h) H1;refine bo bC Tryz.func92 rfl rfl Tryz.ntmps92 m5 ?_;simp only[ed]
 repeat' (first|refine co_ rfl rfl rfl rfl ?_ hb|refine st_nil ?_|refine st_pop rfl rfl rfl rfl qp_ ?_|refine st_lop rfl rfl rfl rfl qp_ ?_|refine sS_ rfl rfl rfl qp_ ?_|refine st_lit rfl rfl rfl rfl qp_ ?_|refine st_skip rfl rfl rfl ?_|refine sk0_ rfl rfl ?_|(refine st_if rfl (fun hb=>?_) (fun hb=>?_)<;>(first|exact(fx_ hb).elim|rw[hb]))|refine aw_seq ?_|refine aw_region bC _ rfl ?_|refine aw_drawn2 bZ _ rfl mixed (by decide +kernel) ?_|(refine aw_cond rfl (fun hb=>?_) (fun hb=>?_)<;>(try exact(fx_ hb).elim))|refine aw_block ?_|refine aw_exit ?_|refine aw_ret ?_|refine aw_skip ?_|fail)
 exact⟨.inr rfl,⟨.inl ⟨_,rfl,rfl⟩,⟨[],rfl⟩,aqu _,eW rfl,gN rfl⟩⟩
theorem akf {k:List Int}{l r:List ap}(hk:k.length<=1000000)(H:pi l=some r):RTz 54 [.spare k.length 1] [.one (.own (k.map fun x=>[AC.int .i64 x]) 0),.one (.c (.lst (l.map aG)))] [.spare k.length 1,.box [.own (k.map fun x=>[AC.int .i64 x]) 2,.own (r.map aG) 3],.spare k.length 1,.spare r.length 3] (.agg [.own (k.map fun x=>[AC.int .i64 x]) 2,.own (r.map aG) 3]):=by
 have hb:=aj4 H;refine uG bC Tryz.func54 rfl rfl Tryz.ntmps54 m5 ?_;simp only[ed]
 repeat' (first|refine co_ rfl rfl rfl rfl ?_ hb|refine st_nil ?_|refine st_pop rfl rfl rfl rfl qp_ ?_|refine st_lop rfl rfl rfl rfl qp_ ?_|refine sS_ rfl rfl rfl qp_ ?_|refine st_lit rfl rfl rfl rfl qp_ ?_|refine st_skip rfl rfl rfl ?_|refine sk0_ rfl rfl ?_|(refine st_if rfl (fun hb=>?_) (fun hb=>?_)<;>(first|exact(fx_ hb).elim|rw[hb]))|refine aw_seq ?_|refine aw_region bC _ rfl ?_|refine aw_drawn2 bZ _ rfl mixed (by decide +kernel) ?_|(refine aw_cond rfl (fun hb=>?_) (fun hb=>?_)<;>(try exact(fx_ hb).elim))|refine aw_block ?_|refine aw_exit ?_|refine aw_ret ?_|refine aw_skip ?_|fail)
 exact⟨.inr rfl,⟨.inr ⟨4,_,1,0,_,rfl,rfl,rfl,by repeat' (first|exact t7|rfl|exact aqi rfl|omega|apply And.intro)⟩,⟨[],by rw[aqk];rfl⟩,by show 1<=4;omega,eW rfl,gN rfl⟩⟩
def OJ:Nat->List ap->Ob
 |0,_ => .dead
 |1,_ => .dead
 |2,_ => .dead
 |3,_ => .box [.emp,.emp]
 |4,l => .box [.own (l.map aG) 5]
 |5,l => .spare l.length 3
 |_,_ => .spare 0 1
def JL (es:List (List AC))(n:Nat):List Ob:=[.dead,.dead,.dead,.box [.emp,.emp],.box [.own es 5],.spare n 3,.spare 0 1,.spare 0 1,.spare 0 1,.spare 0 1,.spare 0 1,.spare 0 1,.spare 0 1,.spare 0 1,.spare 0 1,.spare 0 1,.spare 0 1]
theorem wB (l:List ap):∀ i,i<17->(OJ i l).below 17
 |0,_=>trivial
 |1,_=>trivial
 |2,_=>trivial
 |3,_=>(by intro x hx;simp at hx;subst hx;trivial)
 |4,_=>(by intro x hx;simp at hx;subst hx;show 5<17;omega)
 |5,_=>trivial
 |i+6,_=>trivial
theorem adI (l:List ap)(i:Nat)(row:List Val)(p:ax)(hl:l.length<=1000000):RTz 53 (zX OJ l) [.one (.c (.int .i64 (i:Int))),.one (.c (.lst (row.map cV))),.agg ((aN p).map SV.c),.one (.ptr 4 0)] (zX OJ (l++[⟨row,p⟩])) (.tup []):=by
 have e1:(l++[(⟨row,p⟩:ap)]).map aG=l.map aG++[aG ⟨row,p⟩]:=aql;have e2:(l++[(⟨row,p⟩:ap)]).length=l.length+1:=by simp
 refine bo bC Tryz.func53 rfl rfl Tryz.ntmps53 m5 ?_;simp only[ed];unfold zX
 repeat' (first|refine st_nil ?_|refine st_pop rfl rfl rfl rfl qp_ ?_|refine st_lop rfl rfl rfl rfl qp_ ?_|refine sS_ rfl rfl rfl qp_ ?_|refine st_lit rfl rfl rfl rfl qp_ ?_|refine st_skip rfl rfl rfl ?_|refine sk0_ rfl rfl ?_|(refine st_if rfl (fun hb=>?_) (fun hb=>?_)<;>(first|exact(fx_ hb).elim|rw[hb]))|refine aw_seq ?_|refine aw_region bC _ rfl ?_|refine aw_drawn2 bZ _ rfl mixed (by decide +kernel) ?_|(refine aw_cond rfl (fun hb=>?_) (fun hb=>?_)<;>(try exact(fx_ hb).elim))|refine aw_block ?_|refine aw_exit ?_|refine aw_ret ?_|refine aw_skip ?_|fail)
 exact⟨.inl rfl,⟨.inr ⟨.tup [],⟨t7,rfl⟩,rfl⟩,⟨[_],by show _=JL ((l++[(⟨row,p⟩:ap)]).map aG) (l++[(⟨row,p⟩:ap)]).length++[_];rw[e1,e2];rfl⟩,aqo _,fun x hx=>ff (wB _) x hx,t7⟩⟩
def apE (ks fs gs:List (List AC))(n m q:Nat):List Ob:=[.dead,.dead,.dead,.box [.own ks 19,.own fs 20],.dead,.spare q 3,.spare 0 1,.spare 0 1,.spare 0 1,.spare 0 1,.spare 0 1,.spare 0 1,.spare 0 1,.spare 0 1,.spare 0 1,.spare 0 1,.spare 0 1,.spare n 1,.box [.own ks 19,.own fs 20],.spare n 1,.spare m 3]
theorem Nw (a b:a6)(e:Ex)(ha:a.facts.length<=1000)(hb:b.facts.length<=1000)(hra:∀ f∈a.facts,0<f.row.length/\f.row.length<=1000)(hrb:∀ f∈b.facts,f.row.length<=1000)(he:gD fuel e)(hka:a.kinds.length<=1000)(hkb:b.kinds.length<=1000){r:List ap}(H:pi (qJ e a.facts b.facts)=some r) :
  ∃ gs q,RTz 18 [] [.agg ((aU a).map SV.c),.agg ((aU b).map SV.c),.agg ((tE e).map SV.c)] (apE ((a.kinds++b.kinds).map fun x=>[AC.int .i64 x]) (r.map aG) gs (a.kinds++b.kinds).length r.length q) (.agg [.own ((a.kinds++b.kinds).map fun x=>[AC.int .i64 x]) 19,.own (r.map aG) 20]):=by
 have Ss:=Of (fun i l=>OJ i l) 53 aek (fun n l=>l.length<=n) a b e (fun l=>wB l) (fun n l i row p hl hn _=>⟨adI l i row p m0,by unfold aek;simp;omega⟩) (fun n l h=>by omega) ha hb hra hrb he [] m5;rw[agU,aC e]at Ss;have VO:=akf (k:=a.kinds++b.kinds) (by rw[aqg];omega) H;have hkl:(a.kinds++b.kinds).length=(a.kinds.map fun x=>[AC.int .i64 x]).length+(b.kinds.map fun x=>[AC.int .i64 x]).length:=by simp
 have hkm:(a.kinds++b.kinds).map (fun x=>[AC.int .i64 x])=a.kinds.map (fun x=>[AC.int .i64 x])++b.kinds.map (fun x=>[AC.int .i64 x]):=aql;rw[hkl,hkm]at VO ⊢;generalize qJ e a.facts b.facts=jl at Ss VO;refine⟨jl.map aG,jl.length,?_⟩;rw[aC e];refine uG bC Tryz.func18 rfl rfl Tryz.ntmps18 m5 ?_;simp only[ed,aU,aqj,aqn]
 repeat' (first|(refine aS 0 (ts:=aU a) rfl rfl ?_)|(refine aS 1 (ts:=aU b) rfl rfl ?_)|(refine aS 2 (ts:=xE e) rfl rfl ?_)|(refine yJ 4 0 3 rfl rfl ?_;refine yz 1 11 _ ?_)|(refine b7 rfl rfl rfl rfl rfl (pc (caps:=[.ptr 4 0]) rfl) ?_)|(refine yp 17 (zX (fun i l=>OJ i l) []) (zX (fun i l=>OJ i l) jl) [] rfl rfl rfl rfl rfl Ss rfl rfl (ff (wB _)) (ff (wB _)) (bW ⟨(fun z hz=>by obtain⟨w,_,rfl⟩:=aqJ.1 (show z∈(aU a).map SV.c from hz);trivial),(fun z hz=>by obtain⟨w,_,rfl⟩:=aqJ.1 (show z∈(aU b).map SV.c from hz);trivial),(fun z hz=>by obtain⟨w,_,rfl⟩:=aqJ.1 (show z∈(xE e).map SV.c from hz);trivial),(by intro x hx;simp at hx;subst hx;show 4<17;omega),t7⟩) ?_)|(refine aS 4 (ts:=[.lst (jl.map aG)]) rfl rfl ?_)|(refine cI [17] rfl rfl rfl rfl VO rfl ⟨rfl,m5,fun i x hx=>by(match i,hx with|0,hx=>obtain rfl:=aqG hx;rfl|i+1,hx=>simp at hx),bv ⟨t7,t7⟩,bW ⟨(by show 0<1;omega),t7,t7⟩⟩ rfl rfl ?_)|refine st_nil ?_|refine st_pop rfl rfl rfl rfl qp_ ?_|refine st_lop rfl rfl rfl rfl qp_ ?_|refine sS_ rfl rfl rfl qp_ ?_|refine st_lit rfl rfl rfl rfl qp_ ?_|refine st_skip rfl rfl rfl ?_|refine sk0_ rfl rfl ?_|(refine st_if rfl (fun hb=>?_) (fun hb=>?_)<;>(first|exact(fx_ hb).elim|rw[hb]))|refine aw_seq ?_|refine aw_region bC _ rfl ?_|refine aw_drawn2 bZ _ rfl mixed (by decide +kernel) ?_|(refine aw_cond rfl (fun hb=>?_) (fun hb=>?_)<;>(try exact(fx_ hb).elim))|refine aw_block ?_|refine aw_exit ?_|refine aw_ret ?_|refine aw_skip ?_|fail)
 exact⟨.inr rfl,⟨.inr ⟨6,_,3,0,_,rfl,rfl,rfl,by repeat' (first|exact t7|rfl|exact aqi rfl|omega|apply And.intro)⟩,⟨[],rfl⟩,aqu _,eW rfl,gN rfl⟩⟩
def vW:Nat:=83+65536
def OS (n:Nat)(rw:Ob)(f:Nat->Nat):Nat->Ob
 |0 => .dead
 |1 => .dead
 |2 => .dead
 |3=>rw
 |4 => .box [.sl 3 vW 0 n]
 |i+5 => .spare (f i) 2
def rwP (ps:List (List ax)):Ob := .row vW (kI 5 ((ps.take 12).map fun l=>l.map aN)) 1
def OP (n:Nat)(i:Nat)(ps:List (List ax)):Ob:=OS n (rwP ps) (fun k=>(ps.getD k []).length) i
theorem ws (n:Nat)(ps:List (List ax)):∀ i,i<17->(OP n i ps).below 17
 |0,_=>trivial
 |1,_=>trivial
 |2,_=>trivial
 |3,_=>aaO _ _ _ _ (by rw[aqk,aq0];omega)
 |4,_=>(by intro x hx;simp at hx;subst hx;show 3<17;omega)
 |i+5,_=>trivial
theorem amz (n:Nat)(rw:Ob)(f:Nat->Nat)(G:List Ob){i:Nat}(hi:i<12):(M17 (OS n rw f)++G)[5+i]?=some (.spare (f i) 2):=by
 rw[aje _ _ m0,Nat.add_comm];rfl
theorem amf (n:Nat)(rw:Ob)(f:Nat->Nat)(G:List Ob){i:Nat}(hi:i<12)(m:Nat):(M17 (OS n rw f)++G).set (5+i) (.spare m 2)=M17 (OS n rw fun k=>if k=i then m else f k)++G:=by
 rw[aky _ _ m0];congr 1;refine adO fun k _=>?_
 match k with
 |0=>rw[if_neg m0];rfl
 |1=>rw[if_neg m0];rfl
 |2=>rw[if_neg m0];rfl
 |3=>rw[if_neg m0];rfl
 |4=>rw[if_neg m0];rfl
 |k+5 =>
  show(if k+5=5+i then Ob.spare m 2 else .spare (f k) 2) = .spare (if k=i then m else f k) 2;by_cases h:k=i
  ·rw[if_pos m0,if_pos h]
  ·rw[if_neg m0,if_neg h]
theorem aeQ (n:Nat)(ps:List (List ax))(i:Nat)(row:List Val)(p:ax)(hn:ps.length=n)(hn12:n<=12)(hi:i<n)(hl:∀ l∈ps,l.length<=1000000):RTz 99 (zX (fun i ps=>OP n i ps) ps) [.one (.c (.int .i64 (i:Int))),.one (.c (.lst (row.map cV))),.agg ((aN p).map SV.c),.one (.ptr 4 0)] (zX (fun i ps=>OP n i ps) (me ps i row p)) (.tup []):=by
 obtain⟨l,TV⟩:=gol_ (l:=ps) (i:=i) m0;have hll:=hl l (aqe TV);have hgd:ps.getD i []=l:=by rw[aq1,TV];rfl
 have ZQ:ps.take 12=ps:=aqO m0;have hrw:rwP ps = .row vW (kI 5 (ps.map fun l=>l.map aN)) 1:=by unfold rwP;rw[ZQ]
 have SU:(kI 5 (ps.map fun l=>l.map aN))[0+((i:Nat):Int).toNat]?=some [.own (l.map aN) (5+i)]:=by
  rw[aqR,Int.toNat_natCast];exact LN _ _ _ _ (by rw[aqw,TV];rfl)
 show Run _ _ (M17 (OS n (rwP ps) fun k=>(ps.getD k []).length)) _ (M17 (OS n (rwP (me ps i row p)) fun k=>((me ps i row p).getD k []).length)) _;have hf:(fun k=>((me ps i row p).getD k []).length)=fun k=>if k=i then l.length+1 else(ps.getD k []).length:=by
  funext k;unfold me;rw[hgd,aq1,List.getElem?_set];by_cases hk:k=i
  ·subst hk;rw[if_pos rfl,if_pos rfl,if_pos m0];simp
  ·rw[if_neg (Ne.symm hk),if_neg hk,aq1]
 have SE:rwP (me ps i row p) = .row vW ((kI 5 (ps.map fun l=>l.map aN)).set (0+((i:Nat):Int).toNat) [.own (l.map aN++[aN p]) (5+i)]) 1:=by
  unfold rwP me;rw[aqO (by rw[List.length_set];omega),List.map_set,hgd,aql,aqR,Int.toNat_natCast,<- MD];rfl
 have Vi:∀ x∈M17 (OS n (rwP (me ps i row p)) fun k=>((me ps i row p).getD k []).length),x.below 17:=ff (O:=fun i ps=>OP n i ps) (ws n (me ps i row p));rw[hf,SE]at Vi;rw[hf,SE,hrw];have R8:=fun rw G=>amz n rw (fun k=>(ps.getD k []).length) G (i:=i) m0
 have RS:=fun rw G=>amf n rw (fun k=>(ps.getD k []).length) G (i:=i) m0 (l.length+1)
 simp only[hgd]at R8;generalize (fun k=>(ps.getD k []).length)=f at R8 RS ⊢;refine bo bC Tryz.func99 rfl rfl Tryz.ntmps99 m5 ?_;simp only[ed]
 repeat' (first|(refine kR rfl rfl rfl rfl rfl rfl rfl (e:=[.own (l.map aN) (5+i)]) (by exact SU) rfl ?_)|(refine akB rfl rfl rfl rfl rfl rfl rfl rfl rfl rfl (R8 _ _) ⟨rfl,rfl,aqk .., ⟨rfl,m0⟩,(by intro e he;simp at he;subst he;rfl),by(simp only[aqv,aqE];omega),by(simp only[aqv,aqE];omega)⟩ (RS _ _) ?_)|(refine m_ rfl rfl rfl rfl rfl rfl (e:=[.own (l.map aN) (5+i)]) (by exact SU) ⟨aqi rfl,rfl⟩ rfl ?_)|refine st_nil ?_|refine st_pop rfl rfl rfl rfl qp_ ?_|refine st_lop rfl rfl rfl rfl qp_ ?_|refine sS_ rfl rfl rfl qp_ ?_|refine st_lit rfl rfl rfl rfl qp_ ?_|refine st_skip rfl rfl rfl ?_|refine sk0_ rfl rfl ?_|(refine st_if rfl (fun hb=>?_) (fun hb=>?_)<;>(first|exact(fx_ hb).elim|rw[hb]))|refine aw_seq ?_|refine aw_region bC _ rfl ?_|refine aw_drawn2 bZ _ rfl mixed (by decide +kernel) ?_|(refine aw_cond rfl (fun hb=>?_) (fun hb=>?_)<;>(try exact(fx_ hb).elim))|refine aw_block ?_|refine aw_exit ?_|refine aw_ret ?_|refine aw_skip ?_|fail)
 exact⟨.inl rfl,⟨.inr ⟨.tup [],⟨t7,rfl⟩,rfl⟩,⟨[.box ((aN p).map SV.c)],rfl⟩,aqo _,fun x hx=>Vi x hx,t7⟩⟩
theorem amd {P:Program}{N n0:Nat}{c:Code}{Q:AX->Tm->List Ob->Prop}{T:Tm}{L L':List Ob}(h:L=L')(k:Aw P N n0 c Q T L'):Aw P N n0 c Q T L:=h▸k
theorem aaB (n:Nat)(hn:n<=12):([Ob.dead,.dead,.dead,.row vW ([]++kI 5 (replicate n [])) 1,.box [.sl 3 vW 0 n]]++xF 2 (replicate n []))++replicate (12-n) (.spare 0 2)=zX (fun i ps=>OP n i ps) (replicate n []):=by
 have h1:xF 2 (replicate n [])++replicate (12-n) (Ob.spare 0 2)=replicate 12 (.spare 0 2):=by
  unfold xF;rw[List.map_replicate,show Ob.spare ([]:List (List AC)).length 2 = .spare 0 2 from rfl,List.replicate_append_replicate,show n+(12-n)=12 by omega]
 have h2:∀ k,(replicate n ([]:List ax)).getD k []=[]:=fun k=>by
  rw[aq1,List.getElem?_replicate];split<;>rfl
 have h3:rwP (replicate n []) = .row vW ([]++kI 5 (replicate n [])) 1:=by
  unfold rwP;rw[List.take_replicate,Nat.min_eq_right hn,List.map_replicate];rfl
 rw[aqA,h1];show _=M17 (OS n (rwP (replicate n [])) fun k=>((replicate n ([]:List ax)).getD k []).length);rw[h3,show(fun k=>((replicate n ([]:List ax)).getD k []).length)=fun _=>0 from funext fun k=>by rw[h2];rfl];rfl
def vJ (l:List ax):List AC:=[.lst (l.map aN)]
theorem aeS (ps:List (List ax))(hn:ps.length<=12):dV (kI 5 ((ps.take 12).map fun l=>l.map aN))=some (ps.map vJ):=by
 rw[aqO hn,H5,List.map_map];rfl
theorem ME (n v k:Nat)(cs:List (List AC)):(Ob.row v (cs.map (List.map SV.c)) k).below n:=by
 intro e he x hx;obtain⟨c,_,rfl⟩:=aqJ.1 he;obtain⟨y,_,rfl⟩:=aqJ.1 hx;trivial
theorem wK (a b:a6)(e:Ex)(ha:a.facts.length<=12)(hb:b.facts.length<=1000)(hra:∀ f∈a.facts,0<f.row.length/\f.row.length<=1000)(hrb:∀ f∈b.facts,f.row.length<=1000)(he:gD fuel e) :
  RTz 62 [] [.agg ((aU a).map SV.c),.agg ((aU b).map SV.c),.agg ((tE e).map SV.c)] [.dead,.dead,.dead,.row vW (((a.facts.map (da (cT e) b.facts)).map vJ).map (List.map SV.c)) 1] (.one (.sl 3 vW 0 a.facts.length)):=by
 have Ss:=Of (fun i ps=>OP a.facts.length i ps) 99 me (fun n ps=>ps.length=a.facts.length /\ ∀ l∈ps,l.length<=n) a b e (fun ps=>ws _ ps) (fun n ps i row p h hn hi=>⟨aeQ a.facts.length ps i row p h.1 ha hi (fun l hl=>Nat.le_trans (h.2 l hl) m0),by unfold me;rw[List.length_set];exact h.1,fun l hl=>by
   unfold me at hl;rcases List.mem_or_eq_of_mem_set hl with hl|hl
   ·have:=h.2 l hl;omega
   ·subst hl
    rw[aqg,List.length_singleton,aq1,aqh (by rw[h.1];exact hi)];have:=h.2 _ (List.getElem_mem (by rw[h.1];exact hi));show(ps[i]).length+1<=n+1;omega⟩) (fun n ps h=>⟨h.1,fun l hl=>by have:=h.2 l hl;omega⟩) m0 hb hra hrb he (replicate a.facts.length []) ⟨m5,fun l hl=>by rw[List.eq_of_mem_replicate hl];simp⟩
 rw[agy,aC e]at Ss;have Xu:=aaB a.facts.length ha;have Xm:=aeS (a.facts.map (da (cT e) b.facts)) (by rw[aqk];exact ha);generalize a.facts.map (da (cT e) b.facts)=pt at Ss Xm ⊢;rw[aC e];refine bo bC Tryz.func62 rfl rfl Tryz.ntmps62 m5 ?_;simp only[ed,aU,aqj,aqn]
 repeat' (first|rw[aqk]|(refine aS 0 (ts:=aU a) rfl rfl ?_)|(refine aS 1 (ts:=aU b) rfl rfl ?_)|(refine aS 2 (ts:=xE e) rfl rfl ?_)|(refine b7 rfl rfl rfl rfl rfl (IY bC (n:=a.facts.length) rfl rfl rfl m9 rfl rfl rfl rfl m0 m0) ?_)|(refine adw 3 2 vW a.facts.length [] _ rfl ?_;refine yz 2 (12-a.facts.length) _ ?_;refine amd Xu ?_)|(refine b7 rfl rfl rfl rfl rfl (pc (caps:=[.ptr 4 0]) rfl) ?_)|(refine yp 17 (zX (fun i ps=>OP a.facts.length i ps) (replicate a.facts.length [])) (zX (fun i ps=>OP a.facts.length i ps) pt) [] rfl rfl rfl rfl (by rw[aqI]) Ss rfl rfl (ff (ws _ _)) (ff (ws _ _)) (bW ⟨(fun z hz=>by obtain⟨w,_,rfl⟩:=aqJ.1 (show z∈(aU a).map SV.c from hz);trivial),(fun z hz=>by obtain⟨w,_,rfl⟩:=aqJ.1 (show z∈(aU b).map SV.c from hz);trivial),(fun z hz=>by obtain⟨w,_,rfl⟩:=aqJ.1 (show z∈(xE e).map SV.c from hz);trivial),(by intro x hx;simp at hx;subst hx;show 4<17;omega),t7⟩) ?_)|(refine aa4 3 (cs:=pt.map vJ) rfl Xm ?_)|refine st_nil ?_|refine st_pop rfl rfl rfl rfl qp_ ?_|refine st_lop rfl rfl rfl rfl qp_ ?_|refine sS_ rfl rfl rfl qp_ ?_|refine st_lit rfl rfl rfl rfl qp_ ?_|refine st_skip rfl rfl rfl ?_|refine sk0_ rfl rfl ?_|(refine st_if rfl (fun hb=>?_) (fun hb=>?_)<;>(first|exact(fx_ hb).elim|rw[hb]))|refine aw_seq ?_|refine aw_region bC _ rfl ?_|refine aw_drawn2 bZ _ rfl mixed (by decide +kernel) ?_|(refine aw_cond rfl (fun hb=>?_) (fun hb=>?_)<;>(try exact(fx_ hb).elim))|refine aw_block ?_|refine aw_exit ?_|refine aw_ret ?_|refine aw_skip ?_|fail)
 exact⟨by first|exact .inl rfl|exact .inr rfl,⟨.inl ⟨6,rfl,rfl⟩,⟨_,rfl⟩,aqu _,bv ⟨t7,t7,t7,ME _ _ _ _,t7⟩,(by show 3<4;omega)⟩⟩
theorem FG (a b:a6)(e:Ex)(ha:a.facts.length<=12)(hb:b.facts.length<=1000)(hra:∀ f∈a.facts,0<f.row.length/\f.row.length<=1000)(hrb:∀ f∈b.facts,f.row.length<=1000)(he:gD fuel e):PTz 62 [.agg (aU a),.agg (aU b),.agg (tE e)] (.val (.one (.lst ((a.facts.map (da (cT e) b.facts)).map vJ)))):=by
 have h:=wK a b e ha hb hra hrb he;refine⟨h.1,fun R w vs hR hs hv=>?_⟩;have hi:Inv (· <w.heap.size) R [] [] w:=⟨rfl,hR,fun id x g hx=>by simp at hx,fun i j g1 g2 h1=>by simp at h1,fun i g b h1=>by simp at h1,fun b hb=>hb⟩;refine(h.2 (· <w.heap.size) R [] w vs hi (by simpa using hs) fun j v x UX hx=>?_).mono ?_
 ·match j,hx with
  |0,hx=>obtain rfl:=aqG hx;exact PV.av_rep (p := .agg (aU a)) (hv 0 v _ UX rfl)
  |1,hx=>obtain rfl:=aqG hx;exact PV.av_rep (p := .agg (aU b)) (hv 1 v _ UX rfl)
  |2,hx=>obtain rfl:=aqG hx;exact PV.av_rep (p := .agg (tE e)) (hv 2 v _ UX rfl)
  |j+3,hx=>simp at hx
 ·rintro e1 w' ⟨v,R',γ',rfl,i1,i2,i3,i4⟩
  have hL:([Ob.dead,.dead,.dead,.row vW (((a.facts.map (da (cT e) b.facts)).map vJ).map (List.map SV.c)) 1]:List Ob)[3]?=some (.row vW (((a.facts.map (da (cT e) b.facts)).map vJ).map (List.map SV.c)) 1):=rfl;obtain⟨R2,γ2,hI,hE,hM,hS⟩:=mH i1 hL (iC _);refine⟨v,R2,rfl,i2.trans hE,hI.val,?_⟩;have:=hS 0 a.facts.length v i4;rw[List.drop_zero,aqO m5]at this;exact this
theorem ag4 (x y:Bool):PTz 154 ([.one (.bool x),.one (.bool y)]++([]:List AC).map .one) (.val (.one (.bool (x && !y)))):=by
 refine pa_ bC Tryz.func154 rfl rfl Tryz.ntmps154 m5 ?_;simp only[argT,PV.av,aqj,aqn,aqI]
 cases x<;>cases y
 ·skip
  repeat' (first|refine st_nil ?_|refine st_pop rfl rfl rfl rfl qp_ ?_|refine st_lop rfl rfl rfl rfl qp_ ?_|refine sS_ rfl rfl rfl qp_ ?_|refine st_lit rfl rfl rfl rfl qp_ ?_|refine st_skip rfl rfl rfl ?_|refine sk0_ rfl rfl ?_|(refine st_if rfl (fun hb=>?_) (fun hb=>?_)<;>(first|exact(fx_ hb).elim|rw[hb]))|refine aw_seq ?_|refine aw_region bC _ rfl ?_|refine aw_drawn2 bZ _ rfl mixed (by decide +kernel) ?_|(refine aw_cond rfl (fun hb=>?_) (fun hb=>?_)<;>(try exact(fx_ hb).elim))|refine aw_block ?_|refine aw_exit ?_|refine aw_ret ?_|refine aw_skip ?_|fail)
  exact⟨.inr rfl,⟨t7,t7⟩,rfl⟩
 ·skip
  repeat' (first|refine st_nil ?_|refine st_pop rfl rfl rfl rfl qp_ ?_|refine st_lop rfl rfl rfl rfl qp_ ?_|refine sS_ rfl rfl rfl qp_ ?_|refine st_lit rfl rfl rfl rfl qp_ ?_|refine st_skip rfl rfl rfl ?_|refine sk0_ rfl rfl ?_|(refine st_if rfl (fun hb=>?_) (fun hb=>?_)<;>(first|exact(fx_ hb).elim|rw[hb]))|refine aw_seq ?_|refine aw_region bC _ rfl ?_|refine aw_drawn2 bZ _ rfl mixed (by decide +kernel) ?_|(refine aw_cond rfl (fun hb=>?_) (fun hb=>?_)<;>(try exact(fx_ hb).elim))|refine aw_block ?_|refine aw_exit ?_|refine aw_ret ?_|refine aw_skip ?_|fail)
  exact⟨.inr rfl,⟨t7,t7⟩,rfl⟩
 ·skip
  repeat' (first|refine st_nil ?_|refine st_pop rfl rfl rfl rfl qp_ ?_|refine st_lop rfl rfl rfl rfl qp_ ?_|refine sS_ rfl rfl rfl qp_ ?_|refine st_lit rfl rfl rfl rfl qp_ ?_|refine st_skip rfl rfl rfl ?_|refine sk0_ rfl rfl ?_|(refine st_if rfl (fun hb=>?_) (fun hb=>?_)<;>(first|exact(fx_ hb).elim|rw[hb]))|refine aw_seq ?_|refine aw_region bC _ rfl ?_|refine aw_drawn2 bZ _ rfl mixed (by decide +kernel) ?_|(refine aw_cond rfl (fun hb=>?_) (fun hb=>?_)<;>(try exact(fx_ hb).elim))|refine aw_block ?_|refine aw_exit ?_|refine aw_ret ?_|refine aw_skip ?_|fail)
  exact⟨.inr rfl,⟨t7,t7⟩,rfl⟩
 ·skip
  repeat' (first|refine st_nil ?_|refine st_pop rfl rfl rfl rfl qp_ ?_|refine st_lop rfl rfl rfl rfl qp_ ?_|refine sS_ rfl rfl rfl qp_ ?_|refine st_lit rfl rfl rfl rfl qp_ ?_|refine st_skip rfl rfl rfl ?_|refine sk0_ rfl rfl ?_|(refine st_if rfl (fun hb=>?_) (fun hb=>?_)<;>(first|exact(fx_ hb).elim|rw[hb]))|refine aw_seq ?_|refine aw_region bC _ rfl ?_|refine aw_drawn2 bZ _ rfl mixed (by decide +kernel) ?_|(refine aw_cond rfl (fun hb=>?_) (fun hb=>?_)<;>(try exact(fx_ hb).elim))|refine aw_block ?_|refine aw_exit ?_|refine aw_ret ?_|refine aw_skip ?_|fail)
  exact⟨.inr rfl,⟨t7,t7⟩,rfl⟩
theorem alb (x y:Bool):PTz 101 ([.one (.bool x),.one (.bool y)]++([]:List AC).map .one) (.val (.one (.bool x))):=by
 refine pa_ bC Tryz.func101 rfl rfl Tryz.ntmps101 m5 ?_;simp only[argT,PV.av,aqj,aqn,aqI]
 repeat' (first|refine st_nil ?_|refine st_pop rfl rfl rfl rfl qp_ ?_|refine st_lop rfl rfl rfl rfl qp_ ?_|refine sS_ rfl rfl rfl qp_ ?_|refine st_lit rfl rfl rfl rfl qp_ ?_|refine st_skip rfl rfl rfl ?_|refine sk0_ rfl rfl ?_|(refine st_if rfl (fun hb=>?_) (fun hb=>?_)<;>(first|exact(fx_ hb).elim|rw[hb]))|refine aw_seq ?_|refine aw_region bC _ rfl ?_|refine aw_drawn2 bZ _ rfl mixed (by decide +kernel) ?_|(refine aw_cond rfl (fun hb=>?_) (fun hb=>?_)<;>(try exact(fx_ hb).elim))|refine aw_block ?_|refine aw_exit ?_|refine aw_ret ?_|refine aw_skip ?_|fail)
 exact⟨.inr rfl,⟨t7,t7⟩,rfl⟩
theorem agx {c:ap->ap->Bool}{b:List ap}{x:ap}(hx:aq x.valid=true)(hb:b.length<=1000):PTz 96 [.one (.lst [aN x.valid]),.one (.lst ((da c b x).map aN))] (.val (.one (.lst ((gm c b x).map aN)))):=by
 have hlp:(da c b x).length<=1000:=Nat.le_trans (AQ c b x) hb;obtain⟨E,hp,hs,Xz⟩:=BF [x.valid] (da c b x) m5 hlp;have hE:E.length<=4000:=by rw[hp.length_eq];have:=N5 [x.valid] (da c b x);simp at this;omega
 have Wm:=B7 (fun p q=>p && !q) 154 [] ag4 [x.valid] (da c b x) E hp hs hE Xz;rw[adZ hx hp hs (aqo _)]at Wm;refine pa_ bC Tryz.func96 rfl rfl Tryz.ntmps96 m5 ?_;simp only[argT,PV.av,aqj,aqn]
 repeat' (first|refine aM rfl rfl rfl rfl Wm rfl ?_|refine st_nil ?_|refine st_pop rfl rfl rfl rfl qp_ ?_|refine st_lop rfl rfl rfl rfl qp_ ?_|refine sS_ rfl rfl rfl qp_ ?_|refine st_lit rfl rfl rfl rfl qp_ ?_|refine st_skip rfl rfl rfl ?_|refine sk0_ rfl rfl ?_|(refine st_if rfl (fun hb=>?_) (fun hb=>?_)<;>(first|exact(fx_ hb).elim|rw[hb]))|refine aw_seq ?_|refine aw_region bC _ rfl ?_|refine aw_drawn2 bZ _ rfl mixed (by decide +kernel) ?_|(refine aw_cond rfl (fun hb=>?_) (fun hb=>?_)<;>(try exact(fx_ hb).elim))|refine aw_block ?_|refine aw_exit ?_|refine aw_ret ?_|refine aw_skip ?_|fail)
 exact⟨.inr rfl,⟨t7,t7⟩,rfl⟩
theorem akU {l r:List ax}(Wm:PTz 100 [.one (MR l),.one (MR []),.one (.fn 101 [])] (.val (.one (.lst (r.map aN))))):PTz 63 [.one (.lst (l.map aN))] (.val (.one (.lst (r.map aN)))):=by
 refine pa_ bC Tryz.func63 rfl rfl Tryz.ntmps63 m5 ?_;simp only[argT,PV.av,aqj,aqn]
 repeat' (first|refine aM rfl rfl rfl rfl Wm rfl ?_|refine st_nil ?_|refine st_pop rfl rfl rfl rfl qp_ ?_|refine st_lop rfl rfl rfl rfl qp_ ?_|refine sS_ rfl rfl rfl qp_ ?_|refine st_lit rfl rfl rfl rfl qp_ ?_|refine st_skip rfl rfl rfl ?_|refine sk0_ rfl rfl ?_|(refine st_if rfl (fun hb=>?_) (fun hb=>?_)<;>(first|exact(fx_ hb).elim|rw[hb]))|refine aw_seq ?_|refine aw_region bC _ rfl ?_|refine aw_drawn2 bZ _ rfl mixed (by decide +kernel) ?_|(refine aw_cond rfl (fun hb=>?_) (fun hb=>?_)<;>(try exact(fx_ hb).elim))|refine aw_block ?_|refine aw_exit ?_|refine aw_ret ?_|refine aw_skip ?_|fail)
 exact⟨.inr rfl,⟨t7,t7⟩,rfl⟩
def encS (l:List ax):List SV:=[.c (.lst (l.map aN))]
theorem acS (ps:List (List ax)):(ps.map vJ).map (List.map SV.c)=ps.map encS:=by rw[List.map_map];rfl
theorem Ei (n v k:Nat)(ps:List (List ax)):(Ob.row v (ps.map encS) k).below n:=by
 intro e he x hx;obtain⟨y,_,rfl⟩:=aqJ.1 he;simp[encS]at hx;subst hx;trivial
theorem an2 (L:List Ob)(v:Nat)(ps:List (List ax)):joinL [] L [.dead,.dead,.dead,.row v (ps.map encS) 1]=L++[.dead,.dead,.dead,.row v (ps.map encS) 1]:=by
 have:∀ σ,Ob.ren σ (.row v (ps.map encS) 1) = .row v (ps.map encS) 1:=fun σ=>by
  show Ob.row v ((ps.map encS).map (List.map (SV.ren σ))) 1=_;rw[List.map_map];rfl
 simp[joinL,join,db,this]
 first|rfl|exact⟨rfl,rfl,rfl⟩
def CE (al pt:List (List ax))(i:Nat):List (List ax):=al.take i++pt.drop i
theorem ajv {al pt:List (List ax)}{i:Nat}{x:List ax}(h:al.length=pt.length)(hx:al[i]?=some x):((CE al pt i).map encS).set (0+((i:Nat):Int).toNat) (encS x)=(CE al pt (i+1)).map encS:=by
 have hi:i<al.length:=(ap_.1 hx).1;rw[aqR,Int.toNat_natCast,<- List.map_set];congr 1;unfold CE;have hl:(al.take i).length=i:=by rw[aq0];omega
 rw[List.set_append_right _ _ m0,hl,Nat.sub_self,aqF m0,List.set_cons_zero,bO hx,aqA];rfl
theorem akl {al pt:List (List ax)}{i:Nat}{y:List ax}(h:al.length=pt.length)(hy:pt[i]?=some y):((CE al pt i).map encS)[0+((i:Nat):Int).toNat]?=some (encS y):=by
 have hi:i<pt.length:=(ap_.1 hy).1;rw[aqR,Int.toNat_natCast,aqw];unfold CE;have hl:(al.take i).length=i:=by rw[aq0];omega
 rw[aqf m0,hl,Nat.sub_self,aqV,Nat.add_zero,hy];rfl
theorem ai' {al pt:List (List ax)}(h:al.length=pt.length){i:Nat}(hi:i<=pt.length):((CE al pt i).map encS).length=pt.length:=by
 unfold CE;rw[aqk,aqg,aq0,List.length_drop];omega
theorem abO (ps:List (List ax)):dV (ps.map encS)=some (ps.map vJ):=by
 rw[<- acS];exact iC _
def AT (a:a6)(n i:Nat):Tm:=[(7,.one (.sl 6 vW 0 n)),(15,.one (.c (.lst (a.facts.map aG)))),(16,.one (.c (.int .i64 n))),(17,.one (.c (.int .i64 i)))]
theorem jC (a:a6)(n i:Nat):gk 7 (AT a n i):=⟨(by show 6<7;omega),t7,t7,t7,t7⟩
def ALs (ps:List (List ax)):List Ob:=[.dead,.dead,.dead,.dead,.dead,.dead,.row vW (ps.map encS) 1]
theorem Dh (a b:a6)(e:Ex)(ha:a.facts.length<=12)(hb:b.facts.length<=1000)(hra:∀ f∈a.facts,0<f.row.length/\f.row.length<=1000)(hrb:∀ f∈b.facts,f.row.length<=1000)(hv:∀ f∈a.facts,aq f.valid=true)(he:gD fuel e):PTz 58 [.agg (aU a),.agg (aU b),.agg (tE e)] (.val (.one (.lst ((a.facts.map (gm (cT e) b.facts)).map vJ)))):=by
 have Xn:=wK a b e ha hb hra hrb he;rw[acS,aC e]at Xn;have hlp:(a.facts.map (da (cT e) b.facts)).length=a.facts.length:=aqk ..;have WR:(a.facts.map (gm (cT e) b.facts)).length=(a.facts.map (da (cT e) b.facts)).length:=by rw[aqk,aqk]
 rw[aC e];refine pa_ bC Tryz.func58 rfl rfl Tryz.ntmps58 m5 ?_;simp only[argT,PV.av,aU,aqj,aqn]
 repeat' (first|rw[aqk]|(refine aS 0 (ts:=aU a) rfl rfl ?_)|(refine aS 1 (ts:=aU b) rfl rfl ?_)|(refine aS 2 (ts:=xE e) rfl rfl ?_)|(refine cI [] rfl rfl rfl rfl Xn rfl ⟨rfl,List.nodup_nil,fun i y hy=>by simp at hy,fun x hx=>(by cases hx),bW ⟨(fun z hz=>by obtain⟨w,_,rfl⟩:=aqJ.1 (show z∈(aU a).map SV.c from hz);trivial),(fun z hz=>by obtain⟨w,_,rfl⟩:=aqJ.1 (show z∈(aU b).map SV.c from hz);trivial),(fun z hz=>by obtain⟨w,_,rfl⟩:=aqJ.1 (show z∈(xE e).map SV.c from hz);trivial),t7⟩⟩ rfl (an2 _ _ _) ?_)|refine st_nil ?_|refine st_pop rfl rfl rfl rfl qp_ ?_|refine st_lop rfl rfl rfl rfl qp_ ?_|refine sS_ rfl rfl rfl qp_ ?_|refine st_lit rfl rfl rfl rfl qp_ ?_|refine st_skip rfl rfl rfl ?_|refine sk0_ rfl rfl ?_|(refine st_if rfl (fun hb=>?_) (fun hb=>?_)<;>(first|exact(fx_ hb).elim|rw[hb]))|refine aw_seq ?_|refine aw_region bC _ rfl ?_|refine aw_drawn2 bZ _ rfl mixed (by decide +kernel) ?_|(refine aw_cond rfl (fun hb=>?_) (fun hb=>?_)<;>(try exact(fx_ hb).elim))|refine aw_block ?_|refine aw_exit ?_|refine aw_ret ?_|refine aw_skip ?_|fail)
 refine cA (fun i:Nat=>AT a a.facts.length i) (fun i=>ALs (CE (a.facts.map (gm (cT e) b.facts)) (a.facts.map (da (cT e) b.facts)) i)) (fun i=>i<=a.facts.length) (fun i=>a.facts.length-i) 0 m0 (fun _ _=>aqu _)
  (fm_ ⟨rfl,rfl,aT m5,rfl,t7⟩ [] (by simp[CE,ALs]) (jC _ _ _) ⟨t7,t7,t7,t7,t7,t7,Ei _ _ _ _,t7⟩) ?_
 intro i hi;unfold AT ALs;by_cases O0:i<a.facts.length
 ·obtain⟨x,hx⟩:=gol_ O0
  have hxa:(a.facts.map (gm (cT e) b.facts))[i]?=some (gm (cT e) b.facts x):=by rw[aqw,hx];rfl
  have hxp:(a.facts.map (da (cT e) b.facts))[i]?=some (da (cT e) b.facts x):=by rw[aqw,hx];rfl
  have Ri:=agx (c:=cT e) (hv x (aqe hx)) hb;have R8:=akl WR hxp;have RS:=ajv WR hxa;have ZP:=ai' WR (i:=i) m0;rw[hlp]at ZP;generalize a.facts.map (gm (cT e) b.facts)=al at hxa R8 RS ZP WR ⊢;generalize a.facts.map (da (cT e) b.facts)=pt at hxp R8 RS ZP WR hlp ⊢
  repeat' (first|(refine kR rfl rfl rfl rfl rfl rfl rfl (e:=encS (da (cT e) b.facts x)) (by exact R8) rfl ?_)|(refine m_ rfl rfl rfl rfl rfl rfl (e:=encS (da (cT e) b.facts x)) (by exact R8) ⟨aqi rfl,rfl⟩ rfl ?_)|(refine bB rfl rfl rfl rfl rfl rfl rfl rfl (bq hx) ?_ ?_;· exact⟨m0,rfl⟩)|refine aM rfl rfl rfl rfl Ri rfl ?_|refine st_nil ?_|refine st_pop rfl rfl rfl rfl qp_ ?_|refine st_lop rfl rfl rfl rfl qp_ ?_|refine sS_ rfl rfl rfl qp_ ?_|refine st_lit rfl rfl rfl rfl qp_ ?_|refine st_skip rfl rfl rfl ?_|refine sk0_ rfl rfl ?_|(refine st_if rfl (fun hb=>?_) (fun hb=>?_)<;>(first|exact(fx_ hb).elim|rw[hb]))|refine aw_seq ?_|refine aw_region bC _ rfl ?_|refine aw_drawn2 bZ _ rfl mixed (by decide +kernel) ?_|(refine aw_cond rfl (fun hb=>?_) (fun hb=>?_)<;>(try exact(fx_ hb).elim))|refine aw_block ?_|refine aw_exit ?_|refine aw_ret ?_|refine aw_skip ?_|fail)
  exact⟨i+1,m0,m0,fm_ ⟨rfl,rfl,rfl,aT (a7 m0 m0),t7⟩ [_] (by rw[<- RS];rfl) (jC _ _ _) ⟨t7,t7,t7,t7,t7,t7,Ei _ _ _ _,t7⟩⟩
 ·have QE:i=a.facts.length:=m0
  have hmx:CE (a.facts.map (gm (cT e) b.facts)) (a.facts.map (da (cT e) b.facts)) i=a.facts.map (gm (cT e) b.facts):=by
   unfold CE;rw[aqO (by rw[aqk];omega),List.drop_eq_nil_of_le (by rw[aqk];omega),aqI]
  rw[hmx,QE];refine iV 6 7 (cs:=(a.facts.map (gm (cT e) b.facts)).map vJ) rfl (abO _) rfl m5 ?_
  repeat' (first|refine st_nil ?_|refine st_pop rfl rfl rfl rfl qp_ ?_|refine st_lop rfl rfl rfl rfl qp_ ?_|refine sS_ rfl rfl rfl qp_ ?_|refine st_lit rfl rfl rfl rfl qp_ ?_|refine st_skip rfl rfl rfl ?_|refine sk0_ rfl rfl ?_|(refine st_if rfl (fun hb=>?_) (fun hb=>?_)<;>(first|exact(fx_ hb).elim|rw[hb]))|refine aw_seq ?_|refine aw_region bC _ rfl ?_|refine aw_drawn2 bZ _ rfl mixed (by decide +kernel) ?_|(refine aw_cond rfl (fun hb=>?_) (fun hb=>?_)<;>(try exact(fx_ hb).elim))|refine aw_block ?_|refine aw_exit ?_|refine aw_ret ?_|refine aw_skip ?_|fail)
  refine⟨.inr rfl,?_⟩
  first|exact⟨t7,rfl⟩|exact⟨⟨t7,t7⟩,rfl⟩|(refine⟨?_,rfl⟩;repeat' (first|exact t7|rfl|apply And.intro))
structure xN (a b:a6)(e:Ex):Prop where
 ha:a.facts.length<=12
 hb:b.facts.length<=1000
 hra:∀ f∈a.facts,0<f.row.length/\f.row.length<=1000
 hrb:∀ f∈b.facts,f.row.length<=1000
 hv:∀ f∈a.facts,aq f.valid=true
 he:gD fuel e
 hka:a.kinds.length<=1000
 hkb:b.kinds.length<=1000
open Classical in
noncomputable def adt (a b:a6)(e:Ex):Option (List (List ax)):=if xN a b e then some (a.facts.map (da (cT e) b.facts))else none
theorem ahP {a b:a6}{e:Ex}{r:List (List ax)}(H:adt a b e=some r):PTz 62 [.agg (aU a),.agg (aU b),.agg (tE e)] (.val (.one (.lst (r.map (fun x=>[AC.lst (x.map aN)]))))):=by
 unfold adt at H;split at H
 ·rename_i h;obtain rfl:=aqG H;exact FG a b e h.ha h.hb h.hra h.hrb h.he
 ·cases H
open Classical in
noncomputable def acK (a b:a6)(e:Ex):Option (List (List ax)):=if xN a b e then some (a.facts.map (gm (cT e) b.facts))else none
theorem aij {a b:a6}{e:Ex}{r:List (List ax)}(H:acK a b e=some r):PTz 58 [.agg (aU a),.agg (aU b),.agg (tE e)] (.val (.one (.lst (r.map (fun x=>[AC.lst (x.map aN)]))))):=by
 unfold acK at H;split at H
 ·rename_i h;obtain rfl:=aqG H;exact Dh a b e h.ha h.hb h.hra h.hrb h.hv h.he
 ·cases H
def spS (l:List ax):List ax:=gv (fun p _=>p) l [] (jF l []) []
theorem wC (l:List ax):b9 (spS l) /\ ∀ t,dR (spS l) t=dR l t:=by
 obtain⟨h1,h2⟩:=si (fun p _=>p) l [];refine⟨h1,fun t=>?_⟩;show dR (gv _ l [] (jF l []) []) t=_;rw[h2]
 cases h:dR l t with
 |false=>simp
 |true =>
  obtain⟨p,_,hp,h3,h4⟩:=(cS l t).1 h;have:=gg hp;rw[aqc (show 0<=t by omega),aqc (show t<1099511627776 by omega)];rfl
theorem ajd {c:ap->ap->Bool}{b:List ap}{x:ap}(hx:aq x.valid=true):spS (da c b x)=ER c b x :=
 mF (wC _).1 (wn hx).1 fun t=>by rw[(wC _).2,(wn hx).2]
theorem ad2 {l:List ax}{E:List E3}(hp:E.Perm (rW l []))(hs:lM E){n:Nat}(hn:E.length+2<=n):ic (fun p _=>p) n E 0 0 0 []=spS l:=by
 obtain⟨h1,h2⟩:=D7 (fun p _=>p) hp hs hn;refine mF h1 (wC l).1 fun t=>?_
 rw[h2,(wC l).2]
 cases h:dR l t with
 |false=>simp
 |true =>
  obtain⟨p,_,hp,h3,h4⟩:=(cS l t).1 h;have:=gg hp;rw[aqc (show 0<=t by omega),aqc (show t<1099511627776 by omega)];rfl
theorem ah3 (l:List ax)(hl:l.length<=1000):PTz 63 [.one (.lst (l.map aN))] (.val (.one (.lst ((spS l).map aN)))):=by
 obtain⟨E,hp,hs,Xz⟩:=BF l [] hl m5;have hE:E.length<=4000:=by rw[hp.length_eq];have:=N5 l [];simp at this;omega
 have Wm:=B7 (fun p _=>p) 101 [] alb l [] E hp hs hE Xz;rw[ad2 hp hs (aqo _)]at Wm;exact akU Wm
def v8 (l:List ax):Option (List ax):=bif decide (l.length<=1000)then some (spS l)else none
theorem abM {l r:List ax}(H:v8 l=some r):PTz 63 [.one (.lst (l.map aN))] (.val (.one (.lst (r.map aN)))):=by
 unfold v8 at H;obtain⟨g,H⟩:=gK H;obtain rfl:=aqG H;exact ah3 l (aqC g)
open Classical in
noncomputable def mU (a b:a6)(e:Ex):Option a6:=if xN a b e then(pi (qJ e a.facts b.facts)).map fun r=>⟨a.kinds++b.kinds,r⟩else none
theorem sq {a b r:a6}{e:Ex}(H:mU a b e=some r):PTz 18 [.agg (aU a),.agg (aU b),.agg (tE e)] (.val (.agg (aU r))):=by
 unfold mU at H;split at H
 ·rename_i h
  cases hg:pi (qJ e a.facts b.facts)with
  |none=>rw[hg]at H;cases H
  |some l =>
   rw[hg]at H;obtain rfl:=aqG H;obtain⟨gs,q,O8⟩:=Nw a b e (by have:=h.ha;omega) h.hb h.hra h.hrb h.he h.hka h.hkb hg;exact LA O8 rfl
 ·cases H
noncomputable section
def wE (a_kinds:(List Int))(a_l:(List ap)):Option (a6):=bif (decide (a_kinds.length<=17592186044416))then((pi a_l).bind fun O7=>some (⟨a_kinds,O7⟩:a6))else none
instance gRelT_ok {a_kinds : (List Int)} {a_l : (List ap)} {r : a6} : OkC (wE a_kinds a_l = some r) (PTz 54 [.one (.lst (a_kinds.map (fun x => [AC.int .i64 x]))), .one (.lst (a_l.map aG))] (.val (.agg (aU r)))) := .mk fun H => by
 unfold wE at H;refine po_ Tryz.func54 Tryz.ntmps54 ?_;exact ay H
end
def LT1 (a b:a6)(al:List (List ax))(out:List ap)(i:Nat):Tm:=[(3,.one (.c (.ref (aU a)))),(4,.one (.c (.ref (aU b)))),(6,.one (.ptr 3 0)),(7,.one (.ptr 25 0)),(8,.one (.own (out.map aG) 24)),(22,.one (.c (.lst (al.map vJ)))),(23,.one (.c (.int .i64 al.length))),(24,.one (.c (.int .i64 i)))]
theorem Ii (a b:a6)(al:List (List ax))(out:List ap)(i:Nat):gk 26 (LT1 a b al out i):=⟨t7,t7,(by show 3<26;omega),(by show 25<26;omega),(by show 24<26;omega),t7,t7,t7,t7⟩
def LT2 (a b:a6)(al:List (List ax))(l:List ax)(out:List ap)(i k:Nat):Tm:=[(3,.one (.c (.ref (aU a)))),(4,.one (.c (.ref (aU b)))),(6,.one (.ptr 3 0)),(7,.one (.ptr 25 0)),(8,.one (.own (out.map aG) 24)),(9,.one (.c (.int .i64 i))),(22,.one (.c (.lst (al.map vJ)))),(23,.one (.c (.int .i64 al.length))),(24,.one (.c (.int .i64 i))),(29,.one (.c (.lst (l.map aN)))),(30,.one (.c (.int .i64 l.length))),(31,.one (.c (.int .i64 k)))]
theorem H_ (a b:a6)(al:List (List ax))(l:List ax)(out:List ap)(i k:Nat):gk 26 (LT2 a b al l out i k):=⟨t7,t7,(by show 3<26;omega),(by show 25<26;omega),(by show 24<26;omega),t7,t7,t7,t7,t7,t7,t7,t7⟩
def LL (ks fs:List (List AC))(n q m:Nat):List Ob:=[.dead,.dead,.dead,.box [.emp,.emp],.dead,.dead,.dead,.box [.own ks 23,.own fs 24],.dead,.spare q 3,.spare 0 1,.spare 0 1,.spare 0 1,.spare 0 1,.spare 0 1,.spare 0 1,.spare 0 1,.spare 0 1,.spare 0 1,.spare 0 1,.spare 0 1,.spare n 1,.box [.own ks 23,.own fs 24],.spare n 1,.spare m 3,.box [.own ks 23,.own fs 24]]
theorem we (ks fs:List (List AC))(n q m:Nat):mT 26 (LL ks fs n q m):=s9 (eW rfl)
theorem agp (e:Ex)(n:Nat)(a b:List ap)(x:ap):j8 e n (a++[x]) b=j8 e n a b++alX e n b x:=by unfold j8;rw[List.flatMap_append];simp
theorem adU (row:List Val)(l:List ax)(p:ax):bN row (l++[p])=bN row l++[⟨row,p⟩]:=by unfold bN;rw[aql];rfl
theorem ad5 (a b:a6)(e:Ex)(h:xN a b e)(SC:1<=b.kinds.length/\b.kinds.length<=48)(Wv:b.facts.length<=12){r s:List ap}(H:pi (qJ e a.facts b.facts)=some r)(hr:r.length<=1000)(H2:pi (r++j8 e b.kinds.length a.facts b.facts)=some s):PTz 20 [.agg (aU a),.agg (aU b),.agg (tE e)] (.val (.agg (aU ⟨a.kinds++b.kinds,s⟩))):=by
 obtain⟨gs,q,Xo⟩:=Nw a b e (by have:=h.ha;omega) h.hb h.hra h.hrb h.he h.hka h.hkb H;have halo:=Dh a b e h.ha h.hb h.hra h.hrb h.hv h.he;have VO:=gRelT_ok (a_kinds:=a.kinds++b.kinds) (a_l:=r++j8 e b.kinds.length a.facts b.facts) (r:=⟨a.kinds++b.kinds,s⟩) (by
  unfold wE;rw[aqc (by rw[aqg];have:=h.hka;have:=h.hkb;omega),aqa,H2];rfl)
 have hnul:=aar (n:=((b.kinds.length:Nat):Int)) (r:=replicate b.kinds.length bJ) (by
  unfold I5;rw[aqb m0,ap',aqb m0,ap',Int.toNat_natCast];rfl)
 have PE:∀ x∈a.facts,(gm (cT e) b.facts x).length<=13:=fun x hx=>by have:=Af (c:=cT e) (b:=b.facts) (h.hv x hx);omega
 have hlal:(a.facts.map (gm (cT e) b.facts)).length=a.facts.length:=aqk ..;have hapx:=h.ha;rw[aC e]at Xo halo;rw[aC e];refine pa_ bC Tryz.func20 rfl rfl Tryz.ntmps20 m5 ?_;simp only[argT,PV.av,aU,aqj,aqn]
 repeat' (first|(refine aS 0 (ts:=aU a) rfl rfl ?_)|(refine aS 1 (ts:=aU b) rfl rfl ?_)|(refine aS 2 (ts:=xE e) rfl rfl ?_)|(refine cI [] rfl rfl rfl rfl Xo rfl ⟨rfl,List.nodup_nil,fun i y hy=>by simp at hy,fun x hx=>(by cases hx),bW ⟨(fun z hz=>by obtain⟨w,_,rfl⟩:=aqJ.1 (show z∈(aU a).map SV.c from hz);trivial),(fun z hz=>by obtain⟨w,_,rfl⟩:=aqJ.1 (show z∈(aU b).map SV.c from hz);trivial),(fun z hz=>by obtain⟨w,_,rfl⟩:=aqJ.1 (show z∈(xE e).map SV.c from hz);trivial),t7⟩⟩ rfl rfl ?_)|refine aM rfl rfl rfl rfl halo rfl ?_|refine st_nil ?_|refine st_pop rfl rfl rfl rfl qp_ ?_|refine st_lop rfl rfl rfl rfl qp_ ?_|refine sS_ rfl rfl rfl qp_ ?_|refine st_lit rfl rfl rfl rfl qp_ ?_|refine st_skip rfl rfl rfl ?_|refine sk0_ rfl rfl ?_|(refine st_if rfl (fun hb=>?_) (fun hb=>?_)<;>(first|exact(fx_ hb).elim|rw[hb]))|refine aw_seq ?_|refine aw_region bC _ rfl ?_|refine aw_drawn2 bZ _ rfl mixed (by decide +kernel) ?_|(refine aw_cond rfl (fun hb=>?_) (fun hb=>?_)<;>(try exact(fx_ hb).elim))|refine aw_block ?_|refine aw_exit ?_|refine aw_ret ?_|refine aw_skip ?_|fail)
 have PN:∀ i,(j8 e b.kinds.length (a.facts.take i) b.facts).length<=156:=fun i=>o5 e _ (by rw[aq0];omega) Wv fun f hf=>h.hv f (aq6 hf)
 generalize Y3:a.facts.map (gm (cT e) b.facts)=al at hlal ⊢;refine cA (fun i:Nat=>LT1 a b al (r++j8 e b.kinds.length (a.facts.take i) b.facts) i) (fun i=>LL ((a.kinds++b.kinds).map fun x=>[AC.int .i64 x]) (r.map aG) (a.kinds++b.kinds).length q (r++j8 e b.kinds.length (a.facts.take i) b.facts).length) (fun i=>i<=a.facts.length) (fun i=>a.facts.length-i) 0 m0 (fun _ _=>aqu _)
  (fm_ ⟨rfl,rfl,rfl,rfl,lU (by rw[List.take_zero];show _=(r++[]).map aG;rw[aqI]),rfl,aT m5,rfl,t7⟩ [] (by rw[List.take_zero];show _=LL _ _ _ _ (r++[]).length;rw[aqI];rfl) (Ii _ _ _ _ _) (we _ _ _ _ _)) ?_
 intro i hi;by_cases O0:i<a.facts.length
 ·obtain⟨x,hx⟩:=gol_ O0
  have U6:=aqe hx;have hxr:=h.hra x U6;have YW:(al.map vJ)[((i:Nat):Int).toNat]?=some (vJ (gm (cT e) b.facts x)):=by rw[Int.toNat_natCast,aqw,<- Y3,aqw,hx];rfl
  have hl13:=PE x U6;have Qo:j8 e b.kinds.length (a.facts.take (i+1)) b.facts=j8 e b.kinds.length (a.facts.take i) b.facts++bN (x.row++replicate b.kinds.length bJ) (gm (cT e) b.facts x):=by rw[bO hx,agp];rfl
  have hsi:=PN i;have hconc:=zw (y5 (x:=x.row) (y:=replicate b.kinds.length bJ) m0 (by rw[List.length_replicate];omega));generalize gm (cT e) b.facts x=l at YW hl13 Qo;have ho:(r++j8 e b.kinds.length (a.facts.take i) b.facts).length<=1156:=by rw[aqg];omega
  have Yo:r++j8 e b.kinds.length (a.facts.take (i+1)) b.facts=(r++j8 e b.kinds.length (a.facts.take i) b.facts)++bN (x.row++replicate b.kinds.length bJ) l:=by rw[Qo,aqA]
  generalize r++j8 e b.kinds.length (a.facts.take i) b.facts=o at ho Yo ⊢;unfold LT1 LL
  repeat' (first|(refine bB rfl rfl rfl rfl rfl rfl rfl rfl YW ?_ ?_;· exact⟨Int.natCast_nonneg _,rfl⟩)|rw[aqk]|refine st_nil ?_|refine st_pop rfl rfl rfl rfl qp_ ?_|refine st_lop rfl rfl rfl rfl qp_ ?_|refine sS_ rfl rfl rfl qp_ ?_|refine st_lit rfl rfl rfl rfl qp_ ?_|refine st_skip rfl rfl rfl ?_|refine sk0_ rfl rfl ?_|(refine st_if rfl (fun hb=>?_) (fun hb=>?_)<;>(first|exact(fx_ hb).elim|rw[hb]))|refine aw_seq ?_|refine aw_region bC _ rfl ?_|refine aw_drawn2 bZ _ rfl mixed (by decide +kernel) ?_|(refine aw_cond rfl (fun hb=>?_) (fun hb=>?_)<;>(try exact(fx_ hb).elim))|refine aw_block ?_|refine aw_exit ?_|refine aw_ret ?_|refine aw_skip ?_|fail)
  refine cA (fun k:Nat=>LT2 a b al l (o++bN (x.row++replicate b.kinds.length bJ) (l.take k)) i k) (fun k=>LL ((a.kinds++b.kinds).map fun x=>[AC.int .i64 x]) (r.map aG) (a.kinds++b.kinds).length q (o++bN (x.row++replicate b.kinds.length bJ) (l.take k)).length) (fun k=>k<=l.length) (fun k=>l.length-k) 0 m0 (fun _ _=>aqu _)
   (fm_ ⟨rfl,rfl,rfl,rfl,lU (by rw[List.take_zero];show _=(o++[]).map aG;rw[aqI]),rfl,rfl,rfl,rfl,rfl,aT m5,rfl,t7⟩ [] (by rw[List.take_zero];show _=LL _ _ _ _ (o++[]).length;rw[aqI];rfl) (H_ _ _ _ _ _ _ _) (we _ _ _ _ _)) ?_
  intro k hk;by_cases hkl:k<l.length
  ·obtain⟨p,hp⟩:=gol_ hkl
   have W5:o++bN (x.row++replicate b.kinds.length bJ) (l.take (k+1))=(o++bN (x.row++replicate b.kinds.length bJ) (l.take k))++[⟨x.row++replicate b.kinds.length bJ,p⟩]:=by rw[bO hp,adU,aqA]
   have YB:(o++bN (x.row++replicate b.kinds.length bJ) (l.take (k+1))).length=(o++bN (x.row++replicate b.kinds.length bJ) (l.take k)).length+1:=by rw[W5,aqg];rfl
   have ho2:(o++bN (x.row++replicate b.kinds.length bJ) (l.take k)).length<=1200:=by unfold bN;rw[aqg,aqk,aq0];omega
   generalize o++bN (x.row++replicate b.kinds.length bJ) (l.take k)=o2 at W5 YB ho2 ⊢;unfold LT2 LL
   repeat' (first|rw[aqk]|(refine bB rfl rfl rfl rfl rfl rfl rfl rfl (bq hx) ?_ ?_;· exact⟨m0,rfl⟩)|(refine bB rfl rfl rfl rfl rfl rfl rfl rfl (bq hp) ?_ ?_;· exact⟨m0,rfl⟩)|refine aM rfl rfl rfl rfl hnul rfl ?_|refine aM rfl rfl rfl rfl hconc rfl ?_|refine st_nil ?_|refine st_pop rfl rfl rfl rfl qp_ ?_|refine st_lop rfl rfl rfl rfl qp_ ?_|refine sS_ rfl rfl rfl qp_ ?_|refine st_lit rfl rfl rfl rfl qp_ ?_|refine st_skip rfl rfl rfl ?_|refine sk0_ rfl rfl ?_|(refine st_if rfl (fun hb=>?_) (fun hb=>?_)<;>(first|exact(fx_ hb).elim|rw[hb]))|refine aw_seq ?_|refine aw_region bC _ rfl ?_|refine aw_drawn2 bZ _ rfl mixed (by decide +kernel) ?_|(refine aw_cond rfl (fun hb=>?_) (fun hb=>?_)<;>(try exact(fx_ hb).elim))|refine aw_block ?_|refine aw_exit ?_|refine aw_ret ?_|refine aw_skip ?_|fail)
   exact⟨k+1,m0,m0,fm_ ⟨rfl,rfl,rfl,rfl,lU (by rw[W5,aql (l₁:=o2)];rfl),rfl,rfl,rfl,rfl,rfl,rfl,aT (a7 m0 m0),t7⟩ [_] (by rw[YB];rfl) (H_ _ _ _ _ _ _ _) (we _ _ _ _ _)⟩
  ·have U2:k=l.length:=m0
   subst U2;rw[List.take_length,<- Yo];unfold LT2 LL
   repeat' (first|rw[aqk]|refine st_nil ?_|refine st_pop rfl rfl rfl rfl qp_ ?_|refine st_lop rfl rfl rfl rfl qp_ ?_|refine sS_ rfl rfl rfl qp_ ?_|refine st_lit rfl rfl rfl rfl qp_ ?_|refine st_skip rfl rfl rfl ?_|refine sk0_ rfl rfl ?_|(refine st_if rfl (fun hb=>?_) (fun hb=>?_)<;>(first|exact(fx_ hb).elim|rw[hb]))|refine aw_seq ?_|refine aw_region bC _ rfl ?_|refine aw_drawn2 bZ _ rfl mixed (by decide +kernel) ?_|(refine aw_cond rfl (fun hb=>?_) (fun hb=>?_)<;>(try exact(fx_ hb).elim))|refine aw_block ?_|refine aw_exit ?_|refine aw_ret ?_|refine aw_skip ?_|fail)
   exact⟨i+1,m0,m0,fm_ ⟨rfl,rfl,rfl,rfl,rfl,rfl,rfl,aT (a7 m0 m0),t7⟩ [] rfl (Ii _ _ _ _ _) (we _ _ _ _ _)⟩
 ·have QE:i=a.facts.length:=m0
  subst QE;rw[List.take_length];unfold LT1 LL
  repeat' (first|refine aM rfl rfl rfl rfl VO rfl ?_|refine st_nil ?_|refine st_pop rfl rfl rfl rfl qp_ ?_|refine st_lop rfl rfl rfl rfl qp_ ?_|refine sS_ rfl rfl rfl qp_ ?_|refine st_lit rfl rfl rfl rfl qp_ ?_|refine st_skip rfl rfl rfl ?_|refine sk0_ rfl rfl ?_|(refine st_if rfl (fun hb=>?_) (fun hb=>?_)<;>(first|exact(fx_ hb).elim|rw[hb]))|refine aw_seq ?_|refine aw_region bC _ rfl ?_|refine aw_drawn2 bZ _ rfl mixed (by decide +kernel) ?_|(refine aw_cond rfl (fun hb=>?_) (fun hb=>?_)<;>(try exact(fx_ hb).elim))|refine aw_block ?_|refine aw_exit ?_|refine aw_ret ?_|refine aw_skip ?_|fail)
  exact⟨.inr rfl,bg rfl (by repeat' (first|exact t7|rfl|exact aqi rfl|omega|apply And.intro)) rfl⟩
def ag8 (a b:a6)(e:Ex):Prop:=xN a b e/\(1<=b.kinds.length/\b.kinds.length<=48)/\b.facts.length<=12
open Classical in
noncomputable def nh (a b:a6)(e:Ex):Option a6:=if ag8 a b e then(pi (qJ e a.facts b.facts)).bind fun r=>if r.length<=1000 then(pi (r++j8 e b.kinds.length a.facts b.facts)).map fun s=>⟨a.kinds++b.kinds,s⟩else none else none
theorem tc {a b r:a6}{e:Ex}(H:nh a b e=some r):PTz 20 [.agg (aU a),.agg (aU b),.agg (tE e)] (.val (.agg (aU r))):=by
 unfold nh at H;split at H
 ·rename_i h
  obtain⟨l,hl,H⟩:=bd_ H;split at H
  ·rename_i hr
   cases hg:pi (l++j8 e b.kinds.length a.facts b.facts)with
   |none=>rw[hg]at H;cases H
   |some s =>
    rw[hg]at H;obtain rfl:=aqG H;exact ad5 a b e h.1 h.2.1 h.2.2 hl hr hg
  ·cases H
 ·cases H
noncomputable section
def sZ (OV:a6)(PY:Int)(Qc:(List ax)):((List ap)×Int)->Option (Step ((List ap)×Int) (a6)):=fun s=>match s with
 |(P1,SL)=>bif (decide (SL<((Qc.length:Nat):Int)))then(aF Qc SL).bind fun Rr=>(aF OV.facts PY).bind fun Sj=>bif (decide (P1.length+1<=3518437208883))then(some (.next ((P1++[(⟨Sj.row,Rr⟩:ap)]),(i64.wrap (SL+(1:Int))))))else none else
 some (.exit (P1,SL))
def aen (PY:Int):Sum ((List ap)×Int) (a6)->Option (Step ((List ap)×Int) (a6))
 |.inl (P1,SL)=>some (.next (P1,(i64.wrap (PY+(1:Int)))))
 |.inr q=>some (.ret q)
def i_ (OV:a6)(O7:(List (List ax))):((List ap)×Int)->Option (Step ((List ap)×Int) (a6)):=fun s=>match s with
 |(O4,PY)=>bif (decide (PY<((O7.length:Nat):Int)))then(aF O7 PY).bind fun P3=>(v8 P3).bind fun Qc=>(ao (sZ OV PY Qc) fuel (O4,(0:Int))).bind (aen PY)else
 some (.exit (O4,PY))
def aeL (OV:a6):Sum ((List ap)×Int) (a6)->Option ((a6))
 |.inl (O4,PY)=>(wE OV.kinds O4).bind fun PM=>some PM
 |.inr q=>some q
def pQ (OV:a6)(OW:a6)(OX:Ex):Option (a6):=(adt OV OW OX).bind fun O7=>(ao (i_ OV O7) fuel ([],(0:Int))).bind (aeL OV)
instance gSemiT_ok {OV : a6} {OW : a6} {OX : Ex} {r : a6} : OkC (pQ OV OW OX = some r) (PTz 22 [.agg (aU OV), .agg (aU OW), .agg (tE OX)] (.val (.agg (aU r)))) := .mk fun H => by
 unfold pQ at H;rw[aC OX];refine po_ Tryz.func22 Tryz.ntmps22 ?_;obtain⟨O7,c1,H⟩:=bd_ H;replace c1:=ahP c1
 try simp only[aql,aqj,aqn,aqd,aC]at c1
 refine aY ?_;refine bU 7 3 rfl ?_;refine alM_ (fun s:(List ap)×Int=>match s with|(O4,PY)=>[(3,.one (.ptr 0 0)),(6,.one (.ptr 3 0)),(7,.one (.own (O4.map aG) 4)),(15,.one (.c (.lst (O7.map (fun x=>[AC.lst (x.map aN)]))))),(16,.one (.c (.int .i64 ((O7.length:Nat):Int)))),(17,.one (.c (.int .i64 PY)))]) (fun s=>match s with|(O4,PY)=>[.box [.c (.lst (OV.kinds.map (fun x=>[AC.int .i64 x]))),.c (.lst (OV.facts.map aG))],.box [.c (.lst (OW.kinds.map (fun x=>[AC.int .i64 x]))),.c (.lst (OW.facts.map aG))],.box [.c (.int .i64 OX.op),.c (.int .i64 OX.int),.c (.int .i64 OX.v.kind),.c (.int .i64 OX.v.int),.c (.str OX.v.text),.c (.str OX.nm),.c (.lst (OX.args.map tE))],.box [.emp,.emp],.spare O4.length 3]) H (fun _=>aqu _)
  (fm_ bF [] rfl bn cm) ?_
 rintro⟨O4,PY⟩ st3 PL TS;unfold i_ at PL;dsimp only at PL ⊢;rcases aj PL with⟨P9,PL⟩|⟨P9,PL⟩
 ·obtain⟨P3,Wq,i2,Ws,PL⟩:=bw (f:=(fun x=>[AC.lst (x.map aN)])) PL
  obtain⟨Qc,c3,PL⟩:=bd_ PL;replace c3:=abM c3;refine aY ?_;refine alM_ (fun s:(List ap)×Int=>match s with|(P1,SL)=>[(3,.one (.ptr 0 0)),(6,.one (.ptr 3 0)),(7,.one (.own (P1.map aG) 4)),(8,.one (.c (.int .i64 PY))),(15,.one (.c (.lst (O7.map (fun x=>[AC.lst (x.map aN)]))))),(16,.one (.c (.int .i64 ((O7.length:Nat):Int)))),(17,.one (.c (.int .i64 PY))),(23,.one (.c (.lst (Qc.map aN)))),(24,.one (.c (.int .i64 ((Qc.length:Nat):Int)))),(25,.one (.c (.int .i64 SL)))]) (fun s=>match s with|(P1,SL)=>[.box [.c (.lst (OV.kinds.map (fun x=>[AC.int .i64 x]))),.c (.lst (OV.facts.map aG))],.box [.c (.lst (OW.kinds.map (fun x=>[AC.int .i64 x]))),.c (.lst (OW.facts.map aG))],.box [.c (.int .i64 OX.op),.c (.int .i64 OX.int),.c (.int .i64 OX.v.kind),.c (.int .i64 OX.v.int),.c (.str OX.v.text),.c (.str OX.nm),.c (.lst (OX.args.map tE))],.box [.emp,.emp],.spare P1.length 3]) PL (fun _=>aqu _)
   (fm_ bF [] rfl bn cm) ?_
  rintro⟨P1,SL⟩ st4 O9 hk4;unfold sZ at O9;dsimp only at O9 ⊢;rcases aj O9 with⟨S_,O9⟩|⟨S_,O9⟩
  ·obtain⟨Rr,Ys,i4,W_,O9⟩:=bw (f:=aN) O9
   obtain⟨Sj,i5z,i5,i5x,O9⟩:=bw (f:=aG) O9;obtain⟨g6,O9⟩:=aK O9
   cases O9;refine aY ?_;exact⟨_,rfl,fm_ qI [_] oO bn cm⟩
  exact br O9 hk4
 exact br PL TS
def s7 (OV:a6)(PY:Int)(P3:(List ax)):((List ap)×Int)->Option (Step ((List ap)×Int) (a6)):=fun s=>match s with
 |(P8,WS)=>bif (decide (WS<((P3.length:Nat):Int)))then(aF P3 WS).bind fun U5=>(aF OV.facts PY).bind fun Rr=>bif (decide (P8.length+1<=3518437208883))then(some (.next ((P8++[(⟨Rr.row,U5⟩:ap)]),(i64.wrap (WS+(1:Int))))))else none else
 some (.exit (P8,WS))
def aeR (PY:Int):Sum ((List ap)×Int) (a6)->Option (Step ((List ap)×Int) (a6))
 |.inl (P8,WS)=>some (.next (P8,(i64.wrap (PY+(1:Int)))))
 |.inr q=>some (.ret q)
def jd (OV:a6)(O7:(List (List ax))):((List ap)×Int)->Option (Step ((List ap)×Int) (a6)):=fun s=>match s with
 |(O4,PY)=>bif (decide (PY<((O7.length:Nat):Int)))then(aF O7 PY).bind fun P3=>(ao (s7 OV PY P3) fuel (O4,(0:Int))).bind (aeR PY)else
 some (.exit (O4,PY))
def ad4 (OV:a6):Sum ((List ap)×Int) (a6)->Option ((a6))
 |.inl (O4,PY)=>(wE OV.kinds O4).bind fun Qh=>some Qh
 |.inr q=>some q
def pq (OV:a6)(OW:a6)(OX:Ex):Option (a6):=(acK OV OW OX).bind fun O7=>(ao (jd OV O7) fuel ([],(0:Int))).bind (ad4 OV)
instance gAntiT_ok {OV : a6} {OW : a6} {OX : Ex} {r : a6} : OkC (pq OV OW OX = some r) (PTz 24 [.agg (aU OV), .agg (aU OW), .agg (tE OX)] (.val (.agg (aU r)))) := .mk fun H => by
 unfold pq at H;rw[aC OX];refine po_ Tryz.func24 Tryz.ntmps24 ?_;obtain⟨O7,c1,H⟩:=bd_ H;replace c1:=aij c1
 try simp only[aql,aqj,aqn,aqd,aC]at c1
 refine aY ?_;refine bU 7 3 rfl ?_;refine alM_ (fun s:(List ap)×Int=>match s with|(O4,PY)=>[(3,.one (.ptr 0 0)),(6,.one (.ptr 3 0)),(7,.one (.own (O4.map aG) 4)),(15,.one (.c (.lst (O7.map (fun x=>[AC.lst (x.map aN)]))))),(16,.one (.c (.int .i64 ((O7.length:Nat):Int)))),(17,.one (.c (.int .i64 PY)))]) (fun s=>match s with|(O4,PY)=>[.box [.c (.lst (OV.kinds.map (fun x=>[AC.int .i64 x]))),.c (.lst (OV.facts.map aG))],.box [.c (.lst (OW.kinds.map (fun x=>[AC.int .i64 x]))),.c (.lst (OW.facts.map aG))],.box [.c (.int .i64 OX.op),.c (.int .i64 OX.int),.c (.int .i64 OX.v.kind),.c (.int .i64 OX.v.int),.c (.str OX.v.text),.c (.str OX.nm),.c (.lst (OX.args.map tE))],.box [.emp,.emp],.spare O4.length 3]) H (fun _=>aqu _)
  (fm_ bF [] rfl bn cm) ?_
 rintro⟨O4,PY⟩ st3 PL TS;unfold jd at PL;dsimp only at PL ⊢;rcases aj PL with⟨P9,PL⟩|⟨P9,PL⟩
 ·obtain⟨P3,Wq,i2,Ws,PL⟩:=bw (f:=(fun x=>[AC.lst (x.map aN)])) PL
  refine aY ?_;refine alM_ (fun s:(List ap)×Int=>match s with|(P8,WS)=>[(3,.one (.ptr 0 0)),(6,.one (.ptr 3 0)),(7,.one (.own (P8.map aG) 4)),(8,.one (.c (.int .i64 PY))),(15,.one (.c (.lst (O7.map (fun x=>[AC.lst (x.map aN)]))))),(16,.one (.c (.int .i64 ((O7.length:Nat):Int)))),(17,.one (.c (.int .i64 PY))),(22,.one (.c (.lst (P3.map aN)))),(23,.one (.c (.int .i64 ((P3.length:Nat):Int)))),(24,.one (.c (.int .i64 WS)))]) (fun s=>match s with|(P8,WS)=>[.box [.c (.lst (OV.kinds.map (fun x=>[AC.int .i64 x]))),.c (.lst (OV.facts.map aG))],.box [.c (.lst (OW.kinds.map (fun x=>[AC.int .i64 x]))),.c (.lst (OW.facts.map aG))],.box [.c (.int .i64 OX.op),.c (.int .i64 OX.int),.c (.int .i64 OX.v.kind),.c (.int .i64 OX.v.int),.c (.str OX.v.text),.c (.str OX.nm),.c (.lst (OX.args.map tE))],.box [.emp,.emp],.spare P8.length 3]) PL (fun _=>aqu _)
   (fm_ bF [] rfl bn cm) ?_
  rintro⟨P8,WS⟩ st4 O9 hk4;unfold s7 at O9;dsimp only at O9 ⊢;rcases aj O9 with⟨RX,O9⟩|⟨RX,O9⟩
  ·obtain⟨U5,i3z,i3,Ze,O9⟩:=bw (f:=aN) O9
   obtain⟨Rr,Ys,i4,W_,O9⟩:=bw (f:=aG) O9;obtain⟨g5,O9⟩:=aK O9
   cases O9;refine aY ?_;exact⟨_,rfl,fm_ qI [_] oO bn cm⟩
  exact br O9 hk4
 exact br PL TS
end
noncomputable section
def gG (OV:(List Val))(OW:(List Val)):Option ((List Val)):=bif (decide (OV.length<=4398046511104))then(bif (decide (OV.length+OW.length<=4398046511104))then(some (OV++OW))else none)else none
instance gConcatR_ok {OV : (List Val)} {OW : (List Val)} {r : (List Val)} : OkC (gG OV OW = some r) (PTz 30 [.one (.lst (OV.map cV)), .one (.lst (OW.map cV))] (.val (.one (.lst (r.map cV))))) := .mk fun H => by
 unfold gG at H;refine po_ Tryz.func30 Tryz.ntmps30 ?_;exact ay H
def jo (PQ:Int):((List Val)×Int)->Option (Step ((List Val)×Int) ((List Val))):=fun s=>match s with
 |(OZ,i_2)=>bif (decide (i_2<PQ))then bif (decide (PQ<=(4096:Int)))then(du ).bind fun P2=>bif (decide (OZ.length+1<=4398046511104))then(some (.next ((OZ++[P2]),(i64.wrap (i_2+(1:Int))))))else none else
 some (.exit (OZ,i_2))else
 some (.exit (OZ,i_2))
def abe:Sum ((List Val)×Int) ((List Val))->Option (((List Val)))
 |.inl (OZ,i_2)=>some OZ
 |.inr q=>some q
def oT (PQ:Int):Option ((List Val)):=(ao (jo PQ) fuel ([],(0:Int))).bind (abe)
instance gNullsR_ok {PQ : Int} {r : (List Val)} : OkC (oT PQ = some r) (PTz 31 [.one (.int .i64 PQ)] (.val (.one (.lst (r.map cV))))) := .mk fun H => by
 unfold oT at H;refine po_ Tryz.func31 Tryz.ntmps31 ?_;refine aY ?_;refine bU 3 3 rfl ?_;refine alM_ (fun s:(List Val)×Int=>match s with|(OZ,i_2)=>[(0,.one (.c (.int .i64 PQ))),(3,.one (.own (OZ.map cV) 0)),(4,.one (.c (.int .i64 i_2)))]) (fun s=>match s with|(OZ,i_2)=>[.spare OZ.length 3]) H (fun _=>aqu _)
  (fm_ bF [] rfl bn cm) ?_
 rintro⟨OZ,i_2⟩ st1 OU Py;exact br OU Py
def mJ (OV:a6)(OW:a6):Option ((List Int)):=bif (decide (OV.kinds.length<=17592186044416))then(bif (decide (OV.kinds.length+OW.kinds.length<=17592186044416))then(some (OV.kinds++OW.kinds))else none)else none
instance gBoth24_ok {OV : a6} {OW : a6} {r : (List Int)} : OkC (mJ OV OW = some r) (PTz 55 [.agg (aU OV), .agg (aU OW)] (.val (.one (.lst (r.map (fun x => [AC.int .i64 x])))))) := .mk fun H => by
 unfold mJ at H;refine po_ Tryz.func55 Tryz.ntmps55 ?_;exact ay H
def qV (OV:a6)(OW:a6):Option ((List Int)):=(mJ OV OW).bind fun O7=>some O7
instance gKinds24_ok {OV : a6} {OW : a6} {r : (List Int)} : OkC (qV OV OW = some r) (PTz 50 [.agg (aU OV), .agg (aU OW)] (.val (.one (.lst (r.map (fun x => [AC.int .i64 x])))))) := .mk fun H => by
 unfold qV at H;refine po_ Tryz.func50 Tryz.ntmps50 ?_;exact ay H
def iR (OV:a6)(OW:a6)(OX:Ex):Option (Bool):=bif (decide ((12:Int)<((OV.facts.length:Nat):Int)))then some false else
 bif (decide ((12:Int)<((OW.facts.length:Nat):Int)))then some false else
 bif (decide ((48:Int)<((OV.kinds.length:Nat):Int)))then some false else
 bif (decide ((48:Int)<((OW.kinds.length:Nat):Int)))then some false else
 bif (decide ((48:Int)<(i64.wrap (((OV.kinds.length:Nat):Int)+((OW.kinds.length:Nat):Int)))))then some false else
 (uO OV).bind fun Qc=>bif Qc then(uO OW).bind fun Sz=>bif Sz then(Ez [OX] (200:Int)).bind fun Qr=>bif Qr then(qV OV OW).bind fun PM=>(sj OX PM).bind fun Ql=>some (decide (Ql=(0:Int)))else
 some false else
 some false else
 some false
instance gJoins24_ok {OV : a6} {OW : a6} {OX : Ex} {r : Bool} : OkC (iR OV OW OX = some r) (PTz 16 [.agg (aU OV), .agg (aU OW), .agg (tE OX)] (.val (.one (.bool r)))) := .mk fun H => by
 unfold iR at H;rw[aC OX];refine po_ Tryz.func16 Tryz.ntmps16 ?_;exact ay H
end
