/- Parts. No condition. -/
import Derived.Test.YtlcceppoloaecaaGreatDoorXBL
set_option maxHeartbeats 8000000
set_option maxRecDepth 100000
set_option linter.unusedSimpArgs false
set_option linter.unusedVariables false
namespace Go.Proofs.YtlcceppoloaecaaGreatDoor
open _root_.List (replicate)
open IntKind (i64)
open Go.RowKit Go.MapKept
def cT (e:Ex)(x y:ap):Bool:=fF e (x.row++y.row)
def jnY (e:Ex)(x y:ap):List ap:=bif jm x.valid y.valid&&cT e x y then [⟨x.row++y.row,nL x.valid y.valid⟩]else []
def jnX (e:Ex)(b:List ap)(x:ap):List ap:=b.flatMap (jnY e x)
def rp (e:Ex)(a b:List ap):List ap:=a.flatMap (jnX e b)
def alX (e:Ex)(n:Nat)(b:List ap)(x:ap):List ap:=bQ (x.row++replicate n bI) (gM (cT e) b x)
def kz (e:Ex)(n:Nat)(a b:List ap):List ap:=a.flatMap (alX e n b)
def seX (e:Ex)(b:List ap)(x:ap):List ap:=bQ x.row (FO (cT e) b x)
def seL (e:Ex)(a b:List ap):List ap:=a.flatMap (seX e b)
def cM (e:Ex)(b:List (List Val))(x:List Val):List (List Val):=b.flatMap fun y=>bif fF e (x++y)then [x++y]else []
theorem ld (g:ap->List ap)(k:List Val->List (List Val))(t:Int):∀ l:List ap,(∀ f∈l,aD (g f) t=if aM f.valid t=true then k f.row else [])->aD (l.flatMap g) t=(aD l t).flatMap k
 |[],_=>rfl
 |f::l,h=>by
  rw[arN,dc,h f m5,ld g k t l fun f hf=>h f (by simp[hf]),fZ,List.flatMap_append];by_cases hc:aM f.valid t=true
  ·rw[if_pos hc,if_pos hc];simp
  ·rw[if_neg hc,if_neg hc];rfl
theorem It {p q:ax}(h:jm p q=true)(t:Int):aM (nL p q) t=(aM p t&&aM q t):=by
 obtain⟨h1,h2,h3,h4⟩:=(td p q).1 h;exact Np ((x8 p q).2 ⟨h1,h2,h3,h4⟩) t
theorem M6 {p q:ax}(h:jm p q=false)(t:Int):(aM p t&&aM q t)=false:=by
 refine KJ ?_ t
 cases hb:ovB p q with
 |false=>rfl
 |true=>rw[(td p q).2 ((x8 p q).1 hb)]at h;cases h
theorem anb (e:Ex)(x y:ap)(t:Int):aD (jnY e x y) t=if aM x.valid t=true then(if aM y.valid t=true then(bif fF e (x.row++y.row)then [x.row++y.row]else [])else [])else []:=by
 unfold jnY cT
 cases ho:jm x.valid y.valid with
 |false =>
  have:=M6 ho t;rw[Bool.false_and,aq7]
  cases h1:aM x.valid t<;>cases h2:aM y.valid t<;>rw[h1,h2]at this<;>first|rfl|cases this
 |true =>
  have:=It ho t;rw[arI]
  cases hs:fF e (x.row++y.row)with
  |false=>rw[aq7,aq7];cases aM x.valid t<;>cases aM y.valid t<;>rfl
  |true =>
   rw[aq8,aq8,mK,this]
   cases aM x.valid t<;>cases aM y.valid t<;>rfl
theorem ag5 (e:Ex)(x:ap)(t:Int):∀ b:List ap,aD (jnX e b x) t=if aM x.valid t=true then cM e (aD b t) x.row else []
 |[]=>by cases aM x.valid t<;>rfl
 |y::b=>by
  show aD (jnY e x y++jnX e b x) t=_;rw[dc,anb,ag5 e x t b,fZ];unfold cM;rw[List.flatMap_append]
  cases aM x.valid t<;>cases aM y.valid t<;>simp
theorem Jd (e:Ex)(a b:List ap)(t:Int):aD (rp e a b) t=(aD a t).flatMap (cM e (aD b t)) :=
 ld _ _ t a fun x _=>ag5 e x t b
theorem akG (e:Ex)(x y:ap):(jnY e x y).length<=1:=by unfold jnY;cases jm x.valid y.valid&&cT e x y<;>simp
theorem aj3 (e:Ex)(b:List ap)(x:ap):(jnX e b x).length<=b.length:=wl _ (akG e x) b
theorem oR {α β:Type}(g:α->List β)(k:Nat):∀ l:List α,(∀ x∈l,(g x).length<=k)->(l.flatMap g).length<=l.length*k
 |[],_=>by simp
 |x::l,h=>by
  have h1:=h x m5;have h2:=oR g k l fun y hy=>h y (by simp[hy])
  rw[arN,ard,arv,Nat.add_mul];omega
theorem mU (e:Ex){a b:List ap}(ha:a.length<=12)(hb:b.length<=12):(rp e a b).length<=144:=by
 have:=oR (jnX e b) 12 a fun x _=>by have:=aj3 e b x;omega
 unfold rp;omega
theorem qG (e:Ex)(n:Nat){a b:List ap}(ha:a.length<=12)(hb:b.length<=12)(hv:∀ f∈a,aw f.valid=true):(kz e n a b).length<=156:=by
 have:=oR (alX e n b) 13 a fun x hx=>by
  have:=Bv (c:=cT e) (b:=b) (hv x hx);unfold alX bQ;rw[arj];omega
 unfold kz;omega
theorem J8 (e:Ex){a b:List ap}(ha:a.length<=12)(hb:b.length<=12)(hv:∀ f∈a,aw f.valid=true):(seL e a b).length<=144:=by
 have:=oR (seX e b) 12 a fun x hx=>by
  have:=Kw (c:=cT e) (b:=b) (hv x hx);unfold seX bQ;rw[arj];omega
 unfold seL;omega
theorem akB {e:Ex}{a b:List ap}{f:ap}(h:f∈rp e a b):∃ x∈a,∃ y∈b,f.row=x.row++y.row:=by
 obtain⟨x,hx,h⟩:=List.mem_flatMap.1 h;obtain⟨y,hy,h⟩:=List.mem_flatMap.1 h;refine⟨x,hx,y,hy,?_⟩;unfold jnY at h
 cases hc:jm x.valid y.valid&&cT e x y with
 |false=>rw[hc]at h;cases h
 |true=>rw[hc,aq8,arQ]at h;rw[h]
theorem ac6 {e:Ex}{n:Nat}{a b:List ap}{f:ap}(h:f∈kz e n a b):∃ x∈a,f.row=x.row++replicate n bI:=by
 obtain⟨x,hx,h⟩:=List.mem_flatMap.1 h;obtain⟨p,_,rfl⟩:=arK.1 h;exact⟨x,hx,rfl⟩
theorem akr {e:Ex}{a b:List ap}{f:ap}(h:f∈seL e a b):∃ x∈a,f.row=x.row:=by
 obtain⟨x,hx,h⟩:=List.mem_flatMap.1 h;obtain⟨p,_,rfl⟩:=arK.1 h;exact⟨x,hx,rfl⟩
section
variable {σ:Type} (TW:σ->Nat->List Val->ax->σ) (e:Ex)
def D1 (i:Nat)(x:ap):List ap->σ->σ
 |[],s=>s
 |y::b,s=>D1 i x b (bif jm x.valid y.valid&&cT e x y then TW s i (x.row++y.row) (nL x.valid y.valid)else s)
def F5 (b:List ap):List ap->Nat->σ->σ
 |[],_,s=>s
 |x::a,i,s=>F5 b a (i+1) (D1 TW e i x b s)
theorem LK (a b:List ap)(l m:List cA)(s:σ):od TW e a b (l++m) s=od TW e a b m (od TW e a b l s):=by unfold od;rw[List.foldl_append]
theorem acZ {a b0:List ap}{i:Nat}{x:ap}(hx:a[i]?=some x):∀ (b pre:List ap) (s:σ),b0=pre++b->od TW e a b0 (mC (fun y:ap=>jm x.valid y.valid) (i:Int) b pre.length) s=D1 TW e i x b s
 |[],pre,s,_=>rfl
 |y::b,pre,s,h0=>by
  have ih:=acZ (b0:=b0) hx b (pre++[y]);rw[ard]at ih;have hy:b0[pre.length]?=some y:=by rw[h0];simp
  unfold mC at ih ⊢;rw[iS,ark,LK,D1];have hone:od TW e a b0 ((bif jm x.valid y.valid then [((pre.length:Nat):Int)]else []).map fun j=>(⟨(i:Int),j⟩:cA)) s=bif jm x.valid y.valid&&cT e x y then TW s i (x.row++y.row) (nL x.valid y.valid)else s:=by
   cases ho:jm x.valid y.valid with
   |false=>rfl
   |true =>
    show aee TW s (ab2 e a b0 ⟨(i:Int),((pre.length:Nat):Int)⟩)=_;unfold ab2 cT;simp only[Int.toNat_natCast,hx,hy]
    cases fF e (x.row++y.row)<;>rfl
  rw[hone];exact ih _ (by rw[h0];simp)
theorem JP {a0 b:List ap}:∀ (a pre:List ap) (s:σ),a0=pre++a->od TW e a0 b (ef (fun x y:ap=>jm x.valid y.valid) b a pre.length) s=F5 TW e b a pre.length s
 |[],pre,s,_=>rfl
 |x::a,pre,s,h0=>by
  have ih:=JP (a0:=a0) (b:=b) a (pre++[x]);rw[ard]at ih;have hx:a0[pre.length]?=some x:=by rw[h0];simp
  have h1:od TW e a0 b (mC (fun y:ap=>jm x.valid y.valid) ((pre.length:Nat):Int) b 0) s=D1 TW e pre.length x b s:=acZ (b0:=b) TW e hx b [] s rfl;rw[ef,LK,F5,h1];exact ih _ (by rw[h0];simp)
end
def agl (l:List ap)(_:Nat)(row:List Val)(p:ax):List ap:=l++[⟨row,p⟩]
theorem OR (e:Ex)(i:Nat)(x:ap):∀ (b:List ap) (s:List ap),D1 agl e i x b s=s++jnX e b x
 |[],s=>by simp[D1,jnX]
 |y::b,s=>by
  rw[D1,OR e i x b];show _=s++(jnY e x y++jnX e b x);unfold jnY
  cases jm x.valid y.valid&&cT e x y with
  |false=>rfl
  |true=>show(s++[_])++_=_;rw[arA];rfl
theorem Oh (e:Ex)(b:List ap):∀ (a:List ap) (i:Nat) (s:List ap),F5 agl e b a i s=s++rp e a b
 |[],i,s=>by simp[F5,rp]
 |x::a,i,s=>by
  rw[F5,Oh e b a,OR,arA];rfl
theorem ahy (e:Ex)(a b:List ap):od agl e a b (ef (fun x y:ap=>jm x.valid y.valid) b a 0) []=rp e a b:=by
 have:=JP (a0:=a) (b:=b) agl e a [] [] rfl;rw[Oh]at this;exact this
def mP (ps:List (List ax))(i:Nat)(_:List Val)(p:ax):List (List ax):=ps.set i (ps.getD i []++[p])
theorem wx (e:Ex)(i:Nat)(x:ap):∀ (b:List ap) (ps:List (List ax)),i<ps.length->D1 mP e i x b ps=ps.set i (ps.getD i []++df (cT e) b x)
 |[],ps,h=>by
  show ps=ps.set i (ps.getD i []++[]);rw[arJ,ar_,arf h];show ps=ps.set i ps[i];rw[List.set_getElem_self]
 |y::b,ps,h=>by
  show D1 mP e i x b _=ps.set i (ps.getD i []++((bif jm x.valid y.valid&&cT e x y then [nL x.valid y.valid]else [])++df (cT e) b x))
  cases jm x.valid y.valid&&cT e x y with
  |false=>exact wx e i x b ps h
  |true =>
   rw[aq8,wx e i x b _ (by unfold mP;simpa using h)];unfold mP;rw[List.set_set,ar_,ars h,aq8];show ps.set i ((ps.getD i []++[_])++_)=_;rw[arA]
theorem aai (e:Ex)(b:List ap):∀ (a:List ap) (pre:List (List ax)),F5 mP e b a pre.length (pre++replicate a.length [])=pre++a.map (df (cT e) b)
 |[],pre=>by simp[F5]
 |x::a,pre=>by
  rw[F5,wx e _ x b _ m5];have e1:(pre++replicate (x::a).length []).getD pre.length []=([]:List ax):=by
   rw[ar_,arc (aro _),Nat.sub_self];rfl
  rw[e1,ara,List.set_append_right _ _ (aro _),Nat.sub_self,arv,List.replicate_succ,List.set_cons_zero];have ih:=aai e b a (pre++[df (cT e) b x]);rw[ard,arA]at ih;show F5 mP e b a (pre.length+1) _=_;rw[show pre++df (cT e) b x::replicate a.length []=pre++([df (cT e) b x]++replicate a.length [])from rfl];refine ih.trans ?_;simp
theorem ag7 (e:Ex)(a b:List ap):od mP e a b (ef (fun x y:ap=>jm x.valid y.valid) b a 0) (replicate a.length [])=a.map (df (cT e) b):=by
 have:=JP (a0:=a) (b:=b) mP e a [] (replicate a.length []) rfl;have h2:=aai e b a [];rw[ara]at h2;exact this.trans h2
def aoC (f:FuncId):Bool:=Nat.beq f 52||Nat.beq f 54||Nat.beq f 92||Nat.beq f 145||Nat.beq f 18||Nat.beq f 62||aoG f
def aqy:TI :={ tab with owns:=aoC,dyn:=true }
theorem bE:TIok Tryz.prog aqy:=⟨tab_ok.size,tab_ok.agg,tab_ok.elem,tab_ok.field,tab_ok.zero,tab_ok.bytes,tab_ok.kind,tab_ok.struct,tab_ok.zok,tab_ok.eqs⟩
def apa:TI :={ tab with owns:=aoC,soft:=true }
theorem b7:TIok Tryz.prog apa:=⟨tab_ok.size,tab_ok.agg,tab_ok.elem,tab_ok.field,tab_ok.zero,tab_ok.bytes,tab_ok.kind,tab_ok.struct,tab_ok.zok,tab_ok.eqs⟩
theorem alm {l r:List ap}(H:qq l=some r):RTz 92 [] [.one (.c (.lst (l.map aH)))] [.spare r.length 3] (.one (.own (r.map aH) 0)):=by
 unfold qq at H;obtain⟨r1,H1,H2⟩:=bd_ H;obtain rfl:=arH H2;have hb:=acS (F_a_f:=146) (caps_a_f:=[]) (fun x0 r h=>gBag1_ok h) H1;refine bo bE Tryz.func92 rfl rfl Tryz.ntmps92 m5 ?_;simp only[eI]
 repeat' (first|refine co_ rfl rfl rfl rfl ?_ hb|refine st_nil ?_|refine st_pop rfl rfl rfl rfl qp_ ?_|refine st_lop rfl rfl rfl rfl qp_ ?_|refine sS_ rfl rfl rfl qp_ ?_|refine st_lit rfl rfl rfl rfl qp_ ?_|refine st_skip rfl rfl rfl ?_|refine sk0_ rfl rfl ?_|(refine st_if rfl (fun hb=>?_) (fun hb=>?_)<;>(first|exact(fx_ hb).elim|rw[hb]))|refine aw_seq ?_|refine aw_region bE _ rfl ?_|refine aw_drawn2 b7 _ rfl mixed (by decide +kernel) ?_|(refine aw_cond rfl (fun hb=>?_) (fun hb=>?_)<;>(try exact(fx_ hb).elim))|refine aw_block ?_|refine aw_exit ?_|refine aw_ret ?_|refine aw_skip ?_|fail)
 exact⟨.inr rfl,⟨.inl ⟨_,rfl,rfl⟩,⟨[],rfl⟩,aru _,fi rfl,hY rfl⟩⟩
theorem akE {k:List Int}{l r:List ap}(hk:k.length<=1000000)(H:qq l=some r):RTz 54 [.spare k.length 1] [.one (.own (k.map fun x=>[AC.int .i64 x]) 0),.one (.c (.lst (l.map aH)))] [.spare k.length 1,.box [.own (k.map fun x=>[AC.int .i64 x]) 2,.own (r.map aH) 3],.spare k.length 1,.spare r.length 3] (.agg [.own (k.map fun x=>[AC.int .i64 x]) 2,.own (r.map aH) 3]):=by
 have hb:=alm H;refine uR bE Tryz.func54 rfl rfl Tryz.ntmps54 m5 ?_;simp only[eI]
 repeat' (first|refine co_ rfl rfl rfl rfl ?_ hb|refine st_nil ?_|refine st_pop rfl rfl rfl rfl qp_ ?_|refine st_lop rfl rfl rfl rfl qp_ ?_|refine sS_ rfl rfl rfl qp_ ?_|refine st_lit rfl rfl rfl rfl qp_ ?_|refine st_skip rfl rfl rfl ?_|refine sk0_ rfl rfl ?_|(refine st_if rfl (fun hb=>?_) (fun hb=>?_)<;>(first|exact(fx_ hb).elim|rw[hb]))|refine aw_seq ?_|refine aw_region bE _ rfl ?_|refine aw_drawn2 b7 _ rfl mixed (by decide +kernel) ?_|(refine aw_cond rfl (fun hb=>?_) (fun hb=>?_)<;>(try exact(fx_ hb).elim))|refine aw_block ?_|refine aw_exit ?_|refine aw_ret ?_|refine aw_skip ?_|fail)
 exact⟨.inr rfl,⟨.inr ⟨4,_,1,0,_,rfl,rfl,rfl,by repeat' (first|exact t7|rfl|exact arh rfl|omega|apply And.intro)⟩,⟨[],by rw[arj];rfl⟩,by show 1<=4;omega,fi rfl,hY rfl⟩⟩
def OJ:Nat->List ap->Ob
 |0,_ => .dead
 |1,_ => .dead
 |2,_ => .dead
 |3,_ => .box [.emp,.emp]
 |4,l => .box [.own (l.map aH) 5]
 |5,l => .spare l.length 3
 |_,_ => .spare 0 1
def JL (es:List (List AC))(n:Nat):List Ob:=[.dead,.dead,.dead,.box [.emp,.emp],.box [.own es 5],.spare n 3,.spare 0 1,.spare 0 1,.spare 0 1,.spare 0 1,.spare 0 1,.spare 0 1,.spare 0 1,.spare 0 1,.spare 0 1,.spare 0 1,.spare 0 1]
theorem xI (l:List ap):∀ i,i<17->(OJ i l).below 17
 |0,_=>trivial
 |1,_=>trivial
 |2,_=>trivial
 |3,_=>(by intro x hx;simp at hx;subst hx;trivial)
 |4,_=>(by intro x hx;simp at hx;subst hx;show 5<17;omega)
 |5,_=>trivial
 |i+6,_=>trivial
theorem agC (l:List ap)(i:Nat)(row:List Val)(p:ax)(hl:l.length<=1000000):RTz 53 (Ar OJ l) [.one (.c (.int .i64 (i:Int))),.one (.c (.lst (row.map cV))),.agg ((aO p).map SV.c),.one (.ptr 4 0)] (Ar OJ (l++[⟨row,p⟩])) (.tup []):=by
 have e1:(l++[(⟨row,p⟩:ap)]).map aH=l.map aH++[aH ⟨row,p⟩]:=ark;have e2:(l++[(⟨row,p⟩:ap)]).length=l.length+1:=by simp
 refine bo bE Tryz.func53 rfl rfl Tryz.ntmps53 m5 ?_;simp only[eI];unfold Ar
 repeat' (first|refine st_nil ?_|refine st_pop rfl rfl rfl rfl qp_ ?_|refine st_lop rfl rfl rfl rfl qp_ ?_|refine sS_ rfl rfl rfl qp_ ?_|refine st_lit rfl rfl rfl rfl qp_ ?_|refine st_skip rfl rfl rfl ?_|refine sk0_ rfl rfl ?_|(refine st_if rfl (fun hb=>?_) (fun hb=>?_)<;>(first|exact(fx_ hb).elim|rw[hb]))|refine aw_seq ?_|refine aw_region bE _ rfl ?_|refine aw_drawn2 b7 _ rfl mixed (by decide +kernel) ?_|(refine aw_cond rfl (fun hb=>?_) (fun hb=>?_)<;>(try exact(fx_ hb).elim))|refine aw_block ?_|refine aw_exit ?_|refine aw_ret ?_|refine aw_skip ?_|fail)
 exact⟨.inl rfl,⟨.inr ⟨.tup [],⟨t7,rfl⟩,rfl⟩,⟨[_],by show _=JL ((l++[(⟨row,p⟩:ap)]).map aH) (l++[(⟨row,p⟩:ap)]).length++[_];rw[e1,e2];rfl⟩,aro _,fun x hx=>fk (xI _) x hx,t7⟩⟩
def aqv (ks fs gs:List (List AC))(n m q:Nat):List Ob:=[.dead,.dead,.dead,.box [.own ks 19,.own fs 20],.dead,.spare q 3,.spare 0 1,.spare 0 1,.spare 0 1,.spare 0 1,.spare 0 1,.spare 0 1,.spare 0 1,.spare 0 1,.spare 0 1,.spare 0 1,.spare 0 1,.spare n 1,.box [.own ks 19,.own fs 20],.spare n 1,.spare m 3]
theorem NP (a b:aW)(e:Ex)(ha:a.facts.length<=1000)(hb:b.facts.length<=1000)(hra:∀ f∈a.facts,0<f.row.length/\f.row.length<=1000)(hrb:∀ f∈b.facts,f.row.length<=1000)(he:cS fuel e)(hka:a.kinds.length<=1000)(hkb:b.kinds.length<=1000){r:List ap}(H:qq (rp e a.facts b.facts)=some r) :
  ∃ gs q,RTz 18 [] [.agg ((aV a).map SV.c),.agg ((aV b).map SV.c),.agg ((tE e).map SV.c)] (aqv ((a.kinds++b.kinds).map fun x=>[AC.int .i64 x]) (r.map aH) gs (a.kinds++b.kinds).length r.length q) (.agg [.own ((a.kinds++b.kinds).map fun x=>[AC.int .i64 x]) 19,.own (r.map aH) 20]):=by
 have R4:=NT (fun i l=>OJ i l) 53 agl (fun n l=>l.length<=n) a b e (fun l=>xI l) (fun n l i row p hl hn _=>⟨agC l i row p m0,by unfold agl;simp;omega⟩) (fun n l h=>by omega) ha hb hra hrb he [] m5;rw[ahy,ay e]at R4;have Vq:=akE (k:=a.kinds++b.kinds) (by rw[ard];omega) H;have hkl:(a.kinds++b.kinds).length=(a.kinds.map fun x=>[AC.int .i64 x]).length+(b.kinds.map fun x=>[AC.int .i64 x]).length:=by simp
 have hkm:(a.kinds++b.kinds).map (fun x=>[AC.int .i64 x])=a.kinds.map (fun x=>[AC.int .i64 x])++b.kinds.map (fun x=>[AC.int .i64 x]):=ark;rw[hkl,hkm]at Vq ⊢;generalize rp e a.facts b.facts=jl at R4 Vq;refine⟨jl.map aH,jl.length,?_⟩;rw[ay e];refine uR bE Tryz.func18 rfl rfl Tryz.ntmps18 m5 ?_;simp only[eI,aV,ari,arn]
 repeat' (first|(refine aS 0 (ts:=aV a) rfl rfl ?_)|(refine aS 1 (ts:=aV b) rfl rfl ?_)|(refine aS 2 (ts:=xE e) rfl rfl ?_)|(refine yi 4 0 3 rfl rfl ?_;refine zf 1 11 _ ?_)|(refine ci rfl rfl rfl rfl rfl (qc (caps:=[.ptr 4 0]) rfl) ?_)|(refine ye 17 (Ar (fun i l=>OJ i l) []) (Ar (fun i l=>OJ i l) jl) [] rfl rfl rfl rfl rfl R4 rfl rfl (fk (xI _)) (fk (xI _)) (bY ⟨(fun z hz=>by obtain⟨w,_,rfl⟩:=arK.1 (show z∈(aV a).map SV.c from hz);trivial),(fun z hz=>by obtain⟨w,_,rfl⟩:=arK.1 (show z∈(aV b).map SV.c from hz);trivial),(fun z hz=>by obtain⟨w,_,rfl⟩:=arK.1 (show z∈(xE e).map SV.c from hz);trivial),(by intro x hx;simp at hx;subst hx;show 4<17;omega),t7⟩) ?_)|(refine aS 4 (ts:=[.lst (jl.map aH)]) rfl rfl ?_)|(refine cK [17] rfl rfl rfl rfl Vq rfl ⟨rfl,m5,fun i x hx=>by(match i,hx with|0,hx=>obtain rfl:=arH hx;rfl|i+1,hx=>simp at hx),bw ⟨t7,t7⟩,bY ⟨(by show 0<1;omega),t7,t7⟩⟩ rfl rfl ?_)|refine st_nil ?_|refine st_pop rfl rfl rfl rfl qp_ ?_|refine st_lop rfl rfl rfl rfl qp_ ?_|refine sS_ rfl rfl rfl qp_ ?_|refine st_lit rfl rfl rfl rfl qp_ ?_|refine st_skip rfl rfl rfl ?_|refine sk0_ rfl rfl ?_|(refine st_if rfl (fun hb=>?_) (fun hb=>?_)<;>(first|exact(fx_ hb).elim|rw[hb]))|refine aw_seq ?_|refine aw_region bE _ rfl ?_|refine aw_drawn2 b7 _ rfl mixed (by decide +kernel) ?_|(refine aw_cond rfl (fun hb=>?_) (fun hb=>?_)<;>(try exact(fx_ hb).elim))|refine aw_block ?_|refine aw_exit ?_|refine aw_ret ?_|refine aw_skip ?_|fail)
 exact⟨.inr rfl,⟨.inr ⟨6,_,3,0,_,rfl,rfl,rfl,by repeat' (first|exact t7|rfl|exact arh rfl|omega|apply And.intro)⟩,⟨[],rfl⟩,aru _,fi rfl,hY rfl⟩⟩
def vW:Nat:=83+65536
def OS (n:Nat)(rw:Ob)(f:Nat->Nat):Nat->Ob
 |0 => .dead
 |1 => .dead
 |2 => .dead
 |3=>rw
 |4 => .box [.sl 3 vW 0 n]
 |i+5 => .spare (f i) 2
def rwP (ps:List (List ax)):Ob := .row vW (k6 5 ((ps.take 12).map fun l=>l.map aO)) 1
def OP (n:Nat)(i:Nat)(ps:List (List ax)):Ob:=OS n (rwP ps) (fun k=>(ps.getD k []).length) i
theorem xT (n:Nat)(ps:List (List ax)):∀ i,i<17->(OP n i ps).below 17
 |0,_=>trivial
 |1,_=>trivial
 |2,_=>trivial
 |3,_=>acv _ _ _ _ (by rw[arj,ar3];omega)
 |4,_=>(by intro x hx;simp at hx;subst hx;show 3<17;omega)
 |i+5,_=>trivial
theorem ann (n:Nat)(rw:Ob)(f:Nat->Nat)(G:List Ob){i:Nat}(hi:i<12):(M17 (OS n rw f)++G)[5+i]?=some (.spare (f i) 2):=by
 rw[akH _ _ m0,Nat.add_comm];rfl
theorem anT (n:Nat)(rw:Ob)(f:Nat->Nat)(G:List Ob){i:Nat}(hi:i<12)(m:Nat):(M17 (OS n rw f)++G).set (5+i) (.spare m 2)=M17 (OS n rw fun k=>if k=i then m else f k)++G:=by
 rw[alW _ _ m0];congr 1;refine aeX fun k _=>?_
 match k with
 |0=>rw[if_neg m0];rfl
 |1=>rw[if_neg m0];rfl
 |2=>rw[if_neg m0];rfl
 |3=>rw[if_neg m0];rfl
 |4=>rw[if_neg m0];rfl
 |k+5 =>
  show(if k+5=5+i then Ob.spare m 2 else .spare (f k) 2) = .spare (if k=i then m else f k) 2;by_cases h:k=i
  ·rw[if_pos m0,if_pos h]
  ·rw[if_neg m0,if_neg h]
theorem agn (n:Nat)(ps:List (List ax))(i:Nat)(row:List Val)(p:ax)(hn:ps.length=n)(hn12:n<=12)(hi:i<n)(hl:∀ l∈ps,l.length<=1000000):RTz 99 (Ar (fun i ps=>OP n i ps) ps) [.one (.c (.int .i64 (i:Int))),.one (.c (.lst (row.map cV))),.agg ((aO p).map SV.c),.one (.ptr 4 0)] (Ar (fun i ps=>OP n i ps) (mP ps i row p)) (.tup []):=by
 obtain⟨l,Ui⟩:=gol_ (l:=ps) (i:=i) m0;have hll:=hl l (arb Ui);have hgd:ps.getD i []=l:=by rw[ar_,Ui];rfl
 have htk:ps.take 12=ps:=arP m0;have hrw:rwP ps = .row vW (k6 5 (ps.map fun l=>l.map aO)) 1:=by unfold rwP;rw[htk]
 have Ue:(k6 5 (ps.map fun l=>l.map aO))[0+((i:Nat):Int).toNat]?=some [.own (l.map aO) (5+i)]:=by
  rw[arS,Int.toNat_natCast];exact NY _ _ _ _ (by rw[arw,Ui];rfl)
 show Run _ _ (M17 (OS n (rwP ps) fun k=>(ps.getD k []).length)) _ (M17 (OS n (rwP (mP ps i row p)) fun k=>((mP ps i row p).getD k []).length)) _;have hf:(fun k=>((mP ps i row p).getD k []).length)=fun k=>if k=i then l.length+1 else(ps.getD k []).length:=by
  funext k;unfold mP;rw[hgd,ar_,List.getElem?_set];by_cases hk:k=i
  ·subst hk;rw[if_pos rfl,if_pos rfl,if_pos m0];simp
  ·rw[if_neg (Ne.symm hk),if_neg hk,ar_]
 have SL:rwP (mP ps i row p) = .row vW ((k6 5 (ps.map fun l=>l.map aO)).set (0+((i:Nat):Int).toNat) [.own (l.map aO++[aO p]) (5+i)]) 1:=by
  unfold rwP mP;rw[arP (by rw[List.length_set];omega),List.map_set,hgd,ark,arS,Int.toNat_natCast,<- LC];rfl
 have UU:∀ x∈M17 (OS n (rwP (mP ps i row p)) fun k=>((mP ps i row p).getD k []).length),x.below 17:=fk (O:=fun i ps=>OP n i ps) (xT n (mP ps i row p));rw[hf,SL]at UU;rw[hf,SL,hrw];have RU:=fun rw G=>ann n rw (fun k=>(ps.getD k []).length) G (i:=i) m0
 have Rz:=fun rw G=>anT n rw (fun k=>(ps.getD k []).length) G (i:=i) m0 (l.length+1)
 simp only[hgd]at RU;generalize (fun k=>(ps.getD k []).length)=f at RU Rz ⊢;refine bo bE Tryz.func99 rfl rfl Tryz.ntmps99 m5 ?_;simp only[eI]
 repeat' (first|(refine lY rfl rfl rfl rfl rfl rfl rfl (e:=[.own (l.map aO) (5+i)]) (by exact Ue) rfl ?_)|(refine aj' rfl rfl rfl rfl rfl rfl rfl rfl rfl rfl (RU _ _) ⟨rfl,rfl,arj .., ⟨rfl,m0⟩,(by intro e he;simp at he;subst he;rfl),by(simp only[arv,arE];omega),by(simp only[arv,arE];omega)⟩ (Rz _ _) ?_)|(refine nK rfl rfl rfl rfl rfl rfl (e:=[.own (l.map aO) (5+i)]) (by exact Ue) ⟨arh rfl,rfl⟩ rfl ?_)|refine st_nil ?_|refine st_pop rfl rfl rfl rfl qp_ ?_|refine st_lop rfl rfl rfl rfl qp_ ?_|refine sS_ rfl rfl rfl qp_ ?_|refine st_lit rfl rfl rfl rfl qp_ ?_|refine st_skip rfl rfl rfl ?_|refine sk0_ rfl rfl ?_|(refine st_if rfl (fun hb=>?_) (fun hb=>?_)<;>(first|exact(fx_ hb).elim|rw[hb]))|refine aw_seq ?_|refine aw_region bE _ rfl ?_|refine aw_drawn2 b7 _ rfl mixed (by decide +kernel) ?_|(refine aw_cond rfl (fun hb=>?_) (fun hb=>?_)<;>(try exact(fx_ hb).elim))|refine aw_block ?_|refine aw_exit ?_|refine aw_ret ?_|refine aw_skip ?_|fail)
 exact⟨.inl rfl,⟨.inr ⟨.tup [],⟨t7,rfl⟩,rfl⟩,⟨[.box ((aO p).map SV.c)],rfl⟩,aro _,fun x hx=>UU x hx,t7⟩⟩
theorem amH {P:Program}{N n0:Nat}{c:Code}{Q:AX->Tm->List Ob->Prop}{T:Tm}{L L':List Ob}(h:L=L')(k:Aw P N n0 c Q T L'):Aw P N n0 c Q T L:=h▸k
theorem abe (n:Nat)(hn:n<=12):([Ob.dead,.dead,.dead,.row vW ([]++k6 5 (replicate n [])) 1,.box [.sl 3 vW 0 n]]++yz 2 (replicate n []))++replicate (12-n) (.spare 0 2)=Ar (fun i ps=>OP n i ps) (replicate n []):=by
 have h1:yz 2 (replicate n [])++replicate (12-n) (Ob.spare 0 2)=replicate 12 (.spare 0 2):=by
  unfold yz;rw[List.map_replicate,show Ob.spare ([]:List (List AC)).length 2 = .spare 0 2 from rfl,List.replicate_append_replicate,show n+(12-n)=12 by omega]
 have h2:∀ k,(replicate n ([]:List ax)).getD k []=[]:=fun k=>by
  rw[ar_,List.getElem?_replicate];split<;>rfl
 have h3:rwP (replicate n []) = .row vW ([]++k6 5 (replicate n [])) 1:=by
  unfold rwP;rw[List.take_replicate,Nat.min_eq_right hn,List.map_replicate];rfl
 rw[arA,h1];show _=M17 (OS n (rwP (replicate n [])) fun k=>((replicate n ([]:List ax)).getD k []).length);rw[h3,show(fun k=>((replicate n ([]:List ax)).getD k []).length)=fun _=>0 from funext fun k=>by rw[h2];rfl];rfl
def wG (l:List ax):List AC:=[.lst (l.map aO)]
theorem aeM (ps:List (List ax))(hn:ps.length<=12):ee (k6 5 ((ps.take 12).map fun l=>l.map aO))=some (ps.map wG):=by
 rw[arP hn,ID,List.map_map];rfl
theorem ND (n v k:Nat)(cs:List (List AC)):(Ob.row v (cs.map (List.map SV.c)) k).below n:=by
 intro e he x hx;obtain⟨c,_,rfl⟩:=arK.1 he;obtain⟨y,_,rfl⟩:=arK.1 hx;trivial
theorem wL (a b:aW)(e:Ex)(ha:a.facts.length<=12)(hb:b.facts.length<=1000)(hra:∀ f∈a.facts,0<f.row.length/\f.row.length<=1000)(hrb:∀ f∈b.facts,f.row.length<=1000)(he:cS fuel e) :
  RTz 62 [] [.agg ((aV a).map SV.c),.agg ((aV b).map SV.c),.agg ((tE e).map SV.c)] [.dead,.dead,.dead,.row vW (((a.facts.map (df (cT e) b.facts)).map wG).map (List.map SV.c)) 1] (.one (.sl 3 vW 0 a.facts.length)):=by
 have R4:=NT (fun i ps=>OP a.facts.length i ps) 99 mP (fun n ps=>ps.length=a.facts.length /\ ∀ l∈ps,l.length<=n) a b e (fun ps=>xT _ ps) (fun n ps i row p h hn hi=>⟨agn a.facts.length ps i row p h.1 ha hi (fun l hl=>Nat.le_trans (h.2 l hl) m0),by unfold mP;rw[List.length_set];exact h.1,fun l hl=>by
   unfold mP at hl;rcases List.mem_or_eq_of_mem_set hl with hl|hl
   ·have:=h.2 l hl;omega
   ·subst hl
    rw[ard,List.length_singleton,ar_,arf (by rw[h.1];exact hi)];have:=h.2 _ (List.getElem_mem (by rw[h.1];exact hi));show(ps[i]).length+1<=n+1;omega⟩) (fun n ps h=>⟨h.1,fun l hl=>by have:=h.2 l hl;omega⟩) m0 hb hra hrb he (replicate a.facts.length []) ⟨m5,fun l hl=>by rw[List.eq_of_mem_replicate hl];simp⟩
 rw[ag7,ay e]at R4;have W_:=abe a.facts.length ha;have W3:=aeM (a.facts.map (df (cT e) b.facts)) (by rw[arj];exact ha);generalize a.facts.map (df (cT e) b.facts)=pt at R4 W3 ⊢;rw[ay e];refine bo bE Tryz.func62 rfl rfl Tryz.ntmps62 m5 ?_;simp only[eI,aV,ari,arn]
 repeat' (first|rw[arj]|(refine aS 0 (ts:=aV a) rfl rfl ?_)|(refine aS 1 (ts:=aV b) rfl rfl ?_)|(refine aS 2 (ts:=xE e) rfl rfl ?_)|(refine ci rfl rfl rfl rfl rfl (Jc bE (n:=a.facts.length) rfl rfl rfl m9 rfl rfl rfl rfl m0 m0) ?_)|(refine adk 3 2 vW a.facts.length [] _ rfl ?_;refine zf 2 (12-a.facts.length) _ ?_;refine amH W_ ?_)|(refine ci rfl rfl rfl rfl rfl (qc (caps:=[.ptr 4 0]) rfl) ?_)|(refine ye 17 (Ar (fun i ps=>OP a.facts.length i ps) (replicate a.facts.length [])) (Ar (fun i ps=>OP a.facts.length i ps) pt) [] rfl rfl rfl rfl (by rw[arJ]) R4 rfl rfl (fk (xT _ _)) (fk (xT _ _)) (bY ⟨(fun z hz=>by obtain⟨w,_,rfl⟩:=arK.1 (show z∈(aV a).map SV.c from hz);trivial),(fun z hz=>by obtain⟨w,_,rfl⟩:=arK.1 (show z∈(aV b).map SV.c from hz);trivial),(fun z hz=>by obtain⟨w,_,rfl⟩:=arK.1 (show z∈(xE e).map SV.c from hz);trivial),(by intro x hx;simp at hx;subst hx;show 4<17;omega),t7⟩) ?_)|(refine acs 3 (cs:=pt.map wG) rfl W3 ?_)|refine st_nil ?_|refine st_pop rfl rfl rfl rfl qp_ ?_|refine st_lop rfl rfl rfl rfl qp_ ?_|refine sS_ rfl rfl rfl qp_ ?_|refine st_lit rfl rfl rfl rfl qp_ ?_|refine st_skip rfl rfl rfl ?_|refine sk0_ rfl rfl ?_|(refine st_if rfl (fun hb=>?_) (fun hb=>?_)<;>(first|exact(fx_ hb).elim|rw[hb]))|refine aw_seq ?_|refine aw_region bE _ rfl ?_|refine aw_drawn2 b7 _ rfl mixed (by decide +kernel) ?_|(refine aw_cond rfl (fun hb=>?_) (fun hb=>?_)<;>(try exact(fx_ hb).elim))|refine aw_block ?_|refine aw_exit ?_|refine aw_ret ?_|refine aw_skip ?_|fail)
 exact⟨by first|exact .inl rfl|exact .inr rfl,⟨.inl ⟨6,rfl,rfl⟩,⟨_,rfl⟩,aru _,bw ⟨t7,t7,t7,ND _ _ _ _,t7⟩,(by show 3<4;omega)⟩⟩
theorem Gv (a b:aW)(e:Ex)(ha:a.facts.length<=12)(hb:b.facts.length<=1000)(hra:∀ f∈a.facts,0<f.row.length/\f.row.length<=1000)(hrb:∀ f∈b.facts,f.row.length<=1000)(he:cS fuel e):PTz 62 [.agg (aV a),.agg (aV b),.agg (tE e)] (.val (.one (.lst ((a.facts.map (df (cT e) b.facts)).map wG)))):=by
 have h:=wL a b e ha hb hra hrb he;refine⟨h.1,fun R w vs hR hs hv=>?_⟩;have hi:Inv (· <w.heap.size) R [] [] w:=⟨rfl,hR,fun id x g hx=>by simp at hx,fun i j g1 g2 h1=>by simp at h1,fun i g b h1=>by simp at h1,fun b hb=>hb⟩;refine(h.2 (· <w.heap.size) R [] w vs hi (by simpa using hs) fun j v x UC hx=>?_).mono ?_
 ·match j,hx with
  |0,hx=>obtain rfl:=arH hx;exact PV.av_rep (p := .agg (aV a)) (hv 0 v _ UC rfl)
  |1,hx=>obtain rfl:=arH hx;exact PV.av_rep (p := .agg (aV b)) (hv 1 v _ UC rfl)
  |2,hx=>obtain rfl:=arH hx;exact PV.av_rep (p := .agg (tE e)) (hv 2 v _ UC rfl)
  |j+3,hx=>simp at hx
 ·rintro e1 w' ⟨v,R',γ',rfl,i1,i2,i3,i4⟩
  have hL:([Ob.dead,.dead,.dead,.row vW (((a.facts.map (df (cT e) b.facts)).map wG).map (List.map SV.c)) 1]:List Ob)[3]?=some (.row vW (((a.facts.map (df (cT e) b.facts)).map wG).map (List.map SV.c)) 1):=rfl;obtain⟨R2,γ2,hI,hE,hM,hS⟩:=nB i1 hL (je _);refine⟨v,R2,rfl,i2.trans hE,hI.val,?_⟩;have:=hS 0 a.facts.length v i4;rw[List.drop_zero,arP m5]at this;exact this
theorem ajd (x y:Bool):PTz 154 ([.one (.bool x),.one (.bool y)]++([]:List AC).map .one) (.val (.one (.bool (x && !y)))):=by
 refine pa_ bE Tryz.func154 rfl rfl Tryz.ntmps154 m5 ?_;simp only[argT,PV.av,ari,arn,arJ]
 cases x<;>cases y
 ·skip
  repeat' (first|refine st_nil ?_|refine st_pop rfl rfl rfl rfl qp_ ?_|refine st_lop rfl rfl rfl rfl qp_ ?_|refine sS_ rfl rfl rfl qp_ ?_|refine st_lit rfl rfl rfl rfl qp_ ?_|refine st_skip rfl rfl rfl ?_|refine sk0_ rfl rfl ?_|(refine st_if rfl (fun hb=>?_) (fun hb=>?_)<;>(first|exact(fx_ hb).elim|rw[hb]))|refine aw_seq ?_|refine aw_region bE _ rfl ?_|refine aw_drawn2 b7 _ rfl mixed (by decide +kernel) ?_|(refine aw_cond rfl (fun hb=>?_) (fun hb=>?_)<;>(try exact(fx_ hb).elim))|refine aw_block ?_|refine aw_exit ?_|refine aw_ret ?_|refine aw_skip ?_|fail)
  exact⟨.inr rfl,⟨t7,t7⟩,rfl⟩
 ·skip
  repeat' (first|refine st_nil ?_|refine st_pop rfl rfl rfl rfl qp_ ?_|refine st_lop rfl rfl rfl rfl qp_ ?_|refine sS_ rfl rfl rfl qp_ ?_|refine st_lit rfl rfl rfl rfl qp_ ?_|refine st_skip rfl rfl rfl ?_|refine sk0_ rfl rfl ?_|(refine st_if rfl (fun hb=>?_) (fun hb=>?_)<;>(first|exact(fx_ hb).elim|rw[hb]))|refine aw_seq ?_|refine aw_region bE _ rfl ?_|refine aw_drawn2 b7 _ rfl mixed (by decide +kernel) ?_|(refine aw_cond rfl (fun hb=>?_) (fun hb=>?_)<;>(try exact(fx_ hb).elim))|refine aw_block ?_|refine aw_exit ?_|refine aw_ret ?_|refine aw_skip ?_|fail)
  exact⟨.inr rfl,⟨t7,t7⟩,rfl⟩
 ·skip
  repeat' (first|refine st_nil ?_|refine st_pop rfl rfl rfl rfl qp_ ?_|refine st_lop rfl rfl rfl rfl qp_ ?_|refine sS_ rfl rfl rfl qp_ ?_|refine st_lit rfl rfl rfl rfl qp_ ?_|refine st_skip rfl rfl rfl ?_|refine sk0_ rfl rfl ?_|(refine st_if rfl (fun hb=>?_) (fun hb=>?_)<;>(first|exact(fx_ hb).elim|rw[hb]))|refine aw_seq ?_|refine aw_region bE _ rfl ?_|refine aw_drawn2 b7 _ rfl mixed (by decide +kernel) ?_|(refine aw_cond rfl (fun hb=>?_) (fun hb=>?_)<;>(try exact(fx_ hb).elim))|refine aw_block ?_|refine aw_exit ?_|refine aw_ret ?_|refine aw_skip ?_|fail)
  exact⟨.inr rfl,⟨t7,t7⟩,rfl⟩
 ·skip
  repeat' (first|refine st_nil ?_|refine st_pop rfl rfl rfl rfl qp_ ?_|refine st_lop rfl rfl rfl rfl qp_ ?_|refine sS_ rfl rfl rfl qp_ ?_|refine st_lit rfl rfl rfl rfl qp_ ?_|refine st_skip rfl rfl rfl ?_|refine sk0_ rfl rfl ?_|(refine st_if rfl (fun hb=>?_) (fun hb=>?_)<;>(first|exact(fx_ hb).elim|rw[hb]))|refine aw_seq ?_|refine aw_region bE _ rfl ?_|refine aw_drawn2 b7 _ rfl mixed (by decide +kernel) ?_|(refine aw_cond rfl (fun hb=>?_) (fun hb=>?_)<;>(try exact(fx_ hb).elim))|refine aw_block ?_|refine aw_exit ?_|refine aw_ret ?_|refine aw_skip ?_|fail)
  exact⟨.inr rfl,⟨t7,t7⟩,rfl⟩
theorem akL (x y:Bool):PTz 101 ([.one (.bool x),.one (.bool y)]++([]:List AC).map .one) (.val (.one (.bool x))):=by
 refine pa_ bE Tryz.func101 rfl rfl Tryz.ntmps101 m5 ?_;simp only[argT,PV.av,ari,arn,arJ]
 repeat' (first|refine st_nil ?_|refine st_pop rfl rfl rfl rfl qp_ ?_|refine st_lop rfl rfl rfl rfl qp_ ?_|refine sS_ rfl rfl rfl qp_ ?_|refine st_lit rfl rfl rfl rfl qp_ ?_|refine st_skip rfl rfl rfl ?_|refine sk0_ rfl rfl ?_|(refine st_if rfl (fun hb=>?_) (fun hb=>?_)<;>(first|exact(fx_ hb).elim|rw[hb]))|refine aw_seq ?_|refine aw_region bE _ rfl ?_|refine aw_drawn2 b7 _ rfl mixed (by decide +kernel) ?_|(refine aw_cond rfl (fun hb=>?_) (fun hb=>?_)<;>(try exact(fx_ hb).elim))|refine aw_block ?_|refine aw_exit ?_|refine aw_ret ?_|refine aw_skip ?_|fail)
 exact⟨.inr rfl,⟨t7,t7⟩,rfl⟩
theorem air {c:ap->ap->Bool}{b:List ap}{x:ap}(hx:aw x.valid=true)(hb:b.length<=1000):PTz 96 [.one (.lst [aO x.valid]),.one (.lst ((df c b x).map aO))] (.val (.one (.lst ((gM c b x).map aO)))):=by
 have hlp:(df c b x).length<=1000:=Nat.le_trans (Bz c b x) hb;obtain⟨E,hp,hs,Xg⟩:=D7 [x.valid] (df c b x) m5 hlp;have hE:E.length<=4000:=by rw[hp.length_eq];have:=OI [x.valid] (df c b x);simp at this;omega
 have VZ:=E5 (fun p q=>p && !q) 154 [] ajd [x.valid] (df c b x) E hp hs hE Xg;rw[agW hx hp hs (aro _)]at VZ;refine pa_ bE Tryz.func96 rfl rfl Tryz.ntmps96 m5 ?_;simp only[argT,PV.av,ari,arn]
 repeat' (first|refine aN rfl rfl rfl rfl VZ rfl ?_|refine st_nil ?_|refine st_pop rfl rfl rfl rfl qp_ ?_|refine st_lop rfl rfl rfl rfl qp_ ?_|refine sS_ rfl rfl rfl qp_ ?_|refine st_lit rfl rfl rfl rfl qp_ ?_|refine st_skip rfl rfl rfl ?_|refine sk0_ rfl rfl ?_|(refine st_if rfl (fun hb=>?_) (fun hb=>?_)<;>(first|exact(fx_ hb).elim|rw[hb]))|refine aw_seq ?_|refine aw_region bE _ rfl ?_|refine aw_drawn2 b7 _ rfl mixed (by decide +kernel) ?_|(refine aw_cond rfl (fun hb=>?_) (fun hb=>?_)<;>(try exact(fx_ hb).elim))|refine aw_block ?_|refine aw_exit ?_|refine aw_ret ?_|refine aw_skip ?_|fail)
 exact⟨.inr rfl,⟨t7,t7⟩,rfl⟩
theorem aj6 {l r:List ax}(VZ:PTz 100 [.one (MB l),.one (MB []),.one (.fn 101 [])] (.val (.one (.lst (r.map aO))))):PTz 63 [.one (.lst (l.map aO))] (.val (.one (.lst (r.map aO)))):=by
 refine pa_ bE Tryz.func63 rfl rfl Tryz.ntmps63 m5 ?_;simp only[argT,PV.av,ari,arn]
 repeat' (first|refine aN rfl rfl rfl rfl VZ rfl ?_|refine st_nil ?_|refine st_pop rfl rfl rfl rfl qp_ ?_|refine st_lop rfl rfl rfl rfl qp_ ?_|refine sS_ rfl rfl rfl qp_ ?_|refine st_lit rfl rfl rfl rfl qp_ ?_|refine st_skip rfl rfl rfl ?_|refine sk0_ rfl rfl ?_|(refine st_if rfl (fun hb=>?_) (fun hb=>?_)<;>(first|exact(fx_ hb).elim|rw[hb]))|refine aw_seq ?_|refine aw_region bE _ rfl ?_|refine aw_drawn2 b7 _ rfl mixed (by decide +kernel) ?_|(refine aw_cond rfl (fun hb=>?_) (fun hb=>?_)<;>(try exact(fx_ hb).elim))|refine aw_block ?_|refine aw_exit ?_|refine aw_ret ?_|refine aw_skip ?_|fail)
 exact⟨.inr rfl,⟨t7,t7⟩,rfl⟩
def encS (l:List ax):List SV:=[.c (.lst (l.map aO))]
theorem adj (ps:List (List ax)):(ps.map wG).map (List.map SV.c)=ps.map encS:=by rw[List.map_map];rfl
theorem C6 (n v k:Nat)(ps:List (List ax)):(Ob.row v (ps.map encS) k).below n:=by
 intro e he x hx;obtain⟨y,_,rfl⟩:=arK.1 he;simp[encS]at hx;subst hx;trivial
theorem aoI (L:List Ob)(v:Nat)(ps:List (List ax)):joinL [] L [.dead,.dead,.dead,.row v (ps.map encS) 1]=L++[.dead,.dead,.dead,.row v (ps.map encS) 1]:=by
 have:∀ σ,Ob.ren σ (.row v (ps.map encS) 1) = .row v (ps.map encS) 1:=fun σ=>by
  show Ob.row v ((ps.map encS).map (List.map (SV.ren σ))) 1=_;rw[List.map_map];rfl
 simp[joinL,join,dr,this]
 first|rfl|exact⟨rfl,rfl,rfl⟩
def Ec (al pt:List (List ax))(i:Nat):List (List ax):=al.take i++pt.drop i
theorem alq {al pt:List (List ax)}{i:Nat}{x:List ax}(h:al.length=pt.length)(hx:al[i]?=some x):((Ec al pt i).map encS).set (0+((i:Nat):Int).toNat) (encS x)=(Ec al pt (i+1)).map encS:=by
 have hi:i<al.length:=(aq6.1 hx).1;rw[arS,Int.toNat_natCast,<- List.map_set];congr 1;unfold Ec;have hl:(al.take i).length=i:=by rw[ar3];omega
 rw[List.set_append_right _ _ m0,hl,Nat.sub_self,arG m0,List.set_cons_zero,bR hx,arA];rfl
theorem akz {al pt:List (List ax)}{i:Nat}{y:List ax}(h:al.length=pt.length)(hy:pt[i]?=some y):((Ec al pt i).map encS)[0+((i:Nat):Int).toNat]?=some (encS y):=by
 have hi:i<pt.length:=(aq6.1 hy).1;rw[arS,Int.toNat_natCast,arw];unfold Ec;have hl:(al.take i).length=i:=by rw[ar3];omega
 rw[arc m0,hl,Nat.sub_self,arW,Nat.add_zero,hy];rfl
theorem akd {al pt:List (List ax)}(h:al.length=pt.length){i:Nat}(hi:i<=pt.length):((Ec al pt i).map encS).length=pt.length:=by
 unfold Ec;rw[arj,ard,ar3,List.length_drop];omega
theorem abl (ps:List (List ax)):ee (ps.map encS)=some (ps.map wG):=by
 rw[<- adj];exact je _
def AT (a:aW)(n i:Nat):Tm:=[(7,.one (.sl 6 vW 0 n)),(15,.one (.c (.lst (a.facts.map aH)))),(16,.one (.c (.int .i64 n))),(17,.one (.c (.int .i64 i)))]
theorem aap (a:aW)(n i:Nat):gK 7 (AT a n i):=⟨(by show 6<7;omega),t7,t7,t7,t7⟩
def ALs (ps:List (List ax)):List Ob:=[.dead,.dead,.dead,.dead,.dead,.dead,.row vW (ps.map encS) 1]
theorem FS (a b:aW)(e:Ex)(ha:a.facts.length<=12)(hb:b.facts.length<=1000)(hra:∀ f∈a.facts,0<f.row.length/\f.row.length<=1000)(hrb:∀ f∈b.facts,f.row.length<=1000)(hv:∀ f∈a.facts,aw f.valid=true)(he:cS fuel e):PTz 58 [.agg (aV a),.agg (aV b),.agg (tE e)] (.val (.one (.lst ((a.facts.map (gM (cT e) b.facts)).map wG)))):=by
 have W4:=wL a b e ha hb hra hrb he;rw[adj,ay e]at W4;have hlp:(a.facts.map (df (cT e) b.facts)).length=a.facts.length:=arj ..;have Wt:(a.facts.map (gM (cT e) b.facts)).length=(a.facts.map (df (cT e) b.facts)).length:=by rw[arj,arj]
 rw[ay e];refine pa_ bE Tryz.func58 rfl rfl Tryz.ntmps58 m5 ?_;simp only[argT,PV.av,aV,ari,arn]
 repeat' (first|rw[arj]|(refine aS 0 (ts:=aV a) rfl rfl ?_)|(refine aS 1 (ts:=aV b) rfl rfl ?_)|(refine aS 2 (ts:=xE e) rfl rfl ?_)|(refine cK [] rfl rfl rfl rfl W4 rfl ⟨rfl,List.nodup_nil,fun i y hy=>by simp at hy,fun x hx=>(by cases hx),bY ⟨(fun z hz=>by obtain⟨w,_,rfl⟩:=arK.1 (show z∈(aV a).map SV.c from hz);trivial),(fun z hz=>by obtain⟨w,_,rfl⟩:=arK.1 (show z∈(aV b).map SV.c from hz);trivial),(fun z hz=>by obtain⟨w,_,rfl⟩:=arK.1 (show z∈(xE e).map SV.c from hz);trivial),t7⟩⟩ rfl (aoI _ _ _) ?_)|refine st_nil ?_|refine st_pop rfl rfl rfl rfl qp_ ?_|refine st_lop rfl rfl rfl rfl qp_ ?_|refine sS_ rfl rfl rfl qp_ ?_|refine st_lit rfl rfl rfl rfl qp_ ?_|refine st_skip rfl rfl rfl ?_|refine sk0_ rfl rfl ?_|(refine st_if rfl (fun hb=>?_) (fun hb=>?_)<;>(first|exact(fx_ hb).elim|rw[hb]))|refine aw_seq ?_|refine aw_region bE _ rfl ?_|refine aw_drawn2 b7 _ rfl mixed (by decide +kernel) ?_|(refine aw_cond rfl (fun hb=>?_) (fun hb=>?_)<;>(try exact(fx_ hb).elim))|refine aw_block ?_|refine aw_exit ?_|refine aw_ret ?_|refine aw_skip ?_|fail)
 refine cz (fun i:Nat=>AT a a.facts.length i) (fun i=>ALs (Ec (a.facts.map (gM (cT e) b.facts)) (a.facts.map (df (cT e) b.facts)) i)) (fun i=>i<=a.facts.length) (fun i=>a.facts.length-i) 0 m0 (fun _ _=>aru _)
  (fm_ ⟨rfl,rfl,aU m5,rfl,t7⟩ [] (by simp[Ec,ALs]) (aap _ _ _) ⟨t7,t7,t7,t7,t7,t7,C6 _ _ _ _,t7⟩) ?_
 intro i hi;unfold AT ALs;by_cases OZ:i<a.facts.length
 ·obtain⟨x,hx⟩:=gol_ OZ
  have hxa:(a.facts.map (gM (cT e) b.facts))[i]?=some (gM (cT e) b.facts x):=by rw[arw,hx];rfl
  have hxp:(a.facts.map (df (cT e) b.facts))[i]?=some (df (cT e) b.facts x):=by rw[arw,hx];rfl
  have Q6:=air (c:=cT e) (hv x (arb hx)) hb;have RU:=akz Wt hxp;have Rz:=alq Wt hxa;have Zr:=akd Wt (i:=i) m0;rw[hlp]at Zr;generalize a.facts.map (gM (cT e) b.facts)=al at hxa RU Rz Zr Wt ⊢;generalize a.facts.map (df (cT e) b.facts)=pt at hxp RU Rz Zr Wt hlp ⊢
  repeat' (first|(refine lY rfl rfl rfl rfl rfl rfl rfl (e:=encS (df (cT e) b.facts x)) (by exact RU) rfl ?_)|(refine nK rfl rfl rfl rfl rfl rfl (e:=encS (df (cT e) b.facts x)) (by exact RU) ⟨arh rfl,rfl⟩ rfl ?_)|(refine bB rfl rfl rfl rfl rfl rfl rfl rfl (bv hx) ?_ ?_;· exact⟨m0,rfl⟩)|refine aN rfl rfl rfl rfl Q6 rfl ?_|refine st_nil ?_|refine st_pop rfl rfl rfl rfl qp_ ?_|refine st_lop rfl rfl rfl rfl qp_ ?_|refine sS_ rfl rfl rfl qp_ ?_|refine st_lit rfl rfl rfl rfl qp_ ?_|refine st_skip rfl rfl rfl ?_|refine sk0_ rfl rfl ?_|(refine st_if rfl (fun hb=>?_) (fun hb=>?_)<;>(first|exact(fx_ hb).elim|rw[hb]))|refine aw_seq ?_|refine aw_region bE _ rfl ?_|refine aw_drawn2 b7 _ rfl mixed (by decide +kernel) ?_|(refine aw_cond rfl (fun hb=>?_) (fun hb=>?_)<;>(try exact(fx_ hb).elim))|refine aw_block ?_|refine aw_exit ?_|refine aw_ret ?_|refine aw_skip ?_|fail)
  exact⟨i+1,m0,m0,fm_ ⟨rfl,rfl,rfl,aU (a7 m0 m0),t7⟩ [_] (by rw[<- Rz];rfl) (aap _ _ _) ⟨t7,t7,t7,t7,t7,t7,C6 _ _ _ _,t7⟩⟩
 ·have Qo:i=a.facts.length:=m0
  have hmx:Ec (a.facts.map (gM (cT e) b.facts)) (a.facts.map (df (cT e) b.facts)) i=a.facts.map (gM (cT e) b.facts):=by
   unfold Ec;rw[arP (by rw[arj];omega),List.drop_eq_nil_of_le (by rw[arj];omega),arJ]
  rw[hmx,Qo];refine jK 6 7 (cs:=(a.facts.map (gM (cT e) b.facts)).map wG) rfl (abl _) rfl m5 ?_
  repeat' (first|refine st_nil ?_|refine st_pop rfl rfl rfl rfl qp_ ?_|refine st_lop rfl rfl rfl rfl qp_ ?_|refine sS_ rfl rfl rfl qp_ ?_|refine st_lit rfl rfl rfl rfl qp_ ?_|refine st_skip rfl rfl rfl ?_|refine sk0_ rfl rfl ?_|(refine st_if rfl (fun hb=>?_) (fun hb=>?_)<;>(first|exact(fx_ hb).elim|rw[hb]))|refine aw_seq ?_|refine aw_region bE _ rfl ?_|refine aw_drawn2 b7 _ rfl mixed (by decide +kernel) ?_|(refine aw_cond rfl (fun hb=>?_) (fun hb=>?_)<;>(try exact(fx_ hb).elim))|refine aw_block ?_|refine aw_exit ?_|refine aw_ret ?_|refine aw_skip ?_|fail)
  refine⟨.inr rfl,?_⟩
  first|exact⟨t7,rfl⟩|exact⟨⟨t7,t7⟩,rfl⟩|(refine⟨?_,rfl⟩;repeat' (first|exact t7|rfl|apply And.intro))
structure y_ (a b:aW)(e:Ex):Prop where
 ha:a.facts.length<=12
 hb:b.facts.length<=1000
 hra:∀ f∈a.facts,0<f.row.length/\f.row.length<=1000
 hrb:∀ f∈b.facts,f.row.length<=1000
 hv:∀ f∈a.facts,aw f.valid=true
 he:cS fuel e
 hka:a.kinds.length<=1000
 hkb:b.kinds.length<=1000
open Classical in
noncomputable def ael (a b:aW)(e:Ex):Option (List (List ax)):=if y_ a b e then some (a.facts.map (df (cT e) b.facts))else none
theorem ahQ {a b:aW}{e:Ex}{r:List (List ax)}(H:ael a b e=some r):PTz 62 [.agg (aV a),.agg (aV b),.agg (tE e)] (.val (.one (.lst (r.map (fun x=>[AC.lst (x.map aO)]))))):=by
 unfold ael at H;split at H
 ·rename_i h;obtain rfl:=arH H;exact Gv a b e h.ha h.hb h.hra h.hrb h.he
 ·cases H
open Classical in
noncomputable def adN (a b:aW)(e:Ex):Option (List (List ax)):=if y_ a b e then some (a.facts.map (gM (cT e) b.facts))else none
theorem aje {a b:aW}{e:Ex}{r:List (List ax)}(H:adN a b e=some r):PTz 58 [.agg (aV a),.agg (aV b),.agg (tE e)] (.val (.one (.lst (r.map (fun x=>[AC.lst (x.map aO)]))))):=by
 unfold adN at H;split at H
 ·rename_i h;obtain rfl:=arH H;exact FS a b e h.ha h.hb h.hra h.hrb h.hv h.he
 ·cases H
def spS (l:List ax):List ax:=g7 (fun p _=>p) l [] (kh l []) []
theorem xW (l:List ax):cg (spS l) /\ ∀ t,dW (spS l) t=dW l t:=by
 obtain⟨h1,h2⟩:=tg (fun p _=>p) l [];refine⟨h1,fun t=>?_⟩;show dW (g7 _ l [] (kh l []) []) t=_;rw[h2]
 cases h:dW l t with
 |false=>simp
 |true =>
  obtain⟨p,_,hp,h3,h4⟩:=(db l t).1 h;have:=gJ hp;rw[aq_ (show 0<=t by omega),aq_ (show t<1099511627776 by omega)];rfl
theorem ak3 {c:ap->ap->Bool}{b:List ap}{x:ap}(hx:aw x.valid=true):spS (df c b x)=FO c b x :=
 ng (xW _).1 (xH hx).1 fun t=>by rw[(xW _).2,(xH hx).2]
theorem afZ {l:List ax}{E:List E3}(hp:E.Perm (rH l []))(hs:mL E){n:Nat}(hn:E.length+2<=n):ig (fun p _=>p) n E 0 0 0 []=spS l:=by
 obtain⟨h1,h2⟩:=Du (fun p _=>p) hp hs hn;refine ng h1 (xW l).1 fun t=>?_
 rw[h2,(xW l).2]
 cases h:dW l t with
 |false=>simp
 |true =>
  obtain⟨p,_,hp,h3,h4⟩:=(db l t).1 h;have:=gJ hp;rw[aq_ (show 0<=t by omega),aq_ (show t<1099511627776 by omega)];rfl
theorem ahr (l:List ax)(hl:l.length<=1000):PTz 63 [.one (.lst (l.map aO))] (.val (.one (.lst ((spS l).map aO)))):=by
 obtain⟨E,hp,hs,Xg⟩:=D7 l [] hl m5;have hE:E.length<=4000:=by rw[hp.length_eq];have:=OI l [];simp at this;omega
 have VZ:=E5 (fun p _=>p) 101 [] akL l [] E hp hs hE Xg;rw[afZ hp hs (aro _)]at VZ;exact aj6 VZ
def xN (l:List ax):Option (List ax):=bif decide (l.length<=1000)then some (spS l)else none
theorem abk {l r:List ax}(H:xN l=some r):PTz 63 [.one (.lst (l.map aO))] (.val (.one (.lst (r.map aO)))):=by
 unfold xN at H;obtain⟨g,H⟩:=gR H;obtain rfl:=arH H;exact ahr l (arC g)
open Classical in
noncomputable def kD (a b:aW)(e:Ex):Option aW:=if y_ a b e then(qq (rp e a.facts b.facts)).map fun r=>⟨a.kinds++b.kinds,r⟩else none
theorem lr {a b r:aW}{e:Ex}(H:kD a b e=some r):PTz 18 [.agg (aV a),.agg (aV b),.agg (tE e)] (.val (.agg (aV r))):=by
 unfold kD at H;split at H
 ·rename_i h
  cases hg:qq (rp e a.facts b.facts)with
  |none=>rw[hg]at H;cases H
  |some l =>
   rw[hg]at H;obtain rfl:=arH H;obtain⟨gs,q,O4⟩:=NP a b e (by have:=h.ha;omega) h.hb h.hra h.hrb h.he h.hka h.hkb hg;exact MH O4 rfl
 ·cases H
noncomputable section
def x5 (a_kinds:(List Int))(a_l:(List ap)):Option (aW):=bif (decide (a_kinds.length<=17592186044416))then((qq a_l).bind fun Pg=>some (⟨a_kinds,Pg⟩:aW))else none
instance gRelT_ok {a_kinds : (List Int)} {a_l : (List ap)} {r : aW} : OkC (x5 a_kinds a_l = some r) (PTz 54 [.one (.lst (a_kinds.map (fun x => [AC.int .i64 x]))), .one (.lst (a_l.map aH))] (.val (.agg (aV r)))) := .mk fun H => by
 unfold x5 at H;refine po_ Tryz.func54 Tryz.ntmps54 ?_;exact az H
end
def LT1 (a b:aW)(al:List (List ax))(out:List ap)(i:Nat):Tm:=[(3,.one (.c (.ref (aV a)))),(4,.one (.c (.ref (aV b)))),(6,.one (.ptr 3 0)),(7,.one (.ptr 25 0)),(8,.one (.own (out.map aH) 24)),(22,.one (.c (.lst (al.map wG)))),(23,.one (.c (.int .i64 al.length))),(24,.one (.c (.int .i64 i)))]
theorem HY (a b:aW)(al:List (List ax))(out:List ap)(i:Nat):gK 26 (LT1 a b al out i):=⟨t7,t7,(by show 3<26;omega),(by show 25<26;omega),(by show 24<26;omega),t7,t7,t7,t7⟩
def LT2 (a b:aW)(al:List (List ax))(l:List ax)(out:List ap)(i k:Nat):Tm:=[(3,.one (.c (.ref (aV a)))),(4,.one (.c (.ref (aV b)))),(6,.one (.ptr 3 0)),(7,.one (.ptr 25 0)),(8,.one (.own (out.map aH) 24)),(9,.one (.c (.int .i64 i))),(22,.one (.c (.lst (al.map wG)))),(23,.one (.c (.int .i64 al.length))),(24,.one (.c (.int .i64 i))),(29,.one (.c (.lst (l.map aO)))),(30,.one (.c (.int .i64 l.length))),(31,.one (.c (.int .i64 k)))]
theorem Hu (a b:aW)(al:List (List ax))(l:List ax)(out:List ap)(i k:Nat):gK 26 (LT2 a b al l out i k):=⟨t7,t7,(by show 3<26;omega),(by show 25<26;omega),(by show 24<26;omega),t7,t7,t7,t7,t7,t7,t7,t7⟩
def LL (ks fs:List (List AC))(n q m:Nat):List Ob:=[.dead,.dead,.dead,.box [.emp,.emp],.dead,.dead,.dead,.box [.own ks 23,.own fs 24],.dead,.spare q 3,.spare 0 1,.spare 0 1,.spare 0 1,.spare 0 1,.spare 0 1,.spare 0 1,.spare 0 1,.spare 0 1,.spare 0 1,.spare 0 1,.spare 0 1,.spare n 1,.box [.own ks 23,.own fs 24],.spare n 1,.spare m 3,.box [.own ks 23,.own fs 24]]
theorem xK (ks fs:List (List AC))(n q m:Nat):nP 26 (LL ks fs n q m):=tX (fi rfl)
theorem aiv (e:Ex)(n:Nat)(a b:List ap)(x:ap):kz e n (a++[x]) b=kz e n a b++alX e n b x:=by unfold kz;rw[List.flatMap_append];simp
theorem afF (row:List Val)(l:List ax)(p:ax):bQ row (l++[p])=bQ row l++[⟨row,p⟩]:=by unfold bQ;rw[ark];rfl
theorem afI (a b:aW)(e:Ex)(h:y_ a b e)(R9:1<=b.kinds.length/\b.kinds.length<=48)(V7:b.facts.length<=12){r s:List ap}(H:qq (rp e a.facts b.facts)=some r)(hr:r.length<=1000)(H2:qq (r++kz e b.kinds.length a.facts b.facts)=some s):PTz 20 [.agg (aV a),.agg (aV b),.agg (tE e)] (.val (.agg (aV ⟨a.kinds++b.kinds,s⟩))):=by
 obtain⟨gs,q,W5⟩:=NP a b e (by have:=h.ha;omega) h.hb h.hra h.hrb h.he h.hka h.hkb H;have ZT:=FS a b e h.ha h.hb h.hra h.hrb h.hv h.he;have Vq:=gRelT_ok (a_kinds:=a.kinds++b.kinds) (a_l:=r++kz e b.kinds.length a.facts b.facts) (r:=⟨a.kinds++b.kinds,s⟩) (by
  unfold x5;rw[aq_ (by rw[ard];have:=h.hka;have:=h.hkb;omega),aq8,H2];rfl)
 have hnul:=ach (n:=((b.kinds.length:Nat):Int)) (r:=replicate b.kinds.length bI) (by
  unfold Kv;rw[aq9 m0,aq7,aq9 m0,aq7,Int.toNat_natCast];rfl)
 have PK:∀ x∈a.facts,(gM (cT e) b.facts x).length<=13:=fun x hx=>by have:=Bv (c:=cT e) (b:=b.facts) (h.hv x hx);omega
 have hlal:(a.facts.map (gM (cT e) b.facts)).length=a.facts.length:=arj ..;have hapx:=h.ha;rw[ay e]at W5 ZT;rw[ay e];refine pa_ bE Tryz.func20 rfl rfl Tryz.ntmps20 m5 ?_;simp only[argT,PV.av,aV,ari,arn]
 repeat' (first|(refine aS 0 (ts:=aV a) rfl rfl ?_)|(refine aS 1 (ts:=aV b) rfl rfl ?_)|(refine aS 2 (ts:=xE e) rfl rfl ?_)|(refine cK [] rfl rfl rfl rfl W5 rfl ⟨rfl,List.nodup_nil,fun i y hy=>by simp at hy,fun x hx=>(by cases hx),bY ⟨(fun z hz=>by obtain⟨w,_,rfl⟩:=arK.1 (show z∈(aV a).map SV.c from hz);trivial),(fun z hz=>by obtain⟨w,_,rfl⟩:=arK.1 (show z∈(aV b).map SV.c from hz);trivial),(fun z hz=>by obtain⟨w,_,rfl⟩:=arK.1 (show z∈(xE e).map SV.c from hz);trivial),t7⟩⟩ rfl rfl ?_)|refine aN rfl rfl rfl rfl ZT rfl ?_|refine st_nil ?_|refine st_pop rfl rfl rfl rfl qp_ ?_|refine st_lop rfl rfl rfl rfl qp_ ?_|refine sS_ rfl rfl rfl qp_ ?_|refine st_lit rfl rfl rfl rfl qp_ ?_|refine st_skip rfl rfl rfl ?_|refine sk0_ rfl rfl ?_|(refine st_if rfl (fun hb=>?_) (fun hb=>?_)<;>(first|exact(fx_ hb).elim|rw[hb]))|refine aw_seq ?_|refine aw_region bE _ rfl ?_|refine aw_drawn2 b7 _ rfl mixed (by decide +kernel) ?_|(refine aw_cond rfl (fun hb=>?_) (fun hb=>?_)<;>(try exact(fx_ hb).elim))|refine aw_block ?_|refine aw_exit ?_|refine aw_ret ?_|refine aw_skip ?_|fail)
 have Py:∀ i,(kz e b.kinds.length (a.facts.take i) b.facts).length<=156:=fun i=>qG e _ (by rw[ar3];omega) V7 fun f hf=>h.hv f (asf hf)
 generalize Z6:a.facts.map (gM (cT e) b.facts)=al at hlal ⊢;refine cz (fun i:Nat=>LT1 a b al (r++kz e b.kinds.length (a.facts.take i) b.facts) i) (fun i=>LL ((a.kinds++b.kinds).map fun x=>[AC.int .i64 x]) (r.map aH) (a.kinds++b.kinds).length q (r++kz e b.kinds.length (a.facts.take i) b.facts).length) (fun i=>i<=a.facts.length) (fun i=>a.facts.length-i) 0 m0 (fun _ _=>aru _)
  (fm_ ⟨rfl,rfl,rfl,rfl,mc (by rw[List.take_zero];show _=(r++[]).map aH;rw[arJ]),rfl,aU m5,rfl,t7⟩ [] (by rw[List.take_zero];show _=LL _ _ _ _ (r++[]).length;rw[arJ];rfl) (HY _ _ _ _ _) (xK _ _ _ _ _)) ?_
 intro i hi;by_cases OZ:i<a.facts.length
 ·obtain⟨x,hx⟩:=gol_ OZ
  have XV:=arb hx;have hxr:=h.hra x XV;have YE:(al.map wG)[((i:Nat):Int).toNat]?=some (wG (gM (cT e) b.facts x)):=by rw[Int.toNat_natCast,arw,<- Z6,arw,hx];rfl
  have hl13:=PK x XV;have Qa:kz e b.kinds.length (a.facts.take (i+1)) b.facts=kz e b.kinds.length (a.facts.take i) b.facts++bQ (x.row++replicate b.kinds.length bI) (gM (cT e) b.facts x):=by rw[bR hx,aiv];rfl
  have hsi:=Py i;have ZU:=Ad (zY (x:=x.row) (y:=replicate b.kinds.length bI) m0 (by rw[List.length_replicate];omega));generalize gM (cT e) b.facts x=l at YE hl13 Qa;have ho:(r++kz e b.kinds.length (a.facts.take i) b.facts).length<=1156:=by rw[ard];omega
  have X_:r++kz e b.kinds.length (a.facts.take (i+1)) b.facts=(r++kz e b.kinds.length (a.facts.take i) b.facts)++bQ (x.row++replicate b.kinds.length bI) l:=by rw[Qa,arA]
  generalize r++kz e b.kinds.length (a.facts.take i) b.facts=o at ho X_ ⊢;unfold LT1 LL
  repeat' (first|(refine bB rfl rfl rfl rfl rfl rfl rfl rfl YE ?_ ?_;· exact⟨Int.natCast_nonneg _,rfl⟩)|rw[arj]|refine st_nil ?_|refine st_pop rfl rfl rfl rfl qp_ ?_|refine st_lop rfl rfl rfl rfl qp_ ?_|refine sS_ rfl rfl rfl qp_ ?_|refine st_lit rfl rfl rfl rfl qp_ ?_|refine st_skip rfl rfl rfl ?_|refine sk0_ rfl rfl ?_|(refine st_if rfl (fun hb=>?_) (fun hb=>?_)<;>(first|exact(fx_ hb).elim|rw[hb]))|refine aw_seq ?_|refine aw_region bE _ rfl ?_|refine aw_drawn2 b7 _ rfl mixed (by decide +kernel) ?_|(refine aw_cond rfl (fun hb=>?_) (fun hb=>?_)<;>(try exact(fx_ hb).elim))|refine aw_block ?_|refine aw_exit ?_|refine aw_ret ?_|refine aw_skip ?_|fail)
  refine cz (fun k:Nat=>LT2 a b al l (o++bQ (x.row++replicate b.kinds.length bI) (l.take k)) i k) (fun k=>LL ((a.kinds++b.kinds).map fun x=>[AC.int .i64 x]) (r.map aH) (a.kinds++b.kinds).length q (o++bQ (x.row++replicate b.kinds.length bI) (l.take k)).length) (fun k=>k<=l.length) (fun k=>l.length-k) 0 m0 (fun _ _=>aru _)
   (fm_ ⟨rfl,rfl,rfl,rfl,mc (by rw[List.take_zero];show _=(o++[]).map aH;rw[arJ]),rfl,rfl,rfl,rfl,rfl,aU m5,rfl,t7⟩ [] (by rw[List.take_zero];show _=LL _ _ _ _ (o++[]).length;rw[arJ];rfl) (Hu _ _ _ _ _ _ _) (xK _ _ _ _ _)) ?_
  intro k hk;by_cases hkl:k<l.length
  ·obtain⟨p,hp⟩:=gol_ hkl
   have WJ:o++bQ (x.row++replicate b.kinds.length bI) (l.take (k+1))=(o++bQ (x.row++replicate b.kinds.length bI) (l.take k))++[⟨x.row++replicate b.kinds.length bI,p⟩]:=by rw[bR hp,afF,arA]
   have hfl:(o++bQ (x.row++replicate b.kinds.length bI) (l.take (k+1))).length=(o++bQ (x.row++replicate b.kinds.length bI) (l.take k)).length+1:=by rw[WJ,ard];rfl
   have ho2:(o++bQ (x.row++replicate b.kinds.length bI) (l.take k)).length<=1200:=by unfold bQ;rw[ard,arj,ar3];omega
   generalize o++bQ (x.row++replicate b.kinds.length bI) (l.take k)=o2 at WJ hfl ho2 ⊢;unfold LT2 LL
   repeat' (first|rw[arj]|(refine bB rfl rfl rfl rfl rfl rfl rfl rfl (bv hx) ?_ ?_;· exact⟨m0,rfl⟩)|(refine bB rfl rfl rfl rfl rfl rfl rfl rfl (bv hp) ?_ ?_;· exact⟨m0,rfl⟩)|refine aN rfl rfl rfl rfl hnul rfl ?_|refine aN rfl rfl rfl rfl ZU rfl ?_|refine st_nil ?_|refine st_pop rfl rfl rfl rfl qp_ ?_|refine st_lop rfl rfl rfl rfl qp_ ?_|refine sS_ rfl rfl rfl qp_ ?_|refine st_lit rfl rfl rfl rfl qp_ ?_|refine st_skip rfl rfl rfl ?_|refine sk0_ rfl rfl ?_|(refine st_if rfl (fun hb=>?_) (fun hb=>?_)<;>(first|exact(fx_ hb).elim|rw[hb]))|refine aw_seq ?_|refine aw_region bE _ rfl ?_|refine aw_drawn2 b7 _ rfl mixed (by decide +kernel) ?_|(refine aw_cond rfl (fun hb=>?_) (fun hb=>?_)<;>(try exact(fx_ hb).elim))|refine aw_block ?_|refine aw_exit ?_|refine aw_ret ?_|refine aw_skip ?_|fail)
   exact⟨k+1,m0,m0,fm_ ⟨rfl,rfl,rfl,rfl,mc (by rw[WJ,ark (l₁:=o2)];rfl),rfl,rfl,rfl,rfl,rfl,rfl,aU (a7 m0 m0),t7⟩ [_] (by rw[hfl];rfl) (Hu _ _ _ _ _ _ _) (xK _ _ _ _ _)⟩
  ·have Tt:k=l.length:=m0
   subst Tt;rw[List.take_length,<- X_];unfold LT2 LL
   repeat' (first|rw[arj]|refine st_nil ?_|refine st_pop rfl rfl rfl rfl qp_ ?_|refine st_lop rfl rfl rfl rfl qp_ ?_|refine sS_ rfl rfl rfl qp_ ?_|refine st_lit rfl rfl rfl rfl qp_ ?_|refine st_skip rfl rfl rfl ?_|refine sk0_ rfl rfl ?_|(refine st_if rfl (fun hb=>?_) (fun hb=>?_)<;>(first|exact(fx_ hb).elim|rw[hb]))|refine aw_seq ?_|refine aw_region bE _ rfl ?_|refine aw_drawn2 b7 _ rfl mixed (by decide +kernel) ?_|(refine aw_cond rfl (fun hb=>?_) (fun hb=>?_)<;>(try exact(fx_ hb).elim))|refine aw_block ?_|refine aw_exit ?_|refine aw_ret ?_|refine aw_skip ?_|fail)
   exact⟨i+1,m0,m0,fm_ ⟨rfl,rfl,rfl,rfl,rfl,rfl,rfl,aU (a7 m0 m0),t7⟩ [] rfl (HY _ _ _ _ _) (xK _ _ _ _ _)⟩
 ·have Qo:i=a.facts.length:=m0
  subst Qo;rw[List.take_length];unfold LT1 LL
  repeat' (first|refine aN rfl rfl rfl rfl Vq rfl ?_|refine st_nil ?_|refine st_pop rfl rfl rfl rfl qp_ ?_|refine st_lop rfl rfl rfl rfl qp_ ?_|refine sS_ rfl rfl rfl qp_ ?_|refine st_lit rfl rfl rfl rfl qp_ ?_|refine st_skip rfl rfl rfl ?_|refine sk0_ rfl rfl ?_|(refine st_if rfl (fun hb=>?_) (fun hb=>?_)<;>(first|exact(fx_ hb).elim|rw[hb]))|refine aw_seq ?_|refine aw_region bE _ rfl ?_|refine aw_drawn2 b7 _ rfl mixed (by decide +kernel) ?_|(refine aw_cond rfl (fun hb=>?_) (fun hb=>?_)<;>(try exact(fx_ hb).elim))|refine aw_block ?_|refine aw_exit ?_|refine aw_ret ?_|refine aw_skip ?_|fail)
  exact⟨.inr rfl,bj rfl (by repeat' (first|exact t7|rfl|exact arh rfl|omega|apply And.intro)) rfl⟩
def ajN (a b:aW)(e:Ex):Prop:=y_ a b e/\(1<=b.kinds.length/\b.kinds.length<=48)/\b.facts.length<=12
open Classical in
noncomputable def nC (a b:aW)(e:Ex):Option aW:=if ajN a b e then(qq (rp e a.facts b.facts)).bind fun r=>if r.length<=1000 then(qq (r++kz e b.kinds.length a.facts b.facts)).map fun s=>⟨a.kinds++b.kinds,s⟩else none else none
theorem tI {a b r:aW}{e:Ex}(H:nC a b e=some r):PTz 20 [.agg (aV a),.agg (aV b),.agg (tE e)] (.val (.agg (aV r))):=by
 unfold nC at H;split at H
 ·rename_i h
  obtain⟨l,hl,H⟩:=bd_ H;split at H
  ·rename_i hr
   cases hg:qq (l++kz e b.kinds.length a.facts b.facts)with
   |none=>rw[hg]at H;cases H
   |some s =>
    rw[hg]at H;obtain rfl:=arH H;exact afI a b e h.1 h.2.1 h.2.2 hl hr hg
  ·cases H
 ·cases H
noncomputable section
def um (OW:aW)(PY:Int)(QK:(List ax)):((List ap)×Int)->Option (Step ((List ap)×Int) (aW)):=fun s=>match s with
 |(QS,Wu)=>bif (decide (Wu<((QK.length:Nat):Int)))then(aF QK Wu).bind fun Vr=>(aF OW.facts PY).bind fun RY=>bif (decide (QS.length+1<=3518437208883))then(some (.next ((QS++[(⟨RY.row,Vr⟩:ap)]),(i64.wrap (Wu+(1:Int))))))else none else
 some (.exit (QS,Wu))
def agT (PY:Int):Sum ((List ap)×Int) (aW)->Option (Step ((List ap)×Int) (aW))
 |.inl (QS,Wu)=>some (.next (QS,(i64.wrap (PY+(1:Int)))))
 |.inr q=>some (.ret q)
def jB (OW:aW)(Pg:(List (List ax))):((List ap)×Int)->Option (Step ((List ap)×Int) (aW)):=fun s=>match s with
 |(PW,PY)=>bif (decide (PY<((Pg.length:Nat):Int)))then(aF Pg PY).bind fun Qv=>(xN Qv).bind fun QK=>(ao (um OW PY QK) fuel (PW,(0:Int))).bind (agT PY)else
 some (.exit (PW,PY))
def aey (OW:aW):Sum ((List ap)×Int) (aW)->Option ((aW))
 |.inl (PW,PY)=>(x5 OW.kinds PW).bind fun P7=>some P7
 |.inr q=>some q
def qt (OW:aW)(OX:aW)(OV:Ex):Option (aW):=(ael OW OX OV).bind fun Pg=>(ao (jB OW Pg) fuel ([],(0:Int))).bind (aey OW)
instance gSemiT_ok {OW : aW} {OX : aW} {OV : Ex} {r : aW} : OkC (qt OW OX OV = some r) (PTz 22 [.agg (aV OW), .agg (aV OX), .agg (tE OV)] (.val (.agg (aV r)))) := .mk fun H => by
 unfold qt at H;rw[ay OV];refine po_ Tryz.func22 Tryz.ntmps22 ?_;obtain⟨Pg,c1,H⟩:=bd_ H;replace c1:=ahQ c1
 try simp only[ark,ari,arn,ara,ay]at c1
 refine aY ?_;refine bP 7 3 rfl ?_;refine alM_ (fun s:(List ap)×Int=>match s with|(PW,PY)=>[(3,.one (.ptr 0 0)),(6,.one (.ptr 3 0)),(7,.one (.own (PW.map aH) 4)),(15,.one (.c (.lst (Pg.map (fun x=>[AC.lst (x.map aO)]))))),(16,.one (.c (.int .i64 ((Pg.length:Nat):Int)))),(17,.one (.c (.int .i64 PY)))]) (fun s=>match s with|(PW,PY)=>[.box [.c (.lst (OW.kinds.map (fun x=>[AC.int .i64 x]))),.c (.lst (OW.facts.map aH))],.box [.c (.lst (OX.kinds.map (fun x=>[AC.int .i64 x]))),.c (.lst (OX.facts.map aH))],.box [.c (.int .i64 OV.op),.c (.int .i64 OV.int),.c (.int .i64 OV.v.kind),.c (.int .i64 OV.v.int),.c (.str OV.v.text),.c (.str OV.nm),.c (.lst (OV.args.map tE))],.box [.emp,.emp],.spare PW.length 3]) H (fun _=>aru _)
  (fm_ bG [] rfl a8 cm) ?_
 rintro⟨PW,PY⟩ st3 PR U9;unfold jB at PR;dsimp only at PR ⊢;rcases aj PR with⟨Qk,PR⟩|⟨Qk,PR⟩
 ·obtain⟨Qv,Z9,i2,Z_,PR⟩:=bu (f:=(fun x=>[AC.lst (x.map aO)])) PR
  obtain⟨QK,c3,PR⟩:=bd_ PR;replace c3:=abk c3;refine aY ?_;refine alM_ (fun s:(List ap)×Int=>match s with|(QS,Wu)=>[(3,.one (.ptr 0 0)),(6,.one (.ptr 3 0)),(7,.one (.own (QS.map aH) 4)),(8,.one (.c (.int .i64 PY))),(15,.one (.c (.lst (Pg.map (fun x=>[AC.lst (x.map aO)]))))),(16,.one (.c (.int .i64 ((Pg.length:Nat):Int)))),(17,.one (.c (.int .i64 PY))),(23,.one (.c (.lst (QK.map aO)))),(24,.one (.c (.int .i64 ((QK.length:Nat):Int)))),(25,.one (.c (.int .i64 Wu)))]) (fun s=>match s with|(QS,Wu)=>[.box [.c (.lst (OW.kinds.map (fun x=>[AC.int .i64 x]))),.c (.lst (OW.facts.map aH))],.box [.c (.lst (OX.kinds.map (fun x=>[AC.int .i64 x]))),.c (.lst (OX.facts.map aH))],.box [.c (.int .i64 OV.op),.c (.int .i64 OV.int),.c (.int .i64 OV.v.kind),.c (.int .i64 OV.v.int),.c (.str OV.v.text),.c (.str OV.nm),.c (.lst (OV.args.map tE))],.box [.emp,.emp],.spare QS.length 3]) PR (fun _=>aru _)
   (fm_ bG [] rfl a8 cm) ?_
  rintro⟨QS,Wu⟩ st4 O7 hk4;unfold um at O7;dsimp only at O7 ⊢;rcases aj O7 with⟨U_,O7⟩|⟨U_,O7⟩
  ·obtain⟨Vr,Yc,i4,WO,O7⟩:=bu (f:=aO) O7
   obtain⟨RY,i5z,i5,i5x,O7⟩:=bu (f:=aH) O7;obtain⟨g6,O7⟩:=aK O7
   cases O7;refine aY ?_;exact⟨_,rfl,fm_ rB [_] nN a8 cm⟩
  exact bA O7 hk4
 exact bA PR U9
def tz (OW:aW)(PY:Int)(Qv:(List ax)):((List ap)×Int)->Option (Step ((List ap)×Int) (aW)):=fun s=>match s with
 |(PD,R3)=>bif (decide (R3<((Qv.length:Nat):Int)))then(aF Qv R3).bind fun Uh=>(aF OW.facts PY).bind fun Vr=>bif (decide (PD.length+1<=3518437208883))then(some (.next ((PD++[(⟨Vr.row,Uh⟩:ap)]),(i64.wrap (R3+(1:Int))))))else none else
 some (.exit (PD,R3))
def agd (PY:Int):Sum ((List ap)×Int) (aW)->Option (Step ((List ap)×Int) (aW))
 |.inl (PD,R3)=>some (.next (PD,(i64.wrap (PY+(1:Int)))))
 |.inr q=>some (.ret q)
def jz (OW:aW)(Pg:(List (List ax))):((List ap)×Int)->Option (Step ((List ap)×Int) (aW)):=fun s=>match s with
 |(PW,PY)=>bif (decide (PY<((Pg.length:Nat):Int)))then(aF Pg PY).bind fun Qv=>(ao (tz OW PY Qv) fuel (PW,(0:Int))).bind (agd PY)else
 some (.exit (PW,PY))
def aeJ (OW:aW):Sum ((List ap)×Int) (aW)->Option ((aW))
 |.inl (PW,PY)=>(x5 OW.kinds PW).bind fun QW=>some QW
 |.inr q=>some q
def q6 (OW:aW)(OX:aW)(OV:Ex):Option (aW):=(adN OW OX OV).bind fun Pg=>(ao (jz OW Pg) fuel ([],(0:Int))).bind (aeJ OW)
instance gAntiT_ok {OW : aW} {OX : aW} {OV : Ex} {r : aW} : OkC (q6 OW OX OV = some r) (PTz 24 [.agg (aV OW), .agg (aV OX), .agg (tE OV)] (.val (.agg (aV r)))) := .mk fun H => by
 unfold q6 at H;rw[ay OV];refine po_ Tryz.func24 Tryz.ntmps24 ?_;obtain⟨Pg,c1,H⟩:=bd_ H;replace c1:=aje c1
 try simp only[ark,ari,arn,ara,ay]at c1
 refine aY ?_;refine bP 7 3 rfl ?_;refine alM_ (fun s:(List ap)×Int=>match s with|(PW,PY)=>[(3,.one (.ptr 0 0)),(6,.one (.ptr 3 0)),(7,.one (.own (PW.map aH) 4)),(15,.one (.c (.lst (Pg.map (fun x=>[AC.lst (x.map aO)]))))),(16,.one (.c (.int .i64 ((Pg.length:Nat):Int)))),(17,.one (.c (.int .i64 PY)))]) (fun s=>match s with|(PW,PY)=>[.box [.c (.lst (OW.kinds.map (fun x=>[AC.int .i64 x]))),.c (.lst (OW.facts.map aH))],.box [.c (.lst (OX.kinds.map (fun x=>[AC.int .i64 x]))),.c (.lst (OX.facts.map aH))],.box [.c (.int .i64 OV.op),.c (.int .i64 OV.int),.c (.int .i64 OV.v.kind),.c (.int .i64 OV.v.int),.c (.str OV.v.text),.c (.str OV.nm),.c (.lst (OV.args.map tE))],.box [.emp,.emp],.spare PW.length 3]) H (fun _=>aru _)
  (fm_ bG [] rfl a8 cm) ?_
 rintro⟨PW,PY⟩ st3 PR U9;unfold jz at PR;dsimp only at PR ⊢;rcases aj PR with⟨Qk,PR⟩|⟨Qk,PR⟩
 ·obtain⟨Qv,Z9,i2,Z_,PR⟩:=bu (f:=(fun x=>[AC.lst (x.map aO)])) PR
  refine aY ?_;refine alM_ (fun s:(List ap)×Int=>match s with|(PD,R3)=>[(3,.one (.ptr 0 0)),(6,.one (.ptr 3 0)),(7,.one (.own (PD.map aH) 4)),(8,.one (.c (.int .i64 PY))),(15,.one (.c (.lst (Pg.map (fun x=>[AC.lst (x.map aO)]))))),(16,.one (.c (.int .i64 ((Pg.length:Nat):Int)))),(17,.one (.c (.int .i64 PY))),(22,.one (.c (.lst (Qv.map aO)))),(23,.one (.c (.int .i64 ((Qv.length:Nat):Int)))),(24,.one (.c (.int .i64 R3)))]) (fun s=>match s with|(PD,R3)=>[.box [.c (.lst (OW.kinds.map (fun x=>[AC.int .i64 x]))),.c (.lst (OW.facts.map aH))],.box [.c (.lst (OX.kinds.map (fun x=>[AC.int .i64 x]))),.c (.lst (OX.facts.map aH))],.box [.c (.int .i64 OV.op),.c (.int .i64 OV.int),.c (.int .i64 OV.v.kind),.c (.int .i64 OV.v.int),.c (.str OV.v.text),.c (.str OV.nm),.c (.lst (OV.args.map tE))],.box [.emp,.emp],.spare PD.length 3]) PR (fun _=>aru _)
   (fm_ bG [] rfl a8 cm) ?_
  rintro⟨PD,R3⟩ st4 O7 hk4;unfold tz at O7;dsimp only at O7 ⊢;rcases aj O7 with⟨S7,O7⟩|⟨S7,O7⟩
  ·obtain⟨Uh,i3z,i3,i3x,O7⟩:=bu (f:=aO) O7
   obtain⟨Vr,Yc,i4,WO,O7⟩:=bu (f:=aH) O7;obtain⟨g5,O7⟩:=aK O7
   cases O7;refine aY ?_;exact⟨_,rfl,fm_ rB [_] nN a8 cm⟩
  exact bA O7 hk4
 exact bA PR U9
end
noncomputable section
def mR (OW:aW)(OX:aW):Option ((List Int)):=bif (decide (OW.kinds.length<=17592186044416))then(bif (decide (OW.kinds.length+OX.kinds.length<=17592186044416))then(some (OW.kinds++OX.kinds))else none)else none
instance gBoth24_ok {OW : aW} {OX : aW} {r : (List Int)} : OkC (mR OW OX = some r) (PTz 55 [.agg (aV OW), .agg (aV OX)] (.val (.one (.lst (r.map (fun x => [AC.int .i64 x])))))) := .mk fun H => by
 unfold mR at H;refine po_ Tryz.func55 Tryz.ntmps55 ?_;exact az H
def sc (OW:aW)(OX:aW):Option ((List Int)):=(mR OW OX).bind fun Pg=>some Pg
instance gKinds24_ok {OW : aW} {OX : aW} {r : (List Int)} : OkC (sc OW OX = some r) (PTz 50 [.agg (aV OW), .agg (aV OX)] (.val (.one (.lst (r.map (fun x => [AC.int .i64 x])))))) := .mk fun H => by
 unfold sc at H;refine po_ Tryz.func50 Tryz.ntmps50 ?_;exact az H
def gS (OW:aW)(OX:aW)(OV:Ex):Option (Bool):=bif (decide ((12:Int)<((OW.facts.length:Nat):Int)))then some false else
 bif (decide ((12:Int)<((OX.facts.length:Nat):Int)))then some false else
 bif (decide ((48:Int)<((OW.kinds.length:Nat):Int)))then some false else
 bif (decide ((48:Int)<((OX.kinds.length:Nat):Int)))then some false else
 bif (decide ((48:Int)<(i64.wrap (((OW.kinds.length:Nat):Int)+((OX.kinds.length:Nat):Int)))))then some false else
 (vN OW).bind fun QK=>bif QK then(vN OX).bind fun Yo=>bif Yo then(Dk [OV] (200:Int)).bind fun Rr=>bif Rr then(sc OW OX).bind fun P7=>(nl OV P7).bind fun Qc=>some (decide (Qc=(0:Int)))else
 some false else
 some false else
 some false
instance gJoins24_ok {OW : aW} {OX : aW} {OV : Ex} {r : Bool} : OkC (gS OW OX OV = some r) (PTz 16 [.agg (aV OW), .agg (aV OX), .agg (tE OV)] (.val (.one (.bool r)))) := .mk fun H => by
 unfold gS at H;rw[ay OV];refine po_ Tryz.func16 Tryz.ntmps16 ?_;exact az H
end
structure ace (a b:aW)(e:Ex):Prop where
 A:LJ a
 B:LJ b
 la:a.facts.length<=12
 lb:b.facts.length<=12
 ka:0<a.kinds.length
 kb:0<b.kinds.length
 kab:a.kinds.length+b.kinds.length<=48
 he:cS fuel e
structure AN (a b:aW)(e:Ex):Prop extends ace a b e where
 chk:nl e (a.kinds++b.kinds)=some 0
theorem Ep (r:aW):∀ (n:Nat) (i:Int) (q:Bool),ao (fq r) n i=some (.inr q)->q=false
 |0,i,q,h=>by cases h
 |n+1,i,q,h=>by
  rw[ao]at h
  cases hb:fq r i with
  |none=>rw[hb]at h;cases h
  |some s =>
   rw[hb]at h
   cases s with
   |next j=>exact Ep r n j q h
   |exit j=>cases h
   |ret q' =>
    obtain rfl:q'=q:=by injection h with h;injection h
    unfold fq at hb;dsimp only at hb
    cases h1:decide (i<((r.facts.length:Nat):Int))with
    |false=>rw[h1]at hb;cases hb
    |true =>
     rw[h1,aq8]at hb;obtain⟨x,_,hb⟩:=bd_ hb;obtain⟨v,_,hb⟩:=bd_ hb
     cases v with
     |false=>cases hb;rfl
     |true =>
      obtain⟨w,_,hb⟩:=bd_ hb
      cases w with
      |false=>cases hb;rfl
      |true=>cases hb
theorem CX {r:aW}(h:vN r=some true):0<r.kinds.length:=by
 unfold vN at h;obtain⟨s,h1,h2⟩:=bd_ h
 cases s with
 |inr q =>
  have:=Ep r fuel 0 q h1;subst this
  cases h2
 |inl i =>
  unfold pc at h2;dsimp only at h2;by_cases hk:0<r.kinds.length
  ·exact hk
  ·rw[aq9 (show ¬ (0:Int)<((r.kinds.length:Nat):Int)by omega)]at h2;cases h2
theorem NA {a b:aW}(h:a.kinds.length+b.kinds.length<=1000000):sc a b=some (a.kinds++b.kinds):=by
 unfold sc mR;rw[aq_ (show a.kinds.length<=17592186044416 by omega),aq_ (show a.kinds.length+b.kinds.length<=17592186044416 by omega)];rfl
theorem gp (a b:aW)(e:Ex):∃ c,gS a b e=some c/\(c=true->AN a b e):=by
 unfold gS;by_cases h1:¬ (a.facts.length<=12)
 ·rw[aq_ (show(12:Int)<((a.facts.length:Nat):Int)by omega)];exact⟨false,rfl,fun h=>by cases h⟩
 have h1:=Decidable.not_not.1 h1;rw[aq9 (show ¬ (12:Int)<((a.facts.length:Nat):Int)by omega),aq7];by_cases h2:¬ (b.facts.length<=12)
 ·rw[aq_ (show(12:Int)<((b.facts.length:Nat):Int)by omega)];exact⟨false,rfl,fun h=>by cases h⟩
 have h2:=Decidable.not_not.1 h2;rw[aq9 (show ¬ (12:Int)<((b.facts.length:Nat):Int)by omega),aq7];by_cases h3:¬ (a.kinds.length<=48)
 ·rw[aq_ (show(48:Int)<((a.kinds.length:Nat):Int)by omega)];exact⟨false,rfl,fun h=>by cases h⟩
 have h3:=Decidable.not_not.1 h3;rw[aq9 (show ¬ (48:Int)<((a.kinds.length:Nat):Int)by omega),aq7];by_cases h4:¬ (b.kinds.length<=48)
 ·rw[aq_ (show(48:Int)<((b.kinds.length:Nat):Int)by omega)];exact⟨false,rfl,fun h=>by cases h⟩
 have h4:=Decidable.not_not.1 h4;rw[aq9 (show ¬ (48:Int)<((b.kinds.length:Nat):Int)by omega),aq7,show i64.wrap (((a.kinds.length:Nat):Int)+((b.kinds.length:Nat):Int))=((a.kinds.length:Nat):Int)+((b.kinds.length:Nat):Int)from a7 rfl m0];by_cases h5:¬ (a.kinds.length+b.kinds.length<=48)
 ·rw[aq_ (show(48:Int)<((a.kinds.length:Nat):Int)+((b.kinds.length:Nat):Int)by omega)];exact⟨false,rfl,fun h=>by cases h⟩
 have h5:=Decidable.not_not.1 h5;rw[aq9 (show ¬ (48:Int)<((a.kinds.length:Nat):Int)+((b.kinds.length:Nat):Int)by omega),aq7];obtain⟨u,hu,TY⟩:=C5 (r:=a) m0 h3;obtain⟨v,hv,Tf⟩:=C5 (r:=b) m0 h4;rw[hu,aq5]
 cases u with
 |false=>exact⟨false,rfl,fun h=>by cases h⟩
 |true =>
  rw[aq8,hv,aq5]
  cases v with
  |false=>exact⟨false,rfl,fun h=>by cases h⟩
  |true =>
   obtain⟨w,hw,YR⟩:=aeV [e];rw[aq8,hw,aq5]
   cases w with
   |false=>exact⟨false,rfl,fun h=>by cases h⟩
   |true =>
    have he:=aeD ((YR rfl).2 e m5);obtain⟨n,hn⟩:=acG (a.kinds++b.kinds) he;rw[aq8,NA m0,aq5,hn,aq5];refine⟨_,rfl,fun h=>?_⟩;have h0:=arC h;subst h0;exact⟨⟨⟨m0,h3,(TY rfl).1,(TY rfl).2.1,(TY rfl).2.2⟩,⟨m0,h4,(Tf rfl).1,(Tf rfl).2.1,(Tf rfl).2.2⟩,h1,h2,CX hu,CX hv,h5,he⟩,hn⟩
section
variable {a b:aW} {e:Ex}
theorem ace.part (h:ace a b e):y_ a b e:=by
 have:=h.ka;have:=h.kb;have:=h.kab;have:=h.lb;exact⟨h.la,m0,fun f hf=>by rw[h.A.row f hf];omega,fun f hf=>by rw[h.B.row f hf];omega,h.A.per,h.he,m0,m0⟩
theorem AN.left (h:AN a b e):ajN a b e:=⟨h.part,⟨h.kb,h.B.kinds⟩,h.lb⟩
theorem apn:VOK bI:=⟨⟨by show(-9223372036854775808:Int)<=0;omega,by show(0:Int)<=9223372036854775807;omega⟩,⟨by show(-9223372036854775808:Int)<=0;omega,by show(0:Int)<=9223372036854775807;omega⟩,aru _⟩
theorem dG (h:ace a b e):bp (rp e a.facts b.facts):=by
 refine⟨by have:=mU e h.la h.lb;omega,fun f hf=>?_⟩;obtain⟨x,hx,y,hy,hr⟩:=akB hf;have h1:=h.A.fcts.2 x hx;have h2:=h.B.fcts.2 y hy;have:=h.A.row x hx;have:=h.B.row y hy;have:=h.kab;rw[hr];refine⟨by rw[ard];omega,fun v hv=>?_⟩;rcases arB.1 hv with hv|hv
 ·exact h1.2 v hv
 ·exact h2.2 v hv
theorem tJ (h:AN a b e){n:Nat}(hn:n<=48):bp (kz e n a.facts b.facts):=by
 refine⟨by have:=qG e n h.la h.lb h.A.per;omega,fun f hf=>?_⟩;obtain⟨x,hx,hr⟩:=ac6 hf;have h1:=h.A.fcts.2 x hx;have:=h.A.row x hx;have:=h.kab;rw[hr];refine⟨by rw[ard,List.length_replicate];omega,fun v hv=>?_⟩;rcases arB.1 hv with hv|hv
 ·exact h1.2 v hv
 ·rw[List.eq_of_mem_replicate hv];exact apn
theorem A5 (h:AN a b e):bp (seL e a.facts b.facts):=by
 refine⟨by have:=J8 e h.la h.lb h.A.per;omega,fun f hf=>?_⟩;obtain⟨x,hx,hr⟩:=akr hf;rw[hr];exact h.A.fcts.2 x hx
theorem lT (h:AN a b e):bp (rp e a.facts b.facts++kz e b.kinds.length a.facts b.facts):=by
 have h1:=dG h.toace;have h2:=tJ (n:=b.kinds.length) h h.B.kinds;refine⟨?_,fun f hf=>(arB.1 hf).elim (h1.2 f) (h2.2 f)⟩;have:=mU e h.la h.lb;have:=qG e b.kinds.length h.la h.lb h.A.per;rw[ard];omega
theorem Lh (h:AN a b e):bp (canon (rp e a.facts b.facts)++kz e b.kinds.length a.facts b.facts):=by
 have h1:=bC (dG h.toace);have h2:=tJ (n:=b.kinds.length) h h.B.kinds;refine⟨?_,fun f hf=>(arB.1 hf).elim (h1.2 f) (h2.2 f)⟩;have:=mU e h.la h.lb;have:=qG e b.kinds.length h.la h.lb h.A.per;have:=iN (dG h.toace).1;rw[ard];omega
theorem ack (h:AN a b e):canon (canon (rp e a.facts b.facts)++kz e b.kinds.length a.facts b.facts)=canon (rp e a.facts b.facts++kz e b.kinds.length a.facts b.facts):=by
 refine oT (Lh h).1 (lT h).1 fun t=>?_
 rw[dc,dc];exact List.Perm.append_right _ (iZ (dG h.toace).1 t)
theorem lu (h:ace a b e):kD a b e=some ⟨a.kinds++b.kinds,canon (rp e a.facts b.facts)⟩:=by
 unfold kD;rw[if_pos h.part,lR (dG h)];rfl
theorem th (h:AN a b e):nC a b e=some ⟨a.kinds++b.kinds,canon (rp e a.facts b.facts++kz e b.kinds.length a.facts b.facts)⟩:=by
 unfold nC;rw[if_pos h.left,lR (dG h.toace),aq5,if_pos (by have:=iN (dG h.toace).1;have:=mU e h.la h.lb;omega),lR (Lh h),ack h];rfl
theorem N2 {k:List Int}{l:List ap}(hk:k.length<=1000000)(h:bp l):x5 k l=some ⟨k,canon l⟩:=by
 unfold x5;rw[aq_ m0,aq8,lR h];rfl
theorem OH {l:List ax}{row:List Val}{body:(List ap×Int)->Option (Step (List ap×Int) aW)}(h1:∀ (s:List ap) (i:Nat) p,l[i]?=some p->s.length+1<=3518437208883->body (s,(i:Int))=some (.next (s++[⟨row,p⟩],((i+1:Nat):Int))))(h2:∀ s,body (s,((l.length:Nat):Int))=some (.exit (s,((l.length:Nat):Int))))(hl:l.length<=1000000)(s:List ap)(hs:s.length<=1000000):ao body fuel (s,(0:Int))=some (.inl (s++bQ row l,((l.length:Nat):Int))):=by
 have Zs:l.flatMap (fun p=>[(⟨row,p⟩:ap)])=bQ row l:=by
  unfold bQ;clear h1 h2 hl;induction l with|nil=>rfl|cons p l ih=>rw[arN,ih];rfl
 have hfl:(bQ row l).length=l.length:=by unfold bQ;rw[arj]
 rw[bM (l:=l) (fun p=>[(⟨row,p⟩:ap)]) 3518437208883 (fun s i p hp hs=>h1 s i p hp hs) h2 (by unfold fuel;omega) s (by rw[Zs,hfl];omega),Zs]
theorem zx (h:AN a b e):qt a b e=some ⟨a.kinds,canon (seL e a.facts b.facts)⟩:=by
 unfold qt ael;rw[if_pos h.part,aq5];have Wt:(a.facts.map (df (cT e) b.facts)).length=a.facts.length:=arj ..;have key:∀ (n i:Nat) (s:List ap),i<=a.facts.length->a.facts.length-i<n->s.length+100*(a.facts.length-i)<=100000->ao (jB a (a.facts.map (df (cT e) b.facts))) n (s,(i:Int))=some (.inl (s++seL e (a.facts.drop i) b.facts,((a.facts.length:Nat):Int))):=by
  intro n
  induction n with
  |zero=>intro i s _ hn _;omega
  |succ n ih =>
   intro i s hi hn hs;rw[ao];by_cases OZ:i<a.facts.length
   ·obtain⟨x,hx⟩:=gol_ OZ
    have XV:=arb hx;have hd:a.facts.drop i=x::a.facts.drop (i+1):=by rw[arG OZ,(aq6.1 hx).2]
    have Ui:=Bz (cT e) b.facts x;have VU:=Kw (c:=cT e) (b:=b.facts) (h.A.per x XV);have V7:=h.lb;have hla:=h.la;have P2:(a.facts.map (df (cT e) b.facts))[i]?=some (df (cT e) b.facts x):=by rw[arw,hx];rfl
    have ZV:xN (df (cT e) b.facts x)=some (FO (cT e) b.facts x):=by
     unfold xN;rw[aq_ m0,aq8,ak3 (h.A.per x XV)]
    have hb:jB a (a.facts.map (df (cT e) b.facts)) (s,(i:Int))=some (.next (s++seX e b.facts x,((i+1:Nat):Int))):=by
     unfold jB;dsimp only;rw[aL P2,aq8,gn_ P2,aq5,ZV,aq5,OH (l:=FO (cT e) b.facts x) (row:=x.row) ?_ ?_ m0 s m0,aq5]
     ·show some (Step.next (_,i64.wrap ((i:Int)+1)))=_
      rw[wrapN m0];rfl
     ·intro s j p hp hs
      unfold um;dsimp only;have hj:=(aq6.1 hp).1;rw[aL hp,aq8,gn_ hp,aq5,gn_ hx,aq5,aq_ hs,aq8,wrapN m0]
     ·intro s
      unfold um;dsimp only;rw[lF_];rfl
    rw[hb];show ao _ n (s++seX e b.facts x,((i+1:Nat):Int))=_;have hsx:(seX e b.facts x).length=(FO (cT e) b.facts x).length:=by unfold seX bQ;rw[arj]
    rw[ih (i+1) _ m0 m0 (by rw[ard,hsx];omega),hd,arA];rfl
   ·have:i=a.facts.length:=m0
    subst this;have hb:jB a (a.facts.map (df (cT e) b.facts)) (s,((a.facts.length:Nat):Int))=some (.exit (s,((a.facts.length:Nat):Int))):=by
     unfold jB;dsimp only;rw[Wt,lF_];rfl
    rw[hb,asb];show some (Sum.inl (s,_))=some (Sum.inl (s++[],_));rw[arJ]
 have hla:=h.la;have:=key fuel 0 [] (aru _) (by unfold fuel;omega) m8;rw[List.drop_zero,ara]at this;rw[show((0:Int))=((0:Nat):Int)from rfl,this,aq5];show(x5 a.kinds (seL e a.facts b.facts)).bind _=_;rw[N2 (by have:=h.A.kinds;omega) (A5 h)];rfl
theorem adB (x:List Val):x++replicate 0 bI=x:=by simp
theorem yZ (h:AN a b e):q6 a b e=some ⟨a.kinds,canon (kz e 0 a.facts b.facts)⟩:=by
 unfold q6 adN;rw[if_pos h.part,aq5];have Wt:(a.facts.map (gM (cT e) b.facts)).length=a.facts.length:=arj ..;have key:∀ (n i:Nat) (s:List ap),i<=a.facts.length->a.facts.length-i<n->s.length+100*(a.facts.length-i)<=100000->ao (jz a (a.facts.map (gM (cT e) b.facts))) n (s,(i:Int))=some (.inl (s++kz e 0 (a.facts.drop i) b.facts,((a.facts.length:Nat):Int))):=by
  intro n
  induction n with
  |zero=>intro i s _ hn _;omega
  |succ n ih =>
   intro i s hi hn hs;rw[ao];by_cases OZ:i<a.facts.length
   ·obtain⟨x,hx⟩:=gol_ OZ
    have XV:=arb hx;have hd:a.facts.drop i=x::a.facts.drop (i+1):=by rw[arG OZ,(aq6.1 hx).2]
    have VU:=Bv (c:=cT e) (b:=b.facts) (h.A.per x XV);have V7:=h.lb;have hla:=h.la;have P2:(a.facts.map (gM (cT e) b.facts))[i]?=some (gM (cT e) b.facts x):=by rw[arw,hx];rfl
    have hb:jz a (a.facts.map (gM (cT e) b.facts)) (s,(i:Int))=some (.next (s++alX e 0 b.facts x,((i+1:Nat):Int))):=by
     unfold jz;dsimp only;rw[aL P2,aq8,gn_ P2,aq5,OH (l:=gM (cT e) b.facts x) (row:=x.row) ?_ ?_ m0 s m0,aq5]
     ·show some (Step.next (_,i64.wrap ((i:Int)+1)))=_
      rw[wrapN m0];unfold alX;rw[adB]
     ·intro s j p hp hs
      unfold tz;dsimp only;have hj:=(aq6.1 hp).1;rw[aL hp,aq8,gn_ hp,aq5,gn_ hx,aq5,aq_ hs,aq8,wrapN m0]
     ·intro s
      unfold tz;dsimp only;rw[lF_];rfl
    rw[hb];show ao _ n (s++alX e 0 b.facts x,((i+1:Nat):Int))=_;have hsx:(alX e 0 b.facts x).length=(gM (cT e) b.facts x).length:=by unfold alX bQ;rw[arj]
    rw[ih (i+1) _ m0 m0 (by rw[ard,hsx];omega),hd,arA];rfl
   ·have:i=a.facts.length:=m0
    subst this;have hb:jz a (a.facts.map (gM (cT e) b.facts)) (s,((a.facts.length:Nat):Int))=some (.exit (s,((a.facts.length:Nat):Int))):=by
     unfold jz;dsimp only;rw[Wt,lF_];rfl
    rw[hb,asb];show some (Sum.inl (s,_))=some (Sum.inl (s++[],_));rw[arJ]
 have hla:=h.la;have:=key fuel 0 [] (aru _) (by unfold fuel;omega) m8;rw[List.drop_zero,ara]at this;rw[show((0:Int))=((0:Nat):Int)from rfl,this,aq5];show(x5 a.kinds (kz e 0 a.facts b.facts)).bind _=_;rw[N2 (by have:=h.A.kinds;omega) (tJ h m0)];rfl
end
