/- Parts. No condition. -/
import Derived.Test.YtlcceppoloaecaaGreatDoorXBM
set_option maxHeartbeats 8000000
set_option maxRecDepth 100000
set_option linter.unusedSimpArgs false
set_option linter.unusedVariables false
namespace Go.Proofs.YtlcceppoloaecaaGreatDoor
open _root_.ByteArray (empty)
open IntKind (i64)
open Go.RowKit Go.MapKept
def prG (l:List Ex)(f:ap):ap:=⟨o7 l f.row,f.valid⟩
theorem akh {m:List ap}{l:List Ex}(hm:m.length<=300)(hl:l.length<=48)(he:∀ e∈l,cS fuel e):bp (m.map (prG l)):=by
 refine⟨by rw[arj];exact hm,fun f hf=>?_⟩;obtain⟨g,_,rfl⟩:=arK.1 hf;refine⟨by show(l.map _).length<=1000;rw[arj];omega,fun v hv=>?_⟩;obtain⟨e,h1,rfl⟩:=arK.1 (show v∈l.map _ from hv);exact(ri (val_ok (he e h1) g.row).2.2).vok
theorem JZ {r:aW}{l:List Ex}(h:bp r.facts)(hl:l.length<=48)(he:∀ e∈l,cS fuel e):oy r l=some ⟨ah3 l r.kinds,canon (r.facts.map (prG l))⟩:=by
 have hn:=h.1;unfold oy;rw[bM (l:=l) (fun e=>[(acb e r.kinds).1]) 17592186044416 ?_ ?_ (by unfold fuel;omega) [] (by rw[fo_];simp;omega)]
 ·rw[aq5,ara,fo_]
  unfold kP;dsimp only;rw[bM (l:=r.facts) (fun f=>[prG l f]) 3518437208883 ?_ ?_ (by unfold fuel;omega) [] (by rw[fo_];simp;omega)]
  ·rw[aq5,ara,fo_]
   unfold wk;dsimp only;rw[AA (by rw[arj];omega) (akh hn hl he)];rfl
  ·intro s i x hx hs
   have hi:=(aq6.1 hx).1;unfold ln;dsimp only;rw[aL hx,aq8,gn_ hx,aq5,bM (l:=l) (fun e=>[iQ e x.row]) 4398046511104 ?_ ?_ (by unfold fuel;omega) [] (by rw[fo_];simp;omega)]
   ·rw[aq5,ara,fo_]
    unfold k9;dsimp only;rw[wrapN m0,aq_ (show s.length+1<=3518437208883 from hs),aq8];rfl
   ·intro s i e hx hs
    have hi:=(aq6.1 hx).1;unfold lh;dsimp only;rw[aL hx,aq8,gn_ hx,aq5,(val_ok (he e (arb hx)) x.row).2.1,aq5,wrapN m0,aq_ (show s.length+1<=4398046511104 from hs),aq8]
   ·intro s
    unfold lh;dsimp only;rw[lF_,aq7]
  ·intro s
   unfold ln;dsimp only;rw[lF_,aq7]
 ·intro s i x hx hs
  have hi:=(aq6.1 hx).1;unfold k8;dsimp only;rw[aL hx,aq8,gn_ hx,aq5,(amD r.kinds (he x (arb hx))).2,aq5,wrapN m0,aq_ (show s.length+1<=17592186044416 from hs),aq8]
 ·intro s
  unfold k8;dsimp only;rw[lF_,aq7]
mutual
def exD:Ex->Nat
 |.mk _ _ _ _ args=>alC args+1
def alC:List Ex->Nat
 |[]=>0
 |e::l=>max (exD e) (alC l)
end
def nv (OV:Ex)(VE:Ex->Option (Ex))(rec:Ex->(Ex->Option Ex)->Option Ex):((List Ex)×Int)->Option (Step ((List Ex)×Int) (Ex)):=fun s=>match s with
 |(P1,PI)=>bif (decide (PI<((OV.args.length:Nat):Int)))then(aF OV.args PI).bind fun Qf=>(rec Qf VE).bind fun QR=>bif (decide (P1.length+1<=1599289640401))then(some (.next ((P1++[QR]),(i64.wrap (PI+(1:Int))))))else none else
 some (.exit (P1,PI))
def nc (OV:Ex)(VE:Ex->Option (Ex)):Sum ((List Ex)×Int) (Ex)->Option ((Ex))
 |.inl (P1,PI)=>bif (decide (OV.op=(2:Int)))then(VE (Ex.mk OV.op OV.int OV.v OV.nm P1)).bind fun Si=>some Si else
 some (Ex.mk OV.op OV.int OV.v OV.nm P1)
 |.inr q=>some q
def so (rec:Ex->(Ex->Option Ex)->Option Ex)(OV:Ex)(VE:Ex->Option (Ex)):Option (Ex):=(ao (nv OV VE rec) fuel ([],(0:Int))).bind (nc OV VE)
theorem Lu {rec:Ex->(Ex->Option Ex)->Option Ex}  (O_:∀ {x:Ex} {f:Ex->Option Ex} {F_a_f:FuncId} {caps_a_f:List AC} (SX:∀ (y0:Ex) (r:Ex),f y0=some r->PTz F_a_f ([.agg (tE y0)]++caps_a_f.map .one) (.val (.agg (tE r)))) {r:Ex},rec x f=some r->PTz 76 [.agg (tE x),.one (.fn F_a_f caps_a_f)] (.val (.agg (tE r)))){OV:Ex}{VE:Ex->Option (Ex)}{r:Ex}{F_a_f:FuncId}{caps_a_f:List AC}(SX:∀ (y0:Ex) (r:Ex),VE y0=some r->PTz F_a_f ([.agg (tE y0)]++caps_a_f.map .one) (.val (.agg (tE r))))(H:so rec OV VE=some r):PTz 76 [.agg (tE OV),.one (.fn F_a_f caps_a_f)] (.val (.agg (tE r))):=by
 unfold so at H;rw[ay OV];rw[ay r];refine po_ Tryz.func76 Tryz.ntmps76 ?_;refine aY ?_;refine bP 5 7 rfl ?_;refine alM_ (fun s:(List Ex)×Int=>match s with|(P1,PI)=>[(1,.one (.c (.fn F_a_f caps_a_f))),(2,.one (.ptr 0 0)),(4,.one (.ptr 1 0)),(5,.one (.own (P1.map tE) 2)),(9,.one (.c (.lst (OV.args.map tE)))),(10,.one (.c (.int .i64 ((OV.args.length:Nat):Int)))),(11,.one (.c (.int .i64 PI)))]) (fun s=>match s with|(P1,PI)=>[.box [.c (.int .i64 OV.op),.c (.int .i64 OV.int),.c (.int .i64 OV.v.kind),.c (.int .i64 OV.v.int),.c (.str OV.v.text),.c (.str OV.nm),.c (.lst (OV.args.map tE))],.box [.c (.int .i64 (0:Int)),.c (.int .i64 (0:Int)),.c (.int .i64 (0:Int)),.c (.int .i64 (0:Int)),.c (.str empty),.c (.str empty),.emp],.spare P1.length 7]) H (fun _=>aru _)
  (fm_ bG [] rfl a8 cm) ?_
 rintro⟨P1,PI⟩ st1 OU PM;unfold nv at OU;dsimp only at OU ⊢;rcases aj OU with⟨QH,OU⟩|⟨QH,OU⟩
 ·obtain⟨Qf,SN,i1,RL,OU⟩:=bu (f:=tE) OU
  simp only[ark,ari,arn,ara,ay]at RL;obtain⟨QR,c2,OU⟩:=bd_ OU;replace c2:=O_ (caps_a_f:=caps_a_f) SX c2
  try simp only[ark,ari,arn,ara,ay]at c2
  obtain⟨g3,OU⟩:=aK OU
  cases OU;refine aY ?_;exact⟨_,rfl,fm_ ⟨rfl,rfl,rfl,(by simp only[ark,ari,arn,ara,ay]<;>rfl),rfl,rfl,rfl,t7⟩ [_] nN a8 cm⟩
 cases OU;have O0:nc OV VE (.inl (P1,PI))=some _:=PM;unfold nc at O0;dsimp only at O0;rcases aj O0 with⟨RF,O0⟩|⟨RF,O0⟩
 ·obtain⟨Si,c4,O0⟩:=bd_ O0
  replace c4:=SX _ _ c4
  try simp only[ark,ari,arn,ara,ay]at c4
  cases O0;exact sp
 cases O0;exact sp
def cu:Nat->Ex->(Ex->Option Ex)->Option Ex
 |0,_,_=>none
 |n+1,e,f=>so (cu n) e f
theorem vK:∀ (n:Nat) {x:Ex} {f:Ex->Option Ex} {F_a_f:FuncId} {caps_a_f:List AC} (SX:∀ (y0:Ex) (r:Ex),f y0=some r->PTz F_a_f ([.agg (tE y0)]++caps_a_f.map .one) (.val (.agg (tE r)))) {r:Ex},cu n x f=some r->PTz 76 [.agg (tE x),.one (.fn F_a_f caps_a_f)] (.val (.agg (tE r)))
 |0,_,_,_,_,_,_,h=>nomatch h
 |n+1,_,_,_,_,hf,_,h=>Lu (vK n) hf h
def KL (UE:Ex):Option (Ex):=some UE
theorem ae2 {UE:Ex}{r:Ex}(H:KL UE=some r):PTz 78 [.agg (tE UE)] (.val (.agg (tE r))):=by
 unfold KL at H;rw[ay UE];rw[ay r];refine po_ Tryz.func78 Tryz.ntmps78 ?_
 cases H;exact sp
def fY (a_x:Ex)(ZW:(List Ex)):Option (Ex):=bif (decide ((0:Int)<((a_x.args.length:Nat):Int)))then some a_x else
 bif (!(a_x.nm.toList==(⟨#[]⟩:ByteArray).toList))then some a_x else
 bif (!(b8 [.c (.int .i64 a_x.v.kind),.c (.int .i64 a_x.v.int),.c (.str a_x.v.text)] [.c (.int .i64 (0:Int)),.c (.int .i64 (0:Int)),.c (.str empty)]))then some a_x else
 bif (decide (a_x.int<(0:Int)))then some a_x else
 bif (decide (((ZW.length:Nat):Int)<=a_x.int))then some a_x else
 (aF ZW a_x.int).bind fun Ud=>(cu (exD Ud) Ud (fun x0=>KL x0)).bind fun Si=>some Si
theorem ah2 {a_x:Ex}{ZW:(List Ex)}{r:Ex}(H:fY a_x ZW=some r):PTz 77 [.agg (tE a_x),.one (.ref [.lst (ZW.map tE)])] (.val (.agg (tE r))):=by
 unfold fY at H;rw[ay a_x];rw[ay r];refine po_ Tryz.func77 Tryz.ntmps77 ?_;rcases aj H with⟨RE,H⟩|⟨RE,H⟩
 ·cases H
  exact sp
 rcases aj H with⟨QG,H⟩|⟨QG,H⟩
 ·cases H
  exact sp
 rcases aj H with⟨QH,H⟩|⟨QH,H⟩
 ·cases H
  exact sp
 rcases aj H with⟨Qk,H⟩|⟨Qk,H⟩
 ·cases H
  exact sp
 rcases aj H with⟨RD,H⟩|⟨RD,H⟩
 ·cases H
  exact sp
 obtain⟨Ud,SN,i1,RL,H⟩:=bu (f:=tE) H;simp only[ark,ari,arn,ara,ay]at RL;obtain⟨Si,c2,H⟩:=bd_ H;replace c2:=vK _ (F_a_f:=78) (caps_a_f:=[]) (fun x0 r h=>ae2 h) c2
 try simp only[ark,ari,arn,ara,ay]at c2
 cases H;exact sp
def zA (OV:Ex)(a_l:(List Ex)):Option (Ex):=(cu (exD OV) OV (fun x0=>fY x0 a_l)).bind fun Pg=>some Pg
theorem afz {OV:Ex}{a_l:(List Ex)}{r:Ex}(H:zA OV a_l=some r):PTz 35 [.agg (tE OV),.one (.lst (a_l.map tE))] (.val (.agg (tE r))):=by
 unfold zA at H;rw[ay OV];rw[ay r];refine po_ Tryz.func35 Tryz.ntmps35 ?_
 repeat' (first|refine gs0_ ?_|fail)
 refine aw_region tab_ok _ rfl ?_
 repeat' (first|refine gs0_ ?_|fail)
 refine aS 1 r5 r5 ?_;simp only[ari,arn,unA,unS,unC,o_,List.drop,if_true,List.set];obtain⟨Pg,c1,H⟩:=bd_ H;replace c1:=vK _ (F_a_f:=77) (caps_a_f:=[.ref [.lst (a_l.map tE)]]) (fun x0 r h=>ah2 h) c1
 try simp only[ark,ari,arn,ara,ay]at c1
 cases H;exact sp
open Go.RowKit Go.MapKept
theorem LH:∀ {l:List Ex} {x:Ex},x∈l->exD x<=alC l
 |[],_,h=>by cases h
 |y::l,x,h=>by
  rw[alC];rcases arp.1 h with rfl|h
  ·omega
  ·have:=LH h;omega
theorem tB {e x:Ex}(h:x∈e.args):exD x+1<=exD e:=by
 obtain⟨op,i,v,nm,args⟩:=e;rw[exD];have:=LH (l:=args) (x:=x) h;omega
theorem Bi (e:Ex):1<=exD e:=by
 obtain⟨op,i,v,nm,args⟩:=e;rw[exD];omega
theorem tD {e:Ex}(h:gV e):e.args.length<=1599289640400 /\ ∀ x∈e.args,gV x:=by
 cases h with
 | @mk op i v nm args h0 h1 h2 h3 h4 g4=>exact⟨by show args.length<=_;unfold reachBytes at h4;omega,g4⟩
theorem amz (e:Ex):Ex.mk e.op e.int e.v e.nm e.args=e:=by obtain⟨_,_,_,_,_⟩:=e;rfl
def uJ (e:Ex)(a:List Ex):Ex:=Ex.mk e.op e.int e.v e.nm a
theorem lm {f:Ex->Option Ex}{m:Nat}{e:Ex}{g:Ex->Ex}(hx:∀ x∈e.args,cu m x f=some (g x))(hl:e.args.length<=1599289640400):cu (m+1) e f=if e.op=2 then f (uJ e (e.args.map g))else some (uJ e (e.args.map g)):=by
 show so (cu m) e f=_;unfold so;rw[bM (l:=e.args) (fun x=>[g x]) 1599289640401 ?_ ?_ (by unfold fuel;omega) [] (by rw[fo_];simp;omega)]
 ·rw[aq5,ara,fo_]
  unfold nc;dsimp only;by_cases h:e.op=2
  ·rw[aq_ h,aq8,if_pos h]
   show(f (uJ e (e.args.map g))).bind _=_
   cases f (uJ e (e.args.map g))<;>rfl
  ·rw[aq9 h,aq7,if_neg h];rfl
 ·intro s i x O0 hs
  have hi:=(aq6.1 O0).1;unfold nv;dsimp only;rw[aL O0,aq8,gn_ O0,aq5,hx x (arb O0),aq5,wrapN m0,aq_ (show s.length+1<=1599289640401 from hs),aq8]
 ·intro s
  unfold nv;dsimp only;rw[lF_,aq7]
theorem pK:∀ (n:Nat) (e:Ex),exD e<=n->gV e->cu n e (fun x0=>KL x0)=some e
 |0,e,h,_=>by have:=Bi e;omega
 |n+1,e,h,k=>by
  obtain⟨hl,ha⟩:=tD k;rw[lm (g:=fun x=>x) (fun x hx=>pK n x (by have:=tB hx;omega) (ha x hx)) hl];have e1:uJ e (e.args.map fun x=>x)=e:=by
   unfold uJ;rw[List.map_id'];exact amz e
  rw[e1];split<;>rfl
theorem DX {l:List Ex}(hl:∀ x∈l,gV x)(y:Ex):∃ r,fY y l=some r:=by
 unfold fY
 cases decide ((0:Int)<((y.args.length:Nat):Int))with
 |true=>exact⟨_,rfl⟩
 |false =>
 cases (!(y.nm.toList==(⟨#[]⟩:ByteArray).toList))with
 |true=>exact⟨_,rfl⟩
 |false =>
 cases (!(b8 [.c (.int .i64 y.v.kind),.c (.int .i64 y.v.int),.c (.str y.v.text)] [.c (.int .i64 (0:Int)),.c (.int .i64 (0:Int)),.c (.str empty)]))with
 |true=>exact⟨_,rfl⟩
 |false =>
 by_cases h1:y.int<0
 ·rw[aq_ h1];exact⟨_,rfl⟩
 rw[aq9 h1];by_cases h2:((l.length:Nat):Int)<=y.int
 ·rw[aq_ h2];exact⟨_,rfl⟩
 rw[aq9 h2];simp only[aq7];obtain⟨x,hx⟩:=gol_ (l:=l) (i:=y.int.toNat) m0;have hg:aF l y.int=some x:=by unfold aF;rw[if_pos m0];exact hx
 rw[hg,aq5,pK _ _ (aro _) (hl x (arb hx))];exact⟨_,rfl⟩
theorem qo {f:Ex->Option Ex}(hf:∀ y,∃ r,f y=some r):∀ (n:Nat) (e:Ex),exD e<=n->gV e ->∃ r,cu n e f=some r
 |0,e,h,_=>by have:=Bi e;omega
 |n+1,e,h,k=>by
  obtain⟨hl,ha⟩:=tD k;rw[lm (g:=fun x=>(cu n x f).getD x) (fun x hx=>by
   obtain⟨r,hr⟩:=qo hf n x (by have:=tB hx;omega) (ha x hx);show cu n x f=some ((cu n x f).getD x);rw[hr];rfl) hl]
  split
  ·exact hf _
  ·exact⟨_,rfl⟩
theorem Eo (row:List Val):∀ (n m:Nat) (e:Ex),n<=m->cS n e->dd m e row=dd n e row
 |0,_,_,_,h=>h.elim
 |n+1,0,_,h,_=>by omega
 |n+1,m+1,e,hnm,h=>by
  show ji (dd m) e row=ji (dd n) e row;have hb:dx e row (dd m)=dx e row (dd n):=by
   funext s;obtain⟨l,i⟩:=s;unfold dx;dsimp only
   cases hg:aF e.args i with
   |none=>rfl
   |some x =>
    simp only[aq5];rw[Eo row n m x m0 (h.2 x (arb (gu hg).2))]
  unfold ji;rw[hb]
theorem Jj {e:Ex}(row:List Val)(h:cS fuel e):iQ e row=bif fU e then(if e.op=1 then e.v else if e.op=2 then B6 (ro row e.int)else lw e.op e.int (e.args.map fun x=>iQ x row))else bI:=by
 obtain⟨k,hk⟩:∃ k,fuel=k+1:=⟨fuel-1,rfl⟩;have h':cS (k+1) e:=hk▸h;have hx:∀ x∈e.args,dd k x row=some (iQ x row)/\vF (iQ x row)=true:=by
  intro x hx;have ZY:cS k x:=h'.2 x hx;have hxf:cS fuel x:=iG m0 ZY;have:=val_ok hxf row;rw[Eo row k fuel x m0 ZY]at this;exact⟨this.1,this.2.2⟩
 have hR:dd fuel e row=(bif fU e then gER_K e row (.inl (e.args.map fun x=>iQ x row,((e.args.length:Nat):Int)))else some bI):=by
  rw[hk];show ji (dd k) e row=_;unfold ji;rw[m_ h'.1,aq5,bS]
  cases fU e with
  |false=>rfl
  |true =>
   rw[Bool.not_true,aq7,aq8];have hlen:=h'.1;have:=bM (l:=e.args) (body:=dx e row (dd k)) (fun x=>[iQ x row]) 4398046511104 ?_ ?_ (by unfold fuel;omega) [] (by rw[fo_];simp;omega)
   ·rw[this,ara,fo_];rfl
   ·intro s i x O0 hb
    have hi:=(aq6.1 O0).1;unfold dx;dsimp only;rw[aL O0,aq8,gn_ O0,wrapN m0,aq5,(hx x (arb O0)).1,aq5,aq_ (show s.length+1<=4398046511104 from hb),aq8]
   ·intro s
    unfold dx;dsimp only;rw[lF_,aq7]
 unfold iQ at hR ⊢;rw[hR]
 cases hf:fU e with
 |false=>rfl
 |true =>
  rw[aq8,aq8];obtain⟨XU,Pj,Pq,SD⟩:=l7 h'.1 hf;by_cases o1:e.op=1
  ·have hv:=Dh o1 SD
   rw[if_pos o1];unfold gER_K;dsimp only;rw[aq_ o1,aq8,zU e row o1 hv];rfl
  by_cases o2:e.op=2
  ·rw[if_neg o1,if_pos o2]
   unfold gER_K;dsimp only;rw[aq9 o1,aq7,aq_ o2,aq8,HK e row o2];rfl
  rw[if_neg o1,if_neg o2];have A:nS e.op (e.args.map fun x=>iQ x row):=by
   refine⟨by rw[arj];exact Pj,by rw[arj];exact Pq,by rw[arj];exact h'.1,fun v hv=>?_⟩;obtain⟨x,O0,rfl⟩:=arK.1 hv;exact(hx x O0).2
  exact congrArg (fun o:Option Val=>o.getD bI) (aad e row _ _ A m0)
theorem acy {kinds:List Int}{n:Nat}{e:Ex}{c:Int}(h:cS (n+1) e)(hc:bX (n+1) e kinds=some (c,0)):fU e=true/\(e.op=2->0<=e.int/\e.int<((kinds.length:Nat):Int))/\(e.op≠2 ->∀ x∈e.args,∃ c',bX n x kinds=some (c',0)):=by
 obtain⟨a1,a2,a3,a4⟩:=nf e.op ((e.args.length:Nat):Int) (by have:=h.1;omega);have hc:gv (bX n) e kinds=some (c,0):=hc;unfold gv at hc;rw[a1,aq5]at hc;by_cases h0:(jt e.op).1<0
 ·rw[aq_ h0]at hc
  exact absurd (show(0,7)=(c,(0:Int))from arH hc) (by intro k;injection k with _ k;exact absurd k m9)
 rw[aq9 h0,aq7,m_ h.1,aq5]at hc
 cases hf:fU e with
 |false =>
  rw[hf]at hc;exact absurd (show(0,8)=(c,(0:Int))from arH hc) (by intro k;injection k with _ k;exact absurd k m9)
 |true =>
  rw[hf,Bool.not_true,aq7]at hc;refine⟨rfl,fun o2=>?_,fun o2=>?_⟩
  ·rw[aq_ o2,aq8]at hc
   by_cases i0:e.int<0
   ·rw[aq_ i0]at hc
    exact absurd (show(0,13)=(c,(0:Int))from arH hc) (by intro k;injection k with _ k;exact absurd k m9)
   rw[aq9 i0,aq7]at hc;by_cases i1:((kinds.length:Nat):Int)<=e.int
   ·rw[aq_ i1]at hc
    exact absurd (show(0,13)=(c,(0:Int))from arH hc) (by intro k;injection k with _ k;exact absurd k m9)
   omega
  ·rw[aq9 o2,aq7]at hc
   have hlen:=h.1;have key:∀ (N i:Nat) (s:List Int),i<=e.args.length->e.args.length-i<N->(ao (br e kinds (bX n)) N (s,(i:Int))).bind (pS e kinds)=some (c,0) ->∀ x∈e.args.drop i,∃ c',bX n x kinds=some (c',0):=by
    intro N
    induction N with
    |zero=>intro i s _ h;omega
    |succ N ih =>
     intro i s hi hN hl x hx;by_cases OZ:i<e.args.length
     ·obtain⟨y,hy⟩:=gol_ OZ
      obtain⟨d,hd,_⟩:=vX kinds n y (h.2 y (arb hy));have hdr:e.args.drop i=y::e.args.drop (i+1):=by rw[arG OZ,(aq6.1 hy).2]
      rw[ao]at hl;by_cases d0:d.2=0
      ·cases hg:decide (s.length+1<=17592186044416)with
       |false =>
        have hb:br e kinds (bX n) (s,(i:Int))=none:=by
         unfold br;dsimp only;rw[aL hy,aq8,gn_ hy,aq5,hd,aq5,aq9 (show ¬ d.2≠0 by omega),aq7,hg,aq7]
        rw[hb]at hl;cases hl
       |true =>
        have hb:br e kinds (bX n) (s,(i:Int))=some (.next (s++[d.1],((i+1:Nat):Int))):=by
         unfold br;dsimp only;rw[aL hy,aq8,gn_ hy,aq5,hd,aq5,aq9 (show ¬ d.2≠0 by omega),aq7,hg,aq8,wrapN m0]
        rw[hb]at hl;rw[hdr]at hx;rcases arp.1 hx with rfl|hx
        ·exact⟨d.1,by rw[hd,<- d0]⟩
        ·exact ih (i+1) (s++[d.1]) m0 m0 hl x hx
      ·have hb:br e kinds (bX n) (s,(i:Int))=some (.ret (0,d.2)):=by
        unfold br;dsimp only;rw[aL hy,aq8,gn_ hy,aq5,hd,aq5,aq_ (show d.2≠0 from d0),aq8]
       rw[hb]at hl;exact absurd (show(0,d.2)=(c,(0:Int))from arH hl) (by intro k;injection k with _ k;exact absurd k d0)
     ·rw[List.drop_eq_nil_of_le m0]at hx;cases hx
   intro x hx;exact key fuel 0 [] (aru _) (by unfold fuel;omega) hc x (by rw[List.drop_zero];exact hx)
theorem aa2 {e:Ex}{a:List Ex}(h:a.length=e.args.length):fU (uJ e a)=fU e:=by
 unfold fU fO;show((nV e.op).bind _).getD false=_;have:(uJ e a).args.length=e.args.length:=h;rw[this];rfl
theorem ahd {e:Ex}(h:e.op=2)(hr:oN e=true):(e.nm.toList==(⟨#[]⟩:ByteArray).toList)=true/\aay e.v=true:=by
 unfold oN at hr;rw[arq,if_neg m0,if_pos h]at hr;exact hr
theorem IE {l:List Ex}{kinds:List Int}(row:List Val)(hk:kinds.length=l.length)(Pj:∀ x∈l,gV x)(hle:∀ x∈l,cS fuel x):∀ (n:Nat) (e:Ex),n<=fuel->cS n e->gV e->(∃ c,bX n e kinds=some (c,0)) ->∀ (m:Nat) (s:Ex),exD e<=m->cu m e (fun x0=>fY x0 l)=some s->cS fuel s->iQ s row=iQ e (o7 l row)
 |0,_,_,h,_,_,_,_,_,_,_=>h.elim
 |n+1,e,hn,h,ho,⟨c,hc⟩,0,s,hm,_,_=>by have:=Bi e;omega
 |n+1,e,hn,h,ho,⟨c,hc⟩,m+1,s,hm,hs,TE=>by
  obtain⟨hf,Vs,harg⟩:=acy h hc;obtain⟨XU,alo,ahi,SD⟩:=l7 h.1 hf;obtain⟨hl,ha⟩:=tD ho;have hef:cS fuel e:=iG hn h;have hx:∀ x∈e.args,cu m x (fun x0=>fY x0 l)=some ((cu m x (fun x0=>fY x0 l)).getD x):=by
   intro x hx;obtain⟨r,hr⟩:=qo (f:=fun x0=>fY x0 l) (DX Pj) m x (by have:=tB hx;omega) (ha x hx);rw[hr];rfl
  generalize hg:(fun x=>(cu m x (fun x0=>fY x0 l)).getD x)=g at hx;have Q2:∀ x∈e.args,cu m x (fun x0=>fY x0 l)=some (g x):=by subst hg;exact hx
  rw[lm Q2 hl]at hs;by_cases o2:e.op=2
  ·rw[if_pos o2]at hs
   obtain⟨i0,i1⟩:=Vs o2;rw[o2,ar2]at ahi;dsimp only at ahi;have hz:e.args=[]:=arL.1 m0;obtain⟨hnm,hnv⟩:=ahd o2 SD;obtain⟨y,hy⟩:=gol_ (l:=l) (i:=e.int.toNat) m0;have hgy:aF l e.int=some y:=by unfold aF;rw[if_pos m0];exact hy
   have Xp:fY (uJ e (e.args.map g)) l=some y:=by
    rw[hz];unfold fY;show(bif decide ((0:Int)<((([]:List Ex).length:Nat):Int))then _ else bif (!(e.nm.toList==(⟨#[]⟩:ByteArray).toList))then _ else bif (!aay e.v)then _ else bif (decide (e.int<(0:Int)))then _ else bif (decide (((l.length:Nat):Int)<=e.int))then _ else(aF l e.int).bind _)=_;rw[show decide ((0:Int)<((([]:List Ex).length:Nat):Int))=false from rfl,hnm,hnv,aq9 (show ¬ e.int<0 by omega),aq9 (show ¬ ((l.length:Nat):Int)<=e.int by omega),hgy];simp only[Bool.not_true,aq7,aq5];rw[pK _ _ (aro _) (Pj y (arb hy))];rfl
   have hsy:s=y:=by
    have:=hs.symm.trans Xp;exact arH this
   subst hsy;rw[Jj (o7 l row) hef,hf,aq8,if_neg m0,if_pos o2];have e1:ro (o7 l row) e.int=iQ s row:=by
    have:=aei (l:=o7 l row) (i:=e.int.toNat) (x:=iQ s row) (by unfold o7;rw[arw,hy];rfl);rwa[show((e.int.toNat:Nat):Int)=e.int by omega]at this
   rw[e1];unfold B6;rw[(val_ok TE row).2.2];rfl
  ·rw[if_neg o2]at hs
   have hs:=arH hs;subst hs;rw[Jj row TE,Jj (o7 l row) hef,aa2 (by rw[arj]),hf,aq8,aq8];show(if e.op=1 then e.v else if e.op=2 then B6 (ro row e.int)else lw e.op e.int ((e.args.map g).map fun x=>iQ x row))=_;rw[if_neg o2,if_neg o2];have e1:((e.args.map g).map fun x=>iQ x row)=e.args.map fun x=>iQ x (o7 l row):=by
    rw[List.map_map];refine List.map_congr_left fun x O0=>?_
    refine IE row hk Pj hle n x m0 (h.2 x O0) (ha x O0) (harg o2 x O0) m (g x) (by have:=tB O0;omega) (Q2 x O0) ?_;obtain⟨k,Tt⟩:∃ k,fuel=k+1:=⟨fuel-1,rfl⟩;rw[Tt]at TE;exact iG m0 (TE.2 (g x) (arK.2 ⟨x,O0,rfl⟩))
   rw[e1]
theorem afX {e:Ex}{l:List Ex}(he:gV e)(hl:∀ x∈l,gV x):∃ s,zA e l=some s/\cu (exD e) e (fun x0=>fY x0 l)=some s:=by
 obtain⟨s,hs⟩:=qo (f:=fun x0=>fY x0 l) (DX hl) (exD e) e (aro _) he;refine⟨s,?_,hs⟩;unfold zA;rw[hs];rfl
open Go.RowKit Go.MapKept
noncomputable section
def xX (Qe:Int)(Qb:ax)(Qw:ax):Option (Bool):=(agj Qb Qw).bind fun Pg=>bif Pg.2 then some (decide (Pg.1=Qe))else
 some false
instance gHoldsP_ok {Qe : Int} {Qb : ax} {Qw : ax} {r : Bool} : OkC (xX Qe Qb Qw = some r) (PTz 45 [.one (.int .i64 Qe), .agg (aO Qb), .agg (aO Qw)] (.val (.one (.bool r)))) := .mk fun H => by
 unfold xX at H;refine po_ Tryz.func45 Tryz.ntmps45 ?_;exact az H
def ot (OX:(List ap))(Qe:Int)(PI:Int)(Qf:ap):((List cA)×Int)->Option (Step ((List cA)×Int) ((List cA))):=fun s=>match s with
 |(Qz,UJ)=>bif (decide (UJ<((OX.length:Nat):Int)))then(aF OX UJ).bind fun UH=>(xX Qe Qf.valid UH.valid).bind fun SC=>bif SC then bif (decide (Qz.length+1<=8796093022208))then(some (.next ((Qz++[(⟨PI,UJ⟩:cA)]),(i64.wrap (UJ+(1:Int))))))else none else
 some (.next (Qz,(i64.wrap (UJ+(1:Int)))))else
 some (.exit (Qz,UJ))
def uj (PI:Int):Sum ((List cA)×Int) ((List cA))->Option (Step ((List cA)×Int) ((List cA)))
 |.inl (Qz,UJ)=>some (.next (Qz,(i64.wrap (PI+(1:Int)))))
 |.inr q=>some (.ret q)
def og (OW:(List ap))(OX:(List ap))(Qe:Int):((List cA)×Int)->Option (Step ((List cA)×Int) ((List cA))):=fun s=>match s with
 |(PQ,PI)=>bif (decide (PI<((OW.length:Nat):Int)))then(aF OW PI).bind fun Qf=>(ao (ot OX Qe PI Qf) fuel (PQ,(0:Int))).bind (uj PI)else
 some (.exit (PQ,PI))
def afo:Sum ((List cA)×Int) ((List cA))->Option (((List cA)))
 |.inl (PQ,PI)=>some PQ
 |.inr q=>some q
def vG (OW:(List ap))(OX:(List ap))(Qe:Int):Option ((List cA)):=(ao (og OW OX Qe) fuel ([],(0:Int))).bind (afo)
instance gMatch_ok {OW : (List ap)} {OX : (List ap)} {Qe : Int} {r : (List cA)} : OkC (vG OW OX Qe = some r) (PTz 14 [.one (.lst (OW.map aH)), .one (.lst (OX.map aH)), .one (.int .i64 Qe)] (.val (.one (.lst (r.map iq))))) := .mk fun H => by
 unfold vG at H;refine po_ Tryz.func14 Tryz.ntmps14 ?_;refine aY ?_;refine bP 7 2 rfl ?_;refine alM_ (fun s:(List cA)×Int=>match s with|(PQ,PI)=>[(1,.one (.c (.lst (OX.map aH)))),(2,.one (.c (.int .i64 Qe))),(7,.one (.own (PQ.map iq) 0)),(12,.one (.c (.lst (OW.map aH)))),(13,.one (.c (.int .i64 ((OW.length:Nat):Int)))),(14,.one (.c (.int .i64 PI)))]) (fun s=>match s with|(PQ,PI)=>[.spare PQ.length 2]) H (fun _=>aru _)
  (fm_ bG [] rfl a8 cm) ?_
 rintro⟨PQ,PI⟩ st3 PR U9;unfold og at PR;dsimp only at PR ⊢;rcases aj PR with⟨QH,PR⟩|⟨QH,PR⟩
 ·obtain⟨Qf,SN,i1,RL,PR⟩:=bu (f:=aH) PR
  refine aY ?_;refine alM_ (fun s:(List cA)×Int=>match s with|(Qz,UJ)=>[(1,.one (.c (.lst (OX.map aH)))),(2,.one (.c (.int .i64 Qe))),(7,.one (.own (Qz.map iq) 0)),(8,.one (.c (.int .i64 PI))),(9,.one (.ptr 1 0)),(12,.one (.c (.lst (OW.map aH)))),(13,.one (.c (.int .i64 ((OW.length:Nat):Int)))),(14,.one (.c (.int .i64 PI))),(19,.one (.c (.lst (OX.map aH)))),(20,.one (.c (.int .i64 ((OX.length:Nat):Int)))),(21,.one (.c (.int .i64 UJ)))]) (fun s=>match s with|(Qz,UJ)=>[.spare Qz.length 2,.box [.c (.lst (Qf.row.map cV)),.c (.int .i64 Qf.valid.lo),.c (.int .i64 Qf.valid.hi)]]) PR (fun _=>aru _)
   (fm_ bG [] rfl a8 cm) ?_
  rintro⟨Qz,UJ⟩ st4 O7 hk4;unfold ot at O7;dsimp only at O7 ⊢;rcases aj O7 with⟨SO,O7⟩|⟨SO,O7⟩
  ·obtain⟨UH,Z9,i2,Z_,O7⟩:=bu (f:=aH) O7
   obtain⟨SC,c3,O7⟩:=bd_ O7;replace c3:=gHoldsP_ok c3;rcases aj O7 with⟨Ql,O7⟩|⟨Ql,O7⟩
   ·obtain⟨g4,O7⟩:=aK O7
    cases O7;refine aY ?_;exact⟨_,rfl,fm_ rB [_] nN a8 cm⟩
   cases O7;refine aY ?_;exact⟨_,rfl,fm_ rB [_] nN a8 cm⟩
  cases O7;have SR:uj PI (.inl (Qz,UJ))=some _:=hk4;unfold uj at SR;dsimp only at SR
  cases SR;refine aY ?_;exact⟨_,rfl,fm_ rB [_] nN a8 cm⟩
 exact bA PR U9
def jq (OW:(List cA))(OX:(List cA)):(Int)->Option (Step (Int) (Bool)):=fun s=>match s with
 |i_2=>bif (decide (i_2<((OW.length:Nat):Int)))then(aF OW i_2).bind fun Qf=>(aF OX i_2).bind fun Qv=>bif (!(b8 [.c (.int .i64 Qf.a),.c (.int .i64 Qf.b)] [.c (.int .i64 Qv.a),.c (.int .i64 Qv.b)]))then some (.ret false)else
 some (.next (i64.wrap (i_2+(1:Int))))else
 some (.exit i_2)
def ae_:Sum (Int) (Bool)->Option ((Bool))
 |.inl i_2=>some true
 |.inr q=>some q
def yn (OW:(List cA))(OX:(List cA)):Option (Bool):=bif (decide (((OW.length:Nat):Int)≠((OX.length:Nat):Int)))then some false else
 (ao (jq OW OX) fuel (0:Int)).bind (ae_)
instance gSameP_ok {OW : (List cA)} {OX : (List cA)} {r : Bool} : OkC (yn OW OX = some r) (PTz 11 [.one (.lst (OW.map iq)), .one (.lst (OX.map iq))] (.val (.one (.bool r)))) := .mk fun H => by
 unfold yn at H;refine po_ Tryz.func11 Tryz.ntmps11 ?_;rcases aj H with⟨RE,H⟩|⟨RE,H⟩
 ·exact az H
 refine aY ?_;refine alM_ (fun s:Int=>match s with|i_2=>[(0,.one (.c (.lst (OW.map iq)))),(1,.one (.c (.lst (OX.map iq)))),(5,.one (.c (.int .i64 i_2)))]) (fun s=>match s with|i_2=>[]) H (fun _=>aru _)
  (fm_ bG [] rfl a8 trivial) ?_
 rintro i_2 st1 OU PM;unfold jq at OU;dsimp only at OU ⊢;rcases aj OU with⟨QH,OU⟩|⟨QH,OU⟩
 ·obtain⟨Qf,SN,i1,RL,OU⟩:=bu (f:=iq) OU
  obtain⟨Qv,Z9,i2,Z_,OU⟩:=bu (f:=iq) OU;rcases aj OU with⟨RF,OU⟩|⟨RF,OU⟩
  ·exact bA OU PM
  cases OU;refine aY ?_;exact⟨_,rfl,fm_ bG [] rfl a8 trivial⟩
 exact bA OU PM
end
open Go.RowKit Go.MapKept
def ac' (x y:ap):Bool:=jm x.valid y.valid
open Go.RowKit Go.MapKept
noncomputable section
def xd (OW:List ap)(OX:List ap):Option (List cA):=bif (decide (OW.length<=1000))&&decide (OX.length<=1000)then some (ef ac' OX OW 0)else none
theorem aaX {OW:List ap}{OX:List ap}{r:List cA}(H:xd OW OX=some r):PTz 12 [.one (.lst (OW.map aH)),.one (.lst (OX.map aH))] (.val (.one (.lst (r.map iq)))):=by
 unfold xd at H
 cases h:decide (OW.length<=1000)&&decide (OX.length<=1000)with
 |false=>rw[h]at H;cases H
 |true =>
  rw[h,aq8]at H
  cases H;rw[arq]at h;exact Ef OW OX (arC h.1) (arC h.2)
def FI (O3:(List Int)):((List Val)×Int)->Option (Step ((List Val)×Int) (ap)):=fun s=>match s with
 |(PU,i_2)=>bif (decide (i_2<((O3.length:Nat):Int)))then(aF O3 i_2).bind fun Qf=>bif (decide (Qf=(9:Int)))then bif (decide (PU.length+1<=4398046511104))then(some (.next ((PU++[(⟨(0:Int),(0:Int),empty⟩:Val)]),(i64.wrap (i_2+(1:Int))))))else none else
 bif (decide (PU.length+1<=4398046511104))then(some (.next ((PU++[(⟨(1:Int),Qf,empty⟩:Val)]),(i64.wrap (i_2+(1:Int))))))else none else
 some (.exit (PU,i_2))
def acm (Q1:Int)(TX:Int):Sum ((List Val)×Int) (ap)->Option ((ap))
 |.inl (PU,i_2)=>some (⟨PU,(⟨Q1,TX⟩:ax)⟩:ap)
 |.inr q=>some q
def cH (Q1:Int)(TX:Int)(O3:(List Int)):Option (ap):=(ao (FI O3) fuel ([],(0:Int))).bind (acm Q1 TX)
instance gFact24_ok {Q1 : Int} {TX : Int} {O3 : (List Int)} {r : ap} : OkC (cH Q1 TX O3 = some r) (PTz 36 [.one (.int .i64 Q1), .one (.int .i64 TX), .one (.lst (O3.map (fun x => [AC.int .i64 x])))] (.val (.agg (aH r)))) := .mk fun H => by
 unfold cH at H;refine po_ Tryz.func36 Tryz.ntmps36 ?_;refine aY ?_;refine yi 1 0 3 rfl rfl ?_;refine alM_ (fun s:(List Val)×Int=>match s with|(PU,i_2)=>[(2,.one (.c (.lst (O3.map (fun x=>[AC.int .i64 x]))))),(6,.one (.ptr 0 0)),(7,.one (.ptr 1 0)),(8,.one (.c (.int .i64 i_2)))]) (fun s=>match s with|(PU,i_2)=>[.box [.emp,.c (.int .i64 (0:Int)),.c (.int .i64 (0:Int))],.box [.own (PU.map cV) 2,.c (.int .i64 Q1),.c (.int .i64 TX)],.spare PU.length 3]) H (fun _=>aru _)
  (fm_ bG [] rfl a8 cm) ?_
 rintro⟨PU,i_2⟩ st1 OU PM;unfold FI at OU;dsimp only at OU ⊢;rcases aj OU with⟨QH,OU⟩|⟨QH,OU⟩
 ·obtain⟨Qf,SN,i1,RL,OU⟩:=bu (f:=(fun x=>[AC.int .i64 x])) OU
  rcases aj OU with⟨RD,OU⟩|⟨RD,OU⟩
  ·obtain⟨g2,OU⟩:=aK OU
   cases OU;refine aY ?_;exact⟨_,rfl,fm_ bG [] nN a8 cm⟩
  obtain⟨g3,OU⟩:=aK OU
  cases OU;refine aY ?_;exact⟨_,rfl,fm_ bG [] nN a8 cm⟩
 exact bA OU PM
def JM:Option (Bool):=(cH (0:Int) (6:Int) [(1:Int)]).bind fun Pg=>(cH (3:Int) (9:Int) [(2:Int)]).bind fun QN=>(cH (4:Int) (8:Int) [(1:Int)]).bind fun P4=>(cH (5:Int) (7:Int) [(1:Int)]).bind fun RN=>(kD (⟨[(1:Int)],[Pg,QN]⟩:aW) (⟨[(1:Int)],[P4,RN]⟩:aW) (Ex.mk (7:Int) (0:Int) (⟨(0:Int),(0:Int),empty⟩:Val) empty [(Ex.mk (2:Int) (0:Int) (⟨(0:Int),(0:Int),empty⟩:Val) empty []),(Ex.mk (2:Int) (1:Int) (⟨(0:Int),(0:Int),empty⟩:Val) empty [])])).bind fun QR=>(cH (4:Int) (6:Int) [(1:Int),(1:Int)]).bind fun QK=>(cH (5:Int) (6:Int) [(1:Int),(1:Int)]).bind fun Si=>(gL QR.facts [QK,Si]).bind fun Yo=>bif Yo then(nC (⟨[(1:Int)],[Pg,QN]⟩:aW) (⟨[(1:Int)],[P4,RN]⟩:aW) (Ex.mk (7:Int) (0:Int) (⟨(0:Int),(0:Int),empty⟩:Val) empty [(Ex.mk (2:Int) (0:Int) (⟨(0:Int),(0:Int),empty⟩:Val) empty []),(Ex.mk (2:Int) (1:Int) (⟨(0:Int),(0:Int),empty⟩:Val) empty [])])).bind fun Rr=>(cH (0:Int) (4:Int) [(1:Int),(9:Int)]).bind fun QW=>(cH (3:Int) (9:Int) [(2:Int),(9:Int)]).bind fun P7=>(gL Rr.facts [QW,QK,Si,P7]).bind fun Qc=>bif Qc then(qt (⟨[(1:Int)],[Pg,QN]⟩:aW) (⟨[(1:Int)],[P4,RN]⟩:aW) (Ex.mk (7:Int) (0:Int) (⟨(0:Int),(0:Int),empty⟩:Val) empty [(Ex.mk (2:Int) (0:Int) (⟨(0:Int),(0:Int),empty⟩:Val) empty []),(Ex.mk (2:Int) (1:Int) (⟨(0:Int),(0:Int),empty⟩:Val) empty [])])).bind fun QX=>(cH (4:Int) (6:Int) [(1:Int)]).bind fun Wq=>(gL QX.facts [Wq]).bind fun Sj=>bif Sj then(q6 (⟨[(1:Int)],[Pg,QN]⟩:aW) (⟨[(1:Int)],[P4,RN]⟩:aW) (Ex.mk (7:Int) (0:Int) (⟨(0:Int),(0:Int),empty⟩:Val) empty [(Ex.mk (2:Int) (0:Int) (⟨(0:Int),(0:Int),empty⟩:Val) empty []),(Ex.mk (2:Int) (1:Int) (⟨(0:Int),(0:Int),empty⟩:Val) empty [])])).bind fun Rt=>(cH (0:Int) (4:Int) [(1:Int)]).bind fun QY=>(gL Rt.facts [QY,QN]).bind fun QZ=>bif QZ then(xd [Pg,QN] [P4,RN]).bind fun Sr=>bif (decide (((Sr.length:Nat):Int)=(4:Int)))then(vG [Pg,QN] [P4,RN] (8:Int)).bind fun Td=>(yn Td [(⟨(1:Int),(0:Int)⟩:cA),(⟨(1:Int),(1:Int)⟩:cA)]).bind fun XS=>some XS else
 some false else
 some false else
 some false else
 some false else
 some false
instance gAwake_ok {r : Bool} : OkC (JM = some r) (PTz 10 [] (.val (.one (.bool r)))) := .mk fun H => by
 unfold JM at H;refine po_ Tryz.func10 Tryz.ntmps10 ?_;obtain⟨Pg,c1,H⟩:=bd_ H;replace c1:=gFact24_ok c1
 try simp only[ark,ari,arn,ara,ay]at c1
 obtain⟨QN,c2,H⟩:=bd_ H;replace c2:=gFact24_ok c2
 try simp only[ark,ari,arn,ara,ay]at c2
 obtain⟨P4,c3,H⟩:=bd_ H;replace c3:=gFact24_ok c3
 try simp only[ark,ari,arn,ara,ay]at c3
 obtain⟨RN,c4,H⟩:=bd_ H;replace c4:=gFact24_ok c4
 try simp only[ark,ari,arn,ara,ay]at c4
 obtain⟨QR,c5,H⟩:=bd_ H;replace c5:=lr c5
 try simp only[ark,ari,arn,ara,ay]at c5
 obtain⟨QK,c6,H⟩:=bd_ H;replace c6:=gFact24_ok c6
 try simp only[ark,ari,arn,ara,ay]at c6
 obtain⟨Si,c7,H⟩:=bd_ H;replace c7:=gFact24_ok c7
 try simp only[ark,ari,arn,ara,ay]at c7
 obtain⟨Yo,c8,H⟩:=bd_ H;replace c8:=gIdent_ok c8
 try simp only[ark,ari,arn,ara,ay]at c8
 rcases aj H with⟨U_,H⟩|⟨U_,H⟩
 ·obtain⟨Rr,c9,H⟩:=bd_ H
  replace c9:=tI c9
  try simp only[ark,ari,arn,ara,ay]at c9
  obtain⟨QW,Yj,H⟩:=bd_ H;replace Yj:=gFact24_ok Yj
  try simp only[ark,ari,arn,ara,ay]at Yj
  obtain⟨P7,Yk,H⟩:=bd_ H;replace Yk:=gFact24_ok Yk
  try simp only[ark,ari,arn,ara,ay]at Yk
  obtain⟨Qc,Yd,H⟩:=bd_ H;replace Yd:=gIdent_ok Yd
  try simp only[ark,ari,arn,ara,ay]at Yd
  rcases aj H with⟨Qh,H⟩|⟨Qh,H⟩
  ·obtain⟨QX,V6,H⟩:=bd_ H
   replace V6:=gSemiT_ok V6
   try simp only[ark,ari,arn,ara,ay]at V6
   obtain⟨Wq,Vy,H⟩:=bd_ H;replace Vy:=gFact24_ok Vy
   try simp only[ark,ari,arn,ara,ay]at Vy
   obtain⟨Sj,Yl,H⟩:=bd_ H;replace Yl:=gIdent_ok Yl
   try simp only[ark,ari,arn,ara,ay]at Yl
   rcases aj H with⟨Rq,H⟩|⟨Rq,H⟩
   ·obtain⟨Rt,c16,H⟩:=bd_ H
    replace c16:=gAntiT_ok c16
    try simp only[ark,ari,arn,ara,ay]at c16
    obtain⟨QY,Ym,H⟩:=bd_ H;replace Ym:=gFact24_ok Ym
    try simp only[ark,ari,arn,ara,ay]at Ym
    obtain⟨QZ,Yn,H⟩:=bd_ H;replace Yn:=gIdent_ok Yn
    try simp only[ark,ari,arn,ara,ay]at Yn
    rcases aj H with⟨TV,H⟩|⟨TV,H⟩
    ·obtain⟨Sr,c19,H⟩:=bd_ H
     replace c19:=aaX c19
     try simp only[ark,ari,arn,ara,ay]at c19
     exact az H
    exact az H
   exact az H
  exact az H
 exact az H
end
open Go.RowKit Go.MapKept
def aA:aW:=⟨[1],[(⟨[⟨1,1,empty⟩],⟨0,6⟩⟩:ap),(⟨[⟨1,2,empty⟩],⟨3,9⟩⟩:ap)]⟩
def aB:aW:=⟨[1],[(⟨[⟨1,1,empty⟩],⟨4,8⟩⟩:ap),(⟨[⟨1,1,empty⟩],⟨5,7⟩⟩:ap)]⟩
def aE:Ex:=Ex.mk 7 0 ⟨0,0,empty⟩ empty [Ex.mk 2 0 ⟨0,0,empty⟩ empty [],Ex.mk 2 1 ⟨0,0,empty⟩ empty []]
theorem aJ:AN aA aB aE:=by
 obtain⟨c,hc,Qg⟩:=gp aA aB aE;have h:gS aA aB aE=some true:=k7
 rw[h]at hc;cases hc;exact Qg rfl
def ajT (l:List ap)(R:List (List Val)):Bool:=(l.all fun f => !aw f.valid||R.any fun r=>decide (f.row=r))&&R.all fun r=>l.any fun f=>aw f.valid&&decide (f.row=r)
theorem al9 {l X:List ap}(R:List (List Val))(h1:rP R)(h2:ajT l R=true)(h3:dz l R=X):canon l=X:=by
 rw[<- h3];unfold ajT at h2;rw[arq]at h2;refine(xi ⟨h1,fun x=>⟨fun hx=>?_,fun⟨f,hf,hv,hr⟩=>?_⟩⟩).symm
 ·obtain⟨f,hf,hc⟩:=List.any_eq_true.1 (arZ.1 h2.2 x hx)
  rw[arq]at hc;exact⟨f,hf,hc.1,arC hc.2⟩
 ·have:=arZ.1 h2.1 f hf
  rw[hv,Bool.not_true,Bool.false_or]at this;obtain⟨r,SL,hc⟩:=List.any_eq_true.1 this;rw[<- hr,arC hc];exact SL
theorem aJc:canon (rp aE aA.facts aB.facts)=[(⟨[⟨1,1,empty⟩,⟨1,1,empty⟩],⟨4,6⟩⟩:ap),(⟨[⟨1,1,empty⟩,⟨1,1,empty⟩],⟨5,6⟩⟩:ap)]:=al9 [[⟨1,1,empty⟩,⟨1,1,empty⟩]] (by unfold rP;decide +kernel) k7 k7
theorem aLc:canon (rp aE aA.facts aB.facts++kz aE aB.kinds.length aA.facts aB.facts)=[(⟨[⟨1,1,empty⟩,bI],⟨0,4⟩⟩:ap),(⟨[⟨1,1,empty⟩,⟨1,1,empty⟩],⟨4,6⟩⟩:ap),(⟨[⟨1,1,empty⟩,⟨1,1,empty⟩],⟨5,6⟩⟩:ap),(⟨[⟨1,2,empty⟩,bI],⟨3,9⟩⟩:ap)]:=al9 [[⟨1,1,empty⟩,bI],[⟨1,1,empty⟩,⟨1,1,empty⟩],[⟨1,2,empty⟩,bI]] (by unfold rP;decide +kernel) k7 k7
theorem aSc:canon (seL aE aA.facts aB.facts)=[(⟨[⟨1,1,empty⟩],⟨4,6⟩⟩:ap)]:=al9 [[⟨1,1,empty⟩]] (by unfold rP;decide +kernel) k7 k7
theorem aTc:canon (kz aE 0 aA.facts aB.facts)=[(⟨[⟨1,1,empty⟩],⟨0,4⟩⟩:ap),(⟨[⟨1,2,empty⟩],⟨3,9⟩⟩:ap)]:=al9 [[⟨1,1,empty⟩],[⟨1,2,empty⟩]] (by unfold rP;decide +kernel) k7 k7
theorem aF0:cH 0 6 [1]=some (⟨[⟨1,1,empty⟩],⟨0,6⟩⟩:ap):=k7
theorem aF1:cH 3 9 [2]=some (⟨[⟨1,2,empty⟩],⟨3,9⟩⟩:ap):=k7
theorem aF2:cH 4 8 [1]=some (⟨[⟨1,1,empty⟩],⟨4,8⟩⟩:ap):=k7
theorem aF3:cH 5 7 [1]=some (⟨[⟨1,1,empty⟩],⟨5,7⟩⟩:ap):=k7
theorem aF4:cH 4 6 [1,1]=some (⟨[⟨1,1,empty⟩,⟨1,1,empty⟩],⟨4,6⟩⟩:ap):=k7
theorem aF5:cH 5 6 [1,1]=some (⟨[⟨1,1,empty⟩,⟨1,1,empty⟩],⟨5,6⟩⟩:ap):=k7
theorem aF6:cH 0 4 [1,9]=some (⟨[⟨1,1,empty⟩,bI],⟨0,4⟩⟩:ap):=k7
theorem aF7:cH 3 9 [2,9]=some (⟨[⟨1,2,empty⟩,bI],⟨3,9⟩⟩:ap):=k7
theorem aF8:cH 4 6 [1]=some (⟨[⟨1,1,empty⟩],⟨4,6⟩⟩:ap):=k7
theorem aF9:cH 0 4 [1]=some (⟨[⟨1,1,empty⟩],⟨0,4⟩⟩:ap):=k7
theorem aJi:gL [(⟨[⟨1,1,empty⟩,⟨1,1,empty⟩],⟨4,6⟩⟩:ap),(⟨[⟨1,1,empty⟩,⟨1,1,empty⟩],⟨5,6⟩⟩:ap)] [(⟨[⟨1,1,empty⟩,⟨1,1,empty⟩],⟨4,6⟩⟩:ap),(⟨[⟨1,1,empty⟩,⟨1,1,empty⟩],⟨5,6⟩⟩:ap)]=some true:=k7
theorem aLi:gL [(⟨[⟨1,1,empty⟩,bI],⟨0,4⟩⟩:ap),(⟨[⟨1,1,empty⟩,⟨1,1,empty⟩],⟨4,6⟩⟩:ap),(⟨[⟨1,1,empty⟩,⟨1,1,empty⟩],⟨5,6⟩⟩:ap),(⟨[⟨1,2,empty⟩,bI],⟨3,9⟩⟩:ap)] [(⟨[⟨1,1,empty⟩,bI],⟨0,4⟩⟩:ap),(⟨[⟨1,1,empty⟩,⟨1,1,empty⟩],⟨4,6⟩⟩:ap),(⟨[⟨1,1,empty⟩,⟨1,1,empty⟩],⟨5,6⟩⟩:ap),(⟨[⟨1,2,empty⟩,bI],⟨3,9⟩⟩:ap)]=some true:=k7
theorem aSi:gL [(⟨[⟨1,1,empty⟩],⟨4,6⟩⟩:ap)] [(⟨[⟨1,1,empty⟩],⟨4,6⟩⟩:ap)]=some true:=k7
theorem aTi:gL [(⟨[⟨1,1,empty⟩],⟨0,4⟩⟩:ap),(⟨[⟨1,2,empty⟩],⟨3,9⟩⟩:ap)] [(⟨[⟨1,1,empty⟩],⟨0,4⟩⟩:ap),(⟨[⟨1,2,empty⟩],⟨3,9⟩⟩:ap)]=some true:=k7
theorem aPs:xd aA.facts aB.facts=some [⟨0,0⟩,⟨0,1⟩,⟨1,0⟩,⟨1,1⟩]:=k7
theorem aMt:vG aA.facts aB.facts 8=some [⟨1,0⟩,⟨1,1⟩]:=k7
theorem aSm:yn [⟨1,0⟩,⟨1,1⟩] [⟨1,0⟩,⟨1,1⟩]=some true:=k7
theorem aJe:kD aA aB aE=some ⟨[1,1],[(⟨[⟨1,1,empty⟩,⟨1,1,empty⟩],⟨4,6⟩⟩:ap),(⟨[⟨1,1,empty⟩,⟨1,1,empty⟩],⟨5,6⟩⟩:ap)]⟩:=by rw[lu aJ.toace,aJc];rfl
theorem aLe:nC aA aB aE=some ⟨[1,1],[(⟨[⟨1,1,empty⟩,bI],⟨0,4⟩⟩:ap),(⟨[⟨1,1,empty⟩,⟨1,1,empty⟩],⟨4,6⟩⟩:ap),(⟨[⟨1,1,empty⟩,⟨1,1,empty⟩],⟨5,6⟩⟩:ap),(⟨[⟨1,2,empty⟩,bI],⟨3,9⟩⟩:ap)]⟩:=by rw[th aJ,aLc];rfl
theorem aSe:qt aA aB aE=some ⟨[1],[(⟨[⟨1,1,empty⟩],⟨4,6⟩⟩:ap)]⟩:=by rw[zx aJ,aSc];rfl
theorem aTe:q6 aA aB aE=some ⟨[1],[(⟨[⟨1,1,empty⟩],⟨0,4⟩⟩:ap),(⟨[⟨1,2,empty⟩],⟨3,9⟩⟩:ap)]⟩:=by rw[yZ aJ,aTc];rfl
theorem LX:JM=some true:=by
 unfold JM;rw[aF0,aq5,aF1,aq5,aF2,aq5,aF3,aq5];change (kD aA aB aE).bind _=_;rw[aJe,aq5,aF4,aq5,aF5,aq5,aJi,aq5,aq8];change (nC aA aB aE).bind _=_;rw[aLe,aq5,aF6,aq5,aF7,aq5,aLi,aq5,aq8];change (qt aA aB aE).bind _=_;rw[aSe,aq5,aF8,aq5,aSi,aq5,aq8];change (q6 aA aB aE).bind _=_;rw[aTe,aq5,aF9,aq5,aTi,aq5,aq8];change (xd aA.facts aB.facts).bind _=_;rw[aPs,aq5];rw[show decide (((([⟨0,0⟩,⟨0,1⟩,⟨1,0⟩,⟨1,1⟩]:List cA).length:Nat):Int)=(4:Int))=true from rfl,aq8];change (vG aA.facts aB.facts 8).bind _=_;rw[aMt,aq5,aSm];rfl
theorem Aw.awake_pure:PTz 10 [] (.val (.one (.bool true))):=gAwake_ok LX
open Go.RowKit Go.MapKept
noncomputable section
def hJ (OX:aW):((List Ex)×Int)->Option (Step ((List Ex)×Int) (Bool)):=fun s=>match s with
 |(UK,VF)=>bif (decide (VF<((OX.kinds.length:Nat):Int)))then bif (decide (UK.length+1<=1599289640401))then(some (.next ((UK++[(Ex.mk (2:Int) VF (⟨(0:Int),(0:Int),empty⟩:Val) empty [])]),(i64.wrap (VF+(1:Int))))))else none else
 some (.exit (UK,VF))
def ia (OW:aW)(OX:aW)(OV:Ex):Sum ((List Ex)×Int) (Bool)->Option ((Bool))
 |.inl (UK,VF)=>(zA OV UK).bind fun Rr=>(kD OX OW Rr).bind fun QW=>(oy QW UK).bind fun P7=>(kD OW OX OV).bind fun Qc=>(lG P7 Qc).bind fun QO=>bif QO then some (true)else
 some false
 |.inr q=>some q
def hZ (OW:aW)(OX:aW):((List Ex)×Int)->Option (Step ((List Ex)×Int) (Bool)):=fun s=>match s with
 |(Qn,Tu)=>bif (decide (Tu<((OW.kinds.length:Nat):Int)))then bif (decide (Qn.length+1<=1599289640401))then(some (.next ((Qn++[(Ex.mk (2:Int) (i64.wrap (((OX.kinds.length:Nat):Int)+Tu)) (⟨(0:Int),(0:Int),empty⟩:Val) empty [])]),(i64.wrap (Tu+(1:Int))))))else none else
 some (.exit (Qn,Tu))
def hU (OW:aW)(OX:aW)(OV:Ex):Sum ((List Ex)×Int) (Bool)->Option ((Bool))
 |.inl (Qn,Tu)=>(ao (hJ OX) fuel (Qn,(0:Int))).bind (ia OW OX OV)
 |.inr q=>some q
def lp (OW:aW)(OX:aW)(OV:Ex):Option (Bool):=(gS OW OX OV).bind fun Pg=>bif (!Pg)then some (true)else
 (ao (hZ OW OX) fuel ([],(0:Int))).bind (hU OW OX OV)
theorem As {OW:aW}{OX:aW}{OV:Ex}{r:Bool}(H:lp OW OX OV=some r):PTz 9 [.agg (aV OW),.agg (aV OX),.agg (tE OV)] (.val (.one (.bool r))):=by
 unfold lp at H;rw[ay OV];refine po_ Tryz.func9 Tryz.ntmps9 ?_;obtain⟨Pg,c1,H⟩:=bd_ H;replace c1:=gJoins24_ok c1
 try simp only[ark,ari,arn,ara,ay]at c1
 rcases aj H with⟨QG,H⟩|⟨QG,H⟩
 ·have Xr:=Aw.awake_pure
  try simp only[ark,ari,arn,ara,ay]at Xr
  cases H;exact sp
 refine aY ?_;refine bP 7 7 rfl ?_;refine alM_ (fun s:(List Ex)×Int=>match s with|(Qn,Tu)=>[(3,.one (.ptr 0 0)),(4,.one (.ptr 1 0)),(5,.one (.ptr 2 0)),(7,.one (.own (Qn.map tE) 3)),(8,.one (.c (.int .i64 Tu)))]) (fun s=>match s with|(Qn,Tu)=>[.box [.c (.lst (OW.kinds.map (fun x=>[AC.int .i64 x]))),.c (.lst (OW.facts.map aH))],.box [.c (.lst (OX.kinds.map (fun x=>[AC.int .i64 x]))),.c (.lst (OX.facts.map aH))],.box [.c (.int .i64 OV.op),.c (.int .i64 OV.int),.c (.int .i64 OV.v.kind),.c (.int .i64 OV.v.int),.c (.str OV.v.text),.c (.str OV.nm),.c (.lst (OV.args.map tE))],.spare Qn.length 7]) H (fun _=>aru _)
  (fm_ bG [] rfl a8 cm) ?_
 rintro⟨Qn,Tu⟩ st1 OU PM;unfold hZ at OU;dsimp only at OU ⊢;rcases aj OU with⟨RF,OU⟩|⟨RF,OU⟩
 ·obtain⟨g2,OU⟩:=aK OU
  cases OU;refine aY ?_;exact⟨_,rfl,fm_ ⟨rfl,rfl,rfl,(by simp only[ark,ari,arn,ara,ay]<;>rfl),rfl,t7⟩ [] nN a8 cm⟩
 cases OU;have O0:hU OW OX OV (.inl (Qn,Tu))=some _:=PM;unfold hU at O0;dsimp only at O0;refine aY ?_;refine alM_ (fun s:(List Ex)×Int=>match s with|(UK,VF)=>[(3,.one (.ptr 0 0)),(4,.one (.ptr 1 0)),(5,.one (.ptr 2 0)),(7,.one (.own (UK.map tE) 3)),(9,.one (.c (.int .i64 VF)))]) (fun s=>match s with|(UK,VF)=>[.box [.c (.lst (OW.kinds.map (fun x=>[AC.int .i64 x]))),.c (.lst (OW.facts.map aH))],.box [.c (.lst (OX.kinds.map (fun x=>[AC.int .i64 x]))),.c (.lst (OX.facts.map aH))],.box [.c (.int .i64 OV.op),.c (.int .i64 OV.int),.c (.int .i64 OV.v.kind),.c (.int .i64 OV.v.int),.c (.str OV.v.text),.c (.str OV.nm),.c (.lst (OV.args.map tE))],.spare UK.length 7]) O0 (fun _=>aru _)
  (fm_ bG [] rfl a8 cm) ?_
 rintro⟨UK,VF⟩ st2 Pl Tt;unfold hJ at Pl;dsimp only at Pl ⊢;rcases aj Pl with⟨U_,Pl⟩|⟨U_,Pl⟩
 ·obtain⟨g3,Pl⟩:=aK Pl
  cases Pl;refine aY ?_;exact⟨_,rfl,fm_ ⟨rfl,rfl,rfl,(by simp only[ark,ari,arn,ara,ay]<;>rfl),rfl,t7⟩ [] nN a8 cm⟩
 cases Pl;have P2:ia OW OX OV (.inl (UK,VF))=some _:=Tt;unfold ia at P2;dsimp only at P2;obtain⟨Rr,c4,P2⟩:=bd_ P2;replace c4:=afz c4
 try simp only[ark,ari,arn,ara,ay]at c4
 obtain⟨QW,c5,P2⟩:=bd_ P2;replace c5:=lr c5
 try simp only[ark,ari,arn,ara,ay]at c5
 obtain⟨P7,c6,P2⟩:=bd_ P2;replace c6:=gProjectP_ok c6;obtain⟨Qc,c7,P2⟩:=bd_ P2;replace c7:=lr c7
 try simp only[ark,ari,arn,ara,ay]at c7
 obtain⟨QO,c8,P2⟩:=bd_ P2;replace c8:=gAlike_ok c8;rcases aj P2 with⟨TL,P2⟩|⟨TL,P2⟩
 ·have ZX:=Aw.awake_pure
  try simp only[ark,ari,arn,ara,ay]at ZX
  cases P2;exact sp
 cases P2;exact sp
end
open Go.RowKit Go.MapKept
def kR (i:Int):Ex:=Ex.mk (2:Int) i (⟨(0:Int),(0:Int),empty⟩:Val) empty []
def Ed (k n:Nat):List Ex:=(List.range n).map fun i=>kR ((k+i:Nat):Int)
def wc (p q:Nat):List Ex:=Ed q p++Ed 0 q
theorem MI (p q:Nat):(wc p q).length=p+q:=by unfold wc Ed;rw[ard,arj,arj,List.length_range,List.length_range]
theorem D5 {p q:Nat}{x:Ex}(h:x∈wc p q):∃ i:Nat,i<p+q/\x=kR (i:Int):=by
 unfold wc Ed at h;rcases arB.1 h with h|h
 ·obtain⟨i,hi,rfl⟩:=arK.1 h
  have:=List.mem_range.1 hi;exact⟨q+i,m0,rfl⟩
 ·obtain⟨i,hi,rfl⟩:=arK.1 h
  have:=List.mem_range.1 hi;exact⟨0+i,m0,rfl⟩
theorem adT {α:Type}(F:Ex->α)(z:List α)(hF:∀ (i:Nat) x,z[i]?=some x->F (kR (i:Int))=x)(k n:Nat)(h:k+n<=z.length):(Ed k n).map F=(z.drop k).take n:=by
 unfold Ed;rw[List.map_map];refine List.ext_getElem? fun i=>?_
 by_cases hi:i<n
 ·obtain⟨x,hx⟩:=gol_ (l:=z) (i:=k+i) m0
  rw[arw,List.getElem?_range hi,List.getElem?_take_of_lt hi,arW,hx];exact congrArg some (hF _ _ hx)
 ·rw[arY (by rw[arj,List.length_range];omega),arY (by rw[ar3];omega)]
theorem NW {α:Type}(F:Ex->α)(x y:List α)(hF:∀ (i:Nat) v,(y++x)[i]?=some v->F (kR (i:Int))=v):(wc x.length y.length).map F=x++y:=by
 unfold wc;rw[ark,adT F (y++x) hF _ _ (by rw[ard];omega),adT F (y++x) hF _ _ (by rw[ard];omega)];simp
theorem aax (n:Nat)(i:Int):cS (n+1) (kR i):=⟨by show 0<=_;omega,fun x hx=>by cases hx⟩
theorem Ja (i:Int):cS fuel (kR i):=by
 obtain⟨k,hk⟩:∃ k,fuel=k+1:=⟨fuel-1,rfl⟩;rw[hk];exact aax k i
theorem ajg {i:Nat}(h:i<=1000):gV (kR (i:Int)):=by
 refine gV.mk ?_ ?_ ?_ ?_ ?_ ?_
 ·refine⟨?_,?_⟩<;>omega
 ·refine⟨?_,?_⟩<;>omega
 ·exact⟨⟨by show(-9223372036854775808:Int)<=0;omega,by show(0:Int)<=9223372036854775807;omega⟩,⟨by show(-9223372036854775808:Int)<=0;omega,by show(0:Int)<=9223372036854775807;omega⟩,aru _⟩
 ·exact aru _
 ·exact aru _
 ·intro a ha;cases ha
theorem ai4 (i:Int):oN (kR i)=true:=by
 unfold oN;rw[arq];refine⟨beq_self_eq_true _,?_⟩;rw[if_neg (show ¬ (kR i).op=1 by show ¬ (2:Int)=1;omega),if_pos (show(kR i).op=2 from rfl)];show aay (⟨(0:Int),(0:Int),empty⟩:Val)=true
 first|decide|rfl|kernel_rfl|simp[aay,b8]
theorem EN (i:Int):fO (kR i)=some true:=by
 rw[(kf (kR i) (aru _)).1,ai4];rfl
theorem akZ {row:List Val}{i:Nat}{v:Val}(h:row[i]?=some v)(hv:vF v=true):iQ (kR (i:Int)) row=v:=by
 rw[Jj row (Ja i)];have hf:fU (kR (i:Int))=true:=by unfold fU;rw[EN];rfl
 rw[hf,aq8];show B6 (ro row (i:Int))=v;rw[aei h];unfold B6;rw[hv];rfl
theorem alD {kinds:List Int}{i:Nat}{k:Int}(h:kinds[i]?=some k):(acb (kR (i:Int)) kinds).1=k:=by
 have hi:=(aq6.1 h).1;obtain⟨n,hn⟩:∃ n,fuel=n+1:=⟨fuel-1,rfl⟩;have hd:ja fuel (kR (i:Int))=some 1:=by
  rw[hn];show(ao (dm (kR (i:Int)) (ja n)) fuel ((0:Int),(0:Int))).bind ws=_;rw[hn,ao];rfl
 have hc:bX fuel (kR (i:Int)) kinds=some (k,0):=by
  rw[hn];show gv (bX n) (kR (i:Int)) kinds=_;unfold gv;rw[show nV (kR (i:Int)).op=some (0,0)from rfl,aq5,EN,aq5];show(bif decide ((i:Int)<0)then _ else bif decide (((kinds.length:Nat):Int)<=(i:Int))then _ else(ao _ fuel ([],(0:Int))).bind (wU (kR (i:Int)) kinds))=_;rw[aq9 m0,aq9 m0,aq7,aq7,hn,ao];show((aF kinds (i:Int)).bind fun R_=>some (R_,true)).bind _=_;rw[gn_ h];rfl
 unfold acb qi;rw[hd,aq5,aq9 m9,aq7,hc];rfl
theorem ME {body:(List Ex×Int)->Option (Step (List Ex×Int) Bool)}(k n:Nat)(h1:∀ (s:List Ex) (i:Nat),i<n->s.length+1<=1000->body (s,(i:Int))=some (.next (s++[kR ((k+i:Nat):Int)],((i+1:Nat):Int))))(h2:∀ s,body (s,((n:Nat):Int))=some (.exit (s,((n:Nat):Int))))(hn:n<=100)(s:List Ex)(hs:s.length+n<=1000):ao body fuel (s,(0:Int))=some (.inl (s++Ed k n,((n:Nat):Int))):=by
 have hf:((List.range n).flatMap fun i=>[kR ((k+i:Nat):Int)])=Ed k n:=fo_ (fun i=>kR ((k+i:Nat):Int)) _;have hl:(Ed k n).length=n:=by unfold Ed;rw[arj,List.length_range]
 have:=bM (l:=List.range n) (body:=body) (fun i=>[kR ((k+i:Nat):Int)]) 1000 ?_ ?_ (by rw[List.length_range];unfold fuel;omega) s (by rw[hf,hl];omega)
 ·rw[this,hf,List.length_range]
 ·intro s i x hx hs
  obtain⟨hi,rfl⟩:=aq6.1 hx;rw[List.length_range]at hi;rw[List.getElem_range];exact h1 s i hi hs
 ·intro s
  rw[List.length_range];exact h2 s
theorem ae6 {l:List Ex}(hl:∀ x∈l,gV x){y r:Ex}(h:fY y l=some r):r=y\/r∈l:=by
 unfold fY at h;rcases aj h with⟨_,h⟩|⟨_,h⟩
 ·cases h;exact Or.inl rfl
 rcases aj h with⟨_,h⟩|⟨_,h⟩
 ·cases h;exact Or.inl rfl
 rcases aj h with⟨_,h⟩|⟨_,h⟩
 ·cases h;exact Or.inl rfl
 rcases aj h with⟨_,h⟩|⟨_,h⟩
 ·cases h;exact Or.inl rfl
 rcases aj h with⟨_,h⟩|⟨_,h⟩
 ·cases h;exact Or.inl rfl
 obtain⟨x,hx,h⟩:=bd_ h;have hm:=arb (gu hx).2;rw[pK _ _ (aro _) (hl x hm)]at h
 cases h;exact Or.inr hm
theorem OE {l:List Ex}(hl:∀ x∈l,gV x)(hc:∀ x∈l,∀ n,cS (n+1) x):∀ (n:Nat) (e:Ex),cS n e->gV e ->∀ (m:Nat) (s:Ex),exD e<=m->cu m e (fun x0=>fY x0 l)=some s->cS n s
 |0,_,h,_,_,_,_,_=>h.elim
 |n+1,e,h,ho,0,s,hm,_=>by have:=Bi e;omega
 |n+1,e,h,ho,m+1,s,hm,hs=>by
  obtain⟨hll,ha⟩:=tD ho;have hx:∀ x∈e.args,cu m x (fun x0=>fY x0 l)=some ((cu m x (fun x0=>fY x0 l)).getD x):=by
   intro x hx;obtain⟨r,hr⟩:=qo (f:=fun x0=>fY x0 l) (DX hl) m x (by have:=tB hx;omega) (ha x hx);rw[hr];rfl
  generalize hg:(fun x=>(cu m x (fun x0=>fY x0 l)).getD x)=g at hx;have Q2:∀ x∈e.args,cu m x (fun x0=>fY x0 l)=some (g x):=by subst hg;exact hx
  rw[lm Q2 hll]at hs;have hw:cS (n+1) (uJ e (e.args.map g)):=by
   refine⟨by show(e.args.map g).length<=_;rw[arj];exact h.1,fun y hy=>?_⟩;obtain⟨x,O0,rfl⟩:=arK.1 (show y∈e.args.map g from hy);exact OE hl hc n x (h.2 x O0) (ha x O0) m (g x) (by have:=tB O0;omega) (Q2 x O0)
  by_cases o2:e.op=2
  ·rw[if_pos o2]at hs
   rcases ae6 hl hs with rfl|hm2
   ·exact hw
   ·exact hc s hm2 n
  ·rw[if_neg o2]at hs
   obtain rfl:=arH hs;exact hw
theorem abm {e:Ex}{kinds:List Int}(k1:nl e kinds=some 0):∃ c,bX fuel e kinds=some (c,0):=by
 unfold nl at k1;obtain⟨r,r1,r2⟩:=bd_ k1;by_cases h0:r.2=0
 ·unfold qi at r1
  obtain⟨d,d1,d2⟩:=bd_ r1;by_cases hd:(24:Int)<d
  ·rw[aq_ hd]at d2
   have:r=(0,26):=(arH d2).symm;rw[this]at h0;exact absurd h0 m9
  ·rw[aq9 hd,aq7]at d2
   obtain⟨q,q1,q2⟩:=bd_ d2;have:r=(q.1,q.2):=(arH q2).symm;rw[this]at h0;exact⟨q.1,by rw[q1,<- h0]⟩
 ·rw[aq_ (show r.2≠0 from h0)]at r2
  exact absurd (arH r2) h0
theorem aht {α β:Type}(f g:α->List β):∀ m:List α,(m.flatMap fun y=>f y++g y).Perm (m.flatMap f++m.flatMap g)
 |[] => .refl _
 |y::m=>by
  rw[arN,arN,arN,arA,arA];refine List.Perm.append_left _ (((aht f g m).append_left _).trans ?_);rw[<- arA,<- arA];exact List.perm_append_comm.append_right _
theorem adJ {α β γ:Type}(g:α->β->List γ)(m:List β):∀ l:List α,(l.flatMap fun x=>m.flatMap (g x)).Perm (m.flatMap fun y=>l.flatMap fun x=>g x y)
 |[]=>by simp
 |x::l=>by
  rw[arN];refine((adJ g m l).append_left _).trans ?_;exact(aht (g x) (fun y=>l.flatMap fun x=>g x y) m).symm
theorem fm_congr {α β:Type}{f g:α->List β}:∀ {l:List α},(∀ x∈l,f x=g x)->l.flatMap f=l.flatMap g
 |[],_=>rfl
 |x::l,h=>by rw[arN,arN,h x m5,fm_congr fun y hy=>h y (by simp[hy])]
theorem amu (l:List Ex)(t:Int):∀ m:List ap,aD (m.map (prG l)) t=(aD m t).map (o7 l)
 |[]=>rfl
 |f::m=>by
  have ih:=amu l t m;unfold aD at ih ⊢;rw[ari,List.filter_cons,List.filter_cons];show(if aM f.valid t=true then _ else _:List ap).map _=_
  cases aM f.valid t with
  |false=>simp only[Bool.false_eq_true,if_false];exact ih
  |true=>simp only[if_true];rw[ari,ari,ari,ih];rfl
section
variable {a b:aW} {e s:Ex}
theorem wN (a b:aW)(e:Ex)(ho:gV e):lp a b e=some true:=by
 obtain⟨c,hc,Qg⟩:=gp a b e;unfold lp;rw[hc,aq5]
 cases c with
 |false=>rfl
 |true =>
  have h:=Qg rfl;have hk:=h.kab;have hka:=h.ka;have hkb:=h.kb;rw[Bool.not_true,aq7,ME b.kinds.length a.kinds.length ?_ ?_ m0 [] m8,aq5]
  ·unfold hU
   dsimp only;rw[ME 0 b.kinds.length ?_ ?_ m0 _ (by unfold Ed;simp;omega),aq5]
   ·unfold ia
    dsimp only;rw[ara];rw[show Ed b.kinds.length a.kinds.length++Ed 0 b.kinds.length=wc a.kinds.length b.kinds.length from rfl];have Vs:∀ x∈wc a.kinds.length b.kinds.length,gV x:=fun x hx=>by
     obtain⟨i,hi,rfl⟩:=D5 hx;exact ajg m0
    have hcn:∀ x∈wc a.kinds.length b.kinds.length,∀ n,cS (n+1) x:=fun x hx n=>by
     obtain⟨i,hi,rfl⟩:=D5 hx;exact aax n _
    have hcf:∀ x∈wc a.kinds.length b.kinds.length,cS fuel x:=fun x hx=>by
     obtain⟨i,hi,rfl⟩:=D5 hx;exact Ja _
    obtain⟨s,hs,hm⟩:=afX ho Vs;have XX:=OE Vs hcn fuel e h.he ho _ _ (aro _) hm;have h2:ace b a s:=⟨h.B,h.A,h.lb,h.la,h.kb,h.ka,m0,XX⟩;rw[hs,aq5,lu h2,aq5,JZ (bC (dG h2)) (by rw[MI];omega) hcf,aq5,lu h.toace,aq5];have Rh:ah3 (wc a.kinds.length b.kinds.length) (b.kinds++a.kinds)=a.kinds++b.kinds:=NW _ _ _ fun i v hv=>alD hv
    have hca:canon ((canon (rp s b.facts a.facts)).map (prG (wc a.kinds.length b.kinds.length)))=canon (rp e a.facts b.facts):=by
     have l1:=iN (dG h2).1;have l2:=mU s h.lb h.la;refine oT (by rw[arj];omega) (dG h.toace).1 fun t=>?_
     rw[amu];refine((iZ (dG h2).1 t).map _).trans ?_;rw[Jd,Jd,List.map_flatMap];have RB:∀ x∈aD a.facts t,∀ y∈aD b.facts t,o7 (wc a.kinds.length b.kinds.length) (y++x)=x++y:=by
      intro x hx y hy;obtain⟨f,hf,rfl⟩:=pV hx;obtain⟨g,hg,rfl⟩:=pV hy;rw[<- h.A.row f hf,<- h.B.row g hg];refine NW _ _ _ fun i v hv=>akZ hv ?_
      rcases arB.1 (arb hv)with hv|hv
      ·exact h.B.val g hg v hv
      ·exact h.A.val f hf v hv
     have hsel:∀ x∈aD a.facts t,∀ y∈aD b.facts t,fF s (y++x)=fF e (x++y):=by
      intro x hx y hy;unfold fF;rw[IE (l:=wc a.kinds.length b.kinds.length) (kinds:=a.kinds++b.kinds) (y++x) (by rw[MI,ard]) Vs hcf fuel e (aro _) h.he ho (abm h.chk) _ s (aro _) hm XX,RB x hx y hy]
     refine List.Perm.trans (.of_eq ?_) (adJ (fun y x=>bif fF e (x++y)then [x++y]else []) (aD a.facts t) (aD b.facts t));refine fm_congr fun y hy=>?_
     unfold cM;rw[List.map_flatMap];refine fm_congr fun x hx=>?_
     rw[hsel x hx y hy,<- RB x hx y hy]
     cases fF e (o7 (wc a.kinds.length b.kinds.length) (y++x))<;>rfl
    rw[Rh,hca];show(lG _ _).bind _=_;rw[ku (by rw[ard];omega) (bC (dG h.toace))];rfl
   ·intro s i hi hs
    unfold hJ;dsimp only;rw[aq_ m0,aq8,aq_ m0,aq8,wrapN m0,arS];rfl
   ·intro s
    unfold hJ;dsimp only;rw[lF_];rfl
  ·intro s i hi hs
   unfold hZ;dsimp only;rw[aq_ m0,aq8,aq_ m0,aq8,wrapN m0,show i64.wrap (((b.kinds.length:Nat):Int)+(i:Int))=((b.kinds.length+i:Nat):Int)from a7 m0 m0];rfl
  ·intro s
   unfold hZ;dsimp only;rw[lF_];rfl
end
open Go.RowKit Go.MapKept
theorem v8 {a b:aW}{e:Ex}(q0:jk a)(q1:jk b)(q2:gV e):PTz 9 [.agg (aV a),.agg (aV b),.agg (tE e)] (.val (.one (.bool true))):=As (wN a b e q2)
