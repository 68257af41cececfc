/- Parts. No condition. -/
import Derived.Test.YtdkmoemdipgikaaGreatDoorKAF
import Derived.Test.YtdkmoemdipgikaaGreatDoorProg
set_option maxHeartbeats 8000000
set_option maxRecDepth 100000
set_option linter.unusedSimpArgs false
set_option linter.unusedVariables false
namespace Go.Proofs.YtdkmoemdipgikaaGreatDoor
open Go.RowKit
def zeL:List (Nat×AV):=[(2,.one (.c (.int .i64 0))),(3,.one (.c (.int .i64 0))),(4,.one (.c (.bool false))),(5,.one (.c (.int .u8 0))),(9,.one (.c (.str ⟨#[]⟩))),(22,.one (.emp)),(23,.one (.emp)),(24,.one (.emp)),(25,.one (.emp)),(27,.agg [.c (.str ⟨#[]⟩),.emp,.emp,.emp,.emp]),(28,.one (.emp)),(30,.one (.emp)),(31,.one (.emp)),(35,.one (.emp)),(43,.one (.emp)),(45,.agg [.c (.int .i64 0),.c (.int .i64 0)]),(47,.agg [.c (.int .i64 0),.c (.str ⟨#[]⟩),.c (.int .i64 0),.emp,.c (.int .i64 0),.c (.int .i64 0)]),(49,.one (.c (.int .i64 0))),(54,.agg [.emp,.emp]),(56,.agg [.emp,.c (.int .i64 0),.c (.int .i64 0)]),(62,.agg [.c (.str ⟨#[]⟩),.c (.int .i64 0),.c (.bool false)]),(64,.agg [.c (.int .i64 0),.c (.int .i64 0),.c (.str ⟨#[]⟩)]),(65,.one (.c (.nul .func))),(71,.agg [.c (.int .i64 0),.c (.int .i64 0),.c (.int .i64 0),.c (.int .i64 0),.c (.str ⟨#[]⟩),.c (.str ⟨#[]⟩),.emp]),(75,.agg [.emp,.c (.str ⟨#[]⟩)]),(83,.one (.emp)),(85,.one (.emp)),(88,.one (.emp)),(90,.agg [.emp,.emp]),(91,.one (.emp)),(96,.one (.c (.nul .func))),(100,.one (.c (.nul .map))),(114,.one (.emp)),(122,.one (.c (.nul .func))),(125,.one (.c (.nul .func))),(136,.one (.c (.nul .map))),(137,.one (.emp)),(139,.agg [.c (.int .i64 0),.c (.int .i64 0),.c (.int .i64 0)]),(143,.one (.c (.nul .func))),(144,.one (.c (.nul .ptr))),(145,.one (.emp)),(147,.agg [.c (.nul .ptr),.emp]),(164,.agg [.c (.int .i64 0),.c (.int .i64 0)]),(165,.one (.c (.nul .func))),(167,.one (.emp)),(170,.agg [.emp,.emp]),(184,.one (.c (.nul .func))),(186,.one (.emp)),(189,.agg [.c (.int .i64 0),.c (.int .i64 0),.c (.int .i64 0)]),(190,.one (.c (.nul .ptr))),(196,.one (.emp)),(199,.one (.c (.nul .map))),(201,.one (.c (.nul .func))),(207,.one (.c (.int .u64 0))),(209,.one (.c (.nul .func))),(210,.one (.c (.nul .ptr))),(214,.one (.emp)),(216,.agg [.c (.int .i64 0),.c (.int .i64 0)]),(227,.one (.c (.int .i64 0))),(234,.one (.c (.int .u32 0))),(236,.one (.c (.int .u64 0))),(245,.agg [.c (.int .i64 0),.c (.bool false)]),(248,.one (.c (.int .u64 0))),(252,.one (.c (.nul .ptr)))]
def kiL:List (Nat×TypeDesc):=[(2,.int .i64),(3,.int .i64),(4,.bool),(5,.int .u8),(9,.string),(22,.slice 62),(23,.slice 3),(24,.slice 75),(25,.slice 71),(28,.slice 56),(30,.slice 27),(31,.slice 28),(35,.slice 47),(43,.slice 64),(49,.int .i64),(83,.slice 43),(85,.slice 90),(88,.slice 164),(91,.slice 45),(100,.map 9 91),(114,.slice 9),(136,.map 9 137),(137,.slice 139),(144,.pointer 147),(145,.slice 5),(167,.slice 170),(186,.slice 189),(190,.pointer 5),(196,.slice 245),(199,.map 9 3),(207,.int .u64),(210,.unsafePointer),(214,.slice 216),(227,.int .i64),(234,.int .u32),(236,.int .u64),(248,.int .u64),(252,.pointer 3)]
def eqL:List (Nat×List Sc):=[(45,[.int .i64,.int .i64]),(62,[.str,.int .i64,.bool]),(64,[.int .i64,.int .i64,.str]),(164,[.int .i64,.int .i64]),(189,[.int .i64,.int .i64,.int .i64]),(216,[.int .i64,.int .i64]),(245,[.int .i64,.bool])]
def tab:TI:=TI.of [(2,1),(3,1),(4,1),(5,1),(9,1),(22,1),(23,1),(24,1),(25,1),(27,5),(28,1),(30,1),(31,1),(35,1),(43,1),(45,2),(47,6),(49,1),(54,2),(56,3),(62,3),(64,3),(65,1),(71,7),(75,2),(83,1),(85,1),(88,1),(90,2),(91,1),(96,1),(100,1),(114,1),(122,1),(125,1),(136,1),(137,1),(139,3),(143,1),(144,1),(145,1),(147,2),(164,2),(165,1),(167,1),(170,2),(184,1),(186,1),(189,3),(190,1),(196,1),(199,1),(201,1),(207,1),(209,1),(210,1),(214,1),(216,2),(227,1),(234,1),(236,1),(245,2),(248,1),(252,1)] [(2,false),(3,false),(4,false),(5,false),(9,false),(22,false),(23,false),(24,false),(25,false),(27,true),(28,false),(30,false),(31,false),(35,false),(43,false),(45,true),(47,true),(49,false),(54,true),(56,true),(62,true),(64,true),(65,false),(71,true),(75,true),(83,false),(85,false),(88,false),(90,true),(91,false),(96,false),(100,false),(114,false),(122,false),(125,false),(136,false),(137,false),(139,true),(143,false),(144,false),(145,false),(147,true),(164,true),(165,false),(167,false),(170,true),(184,false),(186,false),(189,true),(190,false),(196,false),(199,false),(201,false),(207,false),(209,false),(210,false),(214,false),(216,true),(227,false),(234,false),(236,false),(245,true),(248,false),(252,false)] [(22,62),(23,3),(24,75),(25,71),(28,56),(30,27),(31,28),(35,47),(43,64),(83,43),(85,90),(88,164),(91,45),(114,9),(137,139),(145,5),(167,170),(186,189),(196,245),(214,216)] [(27,[(0,9),(1,22),(2,23),(3,24),(4,25)]),(45,[(0,3),(1,3)]),(47,[(0,3),(1,9),(2,3),(3,43),(4,45)]),(54,[(0,23),(1,28)]),(56,[(0,43),(1,45)]),(62,[(0,9),(1,3),(2,4)]),(64,[(0,3),(1,3),(2,9)]),(71,[(0,3),(1,3),(2,64),(5,9),(6,25)]),(75,[(0,23),(1,9)]),(90,[(0,43),(1,88)]),(139,[(0,45),(2,3)]),(147,[(0,144),(1,145)]),(164,[(0,3),(1,3)]),(170,[(0,43),(1,91)]),(189,[(0,3),(1,3),(2,3)]),(216,[(0,3),(1,3)]),(245,[(0,3),(1,4)])] zeL [(2,8),(3,8),(4,1),(5,1),(9,16),(22,24),(23,24),(24,24),(25,24),(27,112),(28,24),(30,24),(31,24),(35,24),(43,24),(45,16),(47,72),(49,8),(54,48),(56,40),(62,32),(64,32),(65,8),(71,88),(75,40),(83,24),(85,24),(88,24),(90,48),(91,24),(96,8),(100,8),(114,24),(122,8),(125,8),(136,8),(137,24),(139,24),(143,8),(144,8),(145,24),(147,32),(164,16),(165,8),(167,24),(170,48),(184,8),(186,24),(189,24),(190,8),(196,24),(199,8),(201,8),(207,8),(209,8),(210,8),(214,24),(216,16),(227,8),(234,4),(236,8),(245,16),(248,8),(252,8)] kiL [27,45,47,54,56,62,64,71,75,90,139,147,164,170,189,216,245] [2,3,4,5,9,22,23,24,25,27,28,30,31,35,43,45,47,49,54,56,62,64,65,71,75,83,85,88,90,91,96,100,114,122,125,136,137,139,143,144,145,147,164,165,167,170,184,186,189,190,196,199,201,207,209,210,214,216,227,234,236,245,248,252] eqL [0]
theorem tab_ok:TIok Tryz.prog tab:=by
 refine TI.of_ok k7 k7 k7 k7 ?_ k7 ?_ k7 k7 ?_
 ·intro p hp
  simp only[zeL,amN,List.not_mem_nil,or_false]at hp;rcases hp with rfl|rfl|rfl|rfl|rfl|rfl|rfl|rfl|rfl|rfl|rfl|rfl|rfl|rfl|rfl|rfl|rfl|rfl|rfl|rfl|rfl|rfl|rfl|rfl|rfl|rfl|rfl|rfl|rfl|rfl|rfl|rfl|rfl|rfl|rfl|rfl|rfl|rfl|rfl|rfl|rfl|rfl|rfl|rfl|rfl|rfl|rfl|rfl|rfl|rfl|rfl|rfl|rfl|rfl|rfl|rfl|rfl|rfl|rfl|rfl|rfl|rfl|rfl|rfl<;>kernel_rfl
 ·intro p hp
  simp only[kiL,amN,List.not_mem_nil,or_false]at hp;rcases hp with rfl|rfl|rfl|rfl|rfl|rfl|rfl|rfl|rfl|rfl|rfl|rfl|rfl|rfl|rfl|rfl|rfl|rfl|rfl|rfl|rfl|rfl|rfl|rfl|rfl|rfl|rfl|rfl|rfl|rfl|rfl|rfl|rfl|rfl|rfl|rfl|rfl|rfl<;>kernel_rfl
 ·intro p hp
  simp only[eqL,amN,List.not_mem_nil,or_false]at hp;rcases hp with rfl|rfl|rfl|rfl|rfl|rfl|rfl<;>exact ab_ k7
def alO:TI :={ tab with soft:=true }
theorem tabS_ok:TIok Tryz.prog alO:=⟨tab_ok.size,tab_ok.agg,tab_ok.elem,tab_ok.field,tab_ok.zero,tab_ok.bytes,tab_ok.kind,tab_ok.struct,tab_ok.zok,tab_ok.eqs⟩
theorem mixed:Tryz.prog.follows .mixedOrders=true:=k7
open Go.RowKit Go.MapKept
structure Cmn where
 nm:ByteArray
 kind:Int
 nullable:Bool
def ez (x:Cmn):List AC:=[.str x.nm,.int .i64 x.kind,.bool x.nullable]
structure Val where
 kind:Int
 int:Int
 text:ByteArray
def cV (x:Val):List AC:=[.int .i64 x.kind,.int .i64 x.int,.str x.text]
inductive Ex where
 |mk (op:Int) (int:Int) (v:Val) (nm:ByteArray) (args:(List Ex))
mutual
def tE:Ex->List AC
 |.mk op int v nm args=>[.int .i64 op,.int .i64 int,.int .i64 v.kind,.int .i64 v.int,.str v.text,.str nm,.lst (tEs args)]
def tEs:List Ex->List (List AC)
 |[]=>[]
 |e::l=>tE e::tEs l
end
theorem NE:∀ (l:List Ex),tEs l=l.map tE
 |[]=>by simp[tEs]
 |e::l=>by simp[tEs,NE l]
def Ex.op:Ex->Int |.mk a _ _ _ _=>a
def Ex.int:Ex->Int |.mk _ a _ _ _=>a
def Ex.v:Ex->Val |.mk _ _ a _ _=>a
def Ex.nm:Ex->ByteArray |.mk _ _ _ a _=>a
def Ex.args:Ex->(List Ex) |.mk _ _ _ _ a=>a
theorem aN (e:Ex):tE e=[.int .i64 e.op,.int .i64 e.int,.int .i64 e.v.kind,.int .i64 e.v.int,.str e.v.text,.str e.nm,.lst (e.args.map tE)]:=by
 obtain⟨_,_,_,_,_⟩:=e;rw[tE,NE];rfl
theorem FF (e:Ex):(tE e).length=7:=by rw[aN];rfl
structure Fgn where
 columns:(List Int)
 table:ByteArray
def fY (x:Fgn):List AC:=[.lst (x.columns.map (fun x=>[AC.int .i64 x])),.str x.table]
structure bv where
 nm:ByteArray
 columns:(List Cmn)
 key:(List Int)
 foreigns:(List Fgn)
 checks:(List Ex)
def bn (x:bv):List AC:=[.str x.nm,.lst (x.columns.map ez),.lst (x.key.map (fun x=>[AC.int .i64 x])),.lst (x.foreigns.map fY),.lst (x.checks.map tE)]
structure au where
 lo:Int
 hi:Int
def aH (x:au):List AC:=[.int .i64 x.lo,.int .i64 x.hi]
structure bD where
 kind:Int
 table:ByteArray
 index:Int
 row:(List Val)
 valid:au
def bN (x:bD):List AC:=[.int .i64 x.kind,.str x.table,.int .i64 x.index,.lst (x.row.map cV),.int .i64 x.valid.lo,.int .i64 x.valid.hi]
structure aw where
 row:(List Val)
 valid:au
def aA (x:aw):List AC:=[.lst (x.row.map cV),.int .i64 x.valid.lo,.int .i64 x.valid.hi]
structure Rln where
 kinds:(List Int)
 facts:(List aw)
def ajT (x:Rln):List AC:=[.lst (x.kinds.map (fun x=>[AC.int .i64 x])),.lst (x.facts.map aA)]
structure Stp where
 lo:Int
 n:Int
def dM (x:Stp):List AC:=[.int .i64 x.lo,.int .i64 x.n]
structure bI where
 row:(List Val)
 steps:(List Stp)
def fN (x:bI):List AC:=[.lst (x.row.map cV),.lst (x.steps.map dM)]
structure ji where
 period:au
 n:Int
def ol (x:ji):List AC:=[.int .i64 x.period.lo,.int .i64 x.period.hi,.int .i64 x.n]
structure ar where
 row:(List Val)
 periods:(List au)
def bp (x:ar):List AC:=[.lst (x.row.map cV),.lst (x.periods.map aH)]
structure BN where
 column:Int
 desc:Bool
def xh (x:BN):List AC:=[.int .i64 x.column,.bool x.desc]
open Go.RowKit
mutual
def hgt:Ex->Nat
 |.mk _ _ _ _ l=>acZ l+1
def acZ:List Ex->Nat
 |[]=>0
 |e::l=>max (hgt e) (acZ l)
end
theorem Mc (e:Ex):hgt e=acZ e.args+1:=by
 obtain⟨_,_,_,_,_⟩:=e;rw[hgt];rfl
theorem J3:∀ {l:List Ex} {x:Ex},x∈l->hgt x<=acZ l
 |e::l,x,h=>by
  rw[acZ];rcases amN.1 h with rfl|h
  ·omega
  ·have:=J3 h;omega
theorem NZ {e x:Ex}(h:x∈e.args):hgt x<hgt e:=by
 rw[Mc e];have:=J3 h;omega
open Go.RowKit
section
variable {P:Program} {Q:Exit->Act->World->Prop} {md:Region.Mode}
def lQ (md:Region.Mode)(ops:Array Oper):Nat->Array Bool->List Nat->Prop
 |0,_,s=>s=[]
 |fuel+1,listed,s=>(Region.ready md ops listed=[]/\s=[]) \/ ∃ i s',i∈Region.ready md ops listed/\s=i::s'/\lQ md ops fuel (listed.setIfInBounds i true) s'
theorem mem_ready {ops:Array Oper}{listed:Array Bool}{i:Nat}:i∈Region.ready md ops listed ↔ ∃ o,ops[i]?=some o/\listed.getD i true=false /\ ∀ e∈o.after.toList,Region.binds md e=true->listed.getD e.on false=true:=by
 unfold Region.ready;rw[List.mem_filter,List.mem_range,amO,Bool.not_eq_true'];constructor
 ·rintro⟨hi,h1,h2⟩
  have ho:ops[i]?=some ops[i]:=amV hi;rw[ho,Option.map_some,Option.getD_some]at h2;refine⟨_,ho,h1,fun e he hb=>?_⟩;have:=Array.all_eq_true'.1 h2 e (by simpa using he);rw[hb]at this;simpa using this
 ·rintro⟨o,ho,h1,h2⟩
  refine⟨(anf.1 ho).1,h1,?_⟩;rw[ho,Option.map_some,Option.getD_some,Array.all_eq_true'];intro e he;by_cases hb:Region.binds md e=true
  ·rw[hb,h2 e (by simpa using he) hb];rfl
  ·simp[hb]
structure sR (π:Nat->Nat)(u v:Nat)(l m:List Oper):Prop where
 inv:∀ i,π (π i)=i
 get:∀ i,∃ f:Oper->Array Edge,m[π i]?=(l[i]?).map (fun o =>{ o with after:=f o }) /\
  ∀ o,l[i]?=some o->(∀ e∈o.after.toList,{ e with on:=π e.on }∈(f o).toList) /\ ∀ e∈(f o).toList,(∃ e'∈o.after.toList,e={ e' with on:=π e'.on })\/(i=v/\e.on=π u)
 len:m.length=l.length
structure Sw (π:Nat->Nat)(listed listed':Array Bool):Prop where
 get:∀ i,listed'[π i]?=listed[i]?
theorem sR.inj {π:Nat->Nat}{u v:Nat}{l m:List Oper}(h:sR π u v l m){i j:Nat}(e:π i=π j):i=j:=by rw[<- h.inv i,e,h.inv]
theorem Sw.set {π:Nat->Nat}{u v:Nat}{l m:List Oper}(hL:sR π u v l m){a b:Array Bool}(h:Sw π a b)(i:Nat):Sw π (a.setIfInBounds i true) (b.setIfInBounds (π i) true):=by
 refine⟨fun j=>?_⟩;rw[Array.getElem?_setIfInBounds,Array.getElem?_setIfInBounds];by_cases e:i=j
 ·subst e
  rw[if_pos rfl,if_pos rfl];have:=h.get i;by_cases hi:i<a.size
  ·rw[amV hi]at this
   rw[if_pos hi,if_pos (anf.1 this).1]
  ·have hn:a[i]?=none:=Array.getElem?_eq_none m0
   rw[hn]at this;rw[if_neg hi,if_neg (by have:=Array.getElem?_eq_none_iff.1 this;omega)]
 ·rw[if_neg e,if_neg (fun e'=>e (hL.inj e'))]
  exact h.get j
theorem Sw.getD {π:Nat->Nat}{a b:Array Bool}(h:Sw π a b)(i:Nat)(d:Bool):b.getD (π i) d=a.getD i d:=by
 rw[Array.getD_eq_getD_getElem?,Array.getD_eq_getD_getElem?,h.get]
theorem sR.fwd {π:Nat->Nat}{u v:Nat}{l m:List Oper}(hL:sR π u v l m){a b:Array Bool}(h:Sw π a b){i:Nat}(hi:i∈Region.ready md l.toArray a)(hv:i=v->a.getD u false=true):π i∈Region.ready md m.toArray b:=by
 obtain⟨o,ho,h1,h2⟩:=mem_ready.1 hi;rw[List.getElem?_toArray]at ho;obtain⟨f,hm,hf⟩:=hL.get i;rw[ho,Option.map_some]at hm;refine mem_ready.2 ⟨_,by rw[List.getElem?_toArray];exact hm,by rw[h.getD];exact h1,fun e he hb=>?_⟩;rcases(hf o ho).2 e he with⟨e',he',rfl⟩|⟨hiv,hon⟩
 ·rw[h.getD];exact h2 e' he' hb
 ·rw[hon,h.getD];exact hv hiv
theorem sR.bwd {π:Nat->Nat}{u v:Nat}{l m:List Oper}(hL:sR π u v l m){a b:Array Bool}(h:Sw π a b){j:Nat}(hj:j∈Region.ready md m.toArray b):π j∈Region.ready md l.toArray a:=by
 obtain⟨o',ho',h1,h2⟩:=mem_ready.1 hj;rw[List.getElem?_toArray]at ho';obtain⟨f,hm,hf⟩:=hL.get (π j);rw[hL.inv,ho']at hm
 cases ho:l[π j]? with
 |none=>rw[ho]at hm;cases hm
 |some o =>
  rw[ho,Option.map_some]at hm;injection hm with hm
  subst hm;refine mem_ready.2 ⟨o,by rw[List.getElem?_toArray];exact ho,by rw[<- h.getD,hL.inv];exact h1,fun e he hb=>?_⟩;have:=h2 _ ((hf o ho).1 e he) hb;rw[<- h.getD];exact this
theorem sR.seq {π:Nat->Nat}{u v:Nat}{l m:List Oper}(hL:sR π u v l m):∀ (fuel:Nat) (a b:Array Bool) (s:List Nat),Sw π a b->a.getD u false=true->lQ md l.toArray fuel a s->lQ md m.toArray fuel b (s.map π)
 |0,_,_,s,_,_,hs=>by cases hs;rfl
 |fuel+1,a,b,s,h,hu,hs=>by
  rcases hs with⟨h0,rfl⟩|⟨i,s',hi,rfl,hs⟩
  ·refine .inl ⟨?_,rfl⟩
   apply List.eq_nil_iff_forall_not_mem.2;intro j hj;have:=hL.bwd h hj;rw[h0]at this;cases this
  ·refine .inr ⟨π i,s'.map π,hL.fwd h hi (fun _=>hu),rfl,sR.seq hL fuel _ _ s' (h.set hL i) ?_ hs⟩
   rw[Array.getD_eq_getD_getElem?]at hu ⊢;rw[Array.getElem?_setIfInBounds];by_cases e:i=u
   ·subst e
    rw[if_pos rfl];by_cases hlt:i<a.size
    ·rw[if_pos hlt];rfl
    ·rw[Array.getElem?_eq_none m0]at hu;cases hu
   ·rw[if_neg e];exact hu
end
open Go.RowKit
def swp (p i:Nat):Nat:=if i=p then p+1 else if i=p+1 then p else i
def ah6 (p i:Nat)(o:Oper):Oper :={ o with after:=if i=p+1 then o.after.push ⟨p,.data⟩else o.after }
def l1E (p:Nat)(l:List Oper):List Oper:=l.mapIdx (ah6 p)
def ah_ (p:Nat)(o:Oper):Oper :={ o with after:=o.after.map fun e =>{ e with on:=swp p e.on } }
def JJ (p:Nat)(l:List Oper):List Oper:=match l[p]?,l[p+1]? with
 |some a,some b=>(l.set p b).set (p+1) a
 |_,_=>l
def l2E (p:Nat)(l:List Oper):List Oper:=(JJ p l).mapIdx fun i o=>ah6 p i (ah_ p o)
section
variable {P:Program} {ti:TI} {N n0:Nat}
def gO (N n0:Nat)(T:Tm)(L:List Ob)(T':Tm)(L':List Ob):Prop :=
 n0<=L.length->n0<=L'.length /\ ∀ (B:Nat->Prop) (R:PH) (γ:List Gh) (w:World) (a:Act),Inv B R γ L w->cg N R γ L T a ->∃ R' γ',Inv B R' γ' L' w/\cg N R' γ' L' T' a/\Ext B R R' w w/\fP n0 R R' γ γ' L L'
theorem gO.refl {T:Tm}{L:List Ob}:gO N n0 T L T L:=fun hn=>⟨hn,fun _ R γ w _ hi hT=>⟨R,γ,hi,hT,Ext.refl _ _ _,fP.of hn Mv.refl⟩⟩
theorem gO.trans {T T1 T2:Tm}{L L1 L2:List Ob}(h:gO N n0 T L T1 L1)(k:gO N n0 T1 L1 T2 L2):gO N n0 T L T2 L2:=fun hn =>
 ⟨(k (h hn).1).1,fun B R γ w a hi hT=>by
  obtain⟨R1,γ1,i1,t1,e1,m1⟩:=(h hn).2 B R γ w a hi hT;obtain⟨R2,γ2,i2,t2,e2,m2⟩:=(k (h hn).1).2 B R1 γ1 w a i1 t1;exact⟨R2,γ2,i2,t2,e1.trans e2,m1.trans hi.len m2⟩⟩
theorem gO.less {T T':Tm}{L:List Ob}(h:∀ t x,T'.lookup t=some x->T.lookup t=some x):gO N n0 T L T' L:=fun hn =>
 ⟨hn,fun _ R γ w _ hi hT=>⟨R,γ,hi,⟨hT.size,hT.defers,fun t x hx=>hT.slot t x (h t x hx)⟩,Ext.refl _ _ _,fP.of hn Mv.refl⟩⟩
theorem gO.box {T:Tm}{L:List Ob}(id:Nat){cs:List SV}{ts:List AC}(hL:L[id]?=some (.box cs))(hn:fE cs=some ts):gO N n0 T L (T.map fun p=>(p.1,unA id ts p.2)) (L.set id .dead):=fun hn0 =>
 ⟨by simpa using hn0,fun B R γ w a hi hT=>by
  obtain⟨R',hI,hE,hM,hS⟩:=pu hi hL hn;refine⟨R',γ,hI,⟨hT.size,hT.defers,fun t x hx=>?_⟩,hE,fP.of hn0 hM⟩;obtain⟨y,hy,rfl⟩:=gm hx;obtain⟨u,h1,h2⟩:=hT.slot t y hy;exact⟨u,h1,NB hS hM h2⟩⟩
theorem gO.row {T:Tm}{L:List Ob}(id:Nat){ver k:Nat}{es:List (List SV)}{cs:List (List AC)}(hL:L[id]?=some (.row ver es k))(hn:eA es=some cs):gO N n0 T L (T.map fun p=>(p.1,thA id ver cs p.2)) (L.set id .dead):=fun hn0 =>
 ⟨by simpa using hn0,fun B R γ w a hi hT=>by
  obtain⟨R',γ',hI,hE,hM,hS⟩:=lB hi hL hn;refine⟨R',γ',hI,⟨hT.size,hT.defers,fun t x hx=>?_⟩,hE,fP.of hn0 hM⟩;obtain⟨y,hy,rfl⟩:=gm hx;obtain⟨u,h1,h2⟩:=hT.slot t y hy;refine⟨u,h1,?_⟩
  cases y with
  |one x=>exact oy hS hM h2
  |agg xs =>
   obtain⟨vs,rfl,hsz,hc⟩:=h2;refine⟨vs,rfl,by rw[hsz,amI],fun j u x hu hx=>?_⟩;rw[amT]at hx
   cases hy:xs[j]? with
   |none=>rw[hy]at hx;cases hx
   |some y=>rw[hy]at hx;cases hx;exact oy hS hM (hc j u y hu hy)
  |tup ps=>exact AV.mv (x := .tup ps) hM h2
  |tupS xs=>exact AV.mv (x := .tupS xs) hM h2
  |undef=>exact AV.mv (x := .undef) hM h2⟩
theorem vH {Q:AX->Tm->List Ob->Prop}{c:Code}{T:Tm}{L:List Ob}(t ver k:Nat)(ht:T.lookup t=some (.one .emp))(hv:65536<=ver)(h:Aw P N n0 c Q ((t,.one (.sl L.length ver 0 0))::T) (L++[.row ver [] k])):Aw P N n0 c Q T L:=by
 intro hn B R γ w a hi hT;have hm:Mv R R γ (γ++[.none]) L (L++[.row ver [] k]):=Mv.push _ _ hi.len;refine wp_mono (h m8 B R (γ++[.none]) w a (hi.rowTok ver k) ⟨hT.size,hT.defers,fun t' x hx=>?_⟩) fun _ _ _ hh=>hh.ext (Ext.refl _ _ _) hi.len (fP.of hn hm)
 rw[List.lookup_cons]at hx;by_cases e:t'=t
 ·subst e
  simp at hx;subst hx;obtain⟨u,h1,a0,rfl⟩:=hT.slot t' _ ht;refine⟨_,h1,⟨rfl,rfl⟩,m5,fun ver2 es2 k2 e2=>?_⟩;rw[amD (amM _)]at e2;simp at e2;obtain⟨q1,q2,q3⟩:=e2;subst q1 q2 q3;exact⟨amM _,fun _=>⟨m5,.none,by rw[<- hi.len];simp,⟨a0,rfl,fun h=>by omega⟩,rfl,rfl⟩⟩
 ·have e':(t'==t)=false:=by simpa using e
  rw[e']at hx;obtain⟨u,h1,h2⟩:=hT.slot t' x hx;exact⟨u,h1,AV.mv hm h2⟩
end
open Go.RowKit
open Go.RowKit Go.MapKept
def ck {α:Type}(v:α)(φ:Prop)[Decidable φ]:Option α:=if φ then some v else none
theorem a6 {α:Type}{v r:α}{φ:Prop}[Decidable φ](h:ck v φ=some r):v=r/\φ:=by
 unfold ck at h;split at h
 ·exact⟨am3 h,by assumption⟩
 ·cases h
def isStr:Option TypeDesc->Bool
 |some .string=>true
 |_=>false
theorem gL {d:Option TypeDesc}(h:isStr d=true):d=some .string:=by
 unfold isStr at h;split at h
 ·rfl
 ·cases h
def wx (k:Nat):List (List AC)->Bool
 |[]=>true
 |e::es=>Nat.beq e.length k&&wx k es
theorem mc {k:Nat}:∀ {es:List (List AC)},wx k es=true ->∀ e∈es,e.length=k
 |[],_,e,he=>by cases he
 |x::es,h,e,he=>by
  rw[wx,amO]at h;rcases amN.1 he with rfl|he
  ·exact Nat.eq_of_beq_eq_true h.1
  ·exact mc h.2 e he
theorem map_some {α β:Type}{o:Option α}{f:α->β}{r:β}(h:o.map f=some r):∃ a,o=some a/\f a=r:=by
 cases o with
 |none=>cases h
 |some a=>exact⟨a,rfl,am3 h⟩
open Go.RowKit Go.MapKept
def yL (ρ:Operand->Option AV):List (Nat×Operand)->Nat->Option (List (List SV))
 |[],_=>some []
 |(i,x)::ps,j=>match decide (i=j),(ρ x).bind AV.cells,yL ρ ps (j+1)with
  |true,some p,some es=>some (p::es)
  |_,_,_=>none
section
variable {P:Program} {ti:TI} {B:Nat->Prop} {R:PH} {γ:List Gh} {L:List Ob} {w:World} {ρ:Operand->Option AV}
theorem yG {ev:Operand->Value}:∀ (ps:List (Nat×Operand)) (hρ:∀ p∈ps,∀ v,ρ p.2=some v->v.rep R γ L (ev p.2)) (j:Nat) (es:List (List SV)),yL ρ ps j=some es ->
  ∃ vs:List Value,(ps.map fun p=>(p.1,ev p.2))=(vs.zipIdx j).map (fun x=>(x.2,x.1))/\vs.length=es.length /\
   (∀ (i:Nat) v e,vs[i]?=some v->es[i]?=some e->Cf R γ L e v.cells)
 |[],hρ,j,es,h=>by injection h with h;subst h;exact⟨[],rfl,rfl,fun i v e hv=>by simp at hv⟩
 |(i,x)::ps,hρ,j,es,h=>by
  unfold yL at h;split at h
  ·rename_i p es' hij hp hes
   obtain rfl:=amZ hij;injection h with h;subst h
   obtain⟨vs,h1,h2,h3⟩:=yG ps (fun p hp=>hρ p (amU _ hp)) (i+1) es' hes
   cases hx:ρ x with
   |none=>simp[hx]at hp
   |some vx =>
    simp only[hx,amv]at hp;have hr:=cells_rep (hρ (i,x) (ani ..) _ hx) hp;refine⟨ev x::vs,by simp[List.zipIdx_cons,h1],by simp[h2],fun q v e hv he=>?_⟩
    cases q with
    |zero=>simp at hv he;subst hv he;exact hr
    |succ q=>exact h3 q v e (by simpa using hv) (by simpa using he)
  ·cases h
theorem LW (hti:TIok P ti){t:TypeId}{E k len:Nat}{parts:Array (Nat×Operand)}{es:List (List SV)}(ht:ti.elem t=some E)(hE:E<65536)(hk:ti.size E=some k)(hzk:ti.zok E=true)(hes:yL ρ parts.toList 0=some es)(hlen:es.length=len)(h0:0<len)(hek:∀ e∈es,e.length=k)(hk0:0<k)(hsm:len*k<=16777216) :
  kZ P ρ L (.buildSlice t len parts) (.one (.sl L.length (E+65536) 0 len)) (L++[.row (E+65536) es k]):=by
 intro B R γ w ev o ho hi hρ hfv;obtain⟨dst,op,type,pos,after,guard⟩:=o;simp only at ho;subst ho;have hk:=hti.size _ _ hk;have hu:=iG hti ht;obtain⟨vs,e1,e2,e3⟩:=yG (ev:=ev) parts.toList (fun p hp v hv=>hρ p.2 (by simp only[Op.operands,List.mem_toArray,am6];exact⟨p,hp,rfl⟩) v hv) _ _ hes;have hparts:(parts.map fun p=>(p.1,ev p.2)).toList=(vs.zipIdx 0).map fun x=>(x.2,x.1):=by rw[Array.toList_map,e1]
 obtain⟨i,z,hi1,hi2,hi3,hi4⟩:=hti.zok _ hzk _ hk;have hcs:∀ v∈vs,v.cells.size=k:=by
  intro v hv;obtain⟨q,hq⟩:=List.mem_iff_getElem?.1 hv;have hlt:q<es.length:=by rw[<- e2];exact(amw.1 hq).1
  have he:es[q]?=some es[q]:=amF hlt;rw[(e3 q v _ hq he).1];exact hek _ (List.getElem_mem hlt)
 have hne:¬ len*i.size=0:=by
  rw[hi3];intro e;rcases Nat.mul_eq_zero.1 e with e|e<;>omega
 have hrun:=run_buildSlice (P:=P) w t E len (parts.map fun p=>(p.1,ev p.2)) (vs.flatMap fun v=>v.cells.toList).toArray i z hu hi1 hi2 (by rw[hi3];omega) hne (by
  rw[hparts,hi3];exact Go.Great.fill_whole hk0 vs _ hcs (by simp;rw[e2,hlen]))
 have hm:Mv R R γ (γ++[.arr w.heap.size len]) L (L++[.row (E+65536) es k]):=Mv.push _ _ hi.len;refine⟨_,R,_,.inl ⟨.slice (some ⟨w.heap.size,0,none⟩) len len,by simp only[execOp,Sem.run_bind];rw[hrun];rfl,⟨rfl,rfl⟩,m5,fun ver2 es2 k2 e2'=>?_⟩,?_,⟨Kept.alloc hi.bsz _,PH.sub_refl _,fun _ _ _=>rfl⟩,hm⟩
 ·rw[amD m0]at e2'
  simp at e2';obtain⟨q1,q2,q3⟩:=e2';subst q1 q2 q3;exact⟨amM _,fun _=>⟨m0,.arr w.heap.size len,by rw[<- hi.len];simp,.inl m5⟩⟩
 ·have hsz:(vs.flatMap fun v=>v.cells.toList).toArray.size=len*k:=by rw[List.size_toArray,flat_len k vs hcs,e2,hlen]
  refine hi.push _ _ _ rfl ⟨⟨_,E,⟨dt w _,by show(E:Nat)=(E+65536)%65536;omega,m0⟩,hsz,fun q e j u x he hu hx=>?_⟩,m0,hk0,hek,fun o=>hi.none_at o⟩;have hqlt:q<vs.length:=by rw[e2];exact(amw.1 he).1
  have hv:vs[q]?=some vs[q]:=amF hqlt;have hjk:j<k:=by rw[<- hek e (amC he)];exact(amw.1 hx).1
  have h3:=e3 q _ e hv he;rw[List.getElem?_toArray,flat_get k vs hcs q _ hv j hjk]at hu;exact SV.mv hm (h3.2 j u x hu hx)
end
open Go.RowKit Go.MapKept
section
variable {P:Program} {ti:TI} {ρ:Operand->Option AV} {L:List Ob}
theorem BZ (z:Array Value)(n i:Nat)(h:i<n):(madeCells z n)[i]?=some z[i%z.size]! :=by
 simp[madeCells,h]
theorem vz (hti:TIok P ti){l c:Operand}{t:TypeId}{E k by_:Nat}{m:Int}{kl kc:IntKind}{zs:List SV}{zv:AV}(hl:ρ l=some (.one (.c (.int kl m))))(hc:ρ c=some (.one (.c (.int kc m))))(ht:ti.elem t=some E)(hE:E<65536)(hsz:ti.size E=some k)(hzo:ti.zok E=true)(hzv:ti.zero E=some zv)(hcz:zv.cells=some zs)(hby:ti.bytes E=some by_)
  (hk:0<k) (h0:0<=m) (hb1:(by_:Int)*m<=281474976710656) (hb2:m<=9223372036854775807) :
  kZ P ρ L (.makeSlice t l c) (.one (.sl L.length (E+65536) 0 m.toNat)) (L++[.row (E+65536) (List.replicate m.toNat zs) k]):=by
 intro B R γ w ev o ho hi hρ hfv;obtain⟨dst,op,type,pos,after,guard⟩:=o;simp only at ho;subst ho;obtain⟨inf,z,hinf,hzz,hisz,hzc⟩:=hti.zok _ hzo _ (hti.size _ _ hsz);have hbytes:inf.bytes=by_:=by have hby':=hti.bytes _ _ hby;unfold ko at hby';rw[hinf]at hby';simpa using hby'
 have hzo':AV.ofVal z=some zv:=by have:=hti.zero _ _ hzv;unfold zeroOf at this;rw[hinf]at this;simpa[hzz]using this
 have hlv:=(hρ _ (by simp[Op.operands,Call.operands]) _ hl);have hcv:=(hρ _ (by simp[Op.operands,Call.operands]) _ hc);generalize hle:ev l=lv at hlv;generalize hce:ev c=cv at hcv
 cases hlv;cases hcv;have hrun:=run_make (P:=P) w t E inf z (iG hti ht) hinf hzz kl kc m m h0 (Int.le_refl _) (by rw[hbytes];exact hb1) hb2;have hm:Mv R R γ (γ++[.arr w.heap.size m.toNat]) L (L++[.row (E+65536) (List.replicate m.toNat zs) k]):=Mv.push _ _ hi.len;have hcr:=cells_rep (R:=R) (γ:=γ++[.arr w.heap.size m.toNat]) (L:=L++[.row (E+65536) (List.replicate m.toNat zs) k]) (AV.ofVal_rep hzo') hcz;have hzl:zs.length=k:=by have:=hcr.1;rw[hzc]at this;omega
 refine⟨w.alloc (.cells (madeCells z.cells (m.toNat*inf.size)) E),R,_,.inl ⟨.slice (some ⟨w.heap.size,0,none⟩) m.toNat m.toNat,by simp[execOp,hle,hce,hrun],⟨rfl,rfl⟩,m5,fun ver2 es2 k2 e2=>?_⟩,?_,⟨Kept.alloc hi.bsz _,PH.sub_refl _,fun _ _ _=>rfl⟩,hm⟩
 ·rw[amD m0]at e2
  simp at e2;obtain⟨q1,q2,q3⟩:=e2;subst q1 q2 q3;refine⟨amM _,fun _=>⟨m5,.arr w.heap.size m.toNat,by rw[<- hi.len];simp,.inl ?_⟩⟩;simp
 ·refine hi.push _ _ _ rfl ⟨⟨_,E,⟨dt w _,by show(E:Nat)=(E+65536)%65536;omega,by show 65536<=(E:Nat)+65536;omega⟩,by rw[size_madeCells,hisz],fun i e j u x he hu hx=>?_⟩,m5,hk,fun e he=>?_,fun o=>hi.none_at o⟩
  ·rw[List.getElem?_replicate]at he
   split at he
   ·rename_i him
    obtain rfl:=am3 he;have hj:j<k:=by rw[<- hzl];exact(amw.1 hx).1
    have hlt:i*k+j<m.toNat*inf.size:=by rw[hisz];exact oQ him hj
    rw[BZ _ _ _ hlt,hzc,Nat.add_comm,Nat.add_mul_mod_self_right,Nat.mod_eq_of_lt hj]at hu;have hj2:j<z.cells.size:=by rw[hzc];exact hj
    refine hcr.2 j u x ?_ hx;rw[<- hu,amV hj2,getElem!_pos z.cells j hj2]
   ·cases he
  ·rw[List.eq_of_mem_replicate he];exact hzl
end
open Go.RowKit Go.MapKept
def kj:List (AC×AV)->Bool
 |[]=>true
 |p::kvs=>match p.1 with
  |.str _=>kj kvs
  |_=>false
theorem iO:∀ {kvs:List (AC×AV)},kj kvs=true->strKeys kvs
 |[],_,p,hp=>by cases hp
 |q::kvs,h,p,hp=>by
  unfold kj at h;split at h
  ·rename_i s hs
   rcases amN.1 hp with rfl|hp
   ·exact⟨s,hs⟩
   ·exact iO h p hp
  ·cases h
def aeN:Option TypeDesc->Option (TypeId×TypeId)
 |some (.map k e)=>some (k,e)
 |_=>none
theorem GY {d:Option TypeDesc}{k e:TypeId}(h:aeN d=some (k,e)):d=some (.map k e):=by
 unfold aeN at h;split at h
 ·cases h;rfl
 ·cases h
def Jx:Option TypeDesc->Option TypeId
 |some (.pointer e)=>some e
 |_=>none
theorem rm {d:Option TypeDesc}{e:TypeId}(h:Jx d=some e):d=some (.pointer e):=by
 unfold Jx at h;split at h
 ·cases h;rfl
 ·cases h
def aig:Option TypeDesc->Option TypeId
 |some (.slice e)=>some e
 |_=>none
theorem af0 {d:Option TypeDesc}{e:TypeId}(h:aig d=some e):d=some (.slice e):=by
 unfold aig at h;split at h
 ·cases h;rfl
 ·cases h
def aam:Option TypeDesc->Bool
 |some .unsafePointer=>true
 |_=>false
theorem IK {d:Option TypeDesc}(h:aam d=true):d=some .unsafePointer:=by
 unfold aam at h;split at h
 ·rfl
 ·cases h
def agy (ti:TI)(L:List Ob)(k:Nat)(tx:TypeId):AV->Bool
 |.one (.c (.str _))=>decide (k=1)&&isStr (ti.kind tx)
 |.one (.sl id ver lo n)=>(ti.elem tx).isSome&&(match L[id]? with
  |some (.row ver' es k')=>decide (ver=ver')&&(decide (k=k')&&decide (lo+n<=es.length))
  |_=>false)
 |x=>(ti.elem tx).isSome&&(match df x with
  |some es=>wx k es
  |none=>false)
theorem On {ti:TI}{L:List Ob}{k:Nat}{tx:TypeId}{x:AV}(h:agy ti L k tx x=true):AW ti L k tx x:=by
 unfold agy at h;split at h
 ·rw[amO]at h
  exact⟨amZ h.1,gL h.2⟩
 ·rw[amO]at h
  obtain⟨h1,h2⟩:=h;split at h2
  ·rename_i h3
   rw[amO,amO]at h2;obtain⟨h4,h5,h6⟩:=h2;obtain rfl:=amZ h4;obtain rfl:=amZ h5;exact⟨h1,_,h3,amZ h6⟩
  ·cases h2
 ·rename_i n1 n2
  rw[amO]at h;obtain⟨h1,h2⟩:=h;unfold AW;split
  ·rename_i s;exact absurd rfl (n1 s)
  ·rename_i a b c d;exact absurd rfl (n2 a b c d)
  ·split at h2
   ·rename_i h3;exact⟨h1,_,h3,mc h2⟩
   ·cases h2
def bytesOf:List (List SV)->Option (List UInt8)
 |[]=>some []
 |[.c (.int .u8 n)]::es=>match bytesOf es with
  |some bs=>if n=(UInt8.ofNat n.toNat).toNat then some (UInt8.ofNat n.toNat::bs)else none
  |none=>none
 |_=>none
theorem yZ:∀ {es:List (List SV)} {bs:List UInt8},bytesOf es=some bs->es=bs.map fun b=>[.c (.int .u8 b.toNat)]
 |[],bs,h=>by cases h;rfl
 |e::es,bs,h=>by
  unfold bytesOf at h;split at h
  ·rename_i e1;cases e1
  ·rename_i n es' e1
   cases e1;split at h
   ·rename_i bs' h1
    split at h
    ·rename_i h2
     cases h;rw[amH,<- yZ h1,<- h2]
    ·cases h
   ·cases h
  ·cases h
def GI (k:Nat):List (List SV)->Bool
 |[]=>true
 |e::es=>Nat.beq e.length k&&GI k es
theorem ES {k:Nat}:∀ {es:List (List SV)},GI k es=true ->∀ e∈es,e.length=k
 |[],_,e,he=>by cases he
 |x::es,h,e,he=>by
  rw[GI,amO]at h;rcases amN.1 he with rfl|he
  ·exact Nat.eq_of_beq_eq_true h.1
  ·exact ES h.2 e he
def og (a b:ByteArray):Int:=Extern.BytealgCompare.cmp a b
theorem yk {P : Program} {ρ : Operand -> Option AV} {L : List Ob} {f : FuncId} {fn : Func} {x y : Operand} {ts : Array TypeId} {a b : ByteArray} (hx : ρ x = some (.one (.c (.str a)))) (hy : ρ y = some (.one (.c (.str b)))) (hf : P.funcs[f]? = some fn) (hname : (fn.name == "runtime.NumGoroutine") = false)
  (hb:fn.body.isNone=true) (hn:Extern.findNext fn=none) (he:Extern.find fn=some Extern.BytealgCompare.compare) :
  kZ P ρ L (.call { callee := .value (.func f),args :=#[x,y],argTypes:=ts }) (.one (.c (.int .i64 (og a b)))) L:=by
 intro B R γ w ev o ho hi hρ hfv;obtain⟨dst,op,type,pos,after,guard⟩:=o;simp only at ho;subst ho;have h1:=hρ x (by simp[Op.operands,Call.operands]) _ hx;have h2:=hρ y (by simp[Op.operands,Call.operands]) _ hy;generalize hex:ev x=ux at h1;generalize hey:ev y=uy at h2
 cases h1;cases h2;refine⟨w,R,γ,.inl ⟨.int .i64 (og a b),?_,.int _ _⟩,hi,Ext.refl _ _ _,Mv.refl⟩;have:=run_callFunc_extern hf hname hb hn he #[.string a,.string b] w;have h3:(Extern.BytealgCompare.compare #[.string a,.string b]).run P w = .ok (.int .i64 (og a b)) w:=rfl;rw[h3]at this;simp[execOp,resolve,Deferred.ofValue,hfv.1,hex,hey,invoke,this,Result.andThen]
structure J7 where
 noEsc:FuncId
 cmpS:FuncId
def Iu (P:Program)(ti:TI)(xs:J7)(rowB:Bool)(ρ:Operand->Option AV)(L:List Ob):Op->Option (AV×List Ob)
 |.makeMap _ none=>some (.one (.mp L.length),L++[.map []])
 |.buildSlice t len parts=>match yL ρ parts.toList 0,ti.elem t with
  |some es,some E=>match ti.size E with
   |some k=>ck (.one (.sl L.length (E+65536) 0 len),L++[.row (E+65536) es k]) (rowB=true/\E<65536/\ti.zok E=true/\es.length=len/\0<len/\GI k es=true/\0<k/\len*k<=16777216)
   |none=>none
  |_,_=>none
 |.lookup t x k ok=>match ρ x,ρ k,aeN (ti.kind t)with
  |some (.one (.mp id)),some (.one (.c (.str s))),some (kt,et)=>match L[id]?,ti.zero et with
   |some (.map kvs),some z=>match ok with
    |false=>ck (iF kvs s z,L) (kj kvs=true/\isStr (ti.kind kt)=true)
    |true=>match (iF kvs s z).norm with
     |some p=>ck (.tup [p,.one (.bool (kP s kvs).isSome)],L) (kj kvs=true/\isStr (ti.kind kt)=true)
     |none=>none
   |_,_=>none
  |_,_,_=>none
 |.mapUpdate t x k y=>match ρ x,ρ k,ρ y,aeN (ti.kind t)with
  |some (.one (.mp id)),some (.one (.c (.str s))),some v,some (kt,_)=>match L[id]? with
   |some (.map kvs)=>ck (.undef,L.set id (.map (lE kvs s v))) (kj kvs=true/\isStr (ti.kind kt)=true)
   |_=>none
  |_,_,_,_=>none
 |.mapEntry t x k=>match ρ x,ρ k,aeN (ti.kind t)with
  |some (.one (.mp id)),some (.one (.c (.str s))),some (kt,et)=>match L[id]?,ti.zero et with
   |some (.map kvs),some z=>match (iF kvs s z).norm with
    |some p=>ck (.tup [p,.one (.int .i64 (E_ kvs s))],L.set id (.map (lE kvs s (iF kvs s z)))) (kj kvs=true/\isStr (ti.kind kt)=true)
    |none=>none
   |_,_=>none
  |_,_,_=>none
 |.entryStore _ x k y=>match ρ x,ρ k,ρ y with
  |some (.one (.mp id)),some (.one (.c (.int .i64 i))),some v=>match L[id]? with
   |some (.map kvs)=>match kvs[i.toNat]? with
    |some q=>ck (.undef,L.set id (.map (kvs.set i.toNat (q.1,v)))) (0<=i)
    |none=>none
   |_=>none
  |_,_,_=>none
 |.makeFunc (.func f) first captured=>match first.toList,uE ρ captured.toList with
  |[],some caps=>some (.one (.clo f caps),L)
  |_,_=>none
 |.call { callee := .builtin .append,args,argTypes } =>match args.toList,argTypes.toList with
  |[s,x],[t,tx]=>match ρ s,ρ x,ti.elem t with
   |some (.one (.sl id ver 0 n)),some vx,some E=>match L[id]?,Kt L vx,ti.size E,ti.bytes E with
    |some (.row ver' es k'),some xs,some k,some by_=>ck (.one (.sl id (ver+65536) 0 (n+xs.length)),L.set id (.row (ver+65536) (es++xs) k)) ((ver'=ver/\k'=k/\agy ti L k tx vx=true/\ver%65536=E)/\ti.zok E=true/\0<k/\es.length=n/\(n+xs.length)*by_<=140737488355328/\n+xs.length<=140737488355328)
    |_,_,_,_=>none
   |some (.one .emp),some vx,some E=>match Kt L vx,ti.size E,ti.bytes E with
    |some xs,some k,some by_=>ck (.one (.sl L.length (E+65536) 0 xs.length),L++[.row (E+65536) xs k]) ((rowB=true/\agy ti L k tx vx=true/\E<65536)/\ti.zok E=true/\0<k/\0<xs.length/\xs.length*by_<=140737488355328/\xs.length<=140737488355328)
    |_,_,_=>none
   |_,_,_=>none
  |_,_=>none
 |.makeSlice t l c=>match ρ l,ρ c,ti.elem t with
  |some (.one (.c (.int _ l))),some (.one (.c (.int _ m))),some E=>match ti.size E,ti.bytes E with
   |some k,some by_=>match rowB with
    |true=>match decide (l=0),(ti.zero E).bind AV.cells with
     |true,_=>ck (.one (.sl L.length (E+65536) 0 0),L++[.row (E+65536) [] k]) ((l=0/\E<65536)/\ti.zok E=true/\0<k/\0<=m/\(by_:Int)*m<=281474976710656/\m<=9223372036854775807)
     |false,some zs=>ck (.one (.sl L.length (E+65536) 0 m.toNat),L++[.row (E+65536) (List.replicate m.toNat zs) k]) ((l=m/\E<65536)/\ti.zok E=true/\0<k/\0<=m/\(by_:Int)*m<=281474976710656/\m<=9223372036854775807)
     |false,none=>none
    |false=>ck (.one (.own [] L.length),L++[.spare 0 k]) (l=0/\ti.zok E=true/\0<k/\0<=m/\(by_:Int)*m<=281474976710656/\m<=9223372036854775807)
   |_,_=>none
  |_,_,_=>none
 |.alloc E=>match P.info? E,ti.field E 1 with
  |some inf,some (1,ts)=>match inf.zero,ti.elem ts with
   |some (.agg vs),some Eb=>match vs.toList,ti.size Eb with
    |[.pointer none,.slice none 0 0],some k=>ck (.one (.ep L.length (E+65536) 0 0),L++[.row (E+65536) [[.c (.nul .ptr),.sl (L.length+1) Eb 0 0]] 2,.row Eb [] k]) (rowB=true/\E<65536/\Eb<65536/\0<k)
    |_,_=>none
   |_,_=>none
  |_,_=>none
 |.convert s d x=>match ρ x with
  |some (.one (.ep id ver 0 0))=>match L[id]? with
   |some (.row ver' es k)=>match Jx (ti.kind s),aam (ti.kind d),Jx (ti.kind d),aam (ti.kind s)with
    |some t,true,_,_=>match ti.size t with
     |some (_+1)=>ck (.one (.ep id ver 0 0),L) (ver'=ver)
     |_=>none
    |_,_,some t,true=>ck (.one (.ep id ver 0 0),L) (ver'=ver/\(ti.size t).isSome=true/\P.cellsOf t=k/\ver%65536=t)
    |_,_,_,_=>none
   |_=>none
  |_=>none
 |.binOp op t x y _=>match op,ρ x with
  |.eql,some (.one (.c (.nul .ptr)))=>match ρ y,Jx (ti.kind t)with
   |some (.one (.c (.nul .ptr))),some _=>some (.one (.c (.bool true)),L)
   |_,_=>none
  |.eql,some (.one (.ep id ver i off))=>match ρ y,Jx (ti.kind t),L[id]? with
   |some (.one (.c (.nul .ptr))),some _,some (.row ver' es k)=>ck (.one (.c (.bool false)),L) (ver'=ver)
   |_,_,_=>none
  |.neq,some (.one (.ep id ver i off))=>match ρ y,Jx (ti.kind t),L[id]? with
   |some (.one (.ep id2 ver2 i2 off2)),some te,some (.row ver' es k)=>ck (.one (.c (.bool false)),L) (ver'=ver/\id2=id/\ver2=ver/\i2=i/\off2=off/\(ti.size te).isSome=true)
   |_,_,_=>none
  |.eql,some vx=>match df vx,y,aig (ti.kind t)with
   |some (_::_),.const (.slice none 0 0),some _=>some (.one (.c (.bool false)),L)
   |_,_,_=>none
  |_,_=>none
 |.call { callee := .builtin .unsafeSliceData,args,.. } =>match args.toList with
  |[x]=>match ρ x with
   |some (.one (.sl id ver 0 (n+1)))=>match L[id]? with
    |some (.row ver' _ _)=>ck (.one (.ep id ver 0 0),L) (ver'=ver)
    |_=>none
   |some (.one (.sl id ver 0 0))=>match L[id]? with
    |some (.row ver' [] _)=>ck (.one (.c (.nul .ptr)),L) (ver'=ver/\ver<65536)
    |_=>none
   |_=>none
  |_=>none
 |.call { callee := .builtin .unsafeString,args,argTypes } =>match args.toList,argTypes.toList with
  |[x,y],[pt,_]=>match ρ x,ρ y with
   |some (.one (.c (.nul .ptr))),some (.one (.c (.int .i64 n)))=>ck (.one (.c (.str .empty)),L) (n=0)
   |some (.one (.ep id ver 0 0)),some (.one (.c (.int .i64 n)))=>match L[id]?,Jx (ti.kind pt)with
    |some (.row ver' es 1),some E=>match bytesOf es with
     |some bs=>ck (.one (.c (.str ⟨bs.toArray⟩)),L.set id .dead) ((ver'=ver/\n=bs.length)/\ver%65536=E/\P.cellsOf E=1/\0<bs.length/\bs.length<=9223372036854775807)
     |none=>none
    |_,_=>none
   |_,_=>none
  |_,_=>none
 |.call { callee := .value (.func f),args,.. } =>match args.toList with
  |[x]=>match ρ x with
   |some v=>ck (v,L) (f=xs.noEsc)
   |none=>none
  |[x,y]=>match ρ x,ρ y with
   |some (.one (.c (.str a))),some (.one (.c (.str b)))=>ck (.one (.c (.int .i64 (og a b))),L) (f=xs.cmpS)
   |_,_=>none
  |_=>none
 |_=>none
def ahS (P : Program) (f : FuncId) : Prop := ∃ fn, P.funcs[f]? = some fn /\ (fn.name == "runtime.NumGoroutine") = false /\ fn.body.isNone = true /\ Extern.findNext fn = none /\ Extern.find fn = some Extern.AbiNoEscape.same
def ajZ (P : Program) (f : FuncId) : Prop := ∃ fn, P.funcs[f]? = some fn /\ (fn.name == "runtime.NumGoroutine") = false /\ fn.body.isNone = true /\ Extern.findNext fn = none /\ Extern.find fn = some Extern.BytealgCompare.compare
structure sE (P:Program)(xs:J7):Prop where
 noEsc:ahS P xs.noEsc
 cmpS:ajZ P xs.cmpS
theorem sg {P:Program}{t:TypeId}{n:Nat}(h:en P t=some n):∃ j,P.info? t=some j/\j.size=n:=by
 unfold en at h;exact map_some h
theorem zn {P:Program}{ti:TI}{xs:J7}{rowB:Bool}{ρ:Operand->Option AV}{L L':List Ob}{op:Op}{v:AV}(hti:TIok P ti)(hne:sE P xs)(h:Iu P ti xs rowB ρ L op=some (v,L')):kZ P ρ L op v L':=by
 unfold Iu at h;split at h
 ·cases h;exact lm
 ·split at h
  ·rename_i es E hes hE
   split at h
   ·rename_i k hk
    obtain⟨e,h1,h2,h3,h4,h5,h6,h7,h8⟩:=a6 h
    cases e;exact LW hti hE h2 hk h3 hes h4 h5 (ES h6) h7 h8
   ·cases h
  ·cases h
 ·split at h
  ·rename_i id s kt et hx hk hm
   have ht:=hti.kind _ _ (GY hm);split at h
   ·rename_i kvs z hL hz
    have hz:=hti.zero _ _ hz;split at h
    ·obtain⟨e,h1,h2⟩:=a6 h
     cases e;exact oO hx hk hL (iO h1) ht (hti.kind _ _ (gL h2)) hz
    ·split at h
     ·rename_i p hp
      obtain⟨e,h1,h2⟩:=a6 h
      cases e;exact lW hx hk hL (iO h1) ht (hti.kind _ _ (gL h2)) hz hp
     ·cases h
   ·cases h
  ·cases h
 ·split at h
  ·rename_i id s v' kt et hx hk hy hm
   have ht:=hti.kind _ _ (GY hm);split at h
   ·rename_i kvs hL
    obtain⟨e,h1,h2⟩:=a6 h
    cases e;exact ir hx hk hy hL (iO h1) ht (hti.kind _ _ (gL h2))
   ·cases h
  ·cases h
 ·split at h
  ·rename_i id s kt et hx hk hm
   have ht:=hti.kind _ _ (GY hm);split at h
   ·rename_i kvs z hL hz
    have hz:=hti.zero _ _ hz;split at h
    ·rename_i p hp
     obtain⟨e,h1,h2⟩:=a6 h
     cases e;exact GF hx hk hL (iO h1) ht (hti.kind _ _ (gL h2)) hz hp
    ·cases h
   ·cases h
  ·cases h
 ·split at h
  ·rename_i id i v' hx hk hy
   split at h
   ·rename_i kvs hL
    split at h
    ·rename_i q hq
     obtain⟨e,h1⟩:=a6 h
     cases e;exact BA hx (by rw[hk,Int.toNat_of_nonneg h1]) hy hL hq
    ·cases h
   ·cases h
  ·cases h
 ·rename_i f first captured
  split at h
  ·rename_i caps h1 h2
   cases h;obtain rfl:first=#[]:=by cases first;simp at h1;subst h1;rfl
   exact nO h2
  ·cases h
 ·rename_i args ts
  split at h
  ·rename_i s x t tx ha hts
   obtain rfl:args=#[s,x]:=by cases args;simp at ha;subst ha;rfl
   obtain rfl:ts=#[t,tx]:=by cases ts;simp at hts;subst hts;rfl
   split at h
   ·rename_i id ver n vx E hs hx hE
    split at h
    ·rename_i ver' es k' xs k by_ hL hsrc hk hby
     obtain⟨e,⟨h1,h2,h3,h4⟩,h5,h6,h7,h8,h9⟩:=a6 h
     cases e;subst h1;subst h2;exact dD hti hs hx hL hsrc (On h3) hE h4 hk h5 hby h6 h7 h8 h9
    ·cases h
   ·rename_i vx E hs hx hE
    split at h
    ·rename_i xs k by_ hsrc hk hby
     obtain⟨e,⟨h1,h2,h3⟩,h5,h6,h7,h8,h9⟩:=a6 h
     cases e;exact IH hti hs hx hsrc (On h2) hE h3 hk h5 hby h6 h7 h8 h9
    ·cases h
   ·cases h
  ·cases h
 ·split at h
  ·rename_i l m E hl hc hE
   split at h
   ·rename_i k by_ hk hby
    split at h
    ·split at h
     ·obtain⟨e,⟨h1,h2⟩,h3,h4,h5,h6,h7⟩:=a6 h
      cases e;subst h1;exact Ju hti hl hc hE h2 hk h3 hby h4 h5 h6 h7
     ·rename_i zs _ hz
      obtain⟨e,⟨h1,h2⟩,h3,h4,h5,h6,h7⟩:=a6 h
      cases e;subst h1;obtain⟨zv,hzv,hcz⟩:=Option.bind_eq_some_iff.1 hz;exact vz hti hl hc hE h2 hk h3 hzv hcz hby h4 h5 h6 h7
     ·cases h
    ·obtain⟨e,h1,h3,h4,h5,h6,h7⟩:=a6 h
     cases e;subst h1;exact iC hti hl hc hE hk h3 hby h4 h5 h6 h7
   ·cases h
  ·cases h
 ·split at h
  ·rename_i inf ts hi hf
   split at h
   ·rename_i vs Eb hz hEb
    split at h
    ·rename_i k hv hk
     obtain⟨e,h1,h2,h3,h4⟩:=a6 h
     cases e;exact hZ hi (by rw[hz];cases vs;simp at hv;subst hv;rfl) h2 h3 h4
    ·cases h
   ·cases h
  ·cases h
 ·split at h
  ·rename_i id ver hx
   split at h
   ·rename_i ver' es k hL
    split at h
    ·rename_i t _ h1 h2
     split at h
     ·rename_i n hn
      obtain⟨e,h4⟩:=a6 h
      cases e;subst h4;obtain⟨j,hj,hs⟩:=sg (hti.size _ _ hn);exact ke hx hL (hti.kind _ _ (rm h1)) (hti.kind _ _ (IK h2)) hj (by rw[hs];exact Nat.succ_ne_zero _)
     ·cases h
    ·rename_i t h1 h2 _
     obtain⟨e,h4,h5,h6,h7⟩:=a6 h
     cases e;subst h4;obtain⟨n,hn⟩:=ana.1 h5;obtain⟨j,hj,hs⟩:=sg (hti.size _ _ hn);exact nS hx hL (hti.kind _ _ (IK h2)) (hti.kind _ _ (rm h1)) hj h6 h7
    ·cases h
   ·cases h
  ·cases h
 ·split at h
  ·rename_i hx
   split at h
   ·rename_i te hy hm
    cases h;exact vG hx hy (hti.kind _ _ (rm hm))
   ·cases h
  ·rename_i hx
   split at h
   ·rename_i te ver' es k hy hm hL
    obtain⟨e,h4⟩:=a6 h
    cases e;subst h4;exact pO hx hL hy (hti.kind _ _ (rm hm))
   ·cases h
  ·rename_i hx
   split at h
   ·rename_i te ver' es k hy hm hL
    obtain⟨e,h4,h5,h6,h7,h8,h9⟩:=a6 h
    cases e;subst h4;subst h5;subst h6;subst h7;subst h8;obtain⟨n,hn⟩:=ana.1 h9;obtain⟨j,hj,hs⟩:=sg (hti.size _ _ hn);exact qi hx hL hy (hti.kind _ _ (rm hm)) hj
   ·cases h
  ·rename_i vx hx
   split at h
   ·rename_i hl hm
    cases h;exact KN hx hl (hti.kind _ _ (af0 hm))
   ·cases h
  ·cases h
 ·rename_i args ts
  split at h
  ·rename_i x ha
   obtain rfl:args=#[x]:=by cases args;simp at ha;subst ha;rfl
   split at h
   ·rename_i id ver n hx
    split at h
    ·rename_i ver' es k hL
     obtain⟨e,h4⟩:=a6 h
     cases e;subst h4;exact rT hx hL (Nat.succ_pos _)
    ·cases h
   ·rename_i id ver hx
    split at h
    ·rename_i ver' k hL
     obtain⟨e,h4,h5⟩:=a6 h
     cases e;subst h4;exact qt hx hL h5
    ·cases h
   ·cases h
  ·cases h
 ·rename_i args ts
  split at h
  ·rename_i x y pt it ha hts
   obtain rfl:args=#[x,y]:=by cases args;simp at ha;subst ha;rfl
   obtain rfl:ts=#[pt,it]:=by cases ts;simp at hts;subst hts;rfl
   split at h
   ·rename_i n hx hy
    obtain⟨e,h4⟩:=a6 h
    cases e;subst h4;exact lc hx hy
   ·rename_i id ver n hx hy
    split at h
    ·rename_i ver' es E hL hm
     split at h
     ·rename_i bs hb
      obtain⟨e,⟨h4,h5⟩,h6,h7,h8,h9⟩:=a6 h
      cases e;subst h4;subst h5;refine mN hx hy ?_ h6 (hti.kind _ _ (rm hm)) h7 h8 h9;rw[hL,yZ hb];rfl
     ·cases h
    ·cases h
   ·cases h
  ·cases h
 ·rename_i f args ts
  split at h
  ·rename_i x ha
   obtain rfl:args=#[x]:=by cases args;simp at ha;subst ha;rfl
   split at h
   ·rename_i v' hx
    obtain⟨e,h4⟩:=a6 h
    cases e;subst h4;obtain⟨fn,h1,h2,h3,h5,h6⟩:=hne.noEsc;exact oP hx h1 h2 h3 h5 h6
   ·cases h
  ·rename_i x y ha
   obtain rfl:args=#[x,y]:=by cases args;simp at ha;subst ha;rfl
   split at h
   ·rename_i a b hx hy
    obtain⟨e,h4⟩:=a6 h
    cases e;subst h4;obtain⟨fn,h1,h2,h3,h5,h6⟩:=hne.cmpS;exact yk hx hy h1 h2 h3 h5 h6
   ·cases h
  ·cases h
 ·cases h
open Go.RowKit Go.MapKept
def alD (f:FuncId):Bool:=Nat.beq f 213||Nat.beq f 276||Nat.beq f 127||Nat.beq f 129||Nat.beq f 130||Nat.beq f 181||Nat.beq f 218||Nat.beq f 177||Nat.beq f 211||Nat.beq f 199||Nat.beq f 225||Nat.beq f 247||Nat.beq f 248||Nat.beq f 275||Nat.beq f 286||Nat.beq f 36||Nat.beq f 12||Nat.beq f 16
def xm:TI :={ tab with owns:=alD }
theorem ae:TIok Tryz.prog xm:=⟨tab_ok.size,tab_ok.agg,tab_ok.elem,tab_ok.field,tab_ok.zero,tab_ok.bytes,tab_ok.kind,tab_ok.struct,tab_ok.zok,tab_ok.eqs⟩
theorem akn:ahS Tryz.prog 213:=⟨_,Tryz.func213,k7,k7,k7,k7⟩
theorem ajX:ajZ Tryz.prog 276:=⟨_,Tryz.func276,k7,k7,k7,k7⟩
open Go.RowKit Go.MapKept
inductive Step (σ ρ:Type) where
 |next (s:σ)
 |exit (s:σ)
 |ret (r:ρ)
def ap {σ ρ:Type}(body:σ->Option (Step σ ρ)):Nat->σ->Option (Sum σ ρ)
 |0,_=>none
 |n+1,s=>match body s with
  |none=>none
  |some (.next s')=>ap body n s'
  |some (.exit s')=>some (.inl s')
  |some (.ret r)=>some (.inr r)
def fuel:Nat:=4611686018427387904
def aq {α:Type}(l:List α)(i:Int):Option α:=if 0<=i then l[i.toNat]? else none
def fM {α:Type}(l:List α)(a b:Int):Option (List α):=if 0<=a/\a<=b/\b<=(l.length:Nat)then some ((l.take b.toNat).drop a.toNat)else none
theorem bd_ {α β:Type}{x:Option α}{f:α->Option β}{r:β}(h:x.bind f=some r):∃ a,x=some a/\f a=some r:=by
 cases x with
 |none=>cases h
 |some a=>exact⟨a,rfl,h⟩
theorem rB {α:Type}{l:List α}{i:Int}{x:α}(h:aq l i=some x):0<=i/\l[i.toNat]?=some x:=by
 unfold aq at h;by_cases h0:0<=i
 ·rw[if_pos h0]at h;exact⟨h0,h⟩
 ·rw[if_neg h0]at h;cases h
theorem dq {α:Type}{l r:List α}{a b:Int}(h:fM l a b=some r):(0<=a/\a<=b/\b<=(l.length:Nat))/\r=(l.take b.toNat).drop a.toNat:=by
 unfold fM at h;by_cases h0:0<=a/\a<=b/\b<=(l.length:Nat)
 ·rw[if_pos h0]at h;exact⟨h0,(am3 h).symm⟩
 ·rw[if_neg h0]at h;cases h
theorem iD {c:Bool}{β:Type}{x:Option β}{r:β}(h:(bif c then x else none)=some r):c=true/\x=some r:=by
 cases c with
 |true=>exact⟨rfl,h⟩
 |false=>cases h
theorem ag8 {α:Type}{l:List α}{f:α->List AC}{i:Int}{x:α}(h:l[i.toNat]?=some x):(l.map f)[i.toNat]?=some (f x):=by rw[amT,h];rfl
theorem wideI {α:Type}{f:α->List AC}{k:Nat}(hf:∀ x,(f x).length=k)(l:List α):∀ e∈l.map f,e.length=k:=by
 intro e he;simp only[am6]at he;obtain⟨x,_,rfl⟩:=he;exact hf x
section
variable {P:Program} {ti:TI} {N n0:Nat} {Q:AX->Tm->List Ob->Prop} {T:Tm} {L:List Ob}
@[reducible] def After {σ ρ γ:Type}(K:Sum σ ρ->Option γ)(r:γ):Step σ ρ->Prop
 |.next _=>True
 |.exit s=>K (.inl s)=some r
 |.ret q=>K (.inr q)=some r
theorem alM_ {σ ρ γ:Type}{c:Code}{body:σ->Option (Step σ ρ)}{K:Sum σ ρ->Option γ}{r:γ}{s0:σ}(TT:σ->Tm)(LL:σ->List Ob)(h:(ap body fuel s0).bind K=some r)(hn1:∀ s,n0<=(LL s).length)(hf:Fits T L (TT s0) (LL s0))
  (round:∀ s st,body s=some st->After K r st->Aw P N n0 c (AX.then (fun T' L' =>∃ s',st = .next s'/\Fits T' L' (TT s') (LL s')) Q) (TT s) (LL s)):Aw P N n0 (.loop c) Q T L:=by
 refine cK (fun s:Nat×σ=>TT s.2) (fun s=>LL s.2) (fun s=>(ap body s.1 s.2).bind K=some r) (fun s=>s.1) (fuel,s0) h (fun s _=>hn1 s.2) hf ?_;rintro⟨n,s⟩ hok;dsimp only at hok ⊢
 cases n with
 |zero=>cases hok
 |succ n =>
  rw[ap]at hok
  cases hb:body s with
  |none=>rw[hb]at hok;cases hok
  |some st =>
   rw[hb]at hok;refine Aw.mono (round s st hb ?_) ?_
   ·cases st with
    |next s'=>trivial
    |exit s'=>exact hok
    |ret q=>exact hok
   ·intro x T' L' hq
    cases x with
    |normal =>
     obtain⟨s',rfl,hfit⟩:=hq;exact⟨(n,s'),hok,Nat.lt_succ_self n,hfit⟩
    |exit id=>exact hq
    |ret=>exact hq
end
def mnI (a b:Int):Int:=if b<a then b else a
def Gk (a b:Int):Int:=if b>a then b else a
theorem mn_norm (a b:Int):(if false=true then(if b>a then b else a)else(if b<a then b else a))=mnI a b:=rfl
theorem mx_norm (a b:Int):(if true=true then(if b>a then b else a)else(if b<a then b else a))=Gk a b:=rfl
theorem xd {α:Type}{f:α->List AC}{l r:List α}{a b:Int}(h:r=(l.take b.toNat).drop a.toNat):((l.map f).take b.toNat).drop a.toNat=r.map f:=by rw[h,<- List.map_take,<- List.map_drop]
def aeH (n:Nat):SV->Bool
 |.c _=>true
 |.emp=>true
 |.own _ t=>Nat.blt t n
 |.ptr id _=>Nat.blt id n
 |_=>false
def MR (n:Nat):List SV->Bool
 |[]=>true
 |x::l=>and (aeH n x) (MR n l)
theorem abS {n:Nat}{x:SV}(h:aeH n x=true):x.below n:=by
 cases x with
 |c _=>trivial
 |emp=>trivial
 |own _ t=>exact amG h
 |ptr id _=>exact amG h
 |sl=>cases h
 |ep=>cases h
 |mp=>cases h
 |clo=>cases h
theorem d_ {n:Nat}:∀ {cs:List SV},MR n cs=true->(Ob.box cs).below n
 |[],_=>fun x hx=>by cases hx
 |c::cs,h=>fun x hx=>by
  rw[MR,amO]at h;rcases amN.1 hx with rfl|hx
  ·exact abS h.1
  ·exact d_ h.2 x hx
section
variable {P:Program} {ti:TI} {N n0:Nat} {ds:List (Option Tmp)} {K:Tm->List Ob->Prop} {rest:List Oper} {o:Oper} {T:Tm} {L:List Ob}
theorem lY {b:Bool}(h:b=true):(b==true)=true:=by rw[h];rfl
theorem lP {b:Bool}(h:b=false):(b==false)=true:=by rw[h];rfl
theorem aeX {b:Bool}(h:b=false):(b==true)=false:=by rw[h];rfl
theorem acY {b:Bool}(h:b=true):(b==false)=false:=by rw[h];rfl
theorem kQ {e:Bool}(h:e=false):(!e)=true:=by rw[h];rfl
theorem kU {e:Bool}(h:e=true):(!e)=false:=by rw[h];rfl
def ai4:Op->Bool
 |.pick _ _ _=>true
 |_=>false
theorem p_ {v:AV}{φ:Prop}{d:Nat}(_:ai4 o.op=false)(hd:o.dst=some d)(hN:Nat.blt d N=true){g0:Bool}(hg:fD ds T o.guard=some g0)(hp:pop ti (look T) L o.op=some (v,φ))(h:aB P ti N ds K rest ((d,v)::T) L)
  (hφ:φ:=by repeat' (first|exact t7|rfl|exact amG rfl|omega|assumption|exact wideI (by intro _;rfl) _|exact wideI FF _|(intro e he;simp at he;subst he;rfl)|(simp only[amI];omega)|apply And.intro)) (hg1:g0=true:=by first|rfl|exact lY (by first|assumption|exact kQ (by assumption))|exact lP (by first|assumption|exact kU (by assumption))):aB P ti N ds K (o::rest) T L:=st_pop hd hN (hg1▸hg) hp hφ h
theorem l_ {v:AV}{L':List Ob}{φ:Prop}{d:Nat}(hd:o.dst=some d)(hN:Nat.blt d N=true){g0:Bool}(hg:fD ds T o.guard=some g0)(hp:xj ti (look T) L o.op=some (v,L',φ))(h:aB P ti N ds K rest ((d,v)::T) L')
  (hφ:φ:=by repeat' (first|exact t7|rfl|exact amG rfl|omega|exact wideI (by intro _;rfl) _|exact wideI FF _|(intro e he;simp at he;subst he;rfl)|exact amI _|(simp only[amI,amE,amS,am1,anb]<;>omega)|apply And.intro)) (hg1:g0=true:=by first|rfl|exact lY (by first|assumption|exact kQ (by assumption))|exact lP (by first|assumption|exact kU (by assumption))):aB P ti N ds K (o::rest) T L:=st_lop hd hN (hg1▸hg) hp hφ h
theorem s_ {v:AV}{L':List Ob}{φ:Prop}(hd:o.dst=none){g0:Bool}(hg:fD ds T o.guard=some g0)(hp:xj ti (look T) L o.op=some (v,L',φ))(h:aB P ti N ds K rest T L')(hφ:φ:=by repeat' (first|exact t7|rfl|exact amG rfl|omega|apply And.intro))(hg1:g0=true:=by first|rfl|exact lY (by first|assumption|exact kQ (by assumption))|exact lP (by first|assumption|exact kU (by assumption))):aB P ti N ds K (o::rest) T L:=sS_ hd (hg1▸hg) hp hφ h
theorem t_ {v:AV}{φ:Prop}{d:Nat}(hd:o.dst=some d)(hN:Nat.blt d N=true){g0:Bool}(hg:fD ds T o.guard=some g0)(hp:rS ti (look T) o.op=some (v,φ))(h:aB P ti N ds K rest ((d,v)::T) L)
  (hφ:φ:=by repeat' (first|exact t7|rfl|exact amG rfl|omega|(intro e he;simp at he;subst he;rfl)|(intro e he;simp at he;rcases he with rfl|rfl<;>rfl)|(intro e he;simp at he;rcases he with rfl|rfl|rfl<;>rfl)|(intro e he;simp at he;rcases he with rfl|rfl|rfl|rfl<;>rfl)|apply And.intro)) (hg1:g0=true:=by first|rfl|exact lY (by first|assumption|exact kQ (by assumption))|exact lP (by first|assumption|exact kU (by assumption))):aB P ti N ds K (o::rest) T L:=st_lit hd hN (hg1▸hg) hp hφ h
theorem c_ {g:FuncId}{ps:List PV}{r:CV}{d:Nat}{v:AV}(hd:o.dst=some d)(hN:Nat.blt d N=true){g0:Bool}(hg:fD ds T o.guard=some g0)(hp:oL (look T) o.op=some (g,ps))(h:aB P ti N ds K rest ((d,v)::T) L)(hc:Pure P g ps r:=by assumption)(hv:r.av=v:=by rfl)(hg1:g0=true:=by first|rfl|exact lY (by first|assumption|exact kQ (by assumption))|exact lP (by first|assumption|exact kU (by assumption))):aB P ti N ds K (o::rest) T L:=aF hd hN (hg1▸hg) hp hc hv h
theorem x_ {t:TypeId}{x ix:Operand}{vx:AV}{es:List (List AC)}{k0:IntKind}{i:Int}{k d:Nat}{e:List AC}(hd:o.dst=some d)(hN:Nat.blt d N=true){g0:Bool}(hg:fD ds T o.guard=some g0)(ho:o.op = .indexAddr t x ix)(hx:look T x=some vx)(hl:df vx=some es)(hi:look T ix=some (.one (.c (.int k0 i))))
  (hk:(ti.elem t).bind ti.size=some k) (h:aB P ti N ds K rest ((d,.one (.c (.ref e)))::T) L) (he:es[i.toNat]?=some e:=by assumption) (h0:0<=i:=by assumption) (hl2:e.length=k:=by rfl) (hg1:g0=true:=by first|rfl|exact lY (by first|assumption|exact kQ (by assumption))|exact lP (by first|assumption|exact kU (by assumption))):aB P ti N ds K (o::rest) T L:=aZ hd hN (hg1▸hg) ho hx hl hi hk he ⟨h0,hl2⟩ h
theorem pick_t {c a b:Operand}{e:Bool}{va vb:AV}{d:Nat}(hd:o.dst=some d)(hN:Nat.blt d N=true){g0:Bool}(hg:fD ds T o.guard=some g0)(ho:o.op = .pick c a b)(hc:look T c=some (.one (.c (.bool e))))(ha:look T a=some va)(hb:look T b=some vb)(h:aB P ti N ds K rest ((d,va)::T) L)
  (he:e=true:=by first|rfl|assumption|exact kQ (by assumption)) (hg1:g0=true:=by first|rfl|exact lY (by first|assumption|exact kQ (by assumption))|exact lP (by first|assumption|exact kU (by assumption))):aB P ti N ds K (o::rest) T L:=st_pop hd hN (hg1▸hg) (by rw[ho];simp only[pop,hc,ha,hb];rw[if_pos he]) trivial h
theorem pick_f {c a b:Operand}{e:Bool}{va vb:AV}{d:Nat}(hd:o.dst=some d)(hN:Nat.blt d N=true){g0:Bool}(hg:fD ds T o.guard=some g0)(ho:o.op = .pick c a b)(hc:look T c=some (.one (.c (.bool e))))(ha:look T a=some va)(hb:look T b=some vb)(h:aB P ti N ds K rest ((d,vb)::T) L)
  (he:e=false:=by first|rfl|assumption|exact kU (by assumption)) (hg1:g0=true:=by first|rfl|exact lY (by first|assumption|exact kQ (by assumption))|exact lP (by first|assumption|exact kU (by assumption))):aB P ti N ds K (o::rest) T L:=st_pop hd hN (hg1▸hg) (by rw[ho];simp only[pop,hc,ha,hb];rw[if_neg (by rw[he];decide)]) trivial h
theorem k_ {d:Nat}{g0:Bool}(hd:o.dst=some d)(hN:Nat.blt d N=true)(hg:fD ds T o.guard=some g0)(h:aB P ti N ds K rest ((d,.undef)::T) L)(hg1:g0=false:=by first|rfl|exact aeX (by first|assumption|exact kU (by assumption))|exact acY (by first|assumption|exact kQ (by assumption))):aB P ti N ds K (o::rest) T L:=st_skip hd hN (hg1▸hg) h
theorem k0_ {g0:Bool}(hd:o.dst=none)(hg:fD ds T o.guard=some g0)(h:aB P ti N ds K rest T L)(hg1:g0=false:=by first|rfl|exact aeX (by first|assumption|exact kU (by assumption))|exact acY (by first|assumption|exact kQ (by assumption))):aB P ti N ds K (o::rest) T L:=sk0_ hd (hg1▸hg) h
theorem aw_condT {Q:AX->Tm->List Ob->Prop}{c:Operand}{x y:Code}{b:Bool}(hc:look T c=some (.one (.c (.bool b))))(h:Aw P N n0 x Q T L)(hb:b=true:=by first|rfl|assumption|exact kQ (by assumption)):Aw P N n0 (.cond c x y) Q T L:=aw_cond hc (fun _=>h) (fun e=>by rw[hb]at e;cases e)
theorem aw_condF {Q:AX->Tm->List Ob->Prop}{c:Operand}{x y:Code}{b:Bool}(hc:look T c=some (.one (.c (.bool b))))(h:Aw P N n0 y Q T L)(hb:b=false:=by first|rfl|assumption|exact kU (by assumption)):Aw P N n0 (.cond c x y) Q T L:=aw_cond hc (fun e=>by rw[hb]at e;cases e) (fun _=>h)
end
theorem bV {p:Prop}(h:p:=by
 repeat' (first
  |refine p_ rfl rfl rfl rfl rfl ?_|refine st_nil ?_|refine x_ rfl rfl rfl rfl rfl rfl rfl rfl ?_|refine l_ rfl rfl rfl rfl ?_|refine s_ rfl rfl rfl ?_|refine t_ rfl rfl rfl rfl ?_|refine k_ rfl rfl rfl ?_|refine k0_ rfl rfl ?_|refine c_ rfl rfl rfl rfl ?_|refine pick_t rfl rfl rfl rfl rfl rfl rfl ?_|refine pick_f rfl rfl rfl rfl rfl rfl rfl ?_|refine aw_seq ?_|refine aw_region tab_ok _ rfl ?_|refine aw_drawn2 tabS_ok _ rfl mixed (by decide +kernel) ?_|refine aw_condT rfl ?_|refine aw_condF rfl ?_|refine aw_block ?_|refine aw_exit ?_|refine aw_ret ?_|refine aw_skip ?_|rw[amI]|rw[mn_norm]|rw[mx_norm])
 refine aJ (aO rfl ?_ ?_)
 ·repeat' (first|exact t7|rfl|exact amG rfl|omega|apply And.intro)
 ·first|rfl|(simp only[amJ,amH,amL,amB]<;>rfl)):p:=h
structure Bx (q:Prop):Prop where
 out:q
theorem gs_ {p q:Prop}(k:q)(h:Bx q->p:=by
 intro hq
 first|refine p_ rfl rfl rfl rfl rfl ?_|refine st_nil ?_|refine x_ rfl rfl rfl rfl rfl rfl rfl rfl ?_|refine l_ rfl rfl rfl rfl ?_|refine s_ rfl rfl rfl ?_|refine t_ rfl rfl rfl rfl ?_|refine k_ rfl rfl rfl ?_|refine k0_ rfl rfl ?_|refine c_ rfl rfl rfl rfl ?_|refine pick_t rfl rfl rfl rfl rfl rfl rfl ?_|refine pick_f rfl rfl rfl rfl rfl rfl rfl ?_|refine aw_seq ?_|refine aw_region tab_ok _ rfl ?_|refine aw_drawn2 tabS_ok _ rfl mixed (by decide +kernel) ?_|refine aw_condT rfl ?_|refine aw_condF rfl ?_|refine aw_block ?_|refine aw_exit ?_|refine aw_ret ?_|refine aw_skip ?_|rw[amI]|rw[mn_norm]|rw[mx_norm]
 exact hq.out):p:=h ⟨k⟩
theorem gs0_ {p q:Prop}(k:q)(h:Bx q->p:=by
 intro hq
 first|refine p_ rfl rfl rfl rfl rfl ?_|refine st_nil ?_|refine x_ rfl rfl rfl rfl rfl rfl rfl rfl ?_|refine l_ rfl rfl rfl rfl ?_|refine s_ rfl rfl rfl ?_|refine t_ rfl rfl rfl rfl ?_|refine k_ rfl rfl rfl ?_|refine k0_ rfl rfl ?_|refine c_ rfl rfl rfl rfl ?_|refine pick_t rfl rfl rfl rfl rfl rfl rfl ?_|refine pick_f rfl rfl rfl rfl rfl rfl rfl ?_|refine aw_seq ?_|refine aw_condT rfl ?_|refine aw_condF rfl ?_|refine aw_block ?_|refine aw_exit ?_|refine aw_ret ?_|refine aw_skip ?_|rw[amI]|rw[mn_norm]|rw[mx_norm]
 exact hq.out):p:=h ⟨k⟩
theorem aX {p q:Prop}(k:q)(h:Bx q->p:=by
 intro hq
 repeat' (first
  |refine gs_ ?_)
 exact hq.out):p:=h ⟨k⟩
theorem af {β:Type}{c:Bool}{x y:Option β}{r:β}(H:(bif c then x else y)=some r):(c=true/\x=some r)\/(c=false/\y=some r):=by
 cases c with
 |true=>exact .inl ⟨rfl,H⟩
 |false=>exact .inr ⟨rfl,H⟩
theorem bo {p:Prop}[Decidable p]{β:Type}{x:Option β}{r:β}(H:(bif decide p then x else none)=some r):p/\x=some r:=by
 obtain⟨h,k⟩:=iD H;exact⟨amZ h,k⟩
theorem aY {α β:Type}{l:List α}{f:α->List AC}{i:Int}{k:α->Option β}{r:β}(H:(aq l i).bind k=some r):∃ x,0<=i/\l[i.toNat]?=some x/\(l.map f)[i.toNat]?=some (f x)/\k x=some r:=by
 obtain⟨x,h,K⟩:=bd_ H;obtain⟨h0,h1⟩:=rB h;exact⟨x,h0,h1,ag8 h1,K⟩
theorem lt_ {a b:Nat}(h:Nat.blt a b=true:=by rfl):a<b:=amG h
theorem bH {p:Prop}(h:p:=by repeat' (first|refine⟨?_,?_⟩|exact t7|rfl)):p:=h
theorem jb {p:Prop}(h:p:=by repeat' (first|refine⟨?_,?_⟩|exact t7|rfl|(simp only[amJ,amH,amL,amB]<;>rfl))):p:=h
theorem a8 {p:Prop}(h:p:=by repeat' (first|refine⟨?_,?_⟩|exact t7|exact lt_|omega)):p:=h
theorem bZ {p:Prop}(h:p:=by repeat' (first|refine⟨?_,?_⟩|exact t7|exact d_ r5|exact clo_below (amG rfl))):p:=h
theorem nk {p:Prop}(h:p:=by simp only[amE,amS,am1,anb,amJ,amH,amL]<;>rfl):p:=h
class EncC (α:Type) (f:outParam (α->List AC)):Prop where
 ok:True
class OkC (p:Prop) (q:outParam Prop):Prop where
 ok:p->q
instance {p q : Prop} : CoeFun (OkC p q) (fun _ => p -> q) := ⟨fun h => h.ok⟩
instance : EncC Int (fun x => [AC.int .i64 x]) := ⟨t7⟩
instance {α : Type} {f : α -> List AC} [EncC α f] : EncC (List α) (fun x => [AC.lst (x.map f)]) := ⟨t7⟩
instance : EncC Val cV := ⟨t7⟩
instance : EncC au aH := ⟨t7⟩
instance : EncC aw aA := ⟨t7⟩
instance : EncC Ex tE := ⟨t7⟩
instance : EncC bv bn := ⟨t7⟩
instance : EncC Cmn ez := ⟨t7⟩
instance : EncC Fgn fY := ⟨t7⟩
instance : EncC bD bN := ⟨t7⟩
instance : EncC Stp dM := ⟨t7⟩
instance : EncC ji ol := ⟨t7⟩
instance : EncC ar bp := ⟨t7⟩
instance : EncC BN xh := ⟨t7⟩
theorem ME {α β:Type}{l:List α}{f:α->List AC}[EncC α f]{i:Int}{k:α->Option β}{r:β}(H:(aq l i).bind k=some r):∃ x,0<=i/\l[i.toNat]?=some x/\(l.map f)[i.toNat]?=some (f x)/\k x=some r:=aY H
theorem ax {α:Type}{x:Option α}{r:α}{p:Prop}(H:x=some r)(h:x=some r->p:=by
 intro H
 try dsimp only at H ⊢
 repeat' (first
  |(obtain⟨_,_,_,i,H⟩:=ME H;try simp only[amJ,amH,amL,amB,aN]at i)
  |(obtain⟨_,c,H⟩:=bd_ H;replace c:=OkC.ok c;try simp only[amJ,amH,amL,amB,aN]at c)
  |(obtain⟨_,H⟩:=bo H)
  |(rcases af H with⟨_,H⟩|⟨_,H⟩))
 all_goals cases H
 all_goals (first|exact bV|(refine aX ?_;exact⟨_,rfl,fm_ jb [] nk a8 bZ⟩))):p:=h H
theorem ag' {α:Type}{x:Option α}{r:α}{p:Prop}(H:x=some r)(h:x=some r->p:=by
 intro H
 try dsimp only at H ⊢
 repeat' (first
  |(obtain⟨_,_,_,i,H⟩:=ME H;try simp only[amJ,amH,amL,amB,aN]at i)
  |(obtain⟨_,c,H⟩:=bd_ H;replace c:=OkC.ok c;try simp only[amJ,amH,amL,amB,aN]at c)
  |(obtain⟨_,H⟩:=bo H)
  |(rcases af H with⟨_,H⟩|⟨_,H⟩))
 all_goals cases H
 all_goals (refine aX ?_;exact⟨_,rfl,fm_ jb [] nk a8 bZ⟩)):p:=h H
theorem cL {α:Type}{x:Option α}{r:α}{p:Prop}{A0:Prop}(H:x=some r)(k0:A0)(h:x=some r->A0->p:=by
 intro H k0
 try dsimp only at H ⊢
 repeat' (first
  |(obtain⟨_,_,_,i,H⟩:=ME H;try simp only[amJ,amH,amL,amB,aN]at i)
  |(obtain⟨_,c,H⟩:=bd_ H;replace c:=OkC.ok c;try simp only[amJ,amH,amL,amB,aN]at c)
  |(obtain⟨_,H⟩:=bo H)
  |(rcases af H with⟨_,H⟩|⟨_,H⟩))
 all_goals cases H
 all_goals first
  |(have H:_=some _:=k0
    try dsimp only at H
    repeat' (first
     |(obtain⟨_,_,_,i,H⟩:=ME H;try simp only[amJ,amH,amL,amB,aN]at i)
     |(obtain⟨_,c,H⟩:=bd_ H;replace c:=OkC.ok c;try simp only[amJ,amH,amL,amB,aN]at c)
     |(obtain⟨_,H⟩:=bo H)
     |(rcases af H with⟨_,H⟩|⟨_,H⟩))
    all_goals cases H
    all_goals (first|exact bV|(refine aX ?_;exact⟨_,rfl,fm_ jb [] nk a8 bZ⟩)))
  |(refine aX ?_;exact⟨_,rfl,fm_ jb [] nk a8 bZ⟩)):p:=h H k0
theorem po_ {P : Program} {ti : TI} {N : Nat} {f : FuncId} {fn : Func} {c : Code} {args : List PV} {r : CV} (hf : P.funcs[f]? = some fn) (hN : fn.ntmps = N) {T : Tm} (h : Aw P N 0 c (fun x T L => (x = .normal \/ x = .ret) /\ Res ti fn.results.toList T L r) T []) (hti : TIok P ti := by exact tab_ok) (hb : fn.body = some c := by rfl) (hname : (fn.name == "runtime.NumGoroutine") = false := by rfl) (hlen : args.length <= N := by simp) (hT : argT 0 args = T := by simp only [argT, PV.av, amH, amL] <;> rfl) : Pure P f args r := pa_ hti hf hb hname hN hlen (hT ▸ h)
theorem qp_ {p:Prop}(h:p:=by repeat' (first|exact t7|rfl|exact amG rfl|omega|decide|exact amI .. |(simp only[amS,am1];omega)|exact wideI (by intro _;rfl) _|(intro e he;simp at he;subst he;rfl)|(intro e he;obtain⟨q,_,rfl⟩:=am6.1 he;rfl)|(simp only[amI];omega)|(simp only[amI,amE,amS,am1];omega)|(intro e he;simp at he;rcases he with rfl|rfl<;>rfl)|refine anp.2 ⟨?_,?_⟩|exact fun _ h=>nomatch h|(intro e he;obtain⟨q,_,rfl⟩:=am6.1 (ant he);rfl)|(simp only[amI,anm];omega)|(simp only[amI,amE,anm,amS,am1];omega)|(simp only[amS,am1,anb];decide)|(show _<_+1;omega)|apply And.intro)):p:=h
theorem gw_ {A B p q:Prop}(a:A)(b:B)(k:q)(h:Bx q->A->B->p:=by
 intro hq ha hb0
 first|refine st_nil ?_|refine st_pop rfl rfl rfl rfl qp_ ?_|refine st_lop rfl rfl rfl rfl qp_ ?_|refine sS_ rfl rfl rfl qp_ ?_|refine st_lit rfl rfl rfl rfl qp_ ?_|refine st_skip rfl rfl rfl ?_|refine sk0_ rfl rfl ?_|(refine st_if rfl (fun hb=>?_) (fun hb=>?_)<;>(first|exact(fx_ hb).elim|rw[hb]))|refine aw_seq ?_|refine aw_region ha _ rfl ?_|refine aw_drawn2 hb0 _ rfl mixed (by decide +kernel) ?_|(refine aw_cond rfl (fun hb=>?_) (fun hb=>?_)<;>(try exact(fx_ hb).elim))|refine aw_block ?_|refine aw_exit ?_|refine aw_ret ?_|refine aw_skip ?_
 exact hq.out):p:=h ⟨k⟩ a b
theorem gi_ {p q1 q2 c1 c2:Prop}(k1:c1->q1)(k2:c2->q2)(h:Bx (c1->q1)->Bx (c2->q2)->p:=by
 intro h1 h2
 first|(refine st_if rfl (fun hb=>?_) (fun hb=>?_);· (rw[hb];exact h1.out hb);· (rw[hb];exact h2.out hb))|exact aw_cond rfl h1.out h2.out):p:=h ⟨k1⟩ ⟨k2⟩
open Go.RowKit Go.MapKept
def cE {α σ ρ:Type}(f:σ->α->Option (Sum σ ρ)):σ->List α->Option (Sum σ ρ)
 |s,[]=>some (.inl s)
 |s,x::l=>match f s x with
  |none=>none
  |some (.inl s')=>cE f s' l
  |some (.inr r)=>some (.inr r)
section
variable {α σ ρ S:Type} {l:List α} {body:S->Option (Step S ρ)}
def Be (mk:σ->Int->S)(n:Nat):Option (Sum σ ρ)->Option (Sum S ρ)
 |none=>none
 |some (.inl s')=>some (.inl (mk s' n))
 |some (.inr r)=>some (.inr r)
def nj (mk:σ->Int->S)(i:Nat):Option (Sum σ ρ)->Option (Step S ρ)
 |none=>none
 |some (.inl s')=>some (.next (mk s' (i:Nat)))
 |some (.inr r)=>some (.ret r)
theorem FR (mk:σ->Int->S)(f:σ->α->Option (Sum σ ρ))(h1:∀ (s:σ) (i:Nat) x,l[i]?=some x->body (mk s i)=nj mk (i+1) (f s x))(h2:∀ s,body (mk s l.length)=some (.exit (mk s l.length))) :
  ∀ (n i:Nat) (s:σ),i<=l.length->l.length-i<n->ap body n (mk s i)=Be mk l.length (cE f s (l.drop i))
 |0,i,s,_,h=>by omega
 |n+1,i,s,hi,hn=>by
  rw[ap];by_cases hlt:i<l.length
  ·obtain⟨x,hx⟩:=gol_ hlt
   have e1:=(amw.1 hx).2;rw[h1 s i x hx,am2 hlt,e1,cE]
   cases hf:f s x with
   |none=>rfl
   |some st=>cases st with
    |inl s'=>exact FR mk f h1 h2 n (i+1) s' m0 m0
    |inr r=>rfl
  ·have:i=l.length:=m0
   subst this;rw[h2,anq];rfl
theorem cm (mk:σ->Int->S)(f:σ->α->Option (Sum σ ρ))(h1:∀ (s:σ) (i:Nat) x,l[i]?=some x->body (mk s i)=nj mk (i+1) (f s x))(h2:∀ s,body (mk s l.length)=some (.exit (mk s l.length)))(hl:l.length<fuel)(s:σ) :
  ap body fuel (mk s 0)=Be mk l.length (cE f s l):=FR mk f h1 h2 fuel 0 s (amR _) m0
end
theorem gn_ {α:Type}{l:List α}{i:Nat}{x:α}(h:l[i]?=some x):aq l (i:Int)=some x:=by
 unfold aq;rw[if_pos m0];exact h
theorem aC {α:Type}{l:List α}{i:Nat}{x:α}(h:l[i]?=some x):decide ((i:Int)<(l.length:Nat))=true:=by
 have:=(amw.1 h).1;simp;exact this
theorem lF_ (n:Nat):decide ((n:Int)<(n:Nat))=false:=by simp
theorem wrapN {i:Nat}(h:i<=4611686018427387904):IntKind.i64.wrap ((i:Int)+1)=((i+1:Nat):Int):=aS m0 m0
abbrev PTz:=Pure Tryz.prog
abbrev RTz:=Run Tryz.prog
theorem sl9:(∀(h:Decidable False),@decide False h=false)/\(∀(h:Decidable True),@decide True h=true)/\(∀{α:Type}(a b:α),(bif true then a else b)=a)/\(∀{α:Type}(a b:α),(bif false then a else b)=b):=⟨fun h=>decide_false h,fun h=>decide_true h,fun _ _=>rfl,fun _ _=>rfl⟩
