/- Parts. No condition. -/
import Derived.Test.YtnbnpnmkgemdeaaGreatDoorKAA
import Derived.Deep.Upon
set_option linter.unusedSimpArgs false
set_option linter.unusedVariables false
namespace Go.Proofs.YtnbnpnmkgemdeaaGreatDoor
open Go.RowKit
def tq (ti:TI)(L:List Ob)(t tx:TypeId)(s x:AV):Option (AV×List Ob×Prop) :=
 match cX x,ti.elem t with
 |some xs,some E=>match ti.size E,ti.bytes E with
  |some k,some by_=>match s with
   |.one .emp=>some (.one (.own xs L.length),L++[.spare xs.length k],(ti.elem tx).isSome/\0<k/\ti.zok E=true/\(∀ e∈xs,e.length=k)/\xs.length*by_<=140737488355328/\xs.length<=140737488355328)
   |.one (.own es i)=>match L[i]? with
    |some (.spare n k')=>some (.one (.own (es++xs) i),L.set i (.spare (n+xs.length) k),(ti.elem tx).isSome/\k'=k/\es.length=n/\(ti.zok E=true/\0<k)/\(∀ e∈xs,e.length=k)/\(n+xs.length)*by_<=140737488355328/\n+xs.length<=140737488355328)
    |_=>none
   |_=>none
  |_,_=>none
 |_,_=>none
def yb (ti:TI)(ρ:Operand->Option AV)(L:List Ob):Op->Option (AV×List Ob×Prop)
 |.alloc E=>match (ti.zero E).bind AV.cells with
  |some zs=>some (.one (.ptr L.length 0),L++[.box zs],True)
  |none=>none
 |.box _ x=>match (ρ x).bind AV.cells with
  |some xs=>some (.one (.ptr L.length 0),L++[.box xs],True)
  |none=>none
 |.store t p x=>match ρ p,(ρ x).bind AV.cells with
  |some (.one (.ptr id off)),some xs=>match L[id]? with
   |some (.box cs)=>some (.undef,L.set id (.box (splice cs off xs)),off+xs.length<=cs.length/\ti.size t=some xs.length)
   |_=>none
  |some (.one (.ep id O9 i o)),some xs=>match L[id]? with
   |some (.row Pn es k)=>match es[i]? with
    |some e=>some (.undef,L.set id (.row Pn (es.set i (splice e o xs)) k),O9=Pn/\o+xs.length<=e.length/\ti.size t=some xs.length)
    |none=>none
   |_=>none
  |_,_=>none
 |.call { callee := .builtin .append,args,argTypes } =>match args.toList,argTypes.toList with
  |[s,x],[t,tx]=>match ρ s,ρ x with
   |some vs,some vx=>tq ti L t tx vs vx
   |_,_=>none
  |_,_=>none
 |_=>none
def aaQ (P:Program)(B:Nat->Prop)(R:PH)(γ:List Gh)(L L':List Ob)(w:World)(s:Sem Next)(v:AV):Prop :=
 ∃ w' R' γ',(((∃ u,s.run P w = .ok (.value u) w'/\v.rep R' γ' L' u)\/(s.run P w = .ok .skip w'/\v = .undef)))/\Inv B R' γ' L' w'/\Ext B R R' w w'/\Mv R R' γ γ' L L'
section
variable {P:Program} {B:Nat->Prop} {R:PH} {γ:List Gh} {L:List Ob} {w:World}
theorem Mv.push (g:Gh)(x:Ob)(hl:γ.length=L.length):Mv R R γ (γ++[g]) L (L++[x]):=by
 refine⟨PH.sub_refl _,m5,λt n k O8 h=>⟨n,?_,ah7 _,λ_=>?_⟩,λt O9 es k O8 h=>⟨O9,es,?_,ah7 _,λ_=>⟨rfl,?_⟩⟩,λid b h=>?_⟩
 .rw[ah5 O8]at h;exact h
 .rw[ah5 (by rw[hl];exact O8)]
 .rw[ah5 O8]at h;exact h
 .rw[ah5 (by rw[hl];exact O8)]
 .rw[ah5 (ahR.1 h).1];exact h
theorem Inv.push (hi:Inv B R γ L w)(x:Ob)(g:Gh)(o:Obj)(hg:g.block=some w.heap.size)(hx:lg R (γ++[g]) (L++[x]) (w.alloc o) x g):Inv B R (γ++[g]) (L++[x]) (w.alloc o):=by
 refine⟨by simp[hi.len],λb o' u h=>?_,λid y h hy hh=>?_,λi j gi gj h1 h2 PE b hb=>?_,λi h b hh hb=>?_,?_⟩
 .have:=hi.lt h
  rw[<- hi.val _ _ _ h];exact World.cell?_of_block (w:=w) (eC w _ this)
 .by_cases hid:id<L.length
  .rw[ah5 hid]at hy
   rw[ah5 (by rw[hi.len];exact hid)]at hh;exact(hi.obj id y h hy hh).mv (Mv.push g x hi.len) (λb hb=>eC w _ (hi.new id h b hh hb).2) (λ_ _ _ h=>h)
  .have hid':id=L.length:=by have:=(ahR.1 hy).1;simp at this;omega
   subst hid';rw[ahY m0]at hy;rw[ahY (by rw[hi.len];omega),hi.len]at hh;simp at hy hh;subst hy hh;exact hx
 .have bnd:∀ i h,(γ++[g])[i]?=some h->(i<γ.length/\γ[i]?=some h)\/(i=γ.length/\h=g):=by
   intro i h hh;by_cases hid:i<γ.length
   .rw[ah5 hid]at hh;exact .inl ⟨hid,hh⟩
   .have:i=γ.length:=by have:=(ahR.1 hh).1;simp at this;omega
    subst this;rw[ahY m0]at hh;simp at hh;exact .inr ⟨rfl,hh.symm⟩
  rcases bnd i gi h1 with⟨a1,a2⟩|⟨a1,a2⟩<;>rcases bnd j gj h2 with⟨b1,b2⟩|⟨b1,b2⟩
  .exact hi.inj i j gi gj a2 b2 PE b hb
  .subst b2;have:=(hi.new i gi b a2 hb).2;rw[hg];intro e;injection e with e;omega
  .subst a2;rw[hg]at hb;injection hb with hb;subst hb
   intro e;have:=(hi.new j gj _ b2 e).2;omega
  .omega
 .by_cases hid:i<γ.length
  .rw[ah5 hid]at hh
   have:=hi.new i h b hh hb;exact⟨this.1,by simp;omega⟩
  .have:i=γ.length:=by have:=(ahR.1 hh).1;simp at this;omega
   subst this;rw[ahY m0]at hh;simp at hh;subst hh;rw[hg]at hb;injection hb with hb;subst hb
   exact⟨λhB=>by have:=hi.bsz _ hB;omega,m5⟩
 .intro b hb;have:=hi.bsz b hb;simp;omega
theorem MW (hi:Inv B R γ L w){xs:List SV}{vs:Array Value}(E:TypeId)(h:B0 R γ L xs vs) :
  Inv B R (γ++[.box w.heap.size]) (L++[.box xs]) (w.alloc (.cells vs E))/\(SV.ptr L.length 0).rep R (γ++[.box w.heap.size]) (L++[.box xs]) (.pointer (some ⟨w.heap.size,0,none⟩)):=by
 refine⟨hi.push _ _ _ rfl ⟨⟨vs,E,di w _,h.1,λj u x hu hx=>SV.mv (Mv.push _ _ hi.len) (h.2 j u x hu hx)⟩,λo=>hi.none_at o⟩,w.heap.size,rfl,?_⟩;rw[ahY (by rw[hi.len];omega),hi.len];simp
theorem fV (b:Nat)(E:TypeId)(f:Nat×Nat):∀ (vs:List Value) (o:Nat) (w:World) (cs:Array Value),w.heap[b]?=some (.cells cs E f)->o+vs.length<=cs.size ->
  ∃ S4,(w.setCells b o vs).heap[b]?=some (.cells S4 E f)/\S4.size=cs.size /\ ∀ i,S4[i]?=if o<=i/\i<o+vs.length then vs[i-o]? else cs[i]?
 |[],o,w,cs,h,_=>⟨cs,h,rfl,λi=>by rw[if_neg (by intro h;simp only[aik]at h;omega)]⟩
 |v::vs,o,w,cs,h,hl=>by
  rw[aib]at hl;have h1:(w.setCell ⟨b,o,none⟩ v).heap[b]?=some (.cells (cs.setIfInBounds o v) E f):=by
   simp[World.setCell,Array.getElem?_modify,h]
  obtain⟨S4,g1,g2,g3⟩:=fV b E f vs (o+1) _ _ h1 m8;refine⟨S4,g1,by rw[g2];simp,λi=>?_⟩;rw[g3 i];by_cases c1:o+1<=i/\i<o+1+vs.length
  .rw[if_pos c1,if_pos m8]
   have:i-o=(i-(o+1))+1:=m0
   rw[this,List.getElem?_cons_succ]
  .rw[if_neg c1]
   by_cases c2:i=o
   .subst c2
    rw[if_pos m5];rw[aiF m0];simp
   .rw[if_neg m8,aix m0]
theorem dQ (b:Nat){b':Nat}(PE:b'≠b):∀ (vs:List Value) (o:Nat) (w:World),(w.setCells b o vs).heap[b']?=w.heap[b']?
 |[],_,_=>rfl
 |v::vs,o,w=>(dQ b PE vs (o+1) _).trans (Below.heap_setCell w _ v b' PE)
theorem eW (b:Nat):∀ (vs:List Value) (o:Nat) (w:World),(w.setCells b o vs).heap.size=w.heap.size
 |[],_,_=>rfl
 |v::vs,o,w=>(eW b vs (o+1) _).trans (by simp[World.setCell])
theorem eK {B:Nat->Prop}{b:Nat}(hb:¬ B b):∀ (vs:List Value) (o:Nat) (w:World),Kept B w (w.setCells b o vs)
 |[],_,_=>Kept.refl _ _
 |v::vs,o,w=>(⟨rfl,rfl,rfl,by simp[World.setCell],λb' Ry=>Below.heap_setCell w ⟨b,o,none⟩ v b' (λe=>hb (by have e':b'=b:=e;rw[<- e'];exact Ry))⟩:Kept B w (w.setCell ⟨b,o,none⟩ v)).trans (eK hb vs (o+1) _)
theorem Inv.turn (hi:Inv B R γ L w){id:Nat}{x x':Ob}{g:Gh}{b:Nat}(hx:L[id]?=some x)(hg:γ[id]?=some g)(hb:g.block=some b){R':PH}{w':World}(hm:Mv R R' γ γ L (L.set id x'))
  (hw:∀ b',b'≠b->w'.heap[b']?=w.heap[b']?) (hs:w'.heap.size=w.heap.size) (hR:∀ b' o,b'≠b->R' b' o=R b' o) (hv:∀ o u,R' b o=some u->w'.cell? ⟨b,o,none⟩=some u)
  (RG:lg R' γ (L.set id x') w' x' g):Inv B R' γ (L.set id x') w':=by
 refine⟨by simp[hi.len],λb' o u h=>?_,λi y h hy hh=>?_,hi.inj,λi h b' hh Ry=>by rw[hs];exact hi.new i h b' hh Ry,by rw[hs];exact hi.bsz⟩
 .by_cases VK:b'=b
  .subst VK;exact hv o u h
  .rw[hR b' o VK]at h
   rw[<- hi.val _ _ _ h];exact World.cell?_of_block (w:=w) (hw b' VK)
 .by_cases hid:i=id
  .subst hid
   rw[ah_ (ahR.1 hx).1]at hy;injection hy with hy;subst hy
   rw[hg]at hh;injection hh with hh;subst hh
   exact RG
  .rw[ah' (Ne.symm hid)]at hy
   have PE:∀ b',h.block=some b'->b'≠b:=λb' Ry e=>hi.inj i id h g hh hg hid b' Ry (by rw[hb,e])
   exact(hi.obj i y h hy hh).mv hm (λb' Ry=>hw b' (PE b' Ry)) (λb' o Ry e=>by rw[hR b' o (PE b' Ry)];exact e)
theorem Gl (hi:Inv B R γ L w){id off:Nat}{cs xs:List SV}{b:Nat}{u:Value}{t:TypeId}(hL:L[id]?=some (.box cs))(hg:γ[id]?=some (.box b))(hu:B0 R γ L xs u.cells)(h1:∀ c∈u.cells,c.oneCell'=true)
  (hle:off+xs.length<=cs.length) (ht:dZ P t=some xs.length) :
  ∃ w',(Instr.storeAt t (.pointer (some ⟨b,off,none⟩)) u).run P w = .ok () w'/\Inv B R γ (L.set id (.box (splice cs off xs))) w'/\Ext B R R w w'/\Mv R R γ γ L (L.set id (.box (splice cs off xs))):=by
 obtain⟨⟨vs,E,hb,hs,hv⟩,hR⟩:=hi.obj id _ _ hL hg;have Qf:u.cells.size=xs.length:=hu.1;have Vw:∀ j,j<u.cells.toList.length->(w.cell? ⟨b,off+0+j,none⟩).isSome=true:=by
  intro j hj;rw[cob_ hb];have:off+0+j<vs.size:=by simp at hj;omega
  rw[aie this];rfl
 have Xm:∀ j,j<u.cells.toList.length->w.frozen? ⟨b,off+0+j,none⟩=false:=by
  intro j _;simp[World.frozen?,hb]
 have P4:=run_storeCells_cells (P:=P) b off u.cells.toList 0 w Vw Xm (λv hv=>h1 v (by simpa using hv));obtain⟨S4,g1,g2,g3⟩:=fV b E (0,0) u.cells.toList off w vs hb m8;have hm:Mv R R γ γ L (L.set id (.box (splice cs off xs))):=by
  refine⟨PH.sub_refl _,m5,λt' n k O8 h=>⟨n,?_,ah7 _,λ_=>rfl⟩,λt' O9 es k O8 h=>⟨O9,es,?_,ah7 _,λ_=>⟨rfl,rfl⟩⟩,λ_ _ h=>h⟩
  all_goals
   have:t'≠id:=by rintro rfl;rw[ah_ O8]at h;cases h
   rw[ah' (Ne.symm this)]at h;exact h
 refine⟨w.setCells b off u.cells.toList,?_,?_,?_,hm⟩
 .have Yu:(storeVar t ⟨b,off,none⟩ u).run P w = .ok () (w.setCells b off u.cells.toList):=by
   unfold storeVar;simp[run_sizeOf ht,Qf];simpa using P4
  simp[Instr.storeAt,Instr.sureAddr,Yu]
 .refine hi.turn hL hg rfl hm (λb' PE=>dQ b PE _ _ _) (eW _ _ _ _) (λ_ _ _=>rfl) (λo u h=>by rw[hR o]at h;cases h) ?_
  refine⟨⟨S4,E,g1,by rw[g2,nT hle,hs],λj v x T0 hx=>?_⟩,hR⟩;rw[g3 j]at T0;rw[tf hle]at hx;by_cases hj:off<=j/\j<off+xs.length
  .rw[if_pos hj]at hx
   rw[if_pos m8]at T0;exact SV.mv hm (hu.2 (j-off) v x (by simpa using T0) hx)
  .rw[if_neg hj]at hx
   rw[if_neg m8]at T0;exact SV.mv hm (hv j v x T0 hx)
 .refine⟨eK (hi.new id _ b hg rfl).1 _ _ _,PH.sub_refl _,λ_ _ _=>rfl⟩
theorem abM {k i j a b:Nat}(ha:a<k)(hb:b<k)(h:i*k+a=j*k+b):i=j/\a=b:=by
 have h1:(i*k+a)%k=a:=by rw[Nat.add_comm,Nat.add_mul_mod_self_right,Nat.mod_eq_of_lt ha]
 have h2:(j*k+b)%k=b:=by rw[Nat.add_comm,Nat.add_mul_mod_self_right,Nat.mod_eq_of_lt hb]
 have hab:a=b:=by rw[<- h1,<- h2,h]
 subst hab;have:i*k=j*k:=m0
 exact⟨Nat.eq_of_mul_eq_mul_right m0 this,rfl⟩
theorem zW (hi:Inv B R γ L w){id O9 i o k:Nat}{es:List (List SV)}{e xs:List SV}{u u1:Value}{t:TypeId}(hL:L[id]?=some (.row O9 es k))(h1:(SV.ep id O9 i o).rep R γ L u1)(he:es[i]?=some e)(hu:B0 R γ L xs u.cells)(h1c:∀ c∈u.cells,c.oneCell'=true)
  (hle:o+xs.length<=e.length) (ht:dZ P t=some xs.length) :
  ∃ w',(Instr.storeAt t u1 u).run P w = .ok () w'/\Inv B R γ (L.set id (.row O9 (es.set i (splice e o xs)) k)) w'/\Ext B R R w w'/\Mv R R γ γ L (L.set id (.row O9 (es.set i (splice e o xs)) k)):=by
 obtain⟨_,O8,h1⟩:=h1;obtain⟨We,g,hg,P5⟩:=(h1 _ es k hL).2 rfl;have Sj:=hi.obj id _ _ hL hg
 match g,hg,P5,Sj with
 |.arr b c,hg,P5,⟨⟨vs,E,⟨hb,hE65⟩,hs,hv⟩,hc,hk,hw,hR⟩ =>
  have P5:u1 = .pointer (some ⟨b,i*k+o,none⟩):=P5;subst P5;have US:=hw e (ahX he);have Rz:i*k+k<=vs.size:=by
   rw[hs];have:(i+1)*k<=c*k:=air _ m0;rw[Nat.succ_mul]at this;omega
  have Qf:u.cells.size=xs.length:=hu.1;have Vw:∀ j,j<u.cells.toList.length->(w.cell? ⟨b,(i*k+o)+0+j,none⟩).isSome=true:=by
   intro j hj;rw[cob_ hb];have:(i*k+o)+0+j<vs.size:=by simp at hj;omega
   rw[aie this];rfl
  have Xm:∀ j,j<u.cells.toList.length->w.frozen? ⟨b,(i*k+o)+0+j,none⟩=false:=by
   intro j _;simp[World.frozen?,hb]
  have P4:=run_storeCells_cells (P:=P) b (i*k+o) u.cells.toList 0 w Vw Xm (λv hv=>h1c v (by simpa using hv));obtain⟨S4,g1,g2,g3⟩:=fV b E (0,0) u.cells.toList (i*k+o) w vs hb m8;have hm:Mv R R γ γ L (L.set id (.row O9 (es.set i (splice e o xs)) k)):=by
   refine⟨PH.sub_refl _,m5,λt' n k O8 h=>⟨n,?_,ah7 _,λ_=>rfl⟩,λt' Pn Ql k' O8 h=>?_,λ_ _ h=>h⟩
   .have:t'≠id:=by rintro rfl;rw[ah_ O8]at h;cases h
    rw[ah' (Ne.symm this)]at h;exact h
   .by_cases hid:t'=id
    .subst hid
     rw[ah_ O8]at h;injection h with h;injection h with q1 q2 q3;subst q1 q2 q3
     exact⟨_,es,hL,ah7 _,λ_=>⟨m5,rfl⟩⟩
    .rw[ah' (Ne.symm hid)]at h;exact⟨_,Ql,h,ah7 _,λ_=>⟨rfl,rfl⟩⟩
  refine⟨w.setCells b (i*k+o) u.cells.toList,?_,?_,?_,hm⟩
  .have Yu:(storeVar t ⟨b,i*k+o,none⟩ u).run P w = .ok () (w.setCells b (i*k+o) u.cells.toList):=by
    unfold storeVar;simp[run_sizeOf ht,Qf];simpa using P4
   simp[Instr.storeAt,Instr.sureAddr,Yu]
  .refine hi.turn hL hg rfl hm (λb' PE=>dQ b PE _ _ _) (eW _ _ _ _) (λ_ _ _=>rfl) (λo u h=>by rw[hR o]at h;cases h) ?_
   refine⟨⟨S4,E,⟨g1,hE65⟩,by rw[g2,hs],λi' e' j v x S3 T0 hx=>?_⟩,by simpa using hc,hk,λe' S3=>?_,hR⟩
   .rw[g3]at T0
    have Zx:i'<es.length:=by have:=(ahR.1 S3).1;simpa using this
    have UU:j<k:=by
     by_cases Xn:i'=i
     .subst Xn
      rw[ah_ Zx]at S3;injection S3 with S3;subst S3
      have:=(ahR.1 hx).1;rw[nT hle]at this;omega
     .rw[ah' (Ne.symm Xn)]at S3
      rw[<- hw e' (ahX S3)];exact(ahR.1 hx).1
    by_cases Xn:i'=i
    .subst Xn
     rw[ah_ Zx]at S3;injection S3 with S3;subst S3
     rw[tf hle]at hx;by_cases hj:o<=j/\j<o+xs.length
     .rw[if_pos hj]at hx
      rw[if_pos m8]at T0;refine SV.mv hm (hu.2 (j-o) v x ?_ hx);have:i'*k+j-(i'*k+o)=j-o:=m0
      rw[this]at T0;simpa using T0
     .rw[if_neg hj]at hx
      rw[if_neg m8]at T0;exact SV.mv hm (hv i' e j v x he T0 hx)
    .rw[ah' (Ne.symm Xn)]at S3
     rw[if_neg]at T0
     .exact SV.mv hm (hv i' e' j v x S3 T0 hx)
     .intro Y_
      simp at Y_;have:=abM (k:=k) (i:=i') (j:=i) (a:=j) (b:=i'*k+j-i*k) UU m0 m0;exact Xn this.1
   .obtain h|h:=List.mem_or_eq_of_mem_set S3
    .exact hw e' h
    .rw[h,nT hle];exact US
  .refine⟨eK (hi.new id _ b hg rfl).1 _ _ _,PH.sub_refl _,λ_ _ _=>rfl⟩
end
section
variable {P:Program} {B:Nat->Prop} {R:PH} {γ:List Gh} {L:List Ob} {w:World}
theorem oD {i j k n:Nat}(hi:i<n)(hj:j<k):i*k+j<n*k:=by
 have:(i+1)*k<=n*k:=air _ hi;rw[Nat.succ_mul]at this;omega
structure Cells (R:PH)(k:Nat)(es:List (List AC))(news:List Value):Prop where
 len:news.length=es.length*k
 wide:∀ e∈es,e.length=k
 get:∀ (i:Nat) e (j:Nat) y,es[i]?=some e->e[j]?=some y ->∃ u,news[i*k+j]?=some u/\bK R u y
theorem Cells.one {k:Nat}{es:List (List AC)}{news:List Value}(h:Cells R k es news):∀ u∈news,u.oneCell'=true:=by
 intro u hu;obtain⟨q,hq⟩:=List.mem_iff_getElem?.1 hu;have O8:=(ahR.1 hq).1;rw[h.len]at O8;have hk:0<k:=by
  obtain e|e:=Nat.eq_zero_or_pos k
  .subst e;simp at O8
  .exact e
 have h1:q/k<es.length:=Nat.div_lt_of_lt_mul (by rw[Nat.mul_comm];exact O8);have h2:q%k<k:=Nat.mod_lt _ hk;have he:es[q/k]?=some es[q/k]:=ah0 h1;have hj:q%k<es[q/k].length:=by rw[h.wide _ (List.getElem_mem h1)];exact h2
 obtain⟨u',Zb,hp⟩:=h.get _ _ (q%k) _ he (ah0 hj);rw[Nat.div_add_mod' q k,hq]at Zb;injection Zb with Zb;subst Zb
 exact hp.one.2
theorem wN {v:Value}{es:List (List AC)}{k:Nat}(h:bK R v (.lst es))(hk:∀ e∈es,e.length=k) :
  ∃ a c news,v = .slice a es.length c/\es.length<=c/\Cells R k es news/\(0<es.length ->∃ b o,a=some ⟨b,o,none⟩ /\ ∀ (j:Nat) u,news[j]?=some u->R b (o+j)=some u):=by
 cases h with
 |lst a n c _ k' cv b o hn hc Vk ha hr hx =>
  subst hn;by_cases hz:es.length=0
  .have:es=[]:=aif hz
   subst this;exact⟨a,c,[],rfl,hc,⟨m5,m5,λi e j y he=>by simp at he⟩,λh=>absurd h m5⟩
  .have Wq:k'=k:=by
    have h0:0<es.length:=m0
    rw[<- Vk es[0] (List.getElem_mem h0),hk es[0] (List.getElem_mem h0)]
   subst Wq;refine⟨a,c,(List.range (es.length*k')).map cv,rfl,hc,⟨m5,hk,λi e j y he hy=>⟨cv (i*k'+j),?_,hx i e j y he hy⟩⟩,λhp=>⟨b,o,ha hp,λj u hu=>?_⟩⟩
   .have h1:=(ahR.1 he).1
    have h2:j<k':=by rw[<- hk e (ahX he)];exact(ahR.1 hy).1
    rw[aic,List.getElem?_range (oD h1 h2)];rfl
   .rw[aic]at hu
    by_cases hj:j<es.length*k'
    .rw[List.getElem?_range hj]at hu
     injection hu with hu;subst hu
     exact hr j hj
    .rw[List.getElem?_eq_none m8]at hu;cases hu
theorem K3 {es:List (List AC)}{k:Nat}{news:List Value}(h:Cells R k es news)(b o c:Nat)(hc:es.length<=c)(hR:∀ (j:Nat) u,news[j]?=some u->R b (o+j)=some u) :
  bK R (.slice (some ⟨b,o,none⟩) es.length c) (.lst es):=by
 refine .lst _ _ _ es k (λj=>(news[j]?).getD Go.undef) b o rfl hc h.wide (λ_=>rfl) (λj hj=>?_) (λi e j y he hy=>?_)
 .have O8:j<news.length:=by rw[h.len];exact hj
  have e:news[j]?=some news[j]:=ah0 O8;rw[hR j _ e,e];rfl
 .obtain⟨u,h1,h2⟩:=h.get i e j y he hy
  rw[h1];exact h2
theorem Cells.mono {R':PH}(hs:PH.sub R R'){es:List (List AC)}{k:Nat}{news:List Value}(h:Cells R k es news):Cells R' k es news :=
 ⟨h.len,h.wide,λi e j y he hy=>let ⟨u,h1,h2⟩:=h.get i e j y he hy;⟨u,h1,bK.mono hs h2⟩⟩
theorem Cells.app {es xs:List (List AC)}{k:Nat}{olds news:List Value}(h:Cells R k es olds)(g:Cells R k xs news):Cells R k (es++xs) (olds++news):=by
 refine⟨by simp[h.len,g.len,Nat.add_mul],λe he=>?_,λi e j y he hy=>?_⟩
 .obtain he|he:=aih.1 he
  .exact h.wide e he
  .exact g.wide e he
 .have hj:j<k:=by
   rw[<- show e.length=k from ?_]
   .exact(ahR.1 hy).1
   .rcases aih.1 (ahX he)with he|he
    .exact h.wide e he
    .exact g.wide e he
  by_cases hi:i<es.length
  .rw[ah5 hi]at he
   obtain⟨u,h1,h2⟩:=h.get i e j y he hy;exact⟨u,by rw[ah5 (ahR.1 h1).1];exact h1,h2⟩
  .rw[ahY m0]at he
   obtain⟨u,h1,h2⟩:=g.get (i-es.length) e j y he hy;refine⟨u,?_,h2⟩;have hle:es.length*k<=i*k:=air _ m0;rw[ahY (by rw[h.len];omega),h.len];have:i*k+j-es.length*k=(i-es.length)*k+j:=by rw[Nat.sub_mul];omega
   rw[this];exact h1
theorem OV {tx E':TypeId}{k:Nat}(Yv:P.underlying tx=some (.slice E'))(hi:Inv B R γ L w){x:Value}{xs:List (List AC)}(h:bK R x (.lst xs))(hk:∀ e∈xs,e.length=k) :
  ∃ news,Src P k tx x xs.length news w/\Cells R k xs news:=by
 obtain⟨a,c,news,rfl,hc,P_,hR⟩:=wN h hk;refine⟨news,?_,P_⟩
 cases a with
 |none =>
  have h0:xs.length=0:=by
   obtain e|e:=Nat.eq_zero_or_pos xs.length
   .exact e
   .obtain⟨b,o,e1,_⟩:=hR e;cases e1
  have hn:news=[]:=aif (by rw[P_.len,h0];simp);rw[h0,hn];exact Src.ofNil w Yv c
 |some ad =>
  refine Src.ofSlice w Yv ad xs.length c news P_.len (λj u hu=>?_) P_.one;have hp:0<xs.length:=by
   obtain e|e:=Nat.eq_zero_or_pos xs.length
   .have:news=[]:=aif (by rw[P_.len,e];simp)
    rw[this]at hu;simp at hu
   .exact e
  obtain⟨b,o,e1,e2⟩:=hR hp;injection e1 with e1;subst e1
  rw[Addr.add_mid];exact hi.val _ _ _ (e2 j u hu)
theorem Inv.move (hi:Inv B R γ L w){i n k n' c:Nat}(hx:L[i]?=some (.spare n k))(hn:n<n')(Yw:n'<=c)(hk:0<k)(cells:Array Value)(E:TypeId)(Vl:cells.size=c*k)(f:Nat->Option Value)(hf:∀ o u,f o=some u->cells[o]?=some u)
  (hf':∀ o,n'*k<=o->f o=none) :
  Inv B (R.add w.heap.size f) (γ.set i (.arr w.heap.size c)) (L.set i (.spare n' k)) (w.drew.alloc (.cells cells E))/\Mv R (R.add w.heap.size f) γ (γ.set i (.arr w.heap.size c)) L (L.set i (.spare n' k)):=by
 have O8:i<L.length:=(ahR.1 hx).1;have hm:Mv R (R.add w.heap.size f) γ (γ.set i (.arr w.heap.size c)) L (L.set i (.spare n' k)):=by
  refine⟨yk hi f,m5,λt m k' QS h=>?_,λt O9 es k' QS h=>?_,λid b h=>?_⟩
  .by_cases ht:t=i
   .subst ht
    rw[ah_ O8]at h;injection h with h;injection h with h1 h2;subst h1 h2
    exact⟨n,hx,m0,λe=>by omega⟩
   .rw[ah' (Ne.symm ht)]at h
    exact⟨m,h,ah7 _,λ_=>by rw[ah' (Ne.symm ht)]⟩
  .by_cases ht:t=i
   .subst ht
    rw[ah_ O8]at h;injection h with h;cases h
   .rw[ah' (Ne.symm ht)]at h
    exact⟨O9,es,h,ah7 _,λ_=>⟨rfl,by rw[ah' (Ne.symm ht)]⟩⟩
  .have:id≠i:=by
    rintro rfl;have:=hi.obj id _ _ hx h;exact this
   rw[ah' (Ne.symm this)];exact h
 have PS:∀ j h,(γ.set i (Gh.arr w.heap.size c))[j]?=some h->(j=i/\h = .arr w.heap.size c)\/(j≠i/\γ[j]?=some h):=by
  intro j h hh;by_cases hj:j=i
  .subst hj
   rw[ah_ (by rw[hi.len];exact O8)]at hh;injection hh with hh
   exact .inl ⟨rfl,hh.symm⟩
  .rw[ah' (Ne.symm hj)]at hh
   exact .inr ⟨hj,hh⟩
 have hold:∀ b,b<w.heap.size->(w.drew.alloc (.cells cells E)).heap[b]?=w.heap[b]?:=λb hb=>eC w.drew _ hb
 refine⟨⟨by simp[hi.len],λb o u h=>?_,λid y h hy hh=>?_,λj1 j2 g1 g2 h1 h2 PE b hb=>?_,λj h b hh hb=>?_,?_⟩,hm⟩
 .rw[PH.add_eq hi.none_at]at h
  split at h
  .rename_i e;subst e
   have this:(w.drew.alloc (.cells cells E)).heap[w.heap.size]?=some (.cells cells E):=di w.drew (.cells cells E);rw[cob_ this];exact hf o u h
  .have:=hi.lt h
   rw[<- hi.val _ _ _ h];exact World.cell?_of_block (w:=w) (hold b this)
 .obtain⟨rfl,rfl⟩|⟨PE,Um⟩:=PS id h hh
  .rw[ah_ O8]at hy
   injection hy with hy;subst hy
   refine⟨⟨cells,E,di w.drew _,Vl⟩,Yw,hk,λo ho=>?_⟩;rw[PH.add_eq hi.none_at,if_pos rfl];exact hf' o ho
  .rw[ah' (Ne.symm PE)]at hy
   refine(hi.obj id y h hy Um).mv hm (λb hb=>hold b (hi.new id h b Um hb).2) (λb o hb e=>?_);have:=(hi.new id h b Um hb).2;rw[PH.add_eq hi.none_at,if_neg m0];exact e
 .rcases PS j1 g1 h1 with⟨a1,rfl⟩|⟨a1,a2⟩<;>rcases PS j2 g2 h2 with⟨b1,rfl⟩|⟨b1,b2⟩
  .omega
  .simp only[Gh.block,Option.some.injEq]at hb
   subst hb;intro e;have:=(hi.new j2 g2 _ b2 e).2;omega
  .have:=(hi.new j1 g1 b a2 hb).2
   simp only[Gh.block,ne_eq,Option.some.injEq];omega
  .exact hi.inj j1 j2 g1 g2 a2 b2 PE b hb
 .have e:(w.drew.alloc (.cells cells E)).heap.size=w.heap.size+1:=by show(w.heap.push _).size=_;simp
  obtain⟨_,rfl⟩|⟨_,b2⟩:=PS j h hh
  .simp only[Gh.block,Option.some.injEq]at hb;subst hb
   exact⟨λhB=>by have:=hi.bsz _ hB;omega,m0⟩
  .have:=hi.new j h b b2 hb
   exact⟨this.1,m0⟩
 .have e:(w.drew.alloc (.cells cells E)).heap.size=w.heap.size+1:=by show(w.heap.push _).size=_;simp
  intro b hb;have:=hi.bsz b hb;omega
theorem LA (hi:Inv B R γ L w){t tx ty E E':TypeId}{k by_:Nat}{es xs:List (List AC)}{i n:Nat}{v x:Value}(ht:P.underlying t=some (.slice E))(Yv:P.underlying tx=some (.slice E'))(UD:0<k)(hz:L3 P E k)(Su:kH P E=some by_)
  (hL:L[i]?=some (.spare n k)) (hv:(SV.own es i).rep R γ L v) (hn:es.length=n) (hx:bK R x (.lst xs)) (hxk:∀ e∈xs,e.length=k)
  (OZ:(n+xs.length)*by_<=140737488355328) (Pe:n+xs.length<=140737488355328) :
  ∃ u w' R' γ',(Builtin.append_ #[t,tx] ty #[v,x]).run P w = .ok u w'/\Inv B R' γ' (L.set i (.spare (n+xs.length) k)) w'/\Ext B R R' w w'/\Mv R R' γ γ' L (L.set i (.spare (n+xs.length) k)) /\
   (SV.own (es++xs) i).rep R' γ' (L.set i (.spare (n+xs.length) k)) u:=by
 obtain⟨inf,z,Qa,Tc,RA,VS⟩:=hz;have QO:inf.bytes=by_:=by unfold kH at Su;rw[Qa]at Su;simpa using Su
 obtain⟨Xo,_,Zy⟩:=hv;obtain⟨_,US,Vx⟩:=Zy n k hL;obtain⟨g,hg,Wv⟩:=Vx hn;have O8:i<L.length:=(ahR.1 hL).1;obtain⟨news,S5,SL⟩:=OV (P:=P) (k:=k) Yv hi hx hxk;have RS:Src P inf.size tx x xs.length news w:=by rw[RA];exact S5
 have RG:=hi.obj i _ _ hL hg

 have grow:∀ (a:Option Addr) (c:Nat),v = .slice a n c->c<n+xs.length->0<k ->∃ u w' R' γ',(Builtin.append_ #[t,tx] ty #[v,x]).run P w = .ok u w'/\Inv B R' γ' (L.set i (.spare (n+xs.length) k)) w'/\Ext B R R' w w'/\Mv R R' γ γ' L (L.set i (.spare (n+xs.length) k)) /\
   (SV.own (es++xs) i).rep R' γ' (L.set i (.spare (n+xs.length) k)) u:=by
  intro a c U3 hc hk;obtain⟨a',c',olds,T0,Y_,holds,X2⟩:=wN Xo US;rw[U3]at T0;injection T0 with q1 q2 q3
  subst q1 q3;have Vu:0<xs.length:=m0
  have Zz:(Builtin.firstCells inf.size n (.slice a n c)).run P w.drew = .ok olds.toArray w.drew:=by
   rw[RA]
   cases a with
   |none =>
    have h0:es.length=0:=by
     obtain e|e:=Nat.eq_zero_or_pos es.length
     .exact e
     .obtain⟨b,o,e1,_⟩:=X2 e;cases e1
    have:olds=[]:=aif (by rw[holds.len,h0];simp);rw[this];exact run_firstCells_none w.drew k n n c
   |some ad =>
    refine run_firstCells_some w.drew k n ad n c olds (by rw[holds.len,hn]) (λj u hu=>?_);have hp:0<es.length:=by
     obtain e|e:=Nat.eq_zero_or_pos es.length
     .have:olds=[]:=aif (by rw[holds.len,e];simp)
      rw[this]at hu;simp at hu
     .exact e
    obtain⟨b,o,e1,e2⟩:=X2 hp;injection e1 with e1;subst e1
    rw[Addr.add_mid];exact hi.val _ _ _ (e2 j u hu)
  have P4:=run_append_grow_src (P:=P) (w:=w) t tx ty E inf z ht Qa Tc a n c olds Zz x xs.length news RS hc m0 (by
   have h2:=nextslicecap_le hc;have h3:Builtin.nextslicecap (n+xs.length) c*inf.bytes<=2*(n+xs.length)*inf.bytes:=air _ h2;rw[QO]at h3 ⊢;rw[Nat.mul_assoc]at h3;omega)
  have Tq:=grownCap_ge w (n+xs.length) c E;generalize grownCap w (n+xs.length) c E=cap at P4 Tq;have QA:=holds.app SL;have U4:(olds++news).length=(n+xs.length)*k:=by rw[QA.len,ahZ,hn]
  obtain⟨hI,hM⟩:=hi.move hL (n':=n+xs.length) (c:=cap) m0 Tq hk ((olds++news).toArray++Builtin.zeroCells z.cells (cap-(n+xs.length))) E
   (by rw[Array.size_append,size_zeroCells,VS];simp only[List.size_toArray];rw[U4,<- Nat.add_mul];congr 1;omega) (λo=>if o<(n+xs.length)*k then(olds++news)[o]? else none)
   (λo u h=>by
    split at h
    .rename_i Rz
     rw[Array.getElem?_append_left (by simp only[List.size_toArray];omega)];simpa using h
    .cases h) (λo ho=>by rw[if_neg m0])
  refine⟨_,_,_,_,by rw[U3];exact P4,hI,?_,hM,?_,by simpa using O8,λn2 k2 e2=>?_⟩
  .exact⟨⟨rfl,rfl,rfl,by show w.heap.size<=(w.heap.push _).size;simp,λb hb=>eC w.drew _ (hi.bsz b hb)⟩,hM.sub,λb o hb=>by have:=hi.bsz b hb;rw[PH.add_eq hi.none_at,if_neg m0]⟩
  .have:=K3 (R:=R.add w.heap.size (λo=>if o<(n+xs.length)*k then(olds++news)[o]? else none)) (QA.mono hM.sub) w.heap.size 0 cap (by rw[ahZ,hn];exact Tq) (λj u hu=>by
    have hj:=(ahR.1 hu).1;rw[U4]at hj;rw[PH.add_eq hi.none_at,if_pos rfl,aiw];show(if j<(n+xs.length)*k then(olds++news)[j]? else none)=some u;rw[if_pos hj];exact hu)
   rw[ahZ,hn]at this;exact this
  .rw[ah_ O8]at e2;injection e2 with e2;injection e2 with e3 e4;subst e3 e4
   exact⟨by simp[hn],QA.wide,λ_=>⟨.arr w.heap.size cap,ah_ (by rw[hi.len];exact O8),rfl⟩⟩
 match g,Wv,RG with
 |.none,⟨a,U3⟩,RG =>
  have Ua:n=0:=RG;subst Ua;by_cases hm:xs.length=0
  .have VT:xs=[]:=aif hm
   have Uc:es=[]:=aif hn;subst VT Uc;have X3:news=[]:=aif (by rw[SL.len];simp);rw[X3]at RS;have P4:=run_append_nothing (P:=P) w t tx ty E inf ht Qa a 0 0 (ah7 _) x RS;have Ww:L.set i (.spare (0+([]:List (List AC)).length) k)=L:=by
    apply List.ext_getElem?;intro j;by_cases hj:j=i
    .subst hj;rw[ah_ O8,hL];rfl
    .rw[ah' (Ne.symm hj)]
   rw[Ww];exact⟨v,w,R,γ,by rw[U3];exact P4,hi,Ext.refl _ _ _,Mv.refl,by simpa using Xo,O8,λn2 k2 e2=>by
    rw[hL]at e2;injection e2 with e2;injection e2 with e3 e4;subst e3 e4
    exact⟨m5,m5,λ_=>⟨.none,hg,a,U3⟩⟩⟩
  .exact grow a 0 U3 m0 UD
 |.arr b c,U3,⟨⟨vs,E2,hb,Qf⟩,Yw,hk,VU⟩ =>
  by_cases Td:n+xs.length<=c
  .have hle:(n+xs.length)*k<=c*k:=air _ Td
   have W5:news.length=xs.length*k:=SL.len;have hadd:n*k+news.length=(n+xs.length)*k:=by rw[W5,Nat.add_mul]
   have P4:=run_append_room_src (P:=P) (w:=w) t tx ty E inf ht Qa b 0 n c x xs.length news RS Td
    (λj hj=>by
     rw[RA,cob_ hb];have:0+n*k+j<vs.size:=m0
     rw[aie this];rfl)
    (λj hj=>by simp[World.frozen?,hb])
   rw[RA,aiw]at P4;obtain⟨S4,g1,g2,g3⟩:=fV b E2 (0,0) news (n*k) w vs hb m0;have Sm:∀ b' o u,R b' o=some u->(λb' o=>if b'=b/\n*k<=o/\o<(n+xs.length)*k then news[o-n*k]? else R b' o) b' o=some u:=by
    intro b' o u h;by_cases Vm:b'=b/\n*k<=o/\o<(n+xs.length)*k
    .exfalso
     obtain⟨rfl,h2,_⟩:=Vm;rw[VU o h2]at h;cases h
    .simp only[Vm,if_false];exact h
   obtain⟨R',Xp⟩:∃ R':PH,∀ b' o,R' b' o=if b'=b/\n*k<=o/\o<(n+xs.length)*k then news[o-n*k]? else R b' o:=⟨R.put _ Sm,λ_ _=>rfl⟩
   have SK:PH.sub R R':=λb' o u h=>by rw[Xp];exact Sm b' o u h
   have hM:Mv R R' γ γ L (L.set i (.spare (n+xs.length) k)):=by
    refine⟨SK,m5,λt' m k' QS h=>?_,λt' O9 es k' QS h=>?_,λ_ _ h=>h⟩
    .by_cases ZA:t'=i
     .subst ZA
      rw[ah_ O8]at h;injection h with h;injection h with h1 h2;subst h1 h2
      exact⟨n,hL,m0,λ_=>rfl⟩
     .rw[ah' (Ne.symm ZA)]at h
      exact⟨m,h,ah7 _,λ_=>rfl⟩
    .by_cases ZA:t'=i
     .subst ZA
      rw[ah_ O8]at h;injection h with h;cases h
     .rw[ah' (Ne.symm ZA)]at h
      exact⟨O9,es,h,ah7 _,λ_=>⟨rfl,rfl⟩⟩
   obtain⟨a',c',olds,T0,Y_,holds,X2⟩:=wN Xo US;have Vt:v = .slice (some ⟨b,0,none⟩) n c:=U3;rw[Vt]at T0;injection T0 with q1 q2 q3
   subst q1 q3;refine⟨_,w.setCells b (n*k) news,_,γ,by rw[Vt];exact P4,?_,?_,hM,?_,by simpa using O8,λn2 k2 e2=>?_⟩
   .refine hi.turn hL hg rfl hM (λb' PE=>dQ b PE _ _ _) (eW _ _ _ _) (λb' o PE=>by rw[Xp];simp[PE]) (λo u h=>?_) ?_
    .rw[Xp]at h
     rw[cob_ g1,g3 o];by_cases Vm:n*k<=o/\o<(n+xs.length)*k
     .simp only[Vm,and_self,if_true]at h
      rw[if_pos m0];exact h
     .rw[if_neg m0]
      have h':R b o=some u:=by
       have:¬ (b=b/\n*k<=o/\o<(n+xs.length)*k):=λhh=>Vm hh.2
       rw[if_neg this]at h;exact h
      have:=hi.val _ _ _ h';rw[cob_ hb]at this;exact this
    .refine⟨⟨S4,E2,g1,by rw[g2];exact Qf⟩,Td,hk,λo ho=>?_⟩
     have Vm:¬ (b=b/\n*k<=o/\o<(n+xs.length)*k):=λhh=>by omega
     rw[Xp,if_neg Vm];exact VU o (by rw[Nat.add_mul]at ho;omega)
   .refine⟨eK (hi.new i _ b hg rfl).1 _ _ _,SK,λb' o Ry=>?_⟩
    have hnB:=(hi.new i _ b hg rfl).1;have Vm:¬ (b'=b/\n*k<=o/\o<(n+xs.length)*k):=λhh=>hnB (by rw[<- hh.1];exact Ry)
    rw[Xp];simp only[Vm,if_false]
   .have:=K3 ((holds.app SL).mono SK) b 0 c (by rw[ahZ,hn];exact Td) (λj u hu=>by
     rw[aiw];by_cases hj:j<olds.length
     .rw[ah5 hj]at hu
      have hp:0<es.length:=by
       obtain e|e:=Nat.eq_zero_or_pos es.length
       .rw[holds.len,e]at hj;simp at hj
       .exact e
      obtain⟨b2,o2,e1,e2⟩:=X2 hp;injection e1 with e1;injection e1 with e1 e3;subst e1 e3
      have h5:=e2 j u hu;rw[aiw]at h5;exact SK _ _ _ h5
     .rw[ahY m0]at hu
      have Xq:=(ahR.1 hu).1;have ho:olds.length=n*k:=by rw[holds.len,hn]
      have Vm:b=b/\n*k<=j/\j<(n+xs.length)*k:=⟨rfl,m0,m0⟩;rw[Xp];simp only[Vm,and_self,if_true];rw[<- ho];exact hu)
    rw[ahZ,hn]at this;exact this
   .rw[ah_ O8]at e2;injection e2 with e2;injection e2 with e3 e4;subst e3 e4
    exact⟨by simp[hn],(holds.app SL).wide,λ_=>⟨.arr b c,hg,rfl⟩⟩
  .exact grow _ c U3 m0 hk
end
def jB (σ:List Nat)(i:Nat):Nat:=σ.getD i 0
def Cap.ren (σ:List Nat):Cap->Cap
 |.c x => .c x
 |.ptr id off => .ptr (jB σ id) off
def SV.ren (σ:List Nat):SV->SV
 |.c x => .c x
 |.emp => .emp
 |.own es t => .own es (jB σ t)
 |.ptr id off => .ptr (jB σ id) off
 |.sl id O9 lo n => .sl (jB σ id) O9 lo n
 |.ep id O9 i o => .ep (jB σ id) O9 i o
 |.mp id => .mp (jB σ id)
 |.clo f Pz => .clo f (Pz.map (Cap.ren σ))
def AV.ren (σ:List Nat):AV->AV
 |.one x => .one (x.ren σ)
 |.agg xs => .agg (xs.map (SV.ren σ))
 |.tup ps => .tup ps
 |.tupS xs => .tupS (xs.map (SV.ren σ))
 |.undef => .undef
def Ob.ren (σ:List Nat):Ob->Ob
 |.box cs => .box (cs.map (SV.ren σ))
 |.spare n k => .spare n k
 |.row O9 es k => .row O9 (es.map (List.map (SV.ren σ))) k
 |.map PQ => .map (PQ.map λp=>(p.1,p.2.ren σ))
 |.dead => .dead
def Cap.below (n:Nat):Cap->Prop
 |.ptr id _=>id<n
 |_=>True
def SV.below (n:Nat):SV->Prop
 |.own _ t=>t<n
 |.ptr id _=>id<n
 |.sl id _ _ _=>id<n
 |.ep id _ _ _=>id<n
 |.mp id=>id<n
 |.clo _ Pz =>∀ x∈Pz,x.below n
 |_=>True
def AV.below (n:Nat):AV->Prop
 |.one x=>x.below n
 |.agg xs =>∀ x∈xs,x.below n
 |.tupS xs =>∀ x∈xs,x.below n
 |_=>True
def Ob.below (n:Nat):Ob->Prop
 |.box cs =>∀ x∈cs,x.below n
 |.row _ es _ =>∀ e∈es,∀ x∈e,x.below n
 |.map PQ =>∀ p∈PQ,p.2.below n
 |_=>True
structure BK (σ:List Nat)(γ0:List Gh)(L0:List Ob)(γ:List Gh)(L:List Ob):Prop where
 glen:γ0.length=L0.length
 gh:∀ i,i<L0.length->γ[jB σ i]?=γ0[i]?
 ob:∀ (i:Nat) x,L0[i]?=some x->L[jB σ i]?=some (x.ren σ)
section
variable {P:Program} {B:Nat->Prop} {R:PH} {γ0 γ:List Gh} {L0 L:List Ob} {w:World} {σ:List Nat}
theorem BK.lt (h:BK σ γ0 L0 γ L){i:Nat}(hi:i<L0.length):jB σ i<L.length :=
 (ahR.1 (h.ob i _ (ah0 hi))).1
theorem BK.spare (h:BK σ γ0 L0 γ L){i n k:Nat}(hi:i<L0.length)(e:L[jB σ i]?=some (.spare n k)):L0[i]?=some (.spare n k):=by
 have h0:=ah0 hi;rw[h0];have h1:=h.ob i _ h0;rw[e]at h1;injection h1 with h1
 cases hx:L0[i]<;>rw[hx]at h1<;>simp[Ob.ren]at h1;rw[h1.1,h1.2]
theorem BK.row (h:BK σ γ0 L0 γ L){i O9 k:Nat}{es:List (List SV)}(hi:i<L0.length)(e:L[jB σ i]?=some (.row O9 es k)):∃ W6,L0[i]?=some (.row O9 W6 k)/\W6.length=es.length:=by
 have h0:=ah0 hi;have h1:=h.ob i _ h0;rw[e]at h1;injection h1 with h1
 cases hx:L0[i]<;>rw[hx]at h1<;>simp[Ob.ren]at h1;rename_i Pn Ql k';obtain⟨a,b,c⟩:=h1;subst a b c;exact⟨Ql,by rw[h0,hx],m5⟩
theorem BK.gbox (h:BK σ γ0 L0 γ L){i:Nat}{g:Gh}(e:γ0[i]?=some g):γ[jB σ i]?=some g:=by
 rw[h.gh i (by rw[<- h.glen];exact(ahR.1 e).1)];exact e
theorem Cap.up (h:BK σ γ0 L0 γ L){x:Cap}{v:Value}(hx:x.rep R γ0 v):(x.ren σ).rep R γ v:=by
 cases x with
 |c y=>exact hx
 |ptr id off=>obtain⟨b,h1,h2⟩:=hx;exact⟨b,h1,h.gbox h2⟩
theorem SV.up (h:BK σ γ0 L0 γ L){x:SV}{v:Value}(hx:x.rep R γ0 L0 v):(x.ren σ).rep R γ L v:=by
 cases x with
 |c y=>exact hx
 |emp=>exact hx
 |own es t =>
  obtain⟨h1,O8,h2⟩:=hx;refine⟨h1,h.lt O8,λn k e=>?_⟩;rw[h.gh t O8];exact h2 n k (h.spare O8 e)
 |ptr id off=>obtain⟨b,h1,h2⟩:=hx;exact⟨b,h1,h.gbox h2⟩
 |sl id O9 lo n =>
  obtain⟨h1,O8,h2⟩:=hx;refine⟨h1,h.lt O8,λPn es k e=>?_⟩;obtain⟨W6,g1,g2⟩:=h.row O8 e;rw[h.gh id O8,<- g2];exact h2 Pn W6 k g1
 |ep id O9 i o =>
  obtain⟨h1,O8,h2⟩:=hx;refine⟨h1,h.lt O8,λPn es k e=>?_⟩;obtain⟨W6,g1,g2⟩:=h.row O8 e;rw[h.gh id O8,<- g2];exact h2 Pn W6 k g1
 |mp id=>obtain⟨b,h1,h2⟩:=hx;exact⟨b,h1,h.gbox h2⟩
 |clo f Pz =>
  obtain⟨vs,h1,h2,h3⟩:=hx;refine⟨vs,h1,by simpa using h2,λj u x hu hx=>?_⟩;rw[aic]at hx
  cases hq:Pz[j]? with
  |none=>simp[hq]at hx
  |some y=>simp[hq]at hx;subst hx;exact Cap.up h (h3 j u y hu hq)
theorem AV.up (h:BK σ γ0 L0 γ L){x:AV}{v:Value}(hx:x.rep R γ0 L0 v):(x.ren σ).rep R γ L v:=by
 cases x with
 |one x=>exact SV.up h hx
 |agg xs =>
  obtain⟨vs,h1,h2,h3⟩:=hx;refine⟨vs,h1,by simpa using h2,λj u x hu hx=>?_⟩;rw[aic]at hx
  cases hq:xs[j]? with
  |none=>simp[hq]at hx
  |some y=>simp[hq]at hx;subst hx;exact SV.up h (h3 j u y hu hq)
 |tup ps=>exact hx
 |tupS xs =>
  obtain⟨vs,h1,h2,h3⟩:=hx;refine⟨vs,h1,by simpa using h2,λj u x hu hx=>?_⟩;rw[aic]at hx
  cases hq:xs[j]? with
  |none=>simp[hq]at hx
  |some y=>simp[hq]at hx;subst hx;exact SV.up h (h3 j u y hu hq)
 |undef=>exact hx
theorem lg.up (h:BK σ γ0 L0 γ L){x:Ob}{g:Gh}(hx:lg R γ0 L0 w x g):lg R γ L w (x.ren σ) g:=by
 match x,g,hx with
 |.box cs,.box b,⟨⟨vs,E,h1,h2,h3⟩,h4⟩ =>
  refine⟨⟨vs,E,h1,by simpa using h2,λj u x hu hx=>?_⟩,h4⟩;rw[aic]at hx
  cases hq:cs[j]? with
  |none=>simp[hq]at hx
  |some y=>simp[hq]at hx;subst hx;exact SV.up h (h3 j u y hu hq)
 |.spare n k,.arr b c,h=>exact h
 |.spare n k,.none,h=>exact h
 |.row O9 es k,.arr b c,⟨⟨vs,E,h1,h2,h3⟩,h4,h5,h6,h7⟩ =>
  refine⟨⟨vs,E,h1,h2,λi e j u x he hu hx=>?_⟩,by simpa using h4,h5,λe he=>?_,h7⟩
  .rw[aic]at he
   cases hq:es[i]? with
   |none=>simp[hq]at he
   |some y =>
    simp[hq]at he;subst he;rw[aic]at hx
    cases Vn:y[j]? with
    |none=>simp[Vn]at hx
    |some z=>simp[Vn]at hx;subst hx;exact SV.up h (h3 i y j u z hq hu Vn)
  .obtain⟨y,hy,rfl⟩:=aip.1 he
   simpa using h6 y hy
 |.row O9 es k,.none,h=>have h:es=[]:=h;subst h;rfl
 |.map PQ,.box b,⟨⟨es,h1,h2,h3⟩,h4⟩ =>
  refine⟨⟨es,h1,by simpa using h2,λj e p he hp=>?_⟩,h4⟩;rw[aic]at hp
  cases hq:PQ[j]? with
  |none=>simp[hq]at hp
  |some y=>simp[hq]at hp;subst hp;exact⟨(h3 j e y he hq).1,(h3 j e y he hq).2.1,AV.up h (h3 j e y he hq).2.2⟩
 |.dead,.none,h=>exact h
 |.dead,.box _,h=>exact h
theorem Cap.down (h:BK σ γ0 L0 γ L){x:Cap}{v:Value}(hx:(x.ren σ).rep R γ v)(hb:x.below L0.length):x.rep R γ0 v:=by
 cases x with
 |c y=>exact hx
 |ptr id off=>obtain⟨b,h1,h2⟩:=hx;exact⟨b,h1,by rw[<- h.gh id hb];exact h2⟩
theorem SV.down (h:BK σ γ0 L0 γ L){x:SV}{v:Value}(hx:(x.ren σ).rep R γ L v)(hb:x.below L0.length):x.rep R γ0 L0 v:=by
 cases x with
 |c y=>exact hx
 |emp=>exact hx
 |own es t =>
  obtain⟨h1,_,h2⟩:=hx;have O8:t<L0.length:=hb;refine⟨h1,O8,λn k e=>?_⟩;rw[<- h.gh t O8];exact h2 n k (h.ob t _ e)
 |ptr id off=>obtain⟨b,h1,h2⟩:=hx;exact⟨b,h1,by rw[<- h.gh id hb];exact h2⟩
 |sl id O9 lo n =>
  obtain⟨h1,_,h2⟩:=hx;have O8:id<L0.length:=hb;refine⟨h1,O8,λPn es k e=>?_⟩;have:=h2 Pn _ k (h.ob id _ e);rw[<- h.gh id O8];simpa using this
 |ep id O9 i o =>
  obtain⟨h1,_,h2⟩:=hx;have O8:id<L0.length:=hb;refine⟨h1,O8,λPn es k e=>?_⟩;have:=h2 Pn _ k (h.ob id _ e);rw[<- h.gh id O8];simpa using this
 |mp id=>obtain⟨b,h1,h2⟩:=hx;exact⟨b,h1,by rw[<- h.gh id hb];exact h2⟩
 |clo f Pz =>
  obtain⟨vs,h1,h2,h3⟩:=hx;exact⟨vs,h1,by simpa using h2,λj u x hu hx=>Cap.down h (h3 j u _ hu (by rw[aic,hx];rfl)) (hb x (ahX hx))⟩
theorem AV.down (h:BK σ γ0 L0 γ L){x:AV}{v:Value}(hx:(x.ren σ).rep R γ L v)(hb:x.below L0.length):x.rep R γ0 L0 v:=by
 cases x with
 |one x=>exact SV.down h hx hb
 |agg xs =>
  obtain⟨vs,h1,h2,h3⟩:=hx;exact⟨vs,h1,by simpa using h2,λj u x hu hx=>SV.down h (h3 j u _ hu (by rw[aic,hx];rfl)) (hb x (ahX hx))⟩
 |tup ps=>exact hx
 |tupS xs =>
  obtain⟨vs,h1,h2,h3⟩:=hx;exact⟨vs,h1,by simpa using h2,λj u x hu hx=>SV.down h (h3 j u _ hu (by rw[aic,hx];rfl)) (hb x (ahX hx))⟩
 |undef=>exact hx
theorem lg.down (h:BK σ γ0 L0 γ L){x:Ob}{g:Gh}(hx:lg R γ L w (x.ren σ) g)(hb:x.below L0.length):lg R γ0 L0 w x g:=by
 match x,g,hx,hb with
 |.box cs,.box b,⟨⟨vs,E,h1,h2,h3⟩,h4⟩,hb =>
  exact⟨⟨vs,E,h1,by simpa using h2,λj u x hu hx=>SV.down h (h3 j u _ hu (by rw[aic,hx];rfl)) (hb x (ahX hx))⟩,h4⟩
 |.spare n k,.arr b c,h,_=>exact h
 |.spare n k,.none,h,_=>exact h
 |.row O9 es k,.arr b c,⟨⟨vs,E,h1,h2,h3⟩,h4,h5,h6,h7⟩,hb =>
  refine⟨⟨vs,E,h1,h2,λi e j u x he hu hx=>?_⟩,by simpa using h4,h5,λe he=>?_,h7⟩
  .exact SV.down h (h3 i (e.map (SV.ren σ)) j u _ (by rw[aic,he];rfl) hu (by rw[aic,hx];rfl)) (hb e (ahX he) x (ahX hx))
  .simpa using h6 _ (List.mem_map_of_mem he)
 |.row O9 es k,.none,h,_=>have h:es.map _=[]:=h;exact List.map_eq_nil_iff.1 h
 |.map PQ,.box b,⟨⟨es,h1,h2,h3⟩,h4⟩,hb =>
  refine⟨⟨es,h1,by simpa using h2,λj e p he hp=>?_⟩,h4⟩;have:=h3 j e _ he (by rw[aic,hp];rfl);exact⟨this.1,this.2.1,AV.down h this.2.2 (hb p (ahX hp))⟩
 |.dead,.none,h,_=>exact h
 |.dead,.box _,h,_=>exact h
def Outside (γ0:List Gh)(w:World)(b:Nat):Prop:=b<w.heap.size /\ ∀ (i:Nat) g,γ0[i]?=some g->g.block≠some b
theorem acg (hi:Inv B R γ L w)(h:BK σ γ0 L0 γ L)(Wy:∀ i j,i<L0.length->j<L0.length->jB σ i=jB σ j->i=j)(hb:∀ x∈L0,x.below L0.length):Inv (Outside γ0 w) R γ0 L0 w:=by
 refine⟨h.glen,hi.val,λid x g hx hg=>?_,λi j gi gj h1 h2 PE b hb=>?_,λi g b hg hb=>⟨λho=>ho.2 i g hg hb,(hi.new _ g b (h.gbox hg) hb).2⟩,λb hb=>hb.1⟩
 .exact lg.down h (hi.obj _ _ g (h.ob id x hx) (h.gbox hg)) (hb x (ahX hx))
 .have b1:i<L0.length:=by rw[<- h.glen];exact(ahR.1 h1).1
  have b2:j<L0.length:=by rw[<- h.glen];exact(ahR.1 h2).1
  exact hi.inj _ _ gi gj (h.gbox h1) (h.gbox h2) (λe=>PE (Wy i j b1 b2 e)) b hb
theorem Ox (hi:Inv B R γ L w)(h:BK σ γ0 L0 γ L){R':PH}{w':World}{σ':List Nat}{γ1 γ':List Gh}{L1 L':List Ob}(h1:Inv (Outside γ0 w) R' γ1 L1 w')(he:Ext (Outside γ0 w) R R' w w')(hm:Mv R R' γ0 γ1 L0 L1)
  (h':BK σ' γ1 L1 γ' L') (hσ:∀ i,i<L0.length->jB σ' i=jB σ i) (hlen:L.length<=L'.length) (VW:γ'.length=L'.length)
  (inj':∀ i j,i<L1.length->j<L1.length->jB σ' i=jB σ' j->i=j)
  (all:∀ j,j<L'.length->(∃ i,i<L1.length/\jB σ' i=j)\/(j<L.length/\(∀ i,i<L0.length->jB σ i≠j)/\L'[j]?=L[j]?/\γ'[j]?=γ[j]?))
  (new':∀ i,L0.length<=i->i<L1.length->L.length<=jB σ' i) :
  Inv B R' γ' L' w'/\Ext B R R' w w'/\Mv R R' γ γ' L L':=by
 have hBO:∀ b,B b->Outside γ0 w b:=λb hb=>⟨hi.bsz b hb,λi g hg e=>(hi.new _ g b (h.gbox hg) e).1 hb⟩
 have hE:Ext B R R' w w':=⟨he.below.mono hBO,he.sub,λb o hb=>he.old b o (hBO b hb)⟩;have oth:∀ j g b,(∀ i,i<L0.length->jB σ i≠j)->γ[j]?=some g->g.block=some b->Outside γ0 w b:=by
  intro j g b hj hg hb;refine⟨(hi.new j g b hg hb).2,λi g0 hg0 e=>?_⟩;have b1:i<L0.length:=by rw[<- h.glen];exact(ahR.1 hg0).1
  exact hi.inj j _ g g0 hg (h.gbox hg0) (λe=>hj i b1 e.symm) b hb e
 have Tf:Mv R R' γ γ' L L':=by
  have old:∀ t,t<L.length->(∃ i,i<L0.length/\jB σ i=t)\/(L'[t]?=L[t]?/\γ'[t]?=γ[t]?):=by
   intro t ht;rcases all t (ait ht hlen)with⟨i,Tn,U2⟩|⟨_,_,a,b⟩
   .by_cases SH:i<L0.length
    .exact .inl ⟨i,SH,by rw[<- hσ i SH];exact U2⟩
    .have:=new' i m0 Tn;omega
   .exact .inr ⟨a,b⟩
  refine⟨he.sub,hlen,λt n' k ht e=>?_,λt O9 Ql k ht e=>?_,λid b hg=>?_⟩
  .obtain⟨i,SH,rfl⟩|⟨a,b⟩:=old t ht
   .have Tn:i<L1.length:=ait SH hm.len
    rw[<- hσ i SH]at e;obtain⟨n,g1,g2,g3⟩:=hm.tok i n' k SH (h'.spare Tn e);exact⟨n,h.ob i _ g1,g2,λq=>by rw[h.gh i SH,<- hσ i SH,h'.gh i Tn];exact g3 q⟩
   .exact⟨n',by rw[<- a];exact e,ah7 _,λ_=>b⟩
  .obtain⟨i,SH,rfl⟩|⟨a,b⟩:=old t ht
   .have Tn:i<L1.length:=ait SH hm.len
    rw[<- hσ i SH]at e;obtain⟨es1,q1,q2⟩:=h'.row Tn e;obtain⟨UB,es,g1,g2,g3⟩:=hm.row i O9 es1 k SH q1;exact⟨UB,_,h.ob i _ g1,g2,λq=>⟨by have:=(g3 q).1;simp;omega,by rw[h.gh i SH,<- hσ i SH,h'.gh i Tn];exact(g3 q).2⟩⟩
   .exact⟨O9,Ql,by rw[<- a];exact e,ah7 _,λ_=>⟨rfl,b⟩⟩
  .have ht:id<L.length:=by rw[<- hi.len];exact(ahR.1 hg).1
   obtain⟨i,SH,rfl⟩|⟨a,b'⟩:=old id ht
   .have Tn:i<L1.length:=ait SH hm.len
    rw[<- hσ i SH,h'.gh i Tn];exact hm.ptr i b (by rw[<- h.gh i SH];exact hg)
   .rw[b'];exact hg
 have back:∀ j g,γ'[j]?=some g->(∃ i,i<L1.length/\jB σ' i=j/\γ1[i]?=some g)\/(j<L.length/\(∀ i,i<L0.length->jB σ i≠j)/\L'[j]?=L[j]?/\γ[j]?=some g):=by
  intro j g hg;have hj:j<L'.length:=by rw[<- VW];exact(ahR.1 hg).1
  obtain⟨i,a,rfl⟩|⟨a,b,c,d⟩:=all j hj
  .exact .inl ⟨i,a,rfl,by rw[<- h'.gh i a];exact hg⟩
  .exact .inr ⟨a,b,c,by rw[<- d];exact hg⟩
 refine⟨⟨VW,h1.val,λj x g hx hg=>?_,λj1 j2 g1 g2 q1 q2 PE b hb=>?_,λj g b hg hb=>?_,λb hb=>ait (hi.bsz b hb) he.below.size⟩,hE,Tf⟩
 .obtain⟨i,a,rfl,c⟩|⟨a,b,c,d⟩:=back j g hg
  .have hy:=ah0 a
   rw[h'.ob i _ hy]at hx;injection hx with hx;subst hx
   exact lg.up h' (h1.obj i _ g hy c)
  .exact(hi.obj j x g (by rw[<- c];exact hx) d).mv Tf (λb' Ry=>he.below.block b' (oth j g b' b d Ry)) (λb' o Ry e=>by rw[he.old b' o (oth j g b' b d Ry)];exact e)
 .rcases back j1 g1 q1 with⟨i1,a1,r1,c1⟩|⟨a1,b1,_,d1⟩<;>rcases back j2 g2 q2 with⟨i2,a2,r2,c2⟩|⟨a2,b2,_,d2⟩
  .exact h1.inj i1 i2 g1 g2 c1 c2 (λe=>PE (by rw[<- r1,<- r2,e])) b hb
  .intro e;exact(h1.new i1 g1 b c1 hb).1 (oth j2 g2 b b2 d2 e)
  .intro e;exact(h1.new i2 g2 b c2 e).1 (oth j1 g1 b b1 d1 hb)
  .exact hi.inj j1 j2 g1 g2 d1 d2 PE b hb
 .obtain⟨i,a,_,c⟩|⟨a,b',_,d⟩:=back j g hg
  .exact⟨λhB=>(h1.new i g b c hb).1 (hBO b hB),(h1.new i g b c hb).2⟩
  .have:=hi.new j g b d hb
   exact⟨this.1,ait this.2 he.below.size⟩
end
def iI {α:Type}:List α->List Nat->List α->List α
 |l,i::σ,x::xs=>iI (l.set i x) σ xs
 |l,_,_=>l
theorem dC {α:Type}:∀ (σ:List Nat) (l xs:List α),(iI l σ xs).length=l.length
 |[],l,xs=>by cases xs<;>rfl
 |i::σ,l,[]=>rfl
 |i::σ,l,x::xs=>by rw[iI,dC σ];simp
theorem nR {α:Type}:∀ (σ:List Nat) (l xs:List α) (j:Nat),(∀ i∈σ,i≠j)->(iI l σ xs)[j]?=l[j]?
 |[],l,xs,j,_=>by cases xs<;>rfl
 |i::σ,l,[],j,_=>rfl
 |i::σ,l,x::xs,j,h=>by
  rw[iI,nR σ _ xs j (λk hk=>h k (aid _ hk)),ah' (h i (List.mem_cons_self ..))]
theorem ws {α:Type}:∀ (σ:List Nat) (l xs:List α) (i s:Nat),σ.Nodup->(∀ k∈σ,k<l.length)->σ[i]?=some s->i<xs.length->(iI l σ xs)[s]?=xs[i]?
 |[],l,xs,i,s,_,_,h,_=>by simp at h
 |k::σ,l,[],i,s,_,_,_,h=>by simp at h
 |k::σ,l,x::xs,i,s,hn,hb,h,hi=>by
  rw[iI];have UT:=List.nodup_cons.1 hn
  cases i with
  |zero =>
   simp at h;subst h;rw[nR σ _ xs k (λq hq e=>UT.1 (by rw[<- e];exact hq)),ah_ (hb k (List.mem_cons_self ..))];rfl
  |succ i =>
   rw[ws σ (l.set k x) xs i s UT.2 (λq hq=>by simpa using hb q (aid _ hq)) (by simpa using h) (by simpa using hi)];simp
theorem vU:∀ {σ:List Nat} {i j s:Nat},σ.Nodup->σ[i]?=some s->σ[j]?=some s->i=j
 |[],i,j,s,_,h,_=>by simp at h
 |k::σ,0,0,s,_,_,_=>rfl
 |k::σ,0,j+1,s,hn,h1,h2=>by
  simp at h1 h2;subst h1;exact absurd (ahX h2) (List.nodup_cons.1 hn).1
 |k::σ,i+1,0,s,hn,h1,h2=>by
  simp at h1 h2;subst h2;exact absurd (ahX h1) (List.nodup_cons.1 hn).1
 |k::σ,i+1,j+1,s,hn,h1,h2=>by
  have h3:σ[i]?=some s:=by simpa using h1
  have h4:σ[j]?=some s:=by simpa using h2
  have:=vU (List.nodup_cons.1 hn).2 h3 h4;omega
def tB (n m:Nat):List Nat:=(List.range m).map (n + ·)
def dx (σ:List Nat)(n m:Nat):List Nat:=σ++tB n (m-σ.length)
def join {α:Type}(σ:List Nat)(l xs:List α):List α:=iI l σ xs++xs.drop σ.length
def joinL (σ:List Nat)(L L1:List Ob):List Ob:=join σ L (L1.map (Ob.ren (dx σ L.length L1.length)))
theorem nF {σ:List Nat}{n m i:Nat}(hi:i<σ.length):jB (dx σ n m) i=jB σ i:=by
 unfold jB dx;rw[aiE,aiE,ah5 hi]
theorem jD {σ:List Nat}{i:Nat}(hi:i<σ.length):σ[i]?=some (jB σ i):=by
 unfold jB;rw[aiE,ah0 hi];rfl
theorem og {σ:List Nat}{n m i:Nat}(hi:σ.length<=i)(hm:i<m):jB (dx σ n m) i=n+(i-σ.length):=by
 unfold jB dx tB;rw[aiE,ahY hi,aic,List.getElem?_range m0];rfl
theorem MC {α:Type}{σ:List Nat}{l xs:List α}{n i:Nat}(hl:l.length=n)(hn:σ.Nodup)(hb:∀ k∈σ,k<l.length)(hi:i<xs.length):(join σ l xs)[jB (dx σ n xs.length) i]?=xs[i]?:=by
 unfold join;by_cases h:i<σ.length
 .rw[nF h,ah5 (by rw[dC];exact hb _ (ahX (jD h)))]
  exact ws σ l xs i _ hn hb (jD h) hi
 .rw[og m0 hi,ahY (by rw[dC];omega),dC,aiA]
  congr 1;omega
theorem join_length {α:Type}(σ:List Nat)(l xs:List α):(join σ l xs).length=l.length+(xs.length-σ.length):=by
 unfold join;rw[ahZ,dC,List.length_drop]
theorem zK {α:Type}{σ:List Nat}{l xs:List α}{j:Nat}(hj:j<l.length)(h:∀ i∈σ,i≠j):(join σ l xs)[j]?=l[j]?:=by
 unfold join;rw[ah5 (by rw[dC];exact hj)];exact nR σ l xs j h
section
variable {P:Program} {B:Nat->Prop} {R:PH} {γ:List Gh} {L0 L:List Ob} {w:World} {σ:List Nat}
def Jp (σ:List Nat)(γ:List Gh):List Gh:=σ.map λi=>γ.getD i .none
theorem abR (hi:Inv B R γ L w)(hlen:σ.length=L0.length)(Sj:∀ (i:Nat) x,L0[i]?=some x->L[jB σ i]?=some (x.ren σ)):BK σ (Jp σ γ) L0 γ L:=by
 refine⟨by simp[Jp,hlen],λi h=>?_,Sj⟩;have O8:jB σ i<γ.length:=by rw[hi.len];exact(ahR.1 (Sj i _ (ah0 h))).1
 unfold Jp;rw[aic,jD m0];simp only[Option.map_some];rw[aiE,ah0 O8];rfl
theorem Js (hi:Inv B R γ L w)(hlen:σ.length=L0.length)(W7:σ.Nodup)(Sj:∀ (i:Nat) x,L0[i]?=some x->L[jB σ i]?=some (x.ren σ)){R':PH}{w':World}{γ1:List Gh}{L1:List Ob}(h1:Inv (Outside (Jp σ γ) w) R' γ1 L1 w')(he:Ext (Outside (Jp σ γ) w) R R' w w')(hm:Mv R R' (Jp σ γ) γ1 L0 L1) :
  Inv B R' (join σ γ γ1) (joinL σ L L1) w'/\Ext B R R' w w'/\Mv R R' γ (join σ γ γ1) L (joinL σ L L1)/\BK (dx σ L.length L1.length) γ1 L1 (join σ γ γ1) (joinL σ L L1):=by
 have Wz:=abR hi hlen Sj;have X4:∀ k∈σ,k<L.length:=by
  intro k hk;obtain⟨i,Ub,rfl⟩:=List.getElem_of_mem hk;have:jB σ i=σ[i]:=by have:=jD (σ:=σ) Ub;rw[ah0 Ub]at this;injection this with this;exact this.symm
  rw[<- this];exact Wz.lt m0
 have hbg:∀ k∈σ,k<γ.length:=λk hk=>by rw[hi.len];exact X4 k hk
 have hle:L0.length<=L1.length:=hm.len;have e1:BK (dx σ L.length L1.length) γ1 L1 (join σ γ γ1) (joinL σ L L1):=by
  refine⟨h1.len,λi h=>?_,λi x hx=>?_⟩
  .have:=MC (σ:=σ) (l:=γ) (xs:=γ1) (n:=L.length) (i:=i) hi.len W7 hbg (by rw[h1.len];exact h)
   rw[h1.len]at this;exact this
  .have O8:=(ahR.1 hx).1
   have:=MC (σ:=σ) (l:=L) (xs:=L1.map (Ob.ren (dx σ L.length L1.length))) (n:=L.length) (i:=i) rfl W7 X4 (by simpa using O8);rw[ah3]at this;unfold joinL;rw[this,aic,hx];rfl
 have Yx:(joinL σ L L1).length=L.length+(L1.length-σ.length):=by unfold joinL;rw[join_length,ah3]
 have Wy:∀ i j,i<L1.length->j<L1.length->jB (dx σ L.length L1.length) i=jB (dx σ L.length L1.length) j->i=j:=by
  intro i j Tn Xr e;by_cases a:i<σ.length<;>by_cases b:j<σ.length
  .rw[nF a,nF b]at e
   have h1:=jD a;have h2:=jD b;rw[<- e]at h2;exact vU W7 h1 h2
  .rw[nF a,og m0 Xr]at e
   have:=X4 _ (ahX (jD a));omega
  .rw[nF b,og m0 Tn]at e
   have:=X4 _ (ahX (jD b));omega
  .rw[og m0 Tn,og m0 Xr]at e;omega
 have QA:∀ j,j<(joinL σ L L1).length->(∃ i,i<L1.length/\jB (dx σ L.length L1.length) i=j)\/(j<L.length/\(∀ i,i<L0.length->jB σ i≠j)/\(joinL σ L L1)[j]?=L[j]?/\(join σ γ γ1)[j]?=γ[j]?):=by
  intro j hj;rw[Yx]at hj;by_cases hjL:j<L.length
  .by_cases hjs:j∈σ
   .obtain⟨i,Ub,hq⟩:=List.getElem_of_mem hjs
    refine .inl ⟨i,m0,?_⟩;rw[nF Ub];have:=jD (σ:=σ) Ub;rw[ah0 Ub]at this;injection this with this;rw[<- this];exact hq
   .have PE:∀ i∈σ,i≠j:=λi Ub e=>hjs (by rw[<- e];exact Ub)
    refine .inr ⟨hjL,λi SH e=>hjs (by rw[<- e];exact ahX (jD m0)),zK hjL PE,zK (by rw[hi.len];exact hjL) PE⟩
  .exact .inl ⟨σ.length+(j-L.length),m0,by rw[og m0 m0];omega⟩
 obtain⟨a,b,c⟩:=Ox hi Wz h1 he hm e1 (λi SH=>nF m0) (by rw[Yx];omega) (by rw[join_length,Yx,hi.len,h1.len]) Wy QA (λi SH Tn=>by rw[og m0 Tn];omega);exact⟨a,b,c,e1⟩
end
def Pure (P:Program)(f:FuncId)(args:List PV)(r:CV):Prop :=
 (∃ fn, P.funcs[f]? = some fn /\ fn.body.isSome = true /\ (fn.name == "runtime.NumGoroutine") = false) /\
 ∀ (R:PH) (w:World) (vs:Array Value),(∀ b o u,R b o=some u->w.cell? ⟨b,o,none⟩=some u)->vs.size=args.length->(∀ (j:Nat) v p,vs[j]?=some v->args[j]?=some p->p.rep R v) ->
  Calls P f vs w λe w' =>∃ v R',e = .returned v/\Ext (· <w.heap.size) R R' w w'/\(∀ b o u,R' b o=some u->w'.cell? ⟨b,o,none⟩=some u)/\r.rep R' v
def Jl (R:PH)(w:World)(es:List (List AC))(k:Nat)(v:Value):Gh->Prop
 |.none=>es=[] /\ ∃ a,v = .slice a 0 0
 |.arr b c=>v = .slice (some ⟨b,0,none⟩) es.length c/\(∃ vs E,w.heap[b]?=some (.cells vs E (0,0))/\vs.size=c*k)/\es.length<=c/\0<k /\ ∀ o,es.length*k<=o->R b o=none
 |.box _=>False
def GR (P:Program)(f:FuncId)(es:List (List AC))(k:Nat)(args:List PV)(Ql:List (List AC)):Prop :=
 (∃ fn, P.funcs[f]? = some fn /\ fn.body.isSome = true /\ (fn.name == "runtime.NumGoroutine") = false) /\
 ∀ (R:PH) (w:World) (v:Value) (vs:Array Value) (g:Gh),(∀ b o u,R b o=some u->w.cell? ⟨b,o,none⟩=some u)->bK R v (.lst es)->(∀ e∈es,e.length=k)->Jl R w es k v g->vs.size=args.length->(∀ (j:Nat) v p,vs[j]?=some v->args[j]?=some p->p.rep R v) ->
  Calls P f (#[v]++vs) w λe w' =>∃ v' R' g',e = .returned v'/\Ext (λb=>b<w.heap.size/\g.block≠some b) R R' w w'/\(∀ b o u,R' b o=some u->w'.cell? ⟨b,o,none⟩=some u) /\
   bK R' v' (.lst Ql)/\(∀ e∈Ql,e.length=k)/\Jl R' w' Ql k v' g' /\ ∀ b,g'.block=some b->w.heap.size<=b\/g.block=some b
def Run (P:Program)(f:FuncId)(L0:List Ob)(args:List AV)(L1:List Ob)(r:AV):Prop :=
 (∃ fn, P.funcs[f]? = some fn /\ fn.body.isSome = true /\ (fn.name == "runtime.NumGoroutine") = false) /\
 ∀ (B:Nat->Prop) (R:PH) (γ:List Gh) (w:World) (vs:Array Value),Inv B R γ L0 w->vs.size=args.length->(∀ (j:Nat) v p,vs[j]?=some v->args[j]?=some p->p.rep R γ L0 v) ->
  Calls P f vs w λe w' =>∃ v R' γ',e = .returned v/\Inv B R' γ' L1 w'/\Ext B R R' w w'/\Mv R R' γ γ' L0 L1/\r.rep R' γ' L1 v
structure ig (σ:List Nat)(L0:List Ob)(args:List AV)(L:List Ob):Prop where
 len:σ.length=L0.length
 nd:σ.Nodup
 ob:∀ (i:Nat) x,L0[i]?=some x->L[jB σ i]?=some (x.ren σ)
 obb:∀ x∈L0,x.below L0.length
 argb:∀ x∈args,x.below L0.length
def OM (ρ:Operand->Option AV):List Operand->Option (List AV)
 |[]=>some []
 |x::xs=>match ρ x,OM ρ xs with
  |some v,some vs=>some (v::vs)
  |_,_=>none
def Cap.av:Cap->AV
 |.c x => .one (.c x)
 |.ptr id off => .one (.ptr id off)
def Me (ti:TI):Operand->Bool
 |.func f=>ti.owns f
 |.tmp _=>ti.dyn
 |_=>false
def dp (ti:TI)(ρ:Operand->Option AV):Op->Option (FuncId×List AV)
 |.call { callee := .value f,args,.. } =>match Me ti f,ρ f,OM ρ args.toList with
  |true,some (.one (.c (.fn g cs))),some vs=>some (g,vs++cs.map λx => .one (.c x))
  |true,some (.one (.clo g Pz)),some vs=>some (g,vs++Pz.map Cap.av)
  |_,_,_=>none
 |_=>none
def uJ (T:Tm):Option Tmp->AV->Tm
 |some d,v=>(d,v)::T
 |none,_=>T
def dOK (N:Nat):Option Tmp->Prop
 |some d=>d<N
 |none=>True
def dt (ρ:Operand->Option AV):List Operand->Option (List PV)
 |[]=>some []
 |x::xs=>match (ρ x).bind AV.norm,dt ρ xs with
  |some p,some ps=>some (p::ps)
  |_,_=>none
def sD (ti:TI)(ρ:Operand->Option AV):Op->Option (AV×Prop)
 |.buildSlice t len parts=>wl ti ρ t len parts.toList
 |_=>none
def oL (ρ:Operand->Option AV):Op->Option (FuncId×List PV)
 |.call { callee := .value f,args,.. } =>match ρ f with
  |some (.one (.c (.fn g cs)))=>(dt ρ args.toList).map λps=>(g,ps++cs.map .one)
  |_=>none
 |_=>none
def eh (ti:TI)(ρ:Operand->Option AV):Op->Option (FuncId×List (List AC)×Option Nat×List PV)
 |.call { callee := .value (.func f),args,.. } =>match ti.owns f,args.toList with
  |true,x::xs=>match ρ x,dt ρ xs with
   |some (.one (.own es t)),some ps=>some (f,es,some t,ps)
   |some (.one .emp),some ps=>some (f,[],none,ps)
   |_,_=>none
  |_,_=>none
 |_=>none
def bT (ti:TI):Op->Bool
 |.alloc _=>true
 |.box _ _=>true
 |.store _ _ _=>true
 |.call { callee := .builtin b,.. } =>match b with
  |.append=>true
  |.unsafeString=>true
  |.unsafeSliceData=>true
  |.copy=>true
  |.clear=>true
  |.delete=>true
  |_=>false
 |.call { callee := .value f,.. } =>Me ti f
 |.makeSlice _ _ _=>true
 |.makeMap _ _=>true
 |.lookup _ _ _ _=>ti.dyn
 |.buildSlice _ _ _=>ti.dyn
 |.makeFunc _ _ _=>ti.dyn
 |.mapUpdate _ _ _ _=>true
 |.mapEntry _ _ _=>true
 |.entryStore _ _ _ _=>true
 |.insert _ _ _ _=>true
 |.binOp _ t _ _ _=>match ti.kind t with
  |some (.pointer _)=>true
  |some (.map _ _)=>true
  |some (.func _ _ _)=>true
  |some (.slice _)=>true
  |_=>false
 |.convert s d _=>match ti.kind d,ti.kind s with
  |some .unsafePointer,_=>true
  |_,some .unsafePointer=>true
  |_,_=>false
 |_=>false
def sk:Op->Nat
 |.alloc _=>1
 |.box _ _=>1
 |.call { callee := .builtin .append,.. } =>2
 |.store _ _ _=>3
 |.call { callee := .builtin .unsafeSliceData,.. } =>4
 |.lookup _ _ _ _=>4
 |.makeFunc _ _ _=>4
 |.binOp _ _ _ _ _=>4
 |.convert _ _ _=>4
 |_=>0
def nA (P:Program)(ρ:Operand->Option AV)(L:List Ob)(op:Op)(v:AV)(L':List Ob):Prop :=
 ∀ (B:Nat->Prop) (R:PH) (γ:List Gh) (w:World) (ev:Operand->Value) (o:Oper),o.op=op->Inv B R γ L w->(∀ x,x∈op.operands ->∀ v,ρ x=some v->v.rep R γ L (ev x))->((∀ f,ev (.func f) = .func (.func f) #[] #[]) /\ ∀ v,ev (.const v)=v)->aaQ P B R γ L L' w (execOp ev o) v
def iE (P:Program)(ti:TI)(ρ:Operand->Option AV)(L:List Ob)(K:AV->List Ob->Prop)(op:Op):Prop :=
 (∃ v φ,pop ti ρ L op=some (v,φ)/\φ/\K v L)\/(∃ v φ,sD ti ρ op=some (v,φ)/\φ/\K v L) \/
 (∃ v L' φ,yb ti ρ L op=some (v,L',φ)/\φ/\K v L')\/(∃ g ps r,oL ρ op=some (g,ps)/\Pure P g ps r/\K r.av L) \/
 (∃ g es t k ps Ql , eh ti ρ op=some (g,es,some t,ps)/\L[t]?=some (.spare es.length k)/\GR P g es k ps Ql/\K (.one (.own Ql L.length)) (L.set t .dead++[.spare Ql.length k])) \/
 (∃ g k ps Ql , eh ti ρ op=some (g,[],none,ps)/\GR P g [] k ps Ql/\K (.one (.own Ql L.length)) (L++[.spare Ql.length k])) \/
 (∃ σ g L0 args L1 r,dp ti ρ op=some (g,args.map (AV.ren σ))/\ig σ L0 args L/\Run P g L0 args L1 r/\K (r.ren (dx σ L.length L1.length)) (joinL σ L L1)) \/
 (∃ v L',(bT ti op=true/\(ti.soft=true->sk op=0\/(sk op=4/\L'=L)))/\nA P ρ L op v L'/\K v L')
def gd (ds:List (Option Tmp))(T:Tm)(A B:Prop):Option (Nat×Bool)->Prop
 |none=>A
 |some (j,want)=>match ds[j]? with
  |some (some d)=>match T.lookup d with
   |some (.one (.c (.bool b)))=>(b=want->A)/\(b=(!want)->B)
   |some .undef=>B
   |_=>False
  |_=>False
def aK (P:Program)(ti:TI)(N:Nat)(ds:List (Option Tmp))(K:Tm->List Ob->Prop):List Oper->Tm->List Ob->Prop
 |[],T,L=>K T L
 |o::rest,T,L=>dOK N o.dst/\gd ds T (iE P ti (look T) L (λv L'=>aK P ti N ds K rest (uJ T o.dst v) L') o.op) (aK P ti N ds K rest (uJ T o.dst .undef) L) o.guard
section
variable {P:Program} {ti:TI} {B:Nat->Prop} {N:Nat} {R:PH} {γ:List Gh} {L:List Ob} {w:World}
theorem Inv.tok (hi:Inv B R γ L w)(k:Nat):Inv B R (γ++[.none]) (L++[.spare 0 k]) w:=by
 have PS:∀ j h,(γ++[Gh.none])[j]?=some h->(j=γ.length/\h = .none)\/(j<γ.length/\γ[j]?=some h):=by
  intro j h hh;by_cases hid:j<γ.length
  .rw[ah5 hid]at hh;exact .inr ⟨hid,hh⟩
  .have:j=γ.length:=by have:=(ahR.1 hh).1;simp at this;omega
   subst this;rw[ahY m0]at hh;simp at hh;exact .inl ⟨rfl,hh.symm⟩
 refine⟨by simp[hi.len],hi.val,λid y h hy hh=>?_,λj1 j2 g1 g2 h1 h2 PE b hb=>?_,λj h b hh hb=>?_,hi.bsz⟩
 .obtain⟨rfl,rfl⟩|⟨O8,Um⟩:=PS id h hh
  .rw[ahY (by rw[hi.len];omega),hi.len]at hy
   simp at hy;subst hy;rfl
  .rw[ah5 (by rw[<- hi.len];exact O8)]at hy
   exact(hi.obj id y h hy Um).mv (Mv.push _ _ hi.len) (λ_ _=>rfl) (λ_ _ _ h=>h)
 .obtain⟨_,rfl⟩|⟨_,a2⟩:=PS j1 g1 h1
  .cases hb
  .obtain⟨_,rfl⟩|⟨_,b2⟩:=PS j2 g2 h2
   .intro e;cases e
   .exact hi.inj j1 j2 g1 g2 a2 b2 PE b hb
 .obtain⟨_,rfl⟩|⟨_,a2⟩:=PS j h hh
  .cases hb
  .exact hi.new j h b a2 hb
theorem FU (Pm:TIok P ti)(hi:Inv B R γ L w){t tx ty:TypeId}{s x:AV}{us ux:Value}(hs:s.rep R γ L us)(hx:x.rep R γ L ux){v:AV}{L':List Ob}{φ:Prop}(h:tq ti L t tx s x=some (v,L',φ))(hφ:φ) :
  ∃ u w' R' γ',(Builtin.append_ #[t,tx] ty #[us,ux]).run P w = .ok u w'/\Inv B R' γ' L' w'/\Ext B R R' w w'/\Mv R R' γ γ' L L'/\v.rep R' γ' L' u:=by
 unfold tq at h;split at h
 .rename_i xs E QP hE
  have hpx:=iD hx QP;have hE:=Pm.elem _ _ hE;have ht:P.underlying t=some (.slice E):=by
   unfold mM at hE;split at hE
   .rename_i e he;injection hE with hE;subst hE;exact he
   .cases hE
  have Yv:(ti.elem tx).isSome ->∃ E',P.underlying tx=some (.slice E'):=by
   intro h;obtain⟨e,he⟩:=aiv.1 h;have h:=Pm.elem _ _ he;unfold mM at h;split at h
   .rename_i e he;exact⟨e,he⟩
   .cases h
  split at h
  .rename_i k by_ hk hb
   have hk:=Pm.size _ _ hk;have hb:=Pm.bytes _ _ hb;split at h
   .injection h with h;injection h with e1 e2;injection e2 with e2 e3;subst e1 e2 e3
    obtain⟨h1,h2,h3,h4,h5,h6⟩:=hφ;obtain⟨E',hE'⟩:=Yv h1;obtain⟨a,rfl⟩:=hs;have Tn:=hi.tok k;have X5:Mv R R γ (γ++[.none]) L (L++[.spare 0 k]):=Mv.push _ _ hi.len;have hL1:(L++[Ob.spare 0 k])[L.length]?=some (.spare 0 k):=by simp
    have Yq:(SV.own [] L.length).rep R (γ++[.none]) (L++[.spare 0 k]) (.slice a 0 0) :=
     ⟨dS _ _ _,m5,λn2 k2 _=>⟨m5,m5,λ_=>⟨.none,by rw[<- hi.len];simp,a,m5⟩⟩⟩
    obtain⟨u,w',R',γ',a1,a2,a3,a4,a5⟩:=LA (P:=P) (ty:=ty) Tn ht hE' h2 (Pm.zok _ h3 _ hk) hb hL1 Yq rfl hpx h4 (by simpa using h5) (by simpa using h6);have Ww:(L++[Ob.spare 0 k]).set L.length (.spare (0+xs.length) k)=L++[.spare xs.length k]:=by simp
    rw[Ww]at a2 a4 a5;exact⟨u,w',R',γ',a1,a2,a3,X5.trans a4,by rw[ahW]at a5;exact a5⟩
   .rename_i es i
    split at h
    .rename_i n k' hL
     injection h with h;injection h with e1 e2;injection e2 with e2 e3;subst e1 e2 e3
     obtain⟨h1,h2,h3,h4,h5,h6,h7⟩:=hφ;obtain⟨E',hE'⟩:=Yv h1;subst h2;obtain⟨u,w',R',γ',a1,a2,a3,a4,a5⟩:=LA (P:=P) (ty:=ty) hi ht hE' h4.2 (Pm.zok _ h4.1 _ hk) hb hL hs h3 hpx h5 h6 h7;exact⟨u,w',R',γ',a1,a2,a3,a4,a5⟩
    .cases h
   .cases h
  .cases h
 .cases h
theorem Inv.later (hi:Inv B R γ L w){R':PH}{w':World}(he:Ext (· <w.heap.size) R R' w w')(hv:∀ b o u,R' b o=some u->w'.cell? ⟨b,o,none⟩=some u):Inv B R' γ L w'/\Ext B R R' w w':=by
 refine⟨⟨hi.len,hv,λid x g hx hg=>?_,hi.inj,λi g b hg hb=>?_,λb hb=>ait (hi.bsz b hb) he.below.size⟩,he.below.mono hi.bsz,he.sub,λb o hb=>he.old b o (hi.bsz b hb)⟩
 .refine(hi.obj id x g hx hg).mv (Mv.of_sub he.sub) (λb hb=>he.below.block b (hi.new id g b hg hb).2) (λb o hb e=>?_)
  rw[he.old b o (hi.new id g b hg hb).2];exact e
 .have h1:=hi.new i g b hg hb
  have:=he.below.size;exact⟨h1.1,m0⟩
theorem j3 {ρ:Operand->Option AV}{a:Act}(hρ:∀ x v,ρ x=some v->v.rep R γ L (a.eval x)):∀ {xs:List Operand} {ps:List PV},dt ρ xs=some ps ->
  xs.length=ps.length /\ ∀ (j:Nat) x p,xs[j]?=some x->ps[j]?=some p->p.rep R (a.eval x)
 |[],ps,h=>by injection h with h;subst h;exact⟨rfl,λj x p hx=>by simp at hx⟩
 |x::xs,ps,h=>by
  unfold dt at h;split at h
  .rename_i p ZB hp U5
   injection h with h;subst h
   obtain⟨g1,g2⟩:=j3 hρ U5;refine⟨by simp[g1],λj y q hy hq=>?_⟩
   cases j with
   |zero =>
    simp at hy hq;subst hy hq
    cases hx:ρ x with
    |none=>simp[hx]at hp
    |some vx=>simp only[hx,ahQ]at hp;exact AV.norm_rep (hρ _ _ hx) hp
   |succ j=>exact g2 j y q (by simpa using hy) (by simpa using hq)
  .cases h
theorem Ho (Pm:TIok P ti)(hi:Inv B R γ L w){a:Act}{ρ:Operand->Option AV}(hρ:∀ x v,ρ x=some v->v.rep R γ L (a.eval x)){o:Oper}{v:AV}{φ:Prop}(h:sD ti ρ o.op=some (v,φ))(hφ:φ):qy P B R γ L w (execOp a.eval o) v:=by
 obtain⟨dst,op,type,pos,after,guard⟩:=o;simp only at h;unfold sD at h;split at h
 .rename_i t len parts
  obtain⟨u,w',R',h1,h2,h3,h4⟩:=FY Pm hi hρ h hφ;refine⟨u,w',R',?_,h2,h3,h4⟩;simp only[execOp,Sem.run_bind];rw[h1];rfl
 .cases h
theorem M8 (Pm:TIok P ti)(hi:Inv B R γ L w){a:Act}{ρ:Operand->Option AV}(hρ:∀ x v,ρ x=some v->v.rep R γ L (a.eval x)){o:Oper}{v:AV}{L':List Ob}{φ:Prop}(h:yb ti ρ L o.op=some (v,L',φ))(hφ:φ):aaQ P B R γ L L' w (execOp a.eval o) v:=by
 have Vy:∀ {xs:List SV} {vs:Array Value} (E:TypeId),B0 R γ L xs vs->(execOp a.eval o).run P w = .ok (.value (.pointer (some ⟨w.heap.size,0,none⟩))) (w.alloc (.cells vs E))->aaQ P B R γ L (L++[.box xs]) w (execOp a.eval o) (.one (.ptr L.length 0)):=by
  intro xs vs E hc hr;obtain⟨h1,h2⟩:=MW hi E hc;exact⟨_,R,_,.inl ⟨_,hr,h2⟩,h1,⟨Kept.alloc hi.bsz _,PH.sub_refl _,λ_ _ _=>rfl⟩,Mv.push _ _ hi.len⟩
 obtain⟨dst,op,type,pos,after,guard⟩:=o;simp only at h Vy;unfold yb at h;split at h
 .rename_i E
  split at h
  .rename_i zs hz
   injection h with h;injection h with e1 e2;injection e2 with e2 e3;subst e1 e2
   cases hz0:ti.zero E with
   |none=>simp[hz0]at hz
   |some za0 =>
    simp only[hz0,ahQ]at hz;have VX:=Pm.zero _ _ hz0;unfold zeroOf at VX
    cases Qa:P.info? E with
    |none=>simp[Qa]at VX
    |some inf =>
     simp only[Qa,ahQ]at VX
     cases Tc:inf.zero with
     |none=>simp[Tc]at VX
     |some z =>
      simp only[Tc,ahQ]at VX;refine Vy E (cells_rep (AV.ofVal_rep VX) hz) ?_;simp[execOp,Instr.alloc,zeroValue,typeInfo,program,Sem.run,Qa,Tc,newVar,newRow]
  .cases h
 .rename_i E x
  split at h
  .rename_i xs hx
   injection h with h;injection h with e1 e2;injection e2 with e2 e3;subst e1 e2
   cases WA:ρ x with
   |none=>simp[WA]at hx
   |some vx =>
    simp only[WA,ahQ]at hx;refine Vy E (cells_rep (hρ _ _ WA) hx) ?_;simp[execOp,Instr.box,newVar,newRow]
  .cases h
 .rename_i t p x
  split at h
  .rename_i id off xs hrp hx
   split at h
   .rename_i cs hL
    injection h with h;injection h with e1 e2;injection e2 with e2 e3;subst e1 e2 e3
    obtain⟨b,Xo,hg⟩:=hρ _ _ hrp
    cases WA:ρ x with
    |none=>simp[WA]at hx
    |some vx =>
     simp only[WA,ahQ]at hx;have hc:=cells_rep (hρ _ _ WA) hx;have h1:∀ c∈(a.eval x).cells,c.oneCell'=true:=by
      intro c Zc;obtain⟨j,hj⟩:=Array.mem_iff_getElem?.1 Zc;have O8:j<xs.length:=by rw[<- hc.1];exact(aiy.1 hj).1
      exact(SV.rep_one (hc.2 j c _ hj (ah0 O8))).2
     obtain⟨w',g1,g2,g3,g4⟩:=Gl (P:=P) (t:=t) hi hL hg hc h1 hφ.1 (Pm.size _ _ hφ.2);have hr:(execOp a.eval { dst,op := .store t p x,type,pos,after,guard }).run P w = .ok .skip w':=by
      simp only[execOp,Sem.run_bind,Xo];rw[g1];rfl
     exact⟨w',R,γ,.inr ⟨hr,rfl⟩,g2,g3,g4⟩
   .cases h
  .rename_i id O9 i o xs hrp hx
   split at h
   .rename_i Pn es k hL
    split at h
    case h_2=>cases h
    rename_i e he;injection h with h;injection h with e1 e2;injection e2 with e2 e3;subst e1 e2 e3
    obtain⟨hve,hle,Xk⟩:=hφ;subst hve;have Xo:=hρ _ _ hrp
    cases WA:ρ x with
    |none=>simp[WA]at hx
    |some vx =>
     simp only[WA,ahQ]at hx;have hc:=cells_rep (hρ _ _ WA) hx;have h1:∀ c∈(a.eval x).cells,c.oneCell'=true:=by
      intro c Zc;obtain⟨j,hj⟩:=Array.mem_iff_getElem?.1 Zc;have O8:j<xs.length:=by rw[<- hc.1];exact(aiy.1 hj).1
      exact(SV.rep_one (hc.2 j c _ hj (ah0 O8))).2
     obtain⟨w',g1,g2,g3,g4⟩:=zW (P:=P) (t:=t) hi hL Xo he hc h1 hle (Pm.size _ _ Xk);have hr:(execOp a.eval { dst,op := .store t p x,type,pos,after,guard }).run P w = .ok .skip w':=by
      simp only[execOp,Sem.run_bind];rw[g1];rfl
     exact⟨w',R,γ,.inr ⟨hr,rfl⟩,g2,g3,g4⟩
   .cases h
  .cases h
 .rename_i args argTypes
  split at h
  .rename_i s x t tx ha ht
   split at h
   .rename_i vs vx hs hx
    obtain⟨u,w',R',γ',g1,g2,g3,g4,g5⟩:=FU (P:=P) (ty:=type) Pm hi (hρ _ _ hs) (hρ _ _ hx) h hφ;have e1:args=#[s,x]:=by cases args;simp_all
    have e2:argTypes=#[t,tx]:=by cases argTypes;simp_all
    subst e1 e2;refine⟨w',R',γ',.inl ⟨u,?_,g5⟩,g2,g3,g4⟩;simp[execOp,resolve,invoke,builtin,g1]
   .cases h
  .cases h
 .cases h
theorem CJ {ρ:Operand->Option AV}{op:Op}{f:FuncId}{es:List (List AC)}{t:Nat}{ps:List PV}(h:eh ti ρ op=some (f,es,some t,ps)) :
  ∃ args ts x xs,op = .call { callee := .value (.func f),args,argTypes:=ts } /\ args.toList=x::xs/\ρ x=some (.one (.own es t))/\dt ρ xs=some ps:=by
 unfold eh at h;split at h
 .rename_i f' args ts
  split at h
  .rename_i x xs ho QP
   split at h
   .rename_i Ql t' ZB hx U5
    injection h with h;injection h with e1 e2;injection e2 with e2 e3;injection e3 with e3 e4;injection e3 with e3
    subst e1 e2 e3 e4;exact⟨args,ts,x,xs,rfl,QP,hx,U5⟩
   .rename_i ZB hx U5
    injection h with h;injection h with e1 e2;injection e2 with e2 e3;injection e3 with e3 e4;cases e3
   .cases h
  .cases h
 .cases h
theorem Az {ρ:Operand->Option AV}{op:Op}{f:FuncId}{ps:List PV}(h:eh ti ρ op=some (f,[],none,ps)) :
  ∃ args ts x xs,op = .call { callee := .value (.func f),args,argTypes:=ts } /\ args.toList=x::xs/\ρ x=some (.one .emp)/\dt ρ xs=some ps:=by
 unfold eh at h;split at h
 .rename_i f' args ts
  split at h
  .rename_i x xs ho QP
   split at h
   .rename_i Ql t' ZB hx U5
    injection h with h;injection h with e1 e2;injection e2 with e2 e3;injection e3 with e3 e4;cases e3
   .rename_i ZB hx U5
    injection h with h;injection h with e1 e2;injection e2 with e2 e3;injection e3 with e3 e4
    subst e1 e4;exact⟨args,ts,x,xs,rfl,QP,hx,U5⟩
   .cases h
  .cases h
 .cases h
theorem Dx {f : FuncId} {fn : Func} {a : Act} {dst : Option Tmp} {type : TypeId} {pos : String} {after : Array Edge} {guard : Option (Nat × Bool)} {args : Array Operand} {argTypes : Array TypeId} (Xt : P.funcs[f]? = some fn) (Un : fn.body.isSome = true) (Qy : (fn.name == "runtime.NumGoroutine") = false) :
  (execOp a.eval { dst,op := .call { callee := .value (.func f),args,argTypes },type,pos,after,guard }).run P w = .ok (.enter f (args.map a.eval)) w:=by
 have hb:fn.body.isNone=false:=by cases VK:fn.body<;>simp_all
 simp only[execOp,resolve,Act.eval,Deferred.ofValue,Sem.run_bind,Sem.run_pure,Result.andThen_ok,invoke,callFunc,program,Sem.run];simp[Xt,Qy,hb]
theorem give (hi:Inv B R γ L w){k n' s:Nat}{g':Gh}{Ql:List (List AC)}{v':Value}(hB:∀ b,B b->b<s)(hold:∀ (i:Nat) h b,γ[i]?=some h->h.block=some b->b<s)(hp:bK R v' (.lst Ql))(hw':∀ e∈Ql,e.length=k)(ho:Jl R w Ql k v' g')(Vo:∀ b,g'.block=some b->s<=b)(hn:Ql.length=n') :
  ∃ γ',Inv B R γ' (L++[.spare n' k]) w/\Mv R R γ γ' L (L++[.spare n' k])/\(SV.own Ql L.length).rep R γ' (L++[.spare n' k]) v':=by
 subst hn;have PS:∀ j h,(γ++[g'])[j]?=some h->(j<γ.length/\γ[j]?=some h)\/(j=γ.length/\h=g'):=by
  intro j h hh;by_cases hj:j<γ.length
  .rw[ah5 hj]at hh;exact .inl ⟨hj,hh⟩
  .have:j=γ.length:=by have:=(ahR.1 hh).1;simp at this;omega
   subst this;rw[ahY m0]at hh;simp at hh;exact .inr ⟨rfl,hh.symm⟩
 have hm:Mv R R γ (γ++[g']) L (L++[.spare Ql.length k]):=Mv.push _ _ hi.len;refine⟨γ++[g'],⟨by simp[hi.len],hi.val,λid x h hx hh=>?_,λj1 j2 g1 g2 h1 h2 PE b hb=>?_,λj h b hh hb=>?_,hi.bsz⟩,hm,hp,m5,λn2 k2 e2=>?_⟩
 .obtain⟨hj,Um⟩|⟨rfl,rfl⟩:=PS id h hh
  .rw[ah5 (by rw[<- hi.len];exact hj)]at hx
   exact(hi.obj id x h hx Um).mv hm (λ_ _=>rfl) (λ_ _ _ h=>h)
  .rw[ahY (by rw[hi.len];omega)]at hx
   simp[hi.len]at hx;subst hx
   match h,ho with
   |.none,⟨h0,_⟩=>rw[h0];rfl
   |.arr b c,⟨_,⟨vs,E,a1,a2⟩,a3,a4,a5⟩=>exact⟨⟨vs,E,a1,a2⟩,a3,a4,a5⟩
 .rcases PS j1 g1 h1 with⟨a1,a3⟩|⟨a1,rfl⟩<;>rcases PS j2 g2 h2 with⟨b1,b3⟩|⟨b1,rfl⟩
  .exact hi.inj j1 j2 g1 g2 a3 b3 PE b hb
  .intro e;have h1:=Vo b e;have h2:=hold j1 g1 b a3 hb;omega
  .intro e;have h1:=Vo b hb;have h2:=hold j2 g2 b b3 e;omega
  .omega
 .obtain⟨a1,a3⟩|⟨a1,rfl⟩:=PS j h hh
  .exact hi.new j h b a3 hb
  .have Qf:b<w.heap.size:=by
    match h,ho,hb with
    |.arr b' c,⟨_,⟨vs,E,a1,_⟩,_⟩,hb=>injection hb with hb;subst hb;exact(aiy.1 a1).1
   exact⟨λhBb=>by have h1:=hB b hBb;have h2:=Vo b hb;omega,Qf⟩
 .rw[ahY m0]at e2
  simp at e2;obtain⟨rfl,rfl⟩:=e2;refine⟨ah7 _,hw',λ_=>⟨g',?_,?_⟩⟩
  .rw[ahY (by rw[hi.len];omega)];simp[hi.len]
  .match g',ho with
   |.none,⟨h0,ha⟩=>exact ha
   |.arr b c,⟨h0,_⟩=>exact h0
theorem abr (hi:Inv B R γ L w){t n k n':Nat}{g g':Gh}{R':PH}{w':World}{Ql:List (List AC)}{v':Value}(hL:L[t]?=some (.spare n k))(hg:γ[t]?=some g)(he:Ext (λb=>b<w.heap.size/\g.block≠some b) R R' w w')
  (hv:∀ b o u,R' b o=some u->w'.cell? ⟨b,o,none⟩=some u) (hp:bK R' v' (.lst Ql)) (hw':∀ e∈Ql,e.length=k) (ho:Jl R' w' Ql k v' g') (Vo:∀ b,g'.block=some b->w.heap.size<=b\/g.block=some b) (hn:Ql.length=n') :
  ∃ γ',Inv B R' γ' (L.set t .dead++[.spare n' k]) w'/\Ext B R R' w w'/\Mv R R' γ γ' L (L.set t .dead++[.spare n' k])/\(SV.own Ql L.length).rep R' γ' (L.set t .dead++[.spare n' k]) v':=by
 subst hn;have O8:t<L.length:=(ahR.1 hL).1;have hltg:t<γ.length:=by rw[hi.len];exact O8
 have hgnb:g ≠ .none ->∀ b,g.block=some b->b<w.heap.size /\ ¬ B b:=λ_ b hb=>⟨(hi.new t g b hg hb).2,(hi.new t g b hg hb).1⟩
 have PS:∀ j h,(γ.set t Gh.none++[g'])[j]?=some h->(j=t/\h = .none)\/(j<γ.length/\j≠t/\γ[j]?=some h)\/(j=γ.length/\h=g'):=by
  intro j h hh;by_cases hj:j<γ.length
  .rw[ah5 (by simpa using hj)]at hh
   by_cases hjt:j=t
   .subst hjt;rw[ah_ hltg]at hh;injection hh with hh;exact .inl ⟨rfl,hh.symm⟩
   .rw[ah' (Ne.symm hjt)]at hh;exact .inr (.inl ⟨hj,hjt,hh⟩)
  .have:j=γ.length:=by have:=(ahR.1 hh).1;simp at this;omega
   subst this;rw[ahY m5]at hh;simp at hh;exact .inr (.inr ⟨rfl,hh.symm⟩)
 have hm:Mv R R' γ (γ.set t .none++[g']) L (L.set t .dead++[.spare Ql.length k]):=by
  refine⟨he.sub,m5,λt' n' k' QS h=>?_,λt' O9 W6 k' QS h=>?_,λid b h=>?_⟩
  .rw[ah5 (by simpa using QS)]at h
   by_cases Yy:t'=t
   .subst Yy;rw[ah_ O8]at h;cases h
   .rw[ah' (Ne.symm Yy)]at h
    exact⟨n',h,ah7 _,λ_=>by rw[ah5 (by simp;rw[hi.len];exact QS),ah' (Ne.symm Yy)]⟩
  .rw[ah5 (by simpa using QS)]at h
   by_cases Yy:t'=t
   .subst Yy;rw[ah_ O8]at h;cases h
   .rw[ah' (Ne.symm Yy)]at h
    exact⟨O9,W6,h,ah7 _,λ_=>⟨rfl,by rw[ah5 (by simp;rw[hi.len];exact QS),ah' (Ne.symm Yy)]⟩⟩
  .have PE:id≠t:=by
    rintro rfl;exact hi.obj id _ _ hL h
   rw[ah5 (by simp;exact(ahR.1 h).1),ah' (Ne.symm PE)];exact h
 have Vz:∀ j h b,j≠t->γ[j]?=some h->h.block=some b->b<w.heap.size/\g.block≠some b:=λj h b PE hh hb=>⟨(hi.new j h b hh hb).2,hi.inj j t h g hh hg PE b hb⟩
 refine⟨γ.set t .none++[g'],⟨by simp[hi.len],hv,λid x h hx hh=>?_,λj1 j2 g1 g2 h1 h2 PE b hb=>?_,λj h b hh hb=>?_,λb hb=>ait (hi.bsz b hb) he.below.size⟩,?_,hm,hp,m5,λn2 k2 e2=>?_⟩
 .obtain⟨rfl,rfl⟩|⟨hj,PE,Um⟩|⟨rfl,rfl⟩:=PS id h hh
  .rw[ah5 (by simpa using O8),ah_ O8]at hx
   injection hx with hx;subst hx;trivial
  .rw[ah5 (by simp;rw[<- hi.len];exact hj),ah' (Ne.symm PE)]at hx
   exact(hi.obj id x h hx Um).mv hm (λb hb=>he.below.block b (Vz id h b PE Um hb)) (λb o hb e=>by rw[he.old b o (Vz id h b PE Um hb)];exact e)
  .rw[ahY (by simp[hi.len])]at hx
   simp[hi.len]at hx;subst hx
   match h,ho with
   |.none,⟨h0,_⟩=>rw[h0];rfl
   |.arr b c,⟨_,⟨vs,E,a1,a2⟩,a3,a4,a5⟩=>exact⟨⟨vs,E,a1,a2⟩,a3,a4,a5⟩
 .obtain⟨_,rfl⟩|⟨a1,a2,a3⟩|⟨a1,rfl⟩:=PS j1 g1 h1
  .cases hb
  .obtain⟨_,rfl⟩|⟨b1,b2,b3⟩|⟨b1,rfl⟩:=PS j2 g2 h2
   .intro e;cases e
   .exact hi.inj j1 j2 g1 g2 a3 b3 PE b hb
   .intro e
    obtain h|h:=Vo b e
    .have:=(hi.new j1 g1 b a3 hb).2;omega
    .exact(Vz j1 g1 b a2 a3 hb).2 h
  .obtain⟨_,rfl⟩|⟨b1,b2,b3⟩|⟨b1,rfl⟩:=PS j2 g2 h2
   .intro e;cases e
   .intro e
    obtain h|h:=Vo b hb
    .have:=(hi.new j2 g2 b b3 e).2;omega
    .exact(Vz j2 g2 b b2 b3 e).2 h
   .omega
 .obtain⟨_,rfl⟩|⟨a1,a2,a3⟩|⟨a1,rfl⟩:=PS j h hh
  .cases hb
  .have:=hi.new j h b a3 hb
   exact⟨this.1,ait this.2 he.below.size⟩
  .have Qf:b<w'.heap.size:=by
    match h,ho,hb with
    |.arr b' c,⟨_,⟨vs,E,a1,_⟩,_⟩,hb=>injection hb with hb;subst hb;exact(aiy.1 a1).1
   refine⟨λhB=>?_,Qf⟩;obtain h'|h':=Vo b hb
   .have:=hi.bsz b hB;omega
   .exact(hi.new t g b hg h').1 hB
 .exact⟨he.below.mono λb hB=>⟨hi.bsz b hB,λe=>(hi.new t g b hg e).1 hB⟩,he.sub,λb o hB=>he.old b o ⟨hi.bsz b hB,λe=>(hi.new t g b hg e).1 hB⟩⟩
 .rw[ahY m5]at e2
  simp at e2;obtain⟨rfl,rfl⟩:=e2;refine⟨ah7 _,hw',λ_=>⟨g',?_,?_⟩⟩
  .rw[ahY (by simp[hi.len])];simp[hi.len]
  .match g',ho with
   |.none,⟨h0,ha⟩=>exact ha
   |.arr b c,⟨h0,_⟩=>exact h0
theorem ME {ρ:Operand->Option AV}{a:Act}(hρ:∀ x v,ρ x=some v->v.rep R γ L (a.eval x)):∀ {xs:List Operand} {vs:List AV},OM ρ xs=some vs->xs.length=vs.length /\ ∀ (j:Nat) y v,xs[j]?=some y->vs[j]?=some v->v.rep R γ L (a.eval y)
 |[],vs,h=>by injection h with h;subst h;exact⟨rfl,λj y v hy=>by simp at hy⟩
 |x::xs,vs,h=>by
  unfold OM at h;split at h
  .rename_i v0 vs0 h1 h2
   injection h with h;subst h
   obtain⟨g1,g2⟩:=ME hρ h2;refine⟨by simp[g1],λj y v hy hv=>?_⟩
   cases j with
   |zero=>simp at hy hv;subst hy hv;exact hρ _ _ h1
   |succ j=>exact g2 j y v (by simpa using hy) (by simpa using hv)
  .cases h
theorem B_ {ρ:Operand->Option AV}{a:Act}(hρ:∀ x v,ρ x=some v->v.rep R γ L (a.eval x)){op:Op}{g:FuncId}{QB:List AV}(h:dp ti ρ op=some (g,QB)) :
  ∃ f args ts Pz,op = .call { callee := .value f,args,argTypes:=ts } /\ a.eval f = .func (.func g) #[] Pz/\(args.map a.eval++Pz).size=QB.length /\ ∀ (j:Nat) v p,(args.map a.eval++Pz)[j]?=some v->QB[j]?=some p->p.rep R γ L v:=by
 have fin:∀ (args:Array Operand) (vs:List AV) (Pz:Array Value) (cs:List AV),OM ρ args.toList=some vs->Pz.size=cs.length->(∀ (j:Nat) v p,Pz[j]?=some v->cs[j]?=some p->p.rep R γ L v) ->
   (args.map a.eval++Pz).size=(vs++cs).length /\ ∀ (j:Nat) v p,(args.map a.eval++Pz)[j]?=some v->(vs++cs)[j]?=some p->p.rep R γ L v:=by
  intro args vs Pz cs hv hc hr;obtain⟨g1,g2⟩:=ME hρ hv;have g1':args.size=vs.length:=by simpa using g1
  refine⟨by simp;omega,λj v p hv hp=>?_⟩;by_cases hj:j<vs.length
  .rw[ah5 hj]at hp
   rw[Array.getElem?_append_left m8,Array.getElem?_map]at hv
   cases hq:args[j]? with
   |none=>simp[hq]at hv
   |some y=>rw[hq]at hv;simp only[Option.map_some,Option.some.injEq]at hv;subst hv;exact g2 j y p (by simpa using hq) hp
  .rw[ahY m0]at hp
   rw[Array.getElem?_append_right m8]at hv;simp only[Array.size_map]at hv;rw[g1']at hv;exact hr _ v p hv hp
 unfold dp at h;split at h
 case h_2=>cases h
 rename_i f args ts;split at h
 .rename_i g0 cs vs _ hf hv
  injection h with h;injection h with e1 e2;subst e1 e2
  have RN:=hρ _ _ hf;generalize ZC:a.eval f=fv at RN
  cases RN with
  |fn _ Pz _ hs he =>
   refine⟨f,args,ts,Pz,rfl,ZC,fin args vs Pz _ hv (by simpa using hs) λj v p h1 h2=>?_⟩;rw[aic]at h2
   cases hq:cs[j]? with
   |none=>simp[hq]at h2
   |some y=>simp[hq]at h2;subst h2;exact he j v y h1 hq
 .rename_i g0 Pz vs _ hf hv
  injection h with h;injection h with e1 e2;subst e1 e2
  obtain⟨us,h1,h2,h3⟩:=hρ _ _ hf;refine⟨f,args,ts,us,rfl,h1,fin args vs us _ hv (by simpa using h2) λj v p q1 q2=>?_⟩;rw[aic]at q2
  cases hq:Pz[j]? with
  |none=>simp[hq]at q2
  |some y =>
   simp[hq]at q2;subst q2;have:=h3 j v y q1 hq
   cases y with
   |c y=>exact this
   |ptr id off=>exact this
 .cases h
theorem lw (Pm:TIok P ti)(hi:Inv B R γ L w){a:Act}{ρ:Operand->Option AV}(hρ:∀ x v,ρ x=some v->v.rep R γ L (a.eval x)){o:Oper}{K:AV->List Ob->Prop}{next:Act->World->Prop}{Q:Exit->Act->World->Prop}
  (h:iE P ti ρ L K o.op)
  (hK:∀ v L' R' γ' w' u,K v L'->Inv B R' γ' L' w'->Ext B R R' w w'->Mv R R' γ γ' L L'->v.rep R' γ' L' u->next (a.put o.dst u) w'):o.wp P a w next Q:=by
 obtain⟨v,φ,hp,hφ,hk⟩|⟨v,φ,hp,hφ,hk⟩|⟨v,L',φ,hp,hφ,hk⟩|⟨g,ps,r,hc,hP,hk⟩|⟨g,es,t,k,ps,Ql,hc,hLt,hP,hk⟩|⟨g,k,ps,Ql,hc,hP,hk⟩|⟨σ,g,L0,QB,L1,r,hc,hF,hP,hk⟩|⟨v,L',_,hs,hk⟩:=h
 .obtain⟨u,w',R',h1,h2,h3,h4⟩:=Oi Pm hi hρ hp hφ
  unfold Oper.wp;rw[h1];exact hK v L R' γ w' u hk h2 h3 (Mv.of_sub h3.sub) h4
 .obtain⟨u,w',R',h1,h2,h3,h4⟩:=Ho Pm hi hρ hp hφ
  unfold Oper.wp;rw[h1];exact hK v L R' γ w' u hk h2 h3 (Mv.of_sub h3.sub) h4
 .obtain⟨w',R',γ',h1,h2,h3,h4⟩:=M8 Pm hi hρ hp hφ
  unfold Oper.wp;obtain⟨u,h1,h5⟩|⟨h1,rfl⟩:=h1
  .rw[h1]
   exact hK v L' R' γ' w' u hk h2 h3 h4 h5
  .rw[h1]
   exact hK .undef L' R' γ' w' Go.undef hk h2 h3 h4 rfl
 .obtain⟨dst,op,type,pos,after,guard⟩:=o
  simp only at hc hK;unfold oL at hc;split at hc
  .rename_i f args argTypes
   split at hc
   .rename_i g0 cs hf
    cases U5:dt ρ args.toList with
    |none=>simp[U5]at hc
    |some ps0 =>
     rw[U5]at hc;injection hc with hc;injection hc with e1 e2;subst e1 e2
     obtain⟨⟨fn,Xt,Un,Qy⟩,RU⟩:=hP;have RN:=hρ _ _ hf;generalize ZC:a.eval f=fv at RN
     cases RN with
     |fn _ Pz _ hs he =>
      obtain⟨g1,g2⟩:=j3 hρ U5;have hr:(execOp a.eval { dst,op := .call { callee := .value f,args,argTypes },type,pos,after,guard }).run P w = .ok (.enter g0 (args.map a.eval++Pz)) w:=by
       have hb:fn.body.isNone=false:=by cases VK:fn.body<;>simp_all
       simp only[execOp,resolve,ZC,Deferred.ofValue,Sem.run_bind,Sem.run_pure,Result.andThen_ok,invoke,callFunc,program,Sem.run];simp[Xt,Qy,hb]
      unfold Oper.wp;rw[hr];refine(RU R w (args.map a.eval++Pz) hi.val (by simp[hs];simpa using g1) (λj v p hv hp=>?_)).mono (λe w' hh=>?_)
      .by_cases hj:j<ps0.length
       .rw[ah5 hj]at hp
        rw[Array.getElem?_append_left (by simp;have:=g1;simp at this;omega),Array.getElem?_map]at hv
        cases hq:args[j]? with
        |none=>simp[hq]at hv
        |some y =>
         rw[hq]at hv;simp only[Option.map_some,Option.some.injEq]at hv;subst hv;exact g2 j y p (by simpa using hq) hp
       .have R6:args.size=ps0.length:=by simpa using g1
        rw[ahY m0,aic]at hp;rw[Array.getElem?_append_right m8]at hv;simp only[Array.size_map]at hv;rw[R6]at hv
        cases hq:cs[j-ps0.length]? with
        |none=>simp[hq]at hp
        |some y =>
         rw[hq]at hp;simp only[Option.map_some,Option.some.injEq]at hp;subst hp;exact he _ v y hv hq
      .obtain⟨v,R',rfl,h1,h2,h3⟩:=hh
       obtain⟨i1,i2⟩:=hi.later h1 h2;exact hK r.av L R' γ w' v hk i1 i2 (Mv.of_sub h1.sub) (CV.av_rep h3)
   .cases hc
  .cases hc
 .obtain⟨dst,op,type,pos,after,guard⟩:=o
  simp only at hc hK;obtain⟨args,argTypes,x,xs,rfl,QP,hx,U5⟩:=CJ hc;obtain⟨⟨fn,Xt,Un,Qy⟩,RU⟩:=hP;obtain⟨g1,g2⟩:=j3 hρ U5;have UV:=hρ _ _ hx;obtain⟨Xo,O8,QA⟩:=UV;obtain⟨_,ZD,Wv⟩:=QA _ _ hLt;obtain⟨gh,hgh,Vx⟩:=Wv rfl;have Sj:=hi.obj t _ _ hLt hgh;have hown:Jl R w es k (a.eval x) gh:=by
   match gh,Vx,Sj with
   |.none,Vx,Sj=>exact⟨aif Sj,Vx⟩
   |.arr b c,Vx,⟨a1,a2,a3,a4⟩=>exact⟨Vx,a1,a2,a3,a4⟩
  have hr:=Dx (P:=P) (w:=w) (a:=a) (dst:=dst) (type:=type) (pos:=pos) (after:=after) (guard:=guard) (args:=args) (argTypes:=argTypes) Xt Un Qy;unfold Oper.wp;rw[hr];have WB:args.map a.eval=#[a.eval x]++(xs.map a.eval).toArray:=by
   cases args;simp at QP;subst QP;simp
  rw[WB];refine(RU R w (a.eval x) (xs.map a.eval).toArray gh hi.val Xo ZD hown (by simpa using g1) (λj v p hv hp=>?_)).mono (λe w' hh=>?_)
  .simp only[List.getElem?_toArray,aic]at hv
   cases hq:xs[j]? with
   |none=>simp[hq]at hv
   |some y=>rw[hq]at hv;simp only[Option.map_some,Option.some.injEq]at hv;subst hv;exact g2 j y p hq hp
  .obtain⟨v',R',g',rfl,h1,h2,h3,h4,h5,h6⟩:=hh
   obtain⟨γ',i1,i2,i3,i4⟩:=abr hi hLt hgh h1 h2 h3 h4 h5 h6 rfl;exact hK _ _ R' γ' w' v' hk i1 i2 i3 i4
 .obtain⟨dst,op,type,pos,after,guard⟩:=o
  simp only at hc hK;obtain⟨args,argTypes,x,xs,rfl,QP,hx,U5⟩:=Az hc;obtain⟨⟨fn,Xt,Un,Qy⟩,RU⟩:=hP

  have Tn:=hi.tok k;have X5:Mv R R γ (γ++[.none]) L (L++[.spare 0 k]):=Mv.push _ _ hi.len;obtain⟨g1,g2⟩:=j3 hρ U5;obtain⟨ad,UV⟩:=hρ _ _ hx;have hr:=Dx (P:=P) (w:=w) (a:=a) (dst:=dst) (type:=type) (pos:=pos) (after:=after) (guard:=guard) (args:=args) (argTypes:=argTypes) Xt Un Qy;unfold Oper.wp;rw[hr];have WB:args.map a.eval=#[a.eval x]++(xs.map a.eval).toArray:=by
   cases args;simp at QP;subst QP;simp
  rw[WB];refine(RU R w (a.eval x) (xs.map a.eval).toArray .none hi.val (by rw[UV];exact dS _ _ _) m5 ⟨rfl,ad,UV⟩ (by simpa using g1) (λj v p hv hp=>?_)).mono (λe w' hh=>?_)
  .simp only[List.getElem?_toArray,aic]at hv
   cases hq:xs[j]? with
   |none=>simp[hq]at hv
   |some y=>rw[hq]at hv;simp only[Option.map_some,Option.some.injEq]at hv;subst hv;exact g2 j y p hq hp
  .obtain⟨v',R',g',rfl,h1,h2,h3,h4,h5,h6⟩:=hh
   have hE:Ext (· <w.heap.size) R R' w w':=⟨h1.below.mono λb hb=>⟨hb,by intro e;cases e⟩,h1.sub,λb o hb=>h1.old b o ⟨hb,by intro e;cases e⟩⟩;obtain⟨j1,j2⟩:=hi.later hE h2;obtain⟨γ',i1,i2,i3⟩:=give (n':=Ql.length) j1 (hB:=λb hb=>ait (hi.bsz b hb) (ah7 _)) (s:=w.heap.size) (λi h b hh hb=>(hi.new i h b hh hb).2) h3 h4 h5 (λb hb=>(h6 b hb).resolve_right (by intro e;cases e)) rfl;exact hK _ _ R' γ' w' v' hk i1 j2 ((Mv.of_sub h1.sub).trans i2) i3
 .obtain⟨dst,op,type,pos,after,guard⟩:=o
  simp only at hc hK;obtain⟨f,args,ts,Pz,rfl,ZC,Qf,UE⟩:=B_ hρ hc;obtain⟨⟨fn,Xt,Un,Qy⟩,RU⟩:=hP;have hr:(execOp a.eval { dst,op := .call { callee := .value f,args,argTypes:=ts },type,pos,after,guard }).run P w = .ok (.enter g (args.map a.eval++Pz)) w:=by
   have hb:fn.body.isNone=false:=by cases VK:fn.body<;>simp_all
   simp only[execOp,resolve,ZC,Deferred.ofValue,Sem.run_bind,Sem.run_pure,Result.andThen_ok,invoke,callFunc,program,Sem.run];simp[Xt,Qy,hb]
  unfold Oper.wp;rw[hr];have Wz:=abR hi hF.len hF.ob;have Wy:∀ i j,i<L0.length->j<L0.length->jB σ i=jB σ j->i=j:=by
   intro i j Tn Xr e;have h1:=jD (σ:=σ) (i:=i) (by rw[hF.len];exact Tn);have h2:=jD (σ:=σ) (i:=j) (by rw[hF.len];exact Xr);rw[<- e]at h2;exact vU hF.nd h1 h2
  refine(RU _ R (Jp σ γ) w (args.map a.eval++Pz) (acg hi Wz Wy hF.obb) (by simpa using Qf) (λj v p hv hp=>?_)).mono (λe w' hh=>?_)
  .exact AV.down Wz (UE j v _ hv (by rw[aic,hp];rfl)) (hF.argb p (ahX hp))
  .obtain⟨v,R',γ1,rfl,h1,h2,h3,h4⟩:=hh
   obtain⟨i1,i2,i3,i4⟩:=Js hi hF.len hF.nd hF.ob h1 h2 h3;exact hK _ _ R' _ w' v hk i1 i2 i3 (AV.up i4 h4)
 .obtain⟨w',R',γ',h1,h2,h3,h4⟩:=hs B R γ w a.eval o rfl hi (λx _=>hρ x) ⟨λ_=>rfl,λ_=>rfl⟩
  unfold Oper.wp;obtain⟨u,h1,h5⟩|⟨h1,rfl⟩:=h1
  .rw[h1]
   exact hK v L' R' γ' w' u hk h2 h3 h4 h5
  .rw[h1]
   exact hK .undef L' R' γ' w' Go.undef hk h2 h3 h4 rfl
theorem vC {T:Tm}{a:Act}(hT:gv N R γ L T a){d:Option Tmp}{v:AV}{u:Value}(hd:dOK N d)(hv:v.rep R γ L u):gv N R γ L (uJ T d v) (a.put d u):=by
 cases d with
 |none=>exact hT
 |some d =>
  have Uo:d<N:=hd;refine⟨by simp[Act.put,hT.size],hT.defers,λt x h=>?_⟩;simp only[uJ,List.lookup_cons]at h;by_cases htd:t=d
  .subst htd
   simp at h;subst h;exact⟨u,by simp only[Act.put];exact aiF (by rw[hT.size];exact Uo),hv⟩
  .have:(t==d)=false:=by simpa using htd
   rw[this]at h;obtain⟨u',h1,h2⟩:=hT.slot t x h;exact⟨u',by simp only[Act.put];rw[aix (Ne.symm htd)];exact h1,h2⟩
theorem GZ {ops:Array Oper}{ds:List (Option Tmp)}(UW:∀ j:Nat,(ops[j]?).map (·.dst)=ds[j]?){T:Tm}{a:Act}(hT:gv N R γ L T a){o:Oper}{A B':Prop}(h:gd ds T A B' o.guard) :
  (Region.wanted o (yielded ops a.tmps)=true/\A)\/(Region.wanted o (yielded ops a.tmps)=false/\B'):=by
 cases hg:o.guard with
 |none =>
  rw[hg]at h;exact .inl ⟨by simp[Region.wanted,hg],h⟩
 |some p =>
  obtain⟨j,want⟩:=p;rw[hg]at h;simp only[gd]at h;split at h
  .rename_i d hd
   have Uo:(ops[j]?).bind (·.dst)=some d:=by
    have:=UW j;rw[hd]at this
    cases ho:ops[j]? with
    |none=>simp[ho]at this
    |some o'=>simpa[ho]using this
   split at h
   .rename_i b hb
    obtain⟨u,h1,h2⟩:=hT.slot d _ hb
    cases h2;have hy:yielded ops a.tmps j=some b:=by simp[yielded,Uo,h1]
    by_cases Yz:b=want
    .exact .inl ⟨by simp[Region.wanted,hg,hy,Yz],h.1 Yz⟩
    .exact .inr ⟨by simp[Region.wanted,hg,hy,Yz],h.2 (by cases b<;>cases want<;>simp_all)⟩
   .rename_i hb
    obtain⟨u,h1,h2⟩:=hT.slot d _ hb;have W8:u=Go.undef:=h2;subst W8;have hy:yielded ops a.tmps j=none:=by simp[yielded,Uo,h1,Go.undef]
    exact .inr ⟨by simp[Region.wanted,hg,hy],h⟩
   .exact h.elim
  .exact h.elim
theorem qH (Pm:TIok P ti){ops:Array Oper}{ds:List (Option Tmp)}(UW:∀ j:Nat,(ops[j]?).map (·.dst)=ds[j]?){K:Tm->List Ob->Prop}{Q:Exit->Act->World->Prop}:∀ (l:List Oper) (R:PH) (γ:List Gh) (L:List Ob) (T:Tm) (a:Act) (w:World),aK P ti N ds K l T L->Inv B R γ L w->gv N R γ L T a ->
  (∀ T' L' R' γ' w' a',K T' L'->Inv B R' γ' L' w'->gv N R' γ' L' T' a'->Ext B R R' w w'->Mv R R' γ γ' L L'->Q .normal a' w')->wpList P ops Q l a w
 |[],R,γ,L,T,a,w,h,hi,hT,hQ=>hQ T L R γ w a h hi hT (Ext.refl _ _ _) Mv.refl
 |o::rest,R,γ,L,T,a,w,h,hi,hT,hQ=>by
  obtain⟨hd,hg⟩:=h;unfold wpList;obtain⟨hw,hA⟩|⟨hw,hB⟩:=GZ UW hT hg
  .rw[if_pos hw]
   refine .inl (lw Pm hi (λx v hx=>zO hT hx) hA λv L' R' γ' w' u hk h1 h2 h3 h4=>?_);exact qH Pm UW rest R' γ' L' _ _ w' hk h1 (vC (hT.mv h3) hd h4) λT2 L2 R2 γ2 w2 a2 k1 k2 k3 k4 k5=>hQ T2 L2 R2 γ2 w2 a2 k1 k2 k3 (h2.trans k4) (h3.trans k5)
  .rw[if_neg (by rw[hw];decide)]
   exact qH Pm UW rest R γ L _ _ w hB hi (vC hT hd rfl) hQ
end
