/- Parts. No condition. -/
import Derived.Test.YtdkmoemdipgikaaGreatDoorKAA
import Derived.Great.BuildSlice
import Derived.Great.FillDense
import Derived.Deep.Upon
set_option linter.unusedSimpArgs false
set_option linter.unusedVariables false
namespace Go.Proofs.YtdkmoemdipgikaaGreatDoor
open Go.RowKit
section
variable {P:Program} {ti:TI} {B:Nat->Prop} {R:PH} {γ:List Gh} {L:List Ob} {w:World}
theorem fold_size (off:Nat):∀ (l:List Value) (k:Nat) (cells:Array Value),((l.zipIdx k).foldl (fun(cs:Array Value) (p:Value×Nat)=>cs.setIfInBounds (off+p.2) p.1) cells).size=cells.size
 |[],_,_=>rfl
 |v::l,k,cells=>by rw[List.zipIdx_cons,anl,fold_size off l];simp
theorem J4 (off:Nat):∀ (l:List Value) (k:Nat) (cells:Array Value),off+k+l.length<=cells.size ->∀ i,
  ((l.zipIdx k).foldl (fun(cs:Array Value) (p:Value×Nat)=>cs.setIfInBounds (off+p.2) p.1) cells)[i]?=if off+k<=i/\i<off+k+l.length then l[i-(off+k)]? else cells[i]?
 |[],k,cells,_,i=>by
  rw[if_neg (by intro h;simp only[am1]at h;omega)];rfl
 |v::l,k,cells,h,i=>by
  rw[amS]at h;rw[List.zipIdx_cons,anl,J4 off l (k+1) _ m8 i];by_cases h1:off+(k+1)<=i/\i<off+(k+1)+l.length
  ·rw[if_pos h1,if_pos m8]
   have:i-(off+k)=(i-(off+(k+1)))+1:=m0
   rw[this,List.getElem?_cons_succ]
  ·rw[if_neg h1]
   by_cases h2:i=off+k
   ·subst h2
    rw[if_pos m5];simp[Array.getElem?_setIfInBounds];omega
   ·rw[if_neg m8]
    simp only[Array.getElem?_setIfInBounds];rw[if_neg m0]
theorem nD {zs xs:List SV}{o:Nat}(h:o+xs.length<=zs.length):(splice zs o xs).length=zs.length:=by
 simp[splice];omega
theorem sU {zs xs:List SV}{o:Nat}(h:o+xs.length<=zs.length)(i:Nat):(splice zs o xs)[i]?=if o<=i/\i<o+xs.length then xs[i-o]? else zs[i]?:=by
 unfold splice;by_cases h1:i<o
 ·rw[if_neg m0,amK m8,amK m8,am0,if_pos h1]
 ·by_cases h2:i<o+xs.length
  ·rw[if_pos m0,amK m8,amD m8]
   congr 1;simp;omega
  ·rw[if_neg m0,amD m8,anh]
   congr 1;simp;omega
def Cf (R:PH)(γ:List Gh)(L:List Ob)(xs:List SV)(vs:Array Value):Prop:=vs.size=xs.length /\ ∀ (j:Nat) u x,vs[j]?=some u->xs[j]?=some x->x.rep R γ L u
theorem cells_rep {v:AV}{u:Value}{xs:List SV}(h:v.rep R γ L u)(hc:v.cells=some xs):Cf R γ L xs u.cells:=by
 cases v with
 |one x =>
  injection hc with hc;subst hc
  have e:=(SV.rep_one h).1;rw[e];refine⟨rfl,fun j u' x' hu hx=>?_⟩
  cases j with
  |zero=>simp at hu hx;subst hu hx;exact h
  |succ j=>simp at hu
 |agg ys =>
  injection hc with hc;subst hc
  obtain⟨vs,rfl,h1,h2⟩:=h;exact⟨h1,h2⟩
 |tup ps=>cases hc
 |tupS xs=>cases hc
 |undef=>cases hc
theorem Am (hti:TIok P ti){t:TypeId}{place:Nat->Option (Nat×Nat)}(hpl:∀ i o ty,vK ti t i=some (o,ty) ->∀ n,en P ty=some n->place i=some (o,n)) :
  ∀ (ps:List (Nat×Option AV)) (us:List (Nat×Value)) (zs:List SV) (cells:Array Value) (r:List SV) (φ:Prop),us.length=ps.length ->
   (∀ (j:Nat) p q,ps[j]?=some p->us[j]?=some q->p.1=q.1 /\ ∀ v,p.2=some v->v.rep R γ L q.2)->Cf R γ L zs cells->kq ti t zs ps=some (r,φ)->φ ->
   ∃ cells',Instr.fill place cells us=some cells'/\Cf R γ L r cells'
 |[],us,zs,cells,r,φ,hl,_,hz,h,_=>by
  cases us with
  |nil=>injection h with h;injection h with e1 e2;subst e1;exact⟨cells,rfl,hz⟩
  |cons=>simp at hl
 |(i,v)::ps,us,zs,cells,r,φ,hl,hr,hz,h,hφ=>by
  cases us with
  |nil=>simp at hl
  |cons q us =>
   obtain⟨qi,qv⟩:=q;have h0:=hr 0 _ _ rfl rfl;obtain⟨e0,hv⟩:=h0;simp only at e0;subst e0;unfold kq at h;split at h
   ·rename_i xs o ty hc hf
    split at h
    case h_2=>cases h
    ·rename_i r' φ' hb
     injection h with h;injection h with e1 e2;subst e1 e2
     obtain⟨⟨hs,hle⟩,hφ'⟩:=hφ
     cases v with
     |none=>simp at hc
     |some v =>
      simp only[amv]at hc;have hq:=cells_rep (hv v rfl) hc;have hp:=hpl i o ty hf _ (hti.size _ _ hs);have hsz:qv.cells.size=xs.length:=hq.1;have hfit:o+qv.cells.size<=cells.size:=by rw[hsz,hz.1];exact hle
      have step:Cf R γ L (splice zs o xs) (qv.cells.zipIdx.foldl (fun(cs:Array Value) (p:Value×Nat)=>cs.setIfInBounds (o+p.2) p.1) cells):=by
       rw[<- Array.foldl_toList,Array.toList_zipIdx];refine⟨by rw[fold_size,nD hle];exact hz.1,fun j u x hu hx=>?_⟩;rw[J4 o _ 0 _ m8]at hu;rw[sU hle]at hx;by_cases hj:o<=j/\j<o+xs.length
       ·rw[if_pos hj]at hx
        rw[if_pos m8]at hu;exact hq.2 (j-o) u x (by simpa using hu) hx
       ·rw[if_neg hj]at hx
        rw[if_neg m8]at hu;exact hz.2 j u x hu hx
      obtain⟨cells',f1,f2⟩:=Am hti hpl ps us _ _ r' φ' (by simpa using hl) (fun j p q hp hq=>hr (j+1) p q (by simpa using hp) (by simpa using hq)) step hb hφ';refine⟨cells',?_,f2⟩;simp only[Instr.fill];rw[hp];simp only[hsz,ne_eq,not_true_eq_false,decide_false,Bool.false_or,gt_iff_lt,decide_eq_true_eq];rw[if_neg m0];exact f1
   ·cases h
theorem run_places:∀ (fs:List Field),(∀ f∈fs,(en P f.type).isSome)->(fs.mapM (fun f=>(do pure (f.offset,<- sizeOf f.type):Sem (Nat×Nat)))).run P w = .ok (fs.map fun f=>(f.offset,(en P f.type).getD 0)) w
 |[],_=>rfl
 |f::fs,h=>by
  obtain⟨n,hn⟩:=ana.1 (h f m5);have ih:=run_places fs fun g hg=>h g (amU _ hg)
  rw[List.mapM_cons];simp only[Sem.run_bind,Sem.run_pure,run_sizeOf hn,Result.andThen_ok];rw[ih];simp[hn]
theorem x8 (hti:TIok P ti){t:TypeId}{ps:List (Nat×Option AV)}{us:Array (Nat×Value)}{zs r:List SV}{φ:Prop}(hb:bok ti t=true)(hz:zeroOf P t=some (.agg zs))(hl:us.size=ps.length)
  (hr:∀ (j:Nat) p q,ps[j]?=some p->us[j]?=some q->p.1=q.1 /\ ∀ v,p.2=some v->v.rep R γ L q.2) (h:kq ti t zs ps=some (r,φ)) (hφ:φ) :
  ∃ u,(Instr.build t us).run P w = .ok u w/\(AV.agg r).rep R γ L u:=by
 have hzero:∃ z,(zeroValue t).run P w = .ok z w/\Cf R γ L zs z.cells:=by
  unfold zeroOf at hz
  cases hi:P.info? t with
  |none=>simp[hi]at hz
  |some i =>
   simp only[hi,amv]at hz
   cases hzz:i.zero with
   |none=>simp[hzz]at hz
   |some z =>
    simp only[hzz,amv]at hz;refine⟨z,by simp[zeroValue,typeInfo,program,Sem.run,hi,hzz],?_⟩;have:=AV.ofVal_rep (R:=R) (γ:=γ) (L:=L) hz;exact cells_rep this rfl
 obtain⟨z,hz1,hz2⟩:=hzero;by_cases harr:∃ n e,ti.kind t=some (.array n e)
 ·obtain⟨n,e,hk⟩:=harr
  have hu:=hti.kind _ _ hk;unfold bok at hb;rw[hk]at hb;obtain⟨k,hse⟩:=ana.1 hb;obtain⟨cells',f1,f2⟩:=Am hti (t:=t) (place:=fun i=>some (i*k,k)) (by
   intro i o ty hf m hm;unfold vK at hf;rw[hk]at hf;simp only[hse,Option.map_some,Option.some.injEq,Prod.mk.injEq]at hf;obtain⟨rfl,rfl⟩:=hf;have:=hti.size _ _ hse;rw[hm]at this;rw[am3 this]) ps us.toList zs z.cells r φ (by simpa using hl) (fun j p q hp hq=>hr j p q hp (by simpa using hq)) hz2 h hφ
  refine⟨.agg cells',?_,cells',rfl,f2.1,f2.2⟩;unfold Instr.build;simp only[Sem.run_bind,hz1,Result.andThen_ok,underlying,program,Sem.run,hu,Sem.run_pure];have hsz:=run_sizeOf (P:=P) (w:=w) (hti.size _ _ hse);rw[hsz];simp only[Result.andThen_ok];rw[f1];simp
 have hne:∀ i,vK ti t i=ti.field t i:=by
  intro i;unfold vK;split
  ·rename_i n e hk;exact absurd ⟨n,e,hk⟩ harr
  ·rfl
 have ht:xy P t=true:=by
  refine hti.struct _ ?_;unfold bok at hb;split at hb
  ·rename_i n e hk;exact absurd ⟨n,e,hk⟩ harr
  ·exact hb
 obtain⟨fs,hu,ht⟩:∃ fs,P.underlying t=some (.struct fs)/\(fs.all fun f=>(en P f.type).isSome)=true:=by
  unfold xy at ht;split at ht
  ·rename_i fs hu;exact⟨fs,hu,ht⟩
  ·cases ht
 have hall:∀ f∈fs.toList,(en P f.type).isSome:=by
  intro f hf;have:=Array.all_eq_true'.1 ht f (by simpa using hf);exact this
 have hpl:=run_places (P:=P) (w:=w) fs.toList hall;obtain⟨cells',f1,f2⟩:=Am hti (t:=t) (place:=fun i=>(fs.toList.map fun f=>(f.offset,(en P f.type).getD 0)).toArray[i]?) (by
  intro i o ty hf n hn;rw[hne]at hf;obtain⟨fs',fd,e1,e2,e3,e4⟩:=oR (hti.field _ _ _ hf);rw[hu]at e1;injection e1 with e1;injection e1 with e1;subst e1
  subst e3 e4;simp[e2,hn]) ps us.toList zs z.cells r φ (by simpa using hl) (fun j p q hp hq=>hr j p q hp (by simpa using hq)) hz2 h hφ
 refine⟨.agg cells',?_,cells',rfl,f2.1,f2.2⟩;have hm:(fs.mapM (fun f=>(do pure (f.offset,<- sizeOf f.type):Sem (Nat×Nat)))).run P w = .ok (fs.toList.map fun f=>(f.offset,(en P f.type).getD 0)).toArray w:=by
  rw[Array.mapM_eq_mapM_toList];simp only[Sem.run_map,hpl,Result.andThen_ok]
 unfold Instr.build;simp only[Sem.run_bind,hz1,Result.andThen_ok,underlying,program,Sem.run,hu,Sem.run_pure];rw[hm];simp only[Result.andThen_ok];rw[f1];simp
end
section
variable {P:Program} {ti:TI} {B:Nat->Prop} {R:PH} {γ:List Gh} {L:List Ob} {w:World}
theorem A8 {ρ:Operand->Option AV}{a:Act}(hρ:∀ x v,ρ x=some v->v.rep R γ L (a.eval x)):∀ {xs:List Operand} {cs:List AC},BD (xs.map ρ)=some cs ->
  xs.length=cs.length /\ ∀ (j:Nat) x y,xs[j]?=some x->cs[j]?=some y->bg R (a.eval x) y
 |[],cs,h=>by injection h with h;subst h;exact⟨rfl,fun j x y hx=>by simp at hx⟩
 |x::xs,cs,h=>by
  rw[amH]at h;unfold BD at h;split at h
  ·rename_i heq;cases heq
  ·rename_i y rest heq
   injection heq with e1 e2
   subst e2;split at h
   ·rename_i z zs hz hzs
    injection h with h;subst h
    obtain⟨g1,g2⟩:=A8 hρ hzs;refine⟨by simp[g1],fun j x' y' hx hy=>?_⟩
    cases j with
    |zero=>simp at hx hy;subst hx hy;exact SV.norm_rep (hρ _ _ e1) hz
    |succ j=>exact g2 j x' y' (by simpa using hx) (by simpa using hy)
   ·cases h
  ·cases h
theorem adz {ρ:Operand->Option AV}{args:Array Operand}{x y:AV}(h:args.toList.map ρ=[some x,some y]):∃ a b,args=#[a,b]/\ρ a=some x/\ρ b=some y:=by
 obtain⟨l⟩:=args
 match l,h with
 |[],h=>cases h
 |[a],h=>simp at h
 |[a,b],h=>simp only[amH,amL,List.cons.injEq,and_true]at h;exact⟨a,b,rfl,h⟩
 |a::b::c::l,h=>simp at h
theorem aaF (hti:TIok P ti)(hi:Inv B R γ L w){a:Act}{ρ:Operand->Option AV}(hρ:∀ x v,ρ x=some v->v.rep R γ L (a.eval x)){o:Oper}{v:AV}{φ:Prop}(h:pop ti ρ L o.op=some (v,φ))(hφ:φ) :
  qy P B R γ L w (execOp a.eval o) v:=by
 obtain⟨dst,op,type,pos,after,guard⟩:=o;simp only at h;unfold pop at h;split at h
 ·rename_i x
  split at h
  case h_2=>cases h
  ·rename_i vx hx
   injection h with h;injection h with e1 e2;subst e1
   exact⟨a.eval x,w,R,by simp[execOp],hi,Ext.refl _ _ _,hρ _ _ hx⟩
 ·rename_i x
  split at h
  case h_2=>cases h
  ·rename_i vx hx
   injection h with h;injection h with e1 e2;subst e1
   exact⟨a.eval x,w,R,by simp[execOp],hi,Ext.refl _ _ _,hρ _ _ hx⟩
 ·rename_i c x y
  split at h
  ·rename_i t va vb hc hx hy
   injection h with h;injection h with e1 e2;subst e1
   have h1:=hρ _ _ hc;generalize hcv:a.eval c=cv at h1
   cases h1;refine⟨if t=true then a.eval x else a.eval y,w,R,?_,hi,Ext.refl _ _ _,?_⟩
   ·simp[execOp,hcv,asBool]
   ·cases t
    ·simpa using hρ _ _ hy
    ·simpa using hρ _ _ hx
  ·cases h
 ·rename_i op' t x y yt
  split at h
  ·rename_i va vb hx hy
   obtain⟨u,h1,h2⟩:=FM (P:=P) (x:=x) (y:=y) hti hi (hρ _ _ hx) (hρ _ _ hy) h hφ;have:=qy.quiet (P:=P) (v:=v) hi h1 h2;simpa[execOp]using this
  ·cases h
 ·rename_i op' t x
  split at h
  ·rename_i b hx
   injection h with h;injection h with e1 e2;subst e1
   have h1:=hρ _ _ hx;generalize hcv:a.eval x=cv at h1
   cases h1;exact⟨.bool (!b),w,R,by simp[execOp,hcv,Op.unary],hi,Ext.refl _ _ _,.bool _⟩
  ·rename_i k n hx
   injection h with h;injection h with e1 e2;subst e1
   have h1:=hρ _ _ hx;generalize hcv:a.eval x=cv at h1
   cases h1;exact⟨.int k (k.wrap (0-n)),w,R,by simp[execOp,hcv,Op.unary,Op.intArith],hi,Ext.refl _ _ _,.int _ _⟩
  ·cases h
 ·rename_i src ds x
  split at h
  ·rename_i k n hx
   have h1:=hρ _ _ hx;generalize hcv:a.eval x=cv at h1
   cases h1;split at h
   ·rename_i k' hd
    injection h with h;injection h with e1 e2;subst e1 e2
    obtain⟨d,hd2⟩:=ana.1 hφ;exact⟨.int k' (k'.wrap n),w,R,by simp[execOp,hcv,convert,underlying,program,Sem.run,hti.kind _ _ hd,hti.kind _ _ hd2,Conv.intToInt],hi,Ext.refl _ _ _,.int _ _⟩
   ·cases h
  ·rename_i s hx
   have h1:=hρ _ _ hx;generalize hcv:a.eval x=cv at h1
   cases h1;injection h with h;injection h with e1 e2;subst e1 e2
   obtain⟨hd,hs⟩:=hφ;obtain⟨d,hd2⟩:=ana.1 hs;exact⟨.string s,w,R,by simp[execOp,hcv,convert,underlying,program,Sem.run,hti.kind _ _ hd,hti.kind _ _ hd2],hi,Ext.refl _ _ _,.str _⟩
  ·cases h
 ·rename_i t p
  cases hx:ρ p with
  |none=>simp[hx]at h
  |some vx =>
   rw[hx]at h;obtain⟨u,h1,h2⟩:=lM hti hi (hρ _ _ hx) h hφ;exact qy.quiet hi h1 h2
 ·rename_i s x i
  split at h
  ·rename_i id ver i0 off hx
   obtain⟨u,h1,h2⟩:=tI hti (w:=w) (hρ _ _ hx) h hφ;exact qy.quiet hi h1 h2
  case h_3=>cases h
  ·rename_i vx hne hx
   obtain⟨u,h1,h2⟩:=sr hti (w:=w) (hρ _ _ hx) h hφ;exact qy.quiet hi h1 h2
 ·rename_i s x i
  cases hx:ρ x with
  |none=>simp[hx]at h
  |some vx =>
   rw[hx]at h;obtain⟨u,h1,h2⟩:=Bh hti (w:=w) (hρ _ _ hx) h hφ;exact qy.quiet hi h1 h2
 ·rename_i t x ix
  split at h
  ·rename_i id ver lo n vi hx hy
   obtain⟨u,h1,h2⟩:=ut hti hi (hρ _ _ hx) (hρ _ _ hy) h hφ;exact qy.quiet hi h1 h2
  ·rename_i vx vi hne hx hy
   obtain⟨u,h1,h2⟩:=sS hti (w:=w) (hρ _ _ hx) (hρ _ _ hy) h hφ;exact qy.quiet hi h1 h2
  ·cases h
 ·rename_i t x ix
  split at h
  ·rename_i vx vi hx hy
   obtain⟨u,h1,h2⟩:=yr hti (w:=w) (hρ _ _ hx) (hρ _ _ hy) h hφ;exact qy.quiet hi h1 h2
  ·cases h
 ·rename_i t i
  split at h
  ·rename_i ps hx
   split at h
   case h_2=>cases h
   ·rename_i p hp
    injection h with h;injection h with e1 e2;subst e1
    obtain⟨vs,h1,h2,h3⟩:=hρ _ _ hx;have hlt:i<vs.size:=by rw[h2];exact(amw.1 hp).1
    have hu:vs[i]?=some vs[i]:=amV hlt;exact⟨vs[i],w,R,by simp[execOp,h1,Instr.extract,hu],hi,Ext.refl _ _ _,PV.av_rep (h3 i _ p hu hp)⟩
  ·rename_i ps hx
   split at h
   case h_2=>cases h
   ·rename_i p hp
    injection h with h;injection h with e1 e2;subst e1
    obtain⟨vs,h1,h2,h3⟩:=hρ _ _ hx;have hlt:i<vs.size:=by rw[h2];exact(amw.1 hp).1
    have hu:vs[i]?=some vs[i]:=amV hlt;exact⟨vs[i],w,R,by simp[execOp,h1,Instr.extract,hu],hi,Ext.refl _ _ _,h3 i _ p hu hp⟩
  ·cases h
 ·rename_i x
  split at h
  ·rename_i cs hx
   injection h with h;injection h with e1 e2;subst e1
   have h1:=hρ _ _ hx;have h1':=h1;generalize hcv:a.eval x=cv at h1
   cases h1;exact⟨_,w,R,by simp[execOp,hcv];rfl,hi,Ext.refl _ _ _,by rw[<- hcv];exact h1'⟩
  ·rename_i id off hx
   injection h with h;injection h with e1 e2;subst e1
   obtain⟨b,h1,h2⟩:=hρ _ _ hx;exact⟨.pointer (some ⟨b,off,none⟩),w,R,by simp[execOp,h1],hi,Ext.refl _ _ _,b,rfl,h2⟩
  ·rename_i id ver i o hx
   split at h
   case h_2=>cases h
   rename_i ver' es k hL;injection h with h;injection h with e1 e2;subst e1 e2
   subst hφ;have h1:=hρ _ _ hx;obtain⟨_,g,_,hat⟩:=(h1.2.2 _ es k hL).2 rfl
   match g,hat with
   |.arr b c,hat =>
    have hat:a.eval x = .pointer (some ⟨b,i*k+o,none⟩):=hat;exact⟨_,w,R,by simp[execOp,hat];rfl,hi,Ext.refl _ _ _,by rw[<- hat];exact h1⟩
  ·rename_i f cs hx
   injection h with h;injection h with e1 e2;subst e1
   have h1:=hρ _ _ hx;obtain⟨vs,hv,_⟩:=id h1;exact⟨_,w,R,by simp[execOp,hv];rfl,hi,Ext.refl _ _ _,by rw[<- hv];exact h1⟩
  ·rename_i f cs hx
   injection h with h;injection h with e1 e2;subst e1
   have h1:=hρ _ _ hx;have h1':=h1;generalize hcv:a.eval x=cv at h1
   cases h1;exact⟨_,w,R,by simp[execOp,hcv];rfl,hi,Ext.refl _ _ _,by rw[<- hcv];exact h1'⟩
  ·cases h
 ·rename_i t x lo hi'
  split at h
  ·rename_i vx hx hl hh
   obtain rfl:lo=none:=by cases lo<;>simp at hl ⊢
   obtain rfl:hi'=none:=by cases hi'<;>simp at hh ⊢
   obtain⟨u,h1,h2⟩:=gF hti hi (lo:=none) (hi:=none) (vlo:=none) (vhi:=none) (hρ _ _ hx) trivial trivial h hφ;exact qy.quiet hi h1 h2
  ·rename_i vx l hx hl hh
   obtain⟨lo',rfl⟩:∃ l',lo=some l':=by cases lo<;>simp at hl ⊢
   obtain rfl:hi'=none:=by cases hi'<;>simp at hh ⊢
   simp only[Option.map_some,Option.some.injEq]at hl;obtain⟨u,h1,h2⟩:=gF hti hi (lo:=some l) (hi:=none) (vlo:=some (a.eval lo')) (vhi:=none) (hρ _ _ hx) (hρ _ _ hl) trivial h hφ;exact qy.quiet hi h1 h2
  ·rename_i vx l hx hl hh
   obtain rfl:lo=none:=by cases lo<;>simp at hl ⊢
   obtain⟨hi'',rfl⟩:∃ l',hi'=some l':=by cases hi'<;>simp at hh ⊢
   simp only[Option.map_some,Option.some.injEq]at hh;obtain⟨u,h1,h2⟩:=gF hti hi (lo:=none) (hi:=some l) (vlo:=none) (vhi:=some (a.eval hi'')) (hρ _ _ hx) trivial (hρ _ _ hh) h hφ;exact qy.quiet hi h1 h2
  ·rename_i vx l l2 hx hl hh
   obtain⟨lo',rfl⟩:∃ l',lo=some l':=by cases lo<;>simp at hl ⊢
   obtain⟨hi'',rfl⟩:∃ l',hi'=some l':=by cases hi'<;>simp at hh ⊢
   simp only[Option.map_some,Option.some.injEq]at hl hh;obtain⟨u,h1,h2⟩:=gF hti hi (lo:=some l) (hi:=some l2) (vlo:=some (a.eval lo')) (vhi:=some (a.eval hi'')) (hρ _ _ hx) (hρ _ _ hl) (hρ _ _ hh) h hφ;exact qy.quiet hi h1 h2
  ·cases h
 ·rename_i args argTypes
  split at h
  ·rename_i x t hx ht
   have e1:args=#[x]:=by cases args;simp_all
   have e2:argTypes=#[t]:=by cases argTypes;simp_all
   subst e1 e2;split at h
   ·rename_i id ver lo n hρx
    obtain⟨u,h1,h2⟩:=xl hti (w:=w) (ty:=type) (hρ _ _ hρx) h hφ;refine⟨u,w,R,?_,hi,Ext.refl _ _ _,h2⟩;simp[execOp,resolve,invoke,builtin,h1]
   case h_3=>cases h
   ·rename_i vx hne hρx
    obtain⟨u,h1,h2⟩:=E9 hti (w:=w) (ty:=type) (hρ _ _ hρx) h hφ;refine⟨u,w,R,?_,hi,Ext.refl _ _ _,h2⟩;simp[execOp,resolve,invoke,builtin,h1]
  ·cases h
 ·rename_i args argTypes
  split at h
  ·rename_i vx vy hxy
   obtain⟨x,y,rfl,hx2,hy2⟩:=adz hxy
   ·obtain⟨u,h1,h2⟩:=o5 (P:=P) (w:=w) (ts:=argTypes) (ty:=type) (hρ _ _ hx2) (hρ _ _ hy2) h
    refine⟨u,w,R,?_,hi,Ext.refl _ _ _,h2⟩;simp only[Bool.false_eq_true,if_false]at h1;simp[execOp,resolve,invoke,builtin,h1]
  ·cases h
 ·rename_i args argTypes
  split at h
  ·rename_i vx vy hxy
   obtain⟨x,y,rfl,hx2,hy2⟩:=adz hxy
   ·obtain⟨u,h1,h2⟩:=o5 (P:=P) (w:=w) (ts:=argTypes) (ty:=type) (hρ _ _ hx2) (hρ _ _ hy2) h
    refine⟨u,w,R,?_,hi,Ext.refl _ _ _,h2⟩;simp only[if_true]at h1;simp[execOp,resolve,invoke,builtin,h1]
  ·cases h
 ·rename_i t parts
  split at h
  ·rename_i zs hz
   split at h
   case h_2=>cases h
   ·rename_i r ψ hb
    injection h with h;injection h with e1 e2;subst e1 e2
    obtain⟨hts,hr⟩:=hφ;obtain⟨u,h1,h2⟩:=x8 hti (w:=w) (R:=R) (γ:=γ) (L:=L) (us:=parts.map fun p=>(p.1,a.eval p.2)) hts (hti.zero _ _ hz) m5 (by
     intro j p q hp hq;rw[amT]at hp;rw[Array.getElem?_map]at hq
     cases hj:parts[j]? with
     |none=>simp[hj]at hq
     |some pj =>
      have:parts.toList[j]?=some pj:=by simpa using hj
      rw[this]at hp;rw[hj]at hq;simp only[Option.map_some,Option.some.injEq]at hp hq;subst hp hq;exact⟨rfl,fun v hv=>hρ _ _ hv⟩) hb hr
    exact qy.quiet hi h1 h2
  ·cases h
 ·rename_i f first captured
  split at h
  ·rename_i cs hf hc
   injection h with h;injection h with e1 e2;subst e1
   obtain⟨g1,g2⟩:=A8 hρ hc;have:first=#[]:=by cases first;simp_all
   subst this;refine⟨.func (.func f) #[] (captured.map a.eval),w,R,by simp[execOp,Instr.makeFunc],hi,Ext.refl _ _ _,?_⟩;refine .fn f _ cs (by simpa using g1) (fun j u x hu hx=>?_);rw[Array.getElem?_map]at hu
   cases hj:captured[j]? with
   |none=>simp[hj]at hu
   |some y =>
    rw[hj]at hu;simp only[Option.map_some,Option.some.injEq]at hu;subst hu;exact g2 j y x (by simpa using hj) hx
  ·cases h
 ·cases h
end
open Go.RowKit Go.Great
def PV.cells:PV->List AC
 |.one x=>[x]
 |.agg xs=>xs
def lh (ρ:Operand->Option AV):List (Nat×Operand)->Nat->Option (List (List AC))
 |[],_=>some []
 |(i,x)::ps,j=>if i=j then match (ρ x).bind AV.norm,lh ρ ps (j+1)with
   |some p,some es=>some (p.cells::es)
   |_,_=>none
  else none
def vd (ti:TI)(ρ:Operand->Option AV)(t:TypeId)(len:Nat)(parts:List (Nat×Operand)):Option (AV×Prop) :=
 match lh ρ parts 0,ti.elem t with
 |some es,some E=>match ti.size E with
  |some k=>if len=0 then some (.one .emp,es=[])else some (.one (.c (.lst es)),es.length=len/\(∀ e∈es,e.length=k)/\0<k/\len*k<=16777216/\ti.zok E=true)
  |none=>none
 |_,_=>none
def agL (R:PHf)(b:Nat)(f:Nat->Option Value):PHf:=fun b' o=>match R b' o with
 |some u=>some u
 |none=>if b'=b then f o else none
def PH.add (R:PH)(b:Nat)(f:Nat->Option Value):PH:=⟨agL R b f,R.tab.mono fun b' o u h=>by unfold agL;rw[h]⟩
theorem PH.add_eq {R:PH}{b:Nat}{f:Nat->Option Value}(hR:∀ o,R b o=none)(b' o:Nat):(R.add b f) b' o=if b'=b then f o else R b' o:=by
 show agL R b f b' o=_;unfold agL;by_cases e:b'=b
 ·subst e;rw[hR,if_pos rfl]
 ·rw[if_neg e];cases R b' o<;>simp[e]
section
variable {P:Program} {ti:TI} {B:Nat->Prop} {R:PH} {γ:List Gh} {L:List Ob} {w:World}
theorem Inv.lt (hi:Inv B R γ L w){b o:Nat}{u:Value}(h:R b o=some u):b<w.heap.size:=lt_of_cell (hi.val _ _ _ h)
theorem Inv.none_at (hi:Inv B R γ L w)(o:Nat):R w.heap.size o=none:=by
 cases h:R w.heap.size o with
 |none=>rfl
 |some u=>have:=hi.lt h;omega
theorem xA (hi:Inv B R γ L w)(f:Nat->Option Value):PH.sub R (R.add w.heap.size f):=by
 intro b o u h;have:=hi.lt h;rw[PH.add_eq hi.none_at,if_neg m0];exact h
theorem dt (w:World)(o:Obj):(w.alloc o).heap[w.heap.size]?=some o:=by show(w.heap.push o)[w.heap.size]?=_;simp
theorem eh (w:World)(o:Obj){b:Nat}(h:b<w.heap.size):(w.alloc o).heap[b]?=w.heap[b]?:=Below.heap_alloc w o b h
theorem Kept.alloc {B:Nat->Prop}{w:World}(h:∀ b,B b->b<w.heap.size)(o:Obj):Kept B w (w.alloc o) :=
 ⟨rfl,rfl,rfl,m5,fun b hb=>eh w o (h b hb)⟩
theorem Inv.pers (hi:Inv B R γ L w)(cells:Array Value)(E:TypeId)(f:Nat->Option Value)(hf:∀ o u,f o=some u->cells[o]?=some u):Inv B (R.add w.heap.size f) γ L (w.alloc (.cells cells E)):=by
 refine⟨hi.len,fun b o u h=>?_,fun id x g hx hg=>?_,hi.inj,fun i g b hg hb=>?_,?_⟩
 ·rw[PH.add_eq hi.none_at]at h
  split at h
  ·rename_i e;subst e
   rw[cob_ (dt w _)];exact hf o u h
  ·have:=hi.lt h
   have h2:=hi.val _ _ _ h;rw[<- h2];exact World.cell?_of_block (w:=w) (eh w _ this)
 ·refine(hi.obj id x g hx hg).mv (Mv.of_sub (xA hi _)) (fun b hb=>eh w _ (hi.new id g b hg hb).2) (fun b o hb h=>?_)
  have:=(hi.new id g b hg hb).2;rw[PH.add_eq hi.none_at,if_neg m0];exact h
 ·have:=hi.new i g b hg hb
  exact⟨this.1,by simp;omega⟩
 ·intro b hb;have:=hi.bsz b hb;simp;omega
theorem Ext.pers (hi:Inv B R γ L w)(o:Obj)(f:Nat->Option Value):Ext B R (R.add w.heap.size f) w (w.alloc o):=by
 refine⟨Kept.alloc hi.bsz o,xA hi f,fun b o hb=>?_⟩;have:=hi.bsz b hb;rw[PH.add_eq hi.none_at,if_neg m0]
theorem PV.cells_rep {p:PV}{u:Value}(h:p.rep R u):u.cells.size=p.cells.length /\ ∀ (j:Nat) v x,u.cells[j]?=some v->p.cells[j]?=some x->bg R v x:=by
 cases p with
 |one x =>
  have e:=(bg.one h).1;rw[e];refine⟨rfl,fun j v y hv hy=>?_⟩
  cases j with
  |zero=>simp[PV.cells]at hv hy;subst hv hy;exact h
  |succ j=>simp at hv
 |agg xs =>
  obtain⟨vs,rfl,h1,h2⟩:=h;exact⟨h1,h2⟩
theorem wC {ρ:Operand->Option AV}{a:Act}(hρ:∀ x v,ρ x=some v->v.rep R γ L (a.eval x)):∀ (ps:List (Nat×Operand)) (j:Nat) (es:List (List AC)),lh ρ ps j=some es ->
  ∃ vs:List Value,(ps.map fun p=>(p.1,a.eval p.2))=(vs.zipIdx j).map (fun x=>(x.2,x.1))/\vs.length=es.length /\
   (∀ (i:Nat) v e,vs[i]?=some v->es[i]?=some e->v.cells.size=e.length /\ ∀ (q:Nat) u x,v.cells[q]?=some u->e[q]?=some x->bg R u x)
 |[],j,es,h=>by injection h with h;subst h;exact⟨[],rfl,rfl,fun i v e hv=>by simp at hv⟩
 |(i,x)::ps,j,es,h=>by
  unfold lh at h;split at h
  ·rename_i hij
   subst hij;split at h
   ·rename_i p es' hp hes
    injection h with h;subst h
    obtain⟨vs,h1,h2,h3⟩:=wC hρ ps (i+1) es' hes
    cases hx:ρ x with
    |none=>simp[hx]at hp
    |some vx =>
     simp only[hx,amv]at hp;have hr:=PV.cells_rep (AV.norm_rep (hρ _ _ hx) hp);refine⟨a.eval x::vs,by simp[List.zipIdx_cons,h1],by simp[h2],fun q v e hv he=>?_⟩
     cases q with
     |zero=>simp at hv he;subst hv he;exact hr
     |succ q=>exact h3 q v e (by simpa using hv) (by simpa using he)
   ·cases h
  ·cases h
theorem flat_get (k:Nat):∀ (vs:List Value),(∀ v∈vs,v.cells.size=k) ->∀ (i:Nat) (v:Value),vs[i]?=some v ->∀ j,j<k->(vs.flatMap fun v=>v.cells.toList)[i*k+j]?=v.cells[j]?
 |[],_,i,v,h,j,hj=>by simp at h
 |y::l,hk,0,v,h,j,hj=>by
  simp at h;subst h;rw[am8,amK (by simp;rw[hk y m5];omega)];simp
 |y::l,hk,i+1,v,h,j,hj=>by
  have h':l[i]?=some v:=by simpa using h
  have hy:=hk y m5;rw[am8,amD (by simp;rw[hy,Nat.succ_mul];omega),<- flat_get k l (fun u hu=>hk u (amU _ hu)) i v h' j hj];congr 1;simp;rw[hy,Nat.succ_mul];omega
theorem flat_len (k:Nat):∀ (vs:List Value),(∀ v∈vs,v.cells.size=k)->(vs.flatMap fun v=>v.cells.toList).length=vs.length*k
 |[],_=>by simp
 |y::l,hk=>by
  rw[am8,amE,flat_len k l fun u hu=>hk u (amU _ hu),amS,Nat.succ_mul];simp;rw[hk y m5];omega
theorem G2 (hti:TIok P ti)(hi:Inv B R γ L w){a:Act}{ρ:Operand->Option AV}(hρ:∀ x v,ρ x=some v->v.rep R γ L (a.eval x)){t:TypeId}{len:Nat}{parts:Array (Nat×Operand)}{v:AV}{φ:Prop}
  (h:vd ti ρ t len parts.toList=some (v,φ)) (hφ:φ) :
  ∃ u w' R',(Instr.buildSlice t len (parts.map fun p=>(p.1,a.eval p.2))).run P w = .ok u w'/\Inv B R' γ L w'/\Ext B R R' w w'/\v.rep R' γ L u:=by
 unfold vd at h;split at h
 ·rename_i es E hes hE
  split at h
  ·rename_i k hk
   have hE:=hti.elem _ _ hE;have hk:=hti.size _ _ hk;have hu:P.underlying t=some (.slice E):=by
    unfold nu at hE;split at hE
    ·rename_i e he;injection hE with hE;subst hE;exact he
    ·cases hE
   obtain⟨vs,e1,e2,e3⟩:=wC hρ _ _ _ hes;have hparts:(parts.map fun p=>(p.1,a.eval p.2)).toList=(vs.zipIdx 0).map fun x=>(x.2,x.1):=by rw[Array.toList_map,e1]
   split at h
   ·rename_i hl0
    injection h with h;injection h with g1 g2;subst g1 g2
    subst hl0;have hvs:vs=[]:=amW (by rw[e2,hφ];rfl);subst hvs;refine⟨.slice (some ⟨w.heap.size,0,none⟩) 0 0,w.alloc (.cells #[] E),R.add w.heap.size (fun _=>none),?_,hi.pers _ _ _ (fun o u h=>by cases h),Ext.pers hi _ _,_,rfl⟩;have hz:(sizeOf E).run P w = .ok k w:=run_sizeOf hk;have hp0:parts=#[]:=by
     have:parts.toList=[]:=by simpa using e1
     cases parts;simp_all
    subst hp0;simp[Instr.buildSlice,underlying,program,Sem.run,hu,hz,Instr.fill,newRow];have e0:(Array.map (fun(_:Nat)=>(default:Value)) (Array.range 0))=#[]:=by simp
    rw[e0]
   ·rename_i hl0
    injection h with h;injection h with g1 g2;subst g1 g2
    obtain⟨hlen,hek,hk0,hsm,hzk⟩:=hφ;obtain⟨i,z,hi1,hi2,hi3,hi4⟩:=hti.zok _ hzk _ hk;have hcs:∀ v∈vs,v.cells.size=k:=by
     intro v hv;obtain⟨q,hq⟩:=List.mem_iff_getElem?.1 hv;have hlt:q<es.length:=by rw[<- e2];exact(amw.1 hq).1
     have he:es[q]?=some es[q]:=amF hlt;rw[(e3 q v _ hq he).1];exact hek _ (List.getElem_mem hlt)
    have hne:¬ len*i.size=0:=by
     rw[hi3];intro e;rcases Nat.mul_eq_zero.1 e with e|e<;>omega
    have hrun:=run_buildSlice (P:=P) w t E len (parts.map fun p=>(p.1,a.eval p.2)) (vs.flatMap fun v=>v.cells.toList).toArray i z hu hi1 hi2 (by rw[hi3];omega) hne (by
     rw[hparts,hi3];exact Go.Great.fill_whole hk0 vs _ hcs (by simp;rw[e2,hlen]))
    refine⟨_,_,R.add w.heap.size (fun o=>(vs.flatMap fun v=>v.cells.toList).toArray[o]?),hrun,hi.pers _ _ _ (fun o u h=>h),Ext.pers hi _ _,?_⟩;have hsub:=xA hi (fun o=>(vs.flatMap fun v=>v.cells.toList).toArray[o]?);refine .lst _ len len es k (fun j=>((vs.flatMap fun v=>v.cells.toList)[j]?).getD Go.undef) w.heap.size 0 hlen (amM _) hek (fun _=>rfl) (fun j hj=>?_) (fun q e j x he hx=>?_)
    ·rw[PH.add_eq hi.none_at,if_pos rfl]
     have:j<(vs.flatMap fun v=>v.cells.toList).length:=by rw[flat_len k vs hcs,e2,hlen];exact hj
     simp[amF this]
    ·have hqlt:q<vs.length:=by rw[e2];exact(amw.1 he).1
     have hv:vs[q]?=some vs[q]:=amF hqlt;have hjk:j<k:=by rw[<- hek e (amC he)];exact(amw.1 hx).1
     have h3:=e3 q _ e hv he;rw[flat_get k vs hcs q _ hv j hjk];have hju:j<vs[q].cells.size:=by rw[h3.1];exact(amw.1 hx).1
     rw[amV hju];exact bg.mono hsub (h3.2 j _ x (amV hju) hx)
  ·cases h
 ·cases h
end
def pA (ti:TI)(L:List Ob)(t tx:TypeId)(s x:AV):Option (AV×List Ob×Prop) :=
 match df x,ti.elem t with
 |some xs,some E=>match ti.size E,ti.bytes E with
  |some k,some by_=>match s with
   |.one .emp=>some (.one (.own xs L.length),L++[.spare xs.length k],(ti.elem tx).isSome/\0<k/\ti.zok E=true/\(∀ e∈xs,e.length=k)/\xs.length*by_<=140737488355328/\xs.length<=140737488355328)
   |.one (.own es i)=>match L[i]? with
    |some (.spare n k')=>some (.one (.own (es++xs) i),L.set i (.spare (n+xs.length) k),(ti.elem tx).isSome/\k'=k/\es.length=n/\(ti.zok E=true/\0<k)/\(∀ e∈xs,e.length=k)/\(n+xs.length)*by_<=140737488355328/\n+xs.length<=140737488355328)
    |_=>none
   |_=>none
  |_,_=>none
 |_,_=>none
def xj (ti:TI)(ρ:Operand->Option AV)(L:List Ob):Op->Option (AV×List Ob×Prop)
 |.alloc E=>match (ti.zero E).bind AV.cells with
  |some zs=>some (.one (.ptr L.length 0),L++[.box zs],True)
  |none=>none
 |.box _ x=>match (ρ x).bind AV.cells with
  |some xs=>some (.one (.ptr L.length 0),L++[.box xs],True)
  |none=>none
 |.store t p x=>match ρ p,(ρ x).bind AV.cells with
  |some (.one (.ptr id off)),some xs=>match L[id]? with
   |some (.box cs)=>some (.undef,L.set id (.box (splice cs off xs)),off+xs.length<=cs.length/\ti.size t=some xs.length)
   |_=>none
  |some (.one (.ep id ver i o)),some xs=>match L[id]? with
   |some (.row ver' es k)=>match es[i]? with
    |some e=>some (.undef,L.set id (.row ver' (es.set i (splice e o xs)) k),ver=ver'/\o+xs.length<=e.length/\ti.size t=some xs.length)
    |none=>none
   |_=>none
  |_,_=>none
 |.call { callee := .builtin .append,args,argTypes } =>match args.toList,argTypes.toList with
  |[s,x],[t,tx]=>match ρ s,ρ x with
   |some vs,some vx=>pA ti L t tx vs vx
   |_,_=>none
  |_,_=>none
 |_=>none
def adp (P:Program)(B:Nat->Prop)(R:PH)(γ:List Gh)(L L':List Ob)(w:World)(s:Sem Next)(v:AV):Prop :=
 ∃ w' R' γ',(((∃ u,s.run P w = .ok (.value u) w'/\v.rep R' γ' L' u)\/(s.run P w = .ok .skip w'/\v = .undef)))/\Inv B R' γ' L' w'/\Ext B R R' w w'/\Mv R R' γ γ' L L'
section
variable {P:Program} {B:Nat->Prop} {R:PH} {γ:List Gh} {L:List Ob} {w:World}
theorem Mv.push (g:Gh)(x:Ob)(hl:γ.length=L.length):Mv R R γ (γ++[g]) L (L++[x]):=by
 refine⟨PH.sub_refl _,m5,fun t n k hlt h=>⟨n,?_,amM _,fun _=>?_⟩,fun t ver es k hlt h=>⟨ver,es,?_,amM _,fun _=>⟨rfl,?_⟩⟩,fun id b h=>?_⟩
 ·rw[amK hlt]at h;exact h
 ·rw[amK (by rw[hl];exact hlt)]
 ·rw[amK hlt]at h;exact h
 ·rw[amK (by rw[hl];exact hlt)]
 ·rw[amK (amw.1 h).1];exact h
theorem Inv.push (hi:Inv B R γ L w)(x:Ob)(g:Gh)(o:Obj)(hg:g.block=some w.heap.size)(hx:jM R (γ++[g]) (L++[x]) (w.alloc o) x g):Inv B R (γ++[g]) (L++[x]) (w.alloc o):=by
 refine⟨by simp[hi.len],fun b o' u h=>?_,fun id y h hy hh=>?_,fun i j gi gj h1 h2 hne b hb=>?_,fun i h b hh hb=>?_,?_⟩
 ·have:=hi.lt h
  rw[<- hi.val _ _ _ h];exact World.cell?_of_block (w:=w) (eh w _ this)
 ·by_cases hid:id<L.length
  ·rw[amK hid]at hy
   rw[amK (by rw[hi.len];exact hid)]at hh;exact(hi.obj id y h hy hh).mv (Mv.push g x hi.len) (fun b hb=>eh w _ (hi.new id h b hh hb).2) (fun _ _ _ h=>h)
  ·have hid':id=L.length:=by have:=(amw.1 hy).1;simp at this;omega
   subst hid';rw[amD m0]at hy;rw[amD (by rw[hi.len];omega),hi.len]at hh;simp at hy hh;subst hy hh;exact hx
 ·have bnd:∀ i h,(γ++[g])[i]?=some h->(i<γ.length/\γ[i]?=some h)\/(i=γ.length/\h=g):=by
   intro i h hh;by_cases hid:i<γ.length
   ·rw[amK hid]at hh;exact .inl ⟨hid,hh⟩
   ·have:i=γ.length:=by have:=(amw.1 hh).1;simp at this;omega
    subst this;rw[amD m0]at hh;simp at hh;exact .inr ⟨rfl,hh.symm⟩
  rcases bnd i gi h1 with⟨a1,a2⟩|⟨a1,a2⟩<;>rcases bnd j gj h2 with⟨b1,b2⟩|⟨b1,b2⟩
  ·exact hi.inj i j gi gj a2 b2 hne b hb
  ·subst b2;have:=(hi.new i gi b a2 hb).2;rw[hg];intro e;injection e with e;omega
  ·subst a2;rw[hg]at hb;injection hb with hb;subst hb
   intro e;have:=(hi.new j gj _ b2 e).2;omega
  ·omega
 ·by_cases hid:i<γ.length
  ·rw[amK hid]at hh
   have:=hi.new i h b hh hb;exact⟨this.1,by simp;omega⟩
  ·have:i=γ.length:=by have:=(amw.1 hh).1;simp at this;omega
   subst this;rw[amD m0]at hh;simp at hh;subst hh;rw[hg]at hb;injection hb with hb;subst hb
   exact⟨fun hB=>by have:=hi.bsz _ hB;omega,m5⟩
 ·intro b hb;have:=hi.bsz b hb;simp;omega
theorem aa9 (hi:Inv B R γ L w){xs:List SV}{vs:Array Value}(E:TypeId)(h:Cf R γ L xs vs) :
  Inv B R (γ++[.box w.heap.size]) (L++[.box xs]) (w.alloc (.cells vs E))/\(SV.ptr L.length 0).rep R (γ++[.box w.heap.size]) (L++[.box xs]) (.pointer (some ⟨w.heap.size,0,none⟩)):=by
 refine⟨hi.push _ _ _ rfl ⟨⟨vs,E,dt w _,h.1,fun j u x hu hx=>SV.mv (Mv.push _ _ hi.len) (h.2 j u x hu hx)⟩,fun o=>hi.none_at o⟩,w.heap.size,rfl,?_⟩;rw[amD (by rw[hi.len];omega),hi.len];simp
theorem fF (b:Nat)(E:TypeId)(f:Nat×Nat):∀ (vs:List Value) (o:Nat) (w:World) (cs:Array Value),w.heap[b]?=some (.cells cs E f)->o+vs.length<=cs.size ->
  ∃ cs',(w.setCells b o vs).heap[b]?=some (.cells cs' E f)/\cs'.size=cs.size /\ ∀ i,cs'[i]?=if o<=i/\i<o+vs.length then vs[i-o]? else cs[i]?
 |[],o,w,cs,h,_=>⟨cs,h,rfl,fun i=>by rw[if_neg (by intro h;simp only[am1]at h;omega)]⟩
 |v::vs,o,w,cs,h,hl=>by
  rw[amS]at hl;have h1:(w.setCell ⟨b,o,none⟩ v).heap[b]?=some (.cells (cs.setIfInBounds o v) E f):=by
   simp[World.setCell,Array.getElem?_modify,h]
  obtain⟨cs',g1,g2,g3⟩:=fF b E f vs (o+1) _ _ h1 m8;refine⟨cs',g1,by rw[g2];simp,fun i=>?_⟩;rw[g3 i];by_cases c1:o+1<=i/\i<o+1+vs.length
  ·rw[if_pos c1,if_pos m8]
   have:i-o=(i-(o+1))+1:=m0
   rw[this,List.getElem?_cons_succ]
  ·rw[if_neg c1]
   by_cases c2:i=o
   ·subst c2
    rw[if_pos m5];rw[ano m0];simp
   ·rw[if_neg m8,ane m0]
theorem dG (b:Nat){b':Nat}(hne:b'≠b):∀ (vs:List Value) (o:Nat) (w:World),(w.setCells b o vs).heap[b']?=w.heap[b']?
 |[],_,_=>rfl
 |v::vs,o,w=>(dG b hne vs (o+1) _).trans (Below.heap_setCell w _ v b' hne)
theorem eZ (b:Nat):∀ (vs:List Value) (o:Nat) (w:World),(w.setCells b o vs).heap.size=w.heap.size
 |[],_,_=>rfl
 |v::vs,o,w=>(eZ b vs (o+1) _).trans (by simp[World.setCell])
theorem er {B:Nat->Prop}{b:Nat}(hb:¬ B b):∀ (vs:List Value) (o:Nat) (w:World),Kept B w (w.setCells b o vs)
 |[],_,_=>Kept.refl _ _
 |v::vs,o,w=>(⟨rfl,rfl,rfl,by simp[World.setCell],fun b' hb'=>Below.heap_setCell w ⟨b,o,none⟩ v b' (fun e=>hb (by have e':b'=b:=e;rw[<- e'];exact hb'))⟩:Kept B w (w.setCell ⟨b,o,none⟩ v)).trans (er hb vs (o+1) _)
theorem Inv.turn (hi:Inv B R γ L w){id:Nat}{x x':Ob}{g:Gh}{b:Nat}(hx:L[id]?=some x)(hg:γ[id]?=some g)(hb:g.block=some b){R':PH}{w':World}(hm:Mv R R' γ γ L (L.set id x'))
  (hw:∀ b',b'≠b->w'.heap[b']?=w.heap[b']?) (hs:w'.heap.size=w.heap.size) (hR:∀ b' o,b'≠b->R' b' o=R b' o) (hv:∀ o u,R' b o=some u->w'.cell? ⟨b,o,none⟩=some u)
  (hobj:jM R' γ (L.set id x') w' x' g):Inv B R' γ (L.set id x') w':=by
 refine⟨by simp[hi.len],fun b' o u h=>?_,fun i y h hy hh=>?_,hi.inj,fun i h b' hh hb'=>by rw[hs];exact hi.new i h b' hh hb',by rw[hs];exact hi.bsz⟩
 ·by_cases hbb:b'=b
  ·subst hbb;exact hv o u h
  ·rw[hR b' o hbb]at h
   rw[<- hi.val _ _ _ h];exact World.cell?_of_block (w:=w) (hw b' hbb)
 ·by_cases hid:i=id
  ·subst hid
   rw[amP (amw.1 hx).1]at hy;injection hy with hy;subst hy
   rw[hg]at hh;injection hh with hh;subst hh
   exact hobj
  ·rw[amQ (Ne.symm hid)]at hy
   have hne:∀ b',h.block=some b'->b'≠b:=fun b' hb' e=>hi.inj i id h g hh hg hid b' hb' (by rw[hb,e])
   exact(hi.obj i y h hy hh).mv hm (fun b' hb'=>hw b' (hne b' hb')) (fun b' o hb' e=>by rw[hR b' o (hne b' hb')];exact e)
theorem JC (hi:Inv B R γ L w){id off:Nat}{cs xs:List SV}{b:Nat}{u:Value}{t:TypeId}(hL:L[id]?=some (.box cs))(hg:γ[id]?=some (.box b))(hu:Cf R γ L xs u.cells)(h1:∀ c∈u.cells,c.oneCell'=true)
  (hle:off+xs.length<=cs.length) (ht:en P t=some xs.length) :
  ∃ w',(Instr.storeAt t (.pointer (some ⟨b,off,none⟩)) u).run P w = .ok () w'/\Inv B R γ (L.set id (.box (splice cs off xs))) w'/\Ext B R R w w'/\Mv R R γ γ L (L.set id (.box (splice cs off xs))):=by
 obtain⟨⟨vs,E,hb,hs,hv⟩,hR⟩:=hi.obj id _ _ hL hg;have hsz:u.cells.size=xs.length:=hu.1;have hthere:∀ j,j<u.cells.toList.length->(w.cell? ⟨b,off+0+j,none⟩).isSome=true:=by
  intro j hj;rw[cob_ hb];have:off+0+j<vs.size:=by simp at hj;omega
  rw[amV this];rfl
 have hfz:∀ j,j<u.cells.toList.length->w.frozen? ⟨b,off+0+j,none⟩=false:=by
  intro j _;simp[World.frozen?,hb]
 have hrun:=run_storeCells_cells (P:=P) b off u.cells.toList 0 w hthere hfz (fun v hv=>h1 v (by simpa using hv));obtain⟨cs',g1,g2,g3⟩:=fF b E (0,0) u.cells.toList off w vs hb m8;have hm:Mv R R γ γ L (L.set id (.box (splice cs off xs))):=by
  refine⟨PH.sub_refl _,m5,fun t' n k hlt h=>⟨n,?_,amM _,fun _=>rfl⟩,fun t' ver es k hlt h=>⟨ver,es,?_,amM _,fun _=>⟨rfl,rfl⟩⟩,fun _ _ h=>h⟩
  all_goals
   have:t'≠id:=by rintro rfl;rw[amP hlt]at h;cases h
   rw[amQ (Ne.symm this)]at h;exact h
 refine⟨w.setCells b off u.cells.toList,?_,?_,?_,hm⟩
 ·have hst:(storeVar t ⟨b,off,none⟩ u).run P w = .ok () (w.setCells b off u.cells.toList):=by
   unfold storeVar;simp[run_sizeOf ht,hsz];simpa using hrun
  simp[Instr.storeAt,Instr.sureAddr,hst]
 ·refine hi.turn hL hg rfl hm (fun b' hne=>dG b hne _ _ _) (eZ _ _ _ _) (fun _ _ _=>rfl) (fun o u h=>by rw[hR o]at h;cases h) ?_
  refine⟨⟨cs',E,g1,by rw[g2,nD hle,hs],fun j v x hv' hx=>?_⟩,hR⟩;rw[g3 j]at hv';rw[sU hle]at hx;by_cases hj:off<=j/\j<off+xs.length
  ·rw[if_pos hj]at hx
   rw[if_pos m8]at hv';exact SV.mv hm (hu.2 (j-off) v x (by simpa using hv') hx)
  ·rw[if_neg hj]at hx
   rw[if_neg m8]at hv';exact SV.mv hm (hv j v x hv' hx)
 ·refine⟨er (hi.new id _ b hg rfl).1 _ _ _,PH.sub_refl _,fun _ _ _=>rfl⟩
theorem ae4 {k i j a b:Nat}(ha:a<k)(hb:b<k)(h:i*k+a=j*k+b):i=j/\a=b:=by
 have h1:(i*k+a)%k=a:=by rw[Nat.add_comm,Nat.add_mul_mod_self_right,Nat.mod_eq_of_lt ha]
 have h2:(j*k+b)%k=b:=by rw[Nat.add_comm,Nat.add_mul_mod_self_right,Nat.mod_eq_of_lt hb]
 have hab:a=b:=by rw[<- h1,<- h2,h]
 subst hab;have:i*k=j*k:=m0
 exact⟨Nat.eq_of_mul_eq_mul_right m0 this,rfl⟩
theorem ym (hi:Inv B R γ L w){id ver i o k:Nat}{es:List (List SV)}{e xs:List SV}{u u1:Value}{t:TypeId}(hL:L[id]?=some (.row ver es k))(h1:(SV.ep id ver i o).rep R γ L u1)(he:es[i]?=some e)(hu:Cf R γ L xs u.cells)(h1c:∀ c∈u.cells,c.oneCell'=true)
  (hle:o+xs.length<=e.length) (ht:en P t=some xs.length) :
  ∃ w',(Instr.storeAt t u1 u).run P w = .ok () w'/\Inv B R γ (L.set id (.row ver (es.set i (splice e o xs)) k)) w'/\Ext B R R w w'/\Mv R R γ γ L (L.set id (.row ver (es.set i (splice e o xs)) k)):=by
 obtain⟨_,hlt,h1⟩:=h1;obtain⟨hil,g,hg,hat⟩:=(h1 _ es k hL).2 rfl;have hob:=hi.obj id _ _ hL hg
 match g,hg,hat,hob with
 |.arr b c,hg,hat,⟨⟨vs,E,⟨hb,hE65⟩,hs,hv⟩,hc,hk,hw,hR⟩ =>
  have hat:u1 = .pointer (some ⟨b,i*k+o,none⟩):=hat;subst hat;have hek:=hw e (amC he);have hlt2:i*k+k<=vs.size:=by
   rw[hs];have:(i+1)*k<=c*k:=am7 _ m0;rw[Nat.succ_mul]at this;omega
  have hsz:u.cells.size=xs.length:=hu.1;have hthere:∀ j,j<u.cells.toList.length->(w.cell? ⟨b,(i*k+o)+0+j,none⟩).isSome=true:=by
   intro j hj;rw[cob_ hb];have:(i*k+o)+0+j<vs.size:=by simp at hj;omega
   rw[amV this];rfl
  have hfz:∀ j,j<u.cells.toList.length->w.frozen? ⟨b,(i*k+o)+0+j,none⟩=false:=by
   intro j _;simp[World.frozen?,hb]
  have hrun:=run_storeCells_cells (P:=P) b (i*k+o) u.cells.toList 0 w hthere hfz (fun v hv=>h1c v (by simpa using hv));obtain⟨cs',g1,g2,g3⟩:=fF b E (0,0) u.cells.toList (i*k+o) w vs hb m8;have hm:Mv R R γ γ L (L.set id (.row ver (es.set i (splice e o xs)) k)):=by
   refine⟨PH.sub_refl _,m5,fun t' n k hlt h=>⟨n,?_,amM _,fun _=>rfl⟩,fun t' ver' es' k' hlt h=>?_,fun _ _ h=>h⟩
   ·have:t'≠id:=by rintro rfl;rw[amP hlt]at h;cases h
    rw[amQ (Ne.symm this)]at h;exact h
   ·by_cases hid:t'=id
    ·subst hid
     rw[amP hlt]at h;injection h with h;injection h with q1 q2 q3;subst q1 q2 q3
     exact⟨_,es,hL,amM _,fun _=>⟨m5,rfl⟩⟩
    ·rw[amQ (Ne.symm hid)]at h;exact⟨_,es',h,amM _,fun _=>⟨rfl,rfl⟩⟩
  refine⟨w.setCells b (i*k+o) u.cells.toList,?_,?_,?_,hm⟩
  ·have hst:(storeVar t ⟨b,i*k+o,none⟩ u).run P w = .ok () (w.setCells b (i*k+o) u.cells.toList):=by
    unfold storeVar;simp[run_sizeOf ht,hsz];simpa using hrun
   simp[Instr.storeAt,Instr.sureAddr,hst]
  ·refine hi.turn hL hg rfl hm (fun b' hne=>dG b hne _ _ _) (eZ _ _ _ _) (fun _ _ _=>rfl) (fun o u h=>by rw[hR o]at h;cases h) ?_
   refine⟨⟨cs',E,⟨g1,hE65⟩,by rw[g2,hs],fun i' e' j v x he' hv' hx=>?_⟩,by simpa using hc,hk,fun e' he'=>?_,hR⟩
   ·rw[g3]at hv'
    have hi'l:i'<es.length:=by have:=(amw.1 he').1;simpa using this
    have hjk:j<k:=by
     by_cases hii:i'=i
     ·subst hii
      rw[amP hi'l]at he';injection he' with he';subst he'
      have:=(amw.1 hx).1;rw[nD hle]at this;omega
     ·rw[amQ (Ne.symm hii)]at he'
      rw[<- hw e' (amC he')];exact(amw.1 hx).1
    by_cases hii:i'=i
    ·subst hii
     rw[amP hi'l]at he';injection he' with he';subst he'
     rw[sU hle]at hx;by_cases hj:o<=j/\j<o+xs.length
     ·rw[if_pos hj]at hx
      rw[if_pos m8]at hv';refine SV.mv hm (hu.2 (j-o) v x ?_ hx);have:i'*k+j-(i'*k+o)=j-o:=m0
      rw[this]at hv';simpa using hv'
     ·rw[if_neg hj]at hx
      rw[if_neg m8]at hv';exact SV.mv hm (hv i' e j v x he hv' hx)
    ·rw[amQ (Ne.symm hii)]at he'
     rw[if_neg]at hv'
     ·exact SV.mv hm (hv i' e' j v x he' hv' hx)
     ·intro hcc
      simp at hcc;have:=ae4 (k:=k) (i:=i') (j:=i) (a:=j) (b:=i'*k+j-i*k) hjk m0 m0;exact hii this.1
   ·rcases List.mem_or_eq_of_mem_set he' with h|h
    ·exact hw e' h
    ·rw[h,nD hle];exact hek
  ·refine⟨er (hi.new id _ b hg rfl).1 _ _ _,PH.sub_refl _,fun _ _ _=>rfl⟩
end
section
variable {P:Program} {B:Nat->Prop} {R:PH} {γ:List Gh} {L:List Ob} {w:World}
theorem oQ {i j k n:Nat}(hi:i<n)(hj:j<k):i*k+j<n*k:=by
 have:(i+1)*k<=n*k:=am7 _ hi;rw[Nat.succ_mul]at this;omega
structure Cells (R:PH)(k:Nat)(es:List (List AC))(news:List Value):Prop where
 len:news.length=es.length*k
 wide:∀ e∈es,e.length=k
 get:∀ (i:Nat) e (j:Nat) y,es[i]?=some e->e[j]?=some y ->∃ u,news[i*k+j]?=some u/\bg R u y
theorem Cells.one {k:Nat}{es:List (List AC)}{news:List Value}(h:Cells R k es news):∀ u∈news,u.oneCell'=true:=by
 intro u hu;obtain⟨q,hq⟩:=List.mem_iff_getElem?.1 hu;have hlt:=(amw.1 hq).1;rw[h.len]at hlt;have hk:0<k:=by
  rcases Nat.eq_zero_or_pos k with e|e
  ·subst e;simp at hlt
  ·exact e
 have h1:q/k<es.length:=Nat.div_lt_of_lt_mul (by rw[Nat.mul_comm];exact hlt);have h2:q%k<k:=Nat.mod_lt _ hk;have he:es[q/k]?=some es[q/k]:=amF h1;have hj:q%k<es[q/k].length:=by rw[h.wide _ (List.getElem_mem h1)];exact h2
 obtain⟨u',hu',hp⟩:=h.get _ _ (q%k) _ he (amF hj);rw[Nat.div_add_mod' q k,hq]at hu';injection hu' with hu';subst hu'
 exact hp.one.2
theorem qK {v:Value}{es:List (List AC)}{k:Nat}(h:bg R v (.lst es))(hk:∀ e∈es,e.length=k) :
  ∃ a c news,v = .slice a es.length c/\es.length<=c/\Cells R k es news/\(0<es.length ->∃ b o,a=some ⟨b,o,none⟩ /\ ∀ (j:Nat) u,news[j]?=some u->R b (o+j)=some u):=by
 cases h with
 |lst a n c _ k' cv b o hn hc hkk ha hr hx =>
  subst hn;by_cases hz:es.length=0
  ·have:es=[]:=amW hz
   subst this;exact⟨a,c,[],rfl,hc,⟨m5,m5,fun i e j y he=>by simp at he⟩,fun h=>absurd h m5⟩
  ·have hkk':k'=k:=by
    have h0:0<es.length:=m0
    rw[<- hkk es[0] (List.getElem_mem h0),hk es[0] (List.getElem_mem h0)]
   subst hkk';refine⟨a,c,(List.range (es.length*k')).map cv,rfl,hc,⟨m5,hk,fun i e j y he hy=>⟨cv (i*k'+j),?_,hx i e j y he hy⟩⟩,fun hp=>⟨b,o,ha hp,fun j u hu=>?_⟩⟩
   ·have h1:=(amw.1 he).1
    have h2:j<k':=by rw[<- hk e (amC he)];exact(amw.1 hy).1
    rw[amT,List.getElem?_range (oQ h1 h2)];rfl
   ·rw[amT]at hu
    by_cases hj:j<es.length*k'
    ·rw[List.getElem?_range hj]at hu
     injection hu with hu;subst hu
     exact hr j hj
    ·rw[anj m8]at hu;cases hu
theorem aaj {es:List (List AC)}{k:Nat}{news:List Value}(h:Cells R k es news)(b o c:Nat)(hc:es.length<=c)(hR:∀ (j:Nat) u,news[j]?=some u->R b (o+j)=some u) :
  bg R (.slice (some ⟨b,o,none⟩) es.length c) (.lst es):=by
 refine .lst _ _ _ es k (fun j=>(news[j]?).getD Go.undef) b o rfl hc h.wide (fun _=>rfl) (fun j hj=>?_) (fun i e j y he hy=>?_)
 ·have hlt:j<news.length:=by rw[h.len];exact hj
  have e:news[j]?=some news[j]:=amF hlt;rw[hR j _ e,e];rfl
 ·obtain⟨u,h1,h2⟩:=h.get i e j y he hy
  rw[h1];exact h2
theorem Cells.mono {R':PH}(hs:PH.sub R R'){es:List (List AC)}{k:Nat}{news:List Value}(h:Cells R k es news):Cells R' k es news :=
 ⟨h.len,h.wide,fun i e j y he hy=>let ⟨u,h1,h2⟩:=h.get i e j y he hy;⟨u,h1,bg.mono hs h2⟩⟩
theorem Cells.app {es xs:List (List AC)}{k:Nat}{olds news:List Value}(h:Cells R k es olds)(g:Cells R k xs news):Cells R k (es++xs) (olds++news):=by
 refine⟨by simp[h.len,g.len,Nat.add_mul],fun e he=>?_,fun i e j y he hy=>?_⟩
 ·rcases amY.1 he with he|he
  ·exact h.wide e he
  ·exact g.wide e he
 ·have hj:j<k:=by
   rw[<- show e.length=k from ?_]
   ·exact(amw.1 hy).1
   ·rcases amY.1 (amC he)with he|he
    ·exact h.wide e he
    ·exact g.wide e he
  by_cases hi:i<es.length
  ·rw[amK hi]at he
   obtain⟨u,h1,h2⟩:=h.get i e j y he hy;exact⟨u,by rw[amK (amw.1 h1).1];exact h1,h2⟩
  ·rw[amD m0]at he
   obtain⟨u,h1,h2⟩:=g.get (i-es.length) e j y he hy;refine⟨u,?_,h2⟩;have hle:es.length*k<=i*k:=am7 _ m0;rw[amD (by rw[h.len];omega),h.len];have:i*k+j-es.length*k=(i-es.length)*k+j:=by rw[Nat.sub_mul];omega
   rw[this];exact h1
theorem adk {tx E':TypeId}{k:Nat}(htx:P.underlying tx=some (.slice E'))(hi:Inv B R γ L w){x:Value}{xs:List (List AC)}(h:bg R x (.lst xs))(hk:∀ e∈xs,e.length=k) :
  ∃ news,Src P k tx x xs.length news w/\Cells R k xs news:=by
 obtain⟨a,c,news,rfl,hc,hcells,hR⟩:=qK h hk;refine⟨news,?_,hcells⟩
 cases a with
 |none =>
  have h0:xs.length=0:=by
   rcases Nat.eq_zero_or_pos xs.length with e|e
   ·exact e
   ·obtain⟨b,o,e1,_⟩:=hR e;cases e1
  have hn:news=[]:=amW (by rw[hcells.len,h0];simp);rw[h0,hn];exact Src.ofNil w htx c
 |some ad =>
  refine Src.ofSlice w htx ad xs.length c news hcells.len (fun j u hu=>?_) hcells.one;have hp:0<xs.length:=by
   rcases Nat.eq_zero_or_pos xs.length with e|e
   ·have:news=[]:=amW (by rw[hcells.len,e];simp)
    rw[this]at hu;simp at hu
   ·exact e
  obtain⟨b,o,e1,e2⟩:=hR hp;injection e1 with e1;subst e1
  rw[Addr.add_mid];exact hi.val _ _ _ (e2 j u hu)
theorem Inv.move (hi:Inv B R γ L w){i n k n' c:Nat}(hx:L[i]?=some (.spare n k))(hn:n<n')(hnc:n'<=c)(hk:0<k)(cells:Array Value)(E:TypeId)(hcs:cells.size=c*k)(f:Nat->Option Value)(hf:∀ o u,f o=some u->cells[o]?=some u)
  (hf':∀ o,n'*k<=o->f o=none) :
  Inv B (R.add w.heap.size f) (γ.set i (.arr w.heap.size c)) (L.set i (.spare n' k)) (w.drew.alloc (.cells cells E))/\Mv R (R.add w.heap.size f) γ (γ.set i (.arr w.heap.size c)) L (L.set i (.spare n' k)):=by
 have hlt:i<L.length:=(amw.1 hx).1;have hm:Mv R (R.add w.heap.size f) γ (γ.set i (.arr w.heap.size c)) L (L.set i (.spare n' k)):=by
  refine⟨xA hi f,m5,fun t m k' hlt' h=>?_,fun t ver es k' hlt' h=>?_,fun id b h=>?_⟩
  ·by_cases ht:t=i
   ·subst ht
    rw[amP hlt]at h;injection h with h;injection h with h1 h2;subst h1 h2
    exact⟨n,hx,m0,fun e=>by omega⟩
   ·rw[amQ (Ne.symm ht)]at h
    exact⟨m,h,amM _,fun _=>by rw[amQ (Ne.symm ht)]⟩
  ·by_cases ht:t=i
   ·subst ht
    rw[amP hlt]at h;injection h with h;cases h
   ·rw[amQ (Ne.symm ht)]at h
    exact⟨ver,es,h,amM _,fun _=>⟨rfl,by rw[amQ (Ne.symm ht)]⟩⟩
  ·have:id≠i:=by
    rintro rfl;have:=hi.obj id _ _ hx h;exact this
   rw[amQ (Ne.symm this)];exact h
 have gcase:∀ j h,(γ.set i (Gh.arr w.heap.size c))[j]?=some h->(j=i/\h = .arr w.heap.size c)\/(j≠i/\γ[j]?=some h):=by
  intro j h hh;by_cases hj:j=i
  ·subst hj
   rw[amP (by rw[hi.len];exact hlt)]at hh;injection hh with hh
   exact .inl ⟨rfl,hh.symm⟩
  ·rw[amQ (Ne.symm hj)]at hh
   exact .inr ⟨hj,hh⟩
 have hold:∀ b,b<w.heap.size->(w.drew.alloc (.cells cells E)).heap[b]?=w.heap[b]?:=fun b hb=>eh w.drew _ hb
 refine⟨⟨by simp[hi.len],fun b o u h=>?_,fun id y h hy hh=>?_,fun j1 j2 g1 g2 h1 h2 hne b hb=>?_,fun j h b hh hb=>?_,?_⟩,hm⟩
 ·rw[PH.add_eq hi.none_at]at h
  split at h
  ·rename_i e;subst e
   have this:(w.drew.alloc (.cells cells E)).heap[w.heap.size]?=some (.cells cells E):=dt w.drew (.cells cells E);rw[cob_ this];exact hf o u h
  ·have:=hi.lt h
   rw[<- hi.val _ _ _ h];exact World.cell?_of_block (w:=w) (hold b this)
 ·rcases gcase id h hh with⟨rfl,rfl⟩|⟨hne,hh'⟩
  ·rw[amP hlt]at hy
   injection hy with hy;subst hy
   refine⟨⟨cells,E,dt w.drew _,hcs⟩,hnc,hk,fun o ho=>?_⟩;rw[PH.add_eq hi.none_at,if_pos rfl];exact hf' o ho
  ·rw[amQ (Ne.symm hne)]at hy
   refine(hi.obj id y h hy hh').mv hm (fun b hb=>hold b (hi.new id h b hh' hb).2) (fun b o hb e=>?_);have:=(hi.new id h b hh' hb).2;rw[PH.add_eq hi.none_at,if_neg m0];exact e
 ·rcases gcase j1 g1 h1 with⟨a1,rfl⟩|⟨a1,a2⟩<;>rcases gcase j2 g2 h2 with⟨b1,rfl⟩|⟨b1,b2⟩
  ·omega
  ·simp only[Gh.block,Option.some.injEq]at hb
   subst hb;intro e;have:=(hi.new j2 g2 _ b2 e).2;omega
  ·have:=(hi.new j1 g1 b a2 hb).2
   simp only[Gh.block,ne_eq,Option.some.injEq];omega
  ·exact hi.inj j1 j2 g1 g2 a2 b2 hne b hb
 ·have e:(w.drew.alloc (.cells cells E)).heap.size=w.heap.size+1:=by show(w.heap.push _).size=_;simp
  rcases gcase j h hh with⟨_,rfl⟩|⟨_,b2⟩
  ·simp only[Gh.block,Option.some.injEq]at hb;subst hb
   exact⟨fun hB=>by have:=hi.bsz _ hB;omega,m0⟩
  ·have:=hi.new j h b b2 hb
   exact⟨this.1,m0⟩
 ·have e:(w.drew.alloc (.cells cells E)).heap.size=w.heap.size+1:=by show(w.heap.push _).size=_;simp
  intro b hb;have:=hi.bsz b hb;omega
theorem aap (hi:Inv B R γ L w){t tx ty E E':TypeId}{k by_:Nat}{es xs:List (List AC)}{i n:Nat}{v x:Value}(ht:P.underlying t=some (.slice E))(htx:P.underlying tx=some (.slice E'))(hk0:0<k)(hz:aab P E k)(hby:ko P E=some by_)
  (hL:L[i]?=some (.spare n k)) (hv:(SV.own es i).rep R γ L v) (hn:es.length=n) (hx:bg R x (.lst xs)) (hxk:∀ e∈xs,e.length=k)
  (hb1:(n+xs.length)*by_<=140737488355328) (hb2:n+xs.length<=140737488355328) :
  ∃ u w' R' γ',(Builtin.append_ #[t,tx] ty #[v,x]).run P w = .ok u w'/\Inv B R' γ' (L.set i (.spare (n+xs.length) k)) w'/\Ext B R R' w w'/\Mv R R' γ γ' L (L.set i (.spare (n+xs.length) k)) /\
   (SV.own (es++xs) i).rep R' γ' (L.set i (.spare (n+xs.length) k)) u:=by
 obtain⟨inf,z,hinf,hzz,hisz,hzc⟩:=hz;have hbytes:inf.bytes=by_:=by unfold ko at hby;rw[hinf]at hby;simpa using hby
 obtain⟨hpv,_,hall0⟩:=hv;obtain⟨_,hek,hlk⟩:=hall0 n k hL;obtain⟨g,hg,hlink⟩:=hlk hn;have hlt:i<L.length:=(amw.1 hL).1;obtain⟨news,hsrc,hnews⟩:=adk (P:=P) (k:=k) htx hi hx hxk;have hsrc':Src P inf.size tx x xs.length news w:=by rw[hisz];exact hsrc
 have hobj:=hi.obj i _ _ hL hg

 have grow:∀ (a:Option Addr) (c:Nat),v = .slice a n c->c<n+xs.length->0<k ->∃ u w' R' γ',(Builtin.append_ #[t,tx] ty #[v,x]).run P w = .ok u w'/\Inv B R' γ' (L.set i (.spare (n+xs.length) k)) w'/\Ext B R R' w w'/\Mv R R' γ γ' L (L.set i (.spare (n+xs.length) k)) /\
   (SV.own (es++xs) i).rep R' γ' (L.set i (.spare (n+xs.length) k)) u:=by
  intro a c hva hc hk;obtain⟨a',c',olds,hv',hcc,holds,hRo⟩:=qK hpv hek;rw[hva]at hv';injection hv' with q1 q2 q3
  subst q1 q3;have hpos:0<xs.length:=m0
  have hfc:(Builtin.firstCells inf.size n (.slice a n c)).run P w.drew = .ok olds.toArray w.drew:=by
   rw[hisz]
   cases a with
   |none =>
    have h0:es.length=0:=by
     rcases Nat.eq_zero_or_pos es.length with e|e
     ·exact e
     ·obtain⟨b,o,e1,_⟩:=hRo e;cases e1
    have:olds=[]:=amW (by rw[holds.len,h0];simp);rw[this];exact run_firstCells_none w.drew k n n c
   |some ad =>
    refine run_firstCells_some w.drew k n ad n c olds (by rw[holds.len,hn]) (fun j u hu=>?_);have hp:0<es.length:=by
     rcases Nat.eq_zero_or_pos es.length with e|e
     ·have:olds=[]:=amW (by rw[holds.len,e];simp)
      rw[this]at hu;simp at hu
     ·exact e
    obtain⟨b,o,e1,e2⟩:=hRo hp;injection e1 with e1;subst e1
    rw[Addr.add_mid];exact hi.val _ _ _ (e2 j u hu)
  have hrun:=run_append_grow_src (P:=P) (w:=w) t tx ty E inf z ht hinf hzz a n c olds hfc x xs.length news hsrc' hc m0 (by
   have h2:=nextslicecap_le hc;have h3:Builtin.nextslicecap (n+xs.length) c*inf.bytes<=2*(n+xs.length)*inf.bytes:=am7 _ h2;rw[hbytes]at h3 ⊢;rw[Nat.mul_assoc]at h3;omega)
  have hcap:=grownCap_ge w (n+xs.length) c E;generalize grownCap w (n+xs.length) c E=cap at hrun hcap;have hall:=holds.app hnews;have hall_len:(olds++news).length=(n+xs.length)*k:=by rw[hall.len,amE,hn]
  obtain⟨hI,hM⟩:=hi.move hL (n':=n+xs.length) (c:=cap) m0 hcap hk ((olds++news).toArray++Builtin.zeroCells z.cells (cap-(n+xs.length))) E
   (by rw[Array.size_append,size_zeroCells,hzc];simp only[List.size_toArray];rw[hall_len,<- Nat.add_mul];congr 1;omega) (fun o=>if o<(n+xs.length)*k then(olds++news)[o]? else none)
   (fun o u h=>by
    split at h
    ·rename_i hlt2
     rw[Array.getElem?_append_left (by simp only[List.size_toArray];omega)];simpa using h
    ·cases h) (fun o ho=>by rw[if_neg m0])
  refine⟨_,_,_,_,by rw[hva];exact hrun,hI,?_,hM,?_,by simpa using hlt,fun n2 k2 e2=>?_⟩
  ·exact⟨⟨rfl,rfl,rfl,by show w.heap.size<=(w.heap.push _).size;simp,fun b hb=>eh w.drew _ (hi.bsz b hb)⟩,hM.sub,fun b o hb=>by have:=hi.bsz b hb;rw[PH.add_eq hi.none_at,if_neg m0]⟩
  ·have:=aaj (R:=R.add w.heap.size (fun o=>if o<(n+xs.length)*k then(olds++news)[o]? else none)) (hall.mono hM.sub) w.heap.size 0 cap (by rw[amE,hn];exact hcap) (fun j u hu=>by
    have hj:=(amw.1 hu).1;rw[hall_len]at hj;rw[PH.add_eq hi.none_at,if_pos rfl,anb];show(if j<(n+xs.length)*k then(olds++news)[j]? else none)=some u;rw[if_pos hj];exact hu)
   rw[amE,hn]at this;exact this
  ·rw[amP hlt]at e2;injection e2 with e2;injection e2 with e3 e4;subst e3 e4
   exact⟨by simp[hn],hall.wide,fun _=>⟨.arr w.heap.size cap,amP (by rw[hi.len];exact hlt),rfl⟩⟩
 match g,hlink,hobj with
 |.none,⟨a,hva⟩,hobj =>
  have hn0:n=0:=hobj;subst hn0;by_cases hm:xs.length=0
  ·have hx0:xs=[]:=amW hm
   have he0:es=[]:=amW hn;subst hx0 he0;have hnn:news=[]:=amW (by rw[hnews.len];simp);rw[hnn]at hsrc';have hrun:=run_append_nothing (P:=P) w t tx ty E inf ht hinf a 0 0 (amM _) x hsrc';have hset:L.set i (.spare (0+([]:List (List AC)).length) k)=L:=by
    apply List.ext_getElem?;intro j;by_cases hj:j=i
    ·subst hj;rw[amP hlt,hL];rfl
    ·rw[amQ (Ne.symm hj)]
   rw[hset];exact⟨v,w,R,γ,by rw[hva];exact hrun,hi,Ext.refl _ _ _,Mv.refl,by simpa using hpv,hlt,fun n2 k2 e2=>by
    rw[hL]at e2;injection e2 with e2;injection e2 with e3 e4;subst e3 e4
    exact⟨m5,m5,fun _=>⟨.none,hg,a,hva⟩⟩⟩
  ·exact grow a 0 hva m0 hk0
 |.arr b c,hva,⟨⟨vs,E2,hb,hsz⟩,hnc,hk,hRn⟩ =>
  by_cases hroom:n+xs.length<=c
  ·have hle:(n+xs.length)*k<=c*k:=am7 _ hroom
   have hnl:news.length=xs.length*k:=hnews.len;have hadd:n*k+news.length=(n+xs.length)*k:=by rw[hnl,Nat.add_mul]
   have hrun:=run_append_room_src (P:=P) (w:=w) t tx ty E inf ht hinf b 0 n c x xs.length news hsrc' hroom
    (fun j hj=>by
     rw[hisz,cob_ hb];have:0+n*k+j<vs.size:=m0
     rw[amV this];rfl)
    (fun j hj=>by simp[World.frozen?,hb])
   rw[hisz,anb]at hrun;obtain⟨cs',g1,g2,g3⟩:=fF b E2 (0,0) news (n*k) w vs hb m0;have hsub0:∀ b' o u,R b' o=some u->(fun b' o=>if b'=b/\n*k<=o/\o<(n+xs.length)*k then news[o-n*k]? else R b' o) b' o=some u:=by
    intro b' o u h;by_cases hc2:b'=b/\n*k<=o/\o<(n+xs.length)*k
    ·exfalso
     obtain⟨rfl,h2,_⟩:=hc2;rw[hRn o h2]at h;cases h
    ·simp only[hc2,if_false];exact h
   obtain⟨R',hR'⟩:∃ R':PH,∀ b' o,R' b' o=if b'=b/\n*k<=o/\o<(n+xs.length)*k then news[o-n*k]? else R b' o:=⟨R.put _ hsub0,fun _ _=>rfl⟩
   have hsub:PH.sub R R':=fun b' o u h=>by rw[hR'];exact hsub0 b' o u h
   have hM:Mv R R' γ γ L (L.set i (.spare (n+xs.length) k)):=by
    refine⟨hsub,m5,fun t' m k' hlt' h=>?_,fun t' ver es k' hlt' h=>?_,fun _ _ h=>h⟩
    ·by_cases ht':t'=i
     ·subst ht'
      rw[amP hlt]at h;injection h with h;injection h with h1 h2;subst h1 h2
      exact⟨n,hL,m0,fun _=>rfl⟩
     ·rw[amQ (Ne.symm ht')]at h
      exact⟨m,h,amM _,fun _=>rfl⟩
    ·by_cases ht':t'=i
     ·subst ht'
      rw[amP hlt]at h;injection h with h;cases h
     ·rw[amQ (Ne.symm ht')]at h
      exact⟨ver,es,h,amM _,fun _=>⟨rfl,rfl⟩⟩
   obtain⟨a',c',olds,hv',hcc,holds,hRo⟩:=qK hpv hek;have hv2:v = .slice (some ⟨b,0,none⟩) n c:=hva;rw[hv2]at hv';injection hv' with q1 q2 q3
   subst q1 q3;refine⟨_,w.setCells b (n*k) news,_,γ,by rw[hv2];exact hrun,?_,?_,hM,?_,by simpa using hlt,fun n2 k2 e2=>?_⟩
   ·refine hi.turn hL hg rfl hM (fun b' hne=>dG b hne _ _ _) (eZ _ _ _ _) (fun b' o hne=>by rw[hR'];simp[hne]) (fun o u h=>?_) ?_
    ·rw[hR']at h
     rw[cob_ g1,g3 o];by_cases hc2:n*k<=o/\o<(n+xs.length)*k
     ·simp only[hc2,and_self,if_true]at h
      rw[if_pos m0];exact h
     ·rw[if_neg m0]
      have h':R b o=some u:=by
       have:¬ (b=b/\n*k<=o/\o<(n+xs.length)*k):=fun hh=>hc2 hh.2
       rw[if_neg this]at h;exact h
      have:=hi.val _ _ _ h';rw[cob_ hb]at this;exact this
    ·refine⟨⟨cs',E2,g1,by rw[g2];exact hsz⟩,hroom,hk,fun o ho=>?_⟩
     have hc2:¬ (b=b/\n*k<=o/\o<(n+xs.length)*k):=fun hh=>by omega
     rw[hR',if_neg hc2];exact hRn o (by rw[Nat.add_mul]at ho;omega)
   ·refine⟨er (hi.new i _ b hg rfl).1 _ _ _,hsub,fun b' o hb'=>?_⟩
    have hnB:=(hi.new i _ b hg rfl).1;have hc2:¬ (b'=b/\n*k<=o/\o<(n+xs.length)*k):=fun hh=>hnB (by rw[<- hh.1];exact hb')
    rw[hR'];simp only[hc2,if_false]
   ·have:=aaj ((holds.app hnews).mono hsub) b 0 c (by rw[amE,hn];exact hroom) (fun j u hu=>by
     rw[anb];by_cases hj:j<olds.length
     ·rw[amK hj]at hu
      have hp:0<es.length:=by
       rcases Nat.eq_zero_or_pos es.length with e|e
       ·rw[holds.len,e]at hj;simp at hj
       ·exact e
      obtain⟨b2,o2,e1,e2⟩:=hRo hp;injection e1 with e1;injection e1 with e1 e3;subst e1 e3
      have h5:=e2 j u hu;rw[anb]at h5;exact hsub _ _ _ h5
     ·rw[amD m0]at hu
      have hj2:=(amw.1 hu).1;have ho:olds.length=n*k:=by rw[holds.len,hn]
      have hc2:b=b/\n*k<=j/\j<(n+xs.length)*k:=⟨rfl,m0,m0⟩;rw[hR'];simp only[hc2,and_self,if_true];rw[<- ho];exact hu)
    rw[amE,hn]at this;exact this
   ·rw[amP hlt]at e2;injection e2 with e2;injection e2 with e3 e4;subst e3 e4
    exact⟨by simp[hn],(holds.app hnews).wide,fun _=>⟨.arr b c,hg,rfl⟩⟩
  ·exact grow _ c hva m0 hk
end
