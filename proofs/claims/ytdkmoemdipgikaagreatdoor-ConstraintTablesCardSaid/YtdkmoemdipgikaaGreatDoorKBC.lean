/- Parts. No condition. -/
import Derived.Test.YtdkmoemdipgikaaGreatDoorKBB
import Derived.Laws.OwnMore
import Derived.Scope
set_option maxHeartbeats 8000000
set_option maxRecDepth 100000
set_option linter.unusedSimpArgs false
set_option linter.unusedVariables false
namespace Go.Proofs.YtdkmoemdipgikaaGreatDoor
open IntKind (i64)
open Go.RowKit Go.MapKept
theorem N2 {P:Program}{ti:TI}{N:Nat}{ds:List (Option Tmp)}{K:Tm->List Ob->Prop}{o:Oper}{rest:List Oper}{T:Tm}{L L':List Ob}{x y:Operand}{t tx E:TypeId}{es xs:List (List AC)}{i n k by_ d:Nat}{vx:AV}(hd:o.dst=some d)(hN:Nat.blt d N=true)(hg:fD ds T o.guard=some true)
  (ho:o.op = .call { callee := .builtin .append,args :=#[x,y],argTypes :=#[t,tx] }) (hx:look T x=some (.one (.own es i))) (hy:look T y=some vx) (hl:df vx=some xs) (ht:ti.elem t=some E) (hsz:ti.size E=some k) (hb:ti.bytes E=some by_) (hL:L[i]?=some (.spare n k))
  (hφ:(ti.elem tx).isSome/\es.length=n/\(ti.zok E=true/\0<k)/\(∀ e∈xs,e.length=k)/\(n+xs.length)*by_<=140737488355328/\n+xs.length<=140737488355328) (hL':L.set i (.spare (n+xs.length) k)=L')
  (h:aB P ti N ds K rest ((d,.one (.own (es++xs) i))::T) L'):aB P ti N ds K (o::rest) T L :=
 st_lop hd hN hg (v := .one (.own (es++xs) i)) (L':=L.set i (.spare (n+xs.length) k)) (φ:=(ti.elem tx).isSome/\k=k/\es.length=n/\(ti.zok E=true/\0<k)/\(∀ e∈xs,e.length=k)/\(n+xs.length)*by_<=140737488355328/\n+xs.length<=140737488355328)
  (by rw[ho];simp[xj,hx,hy,pA,hl,ht,hsz,hb,hL]) ⟨hφ.1,rfl,hφ.2⟩ (by rw[hL'];exact h)
theorem ab3 (l:List aw)(hl:l.length<=300)(hg19:(ci l).length<=19)(h:∀ f∈l,f.row.length<=1000 /\ ∀ v∈f.row,KD v):PTz 152 [.one (.lst (l.map aA))] (.val (.one (.lst ((fy l).map bp)))):=by
 refine pa_ b9 Tryz.func152 rfl rfl Tryz.ntmps152 m5 ?_;simp only[argT,PV.av,amH,amL];obtain⟨n,hn⟩:∃ n,l.length=n:=⟨_,rfl⟩;have hml:(((l.map aA).length:Nat):Int)=n:=by simp[hn]
 repeat' (first|refine gw_ b9 a_ ?_|refine gi_ (fun hb=>?_) (fun hb=>?_)|(refine bL rfl rfl rfl rfl rfl lm ?_)|fail)
 refine cK (fun i:Nat=>[(0,.one (.c (.lst (l.map aA)))),(3,.one (.mp 0)),(4,Ia (ci (l.take i))),(11,.one (.c (.lst (l.map aA)))),(12,.one (.c (.int .i64 n))),(13,.one (.c (.int .i64 i)))]) (fun i=>Ix (ci (l.take i))) (fun i=>i<=n) (fun i=>n-i) 0 m0 (fun _ _=>amR _)
  (fm_ ⟨rfl,rfl,rfl,rfl,aM hml,rfl,t7⟩ [] rfl ⟨t7,(by cases (ci (l.take 0))<;>first|(show 0<_;simp[Ix,pQ])|skip),qf _,t7,t7,t7,t7⟩ (kI _)) ?_
 intro i hi;have hgl:=jQ (l.take i);have hgm:=Bi (l.take i);rw[anm]at hgl;by_cases hlt:i<n
 ·obtain⟨f,hx⟩:=gol_ (show i<l.length by omega)
  have hfm:=amC hx;have hN:decide ((i:Int)<n)=true:=by simp;exact hlt
  have hnx:ci (l.take (i+1))=f8 (ci (l.take i)) f:=by rw[bu hx];exact HT _ _
  have hpv:=gPV_ok (vg f.valid);have hky:=abU f.row (h f hfm).1 (h f hfm).2;have hidx:(l.map aA)[((i:Nat):Int).toNat]?=some (aA f):=aU hx;generalize ci (l.take i)=G at hgl hgm hnx;unfold f8 at hnx;obtain⟨row,lo,hi2⟩:=f;dsimp only at hnx hky hpv;have hcnt:l.length<=300:=hl
  repeat' (first|refine gw_ trivial trivial ?_|refine gi_ (fun hb=>?_) (fun hb=>?_)|fail)
  refine aw_region b9 _ rfl ?_
  repeat' (first|rw[hN]|(refine aZ rfl rfl rfl rfl rfl rfl rfl rfl hidx ?_ ?_;· exact⟨m0,rfl⟩)|refine gw_ trivial trivial ?_|refine gi_ (fun hb=>?_) (fun hb=>?_)|fail)
  refine aw_region b9 _ rfl ?_
  repeat' (first|(refine Ed rfl rfl rfl rfl rfl rfl rfl ?_)|(refine aZ rfl rfl rfl rfl rfl rfl rfl rfl hidx ?_ ?_;· exact⟨m0,rfl⟩)|refine gw_ trivial trivial ?_|refine gi_ (fun hb=>?_) (fun hb=>?_)|fail)
  refine xU (A:=Ix G) rfl (by simp only[amH,amL,aeI];simp only[unA,unS,if_true,List.drop_zero];rfl) ?_
  cases hv:az ⟨lo,hi2⟩with
  |false =>
   rw[hv,amx]at hnx;rw[hv]at hpv
   repeat' (first|rw[hN]|(refine aZ rfl rfl rfl rfl rfl rfl rfl rfl hidx ?_ ?_;· exact⟨m0,rfl⟩)|refine aF rfl rfl rfl rfl hpv rfl ?_|refine aF rfl rfl rfl rfl hky rfl ?_|refine gw_ b9 a_ ?_|refine gi_ (fun hb=>?_) (fun hb=>?_)|fail)
   exact⟨i+1,m0,m0,by rw[hnx];exact fm_ ⟨rfl,rfl,rfl,rfl,rfl,aM (aS m0 m0),t7⟩ [.dead] rfl ⟨t7,(by cases G<;>first|(show 0<_;simp[Ix,pQ])),qf _,t7,t7,t7,t7⟩ (kI _)⟩
  |true =>
   rw[hv,amy]at hnx;rw[hv]at hpv
   cases hf:eW (dm row) G with
   |some j =>
    have hjl:=zQ hf;obtain⟨g,hg⟩:=gol_ hjl;rw[hf]at hnx;dsimp only at hnx;rw[hg]at hnx;dsimp only at hnx;have hGn:G≠[]:=by intro e;rw[e]at hjl;simp at hjl
    have hgl2:=(hgm g (amC hg)).1;rw[anm]at hgl2;rw[oW hGn,pK hGn];have ej:0+((j:Nat):Int).toNat=j:=by simp
    have hgj:(d6 0 G)[0+((j:Nat):Int).toNat]?=some [.c (cl g.f.row),.own (rJ g.ps) (4+3*(0+j))]:=by rw[ej];exact Jg G 0 j g hg
    have hLl:=jX hGn;have hLj:(pQ G++[Ob.dead])[4+3*(0+j)]?=some (.spare g.ps.length 2):=by
     rw[amK m0];rw[show 4+3*(0+j)=3*j+1+1+1+1 by omega];exact ahO hg
    have hset:(pQ G++[Ob.dead]).set (4+3*(0+j)) (.spare (g.ps.length+1) 2) = .map (mO 0 G) :: .dead::xr G :: .row (170+65536*G.length) (d6 0 G) 2::(s8 (G.set j ⟨g.f,g.ps++[⟨lo,hi2⟩]⟩)++[.dead]):=by
     rw[List.set_append_left _ _ m0];have e6:g.ps.length+1=(g.ps++[(⟨lo,hi2⟩:au)]).length:=by simp
     rw[e6,show 4+3*(0+j)=3*j+1+1+1+1 by omega,<- ag0 (g.ps++[(⟨lo,hi2⟩:au)]) hg];rfl
    have hpl:(rJ g.ps).length=g.ps.length:=by simp[rJ]
    have hstr:(.map (mO 0 G) :: .dead::xr G :: .row (170+65536*G.length) (d6 0 G) 2::(s8 (G.set j ⟨g.f,g.ps++[⟨lo,hi2⟩]⟩)++[Ob.dead])).set 3 (.row (170+65536*G.length) ((d6 0 G).set (0+((j:Nat):Int).toNat) [.c (cl g.f.row),.own (rJ g.ps++[[.int .i64 lo,.int .i64 hi2]]) (4+3*(0+j))]) 2)=pQ (G.set j ⟨g.f,g.ps++[⟨lo,hi2⟩]⟩)++[.dead]:=by
     have e7:rJ g.ps++[[.int .i64 lo,.int .i64 hi2]]=rJ (g.ps++[⟨lo,hi2⟩]):=by simp[rJ,aH]
     rw[ej,e7,Hm G 0 j g _ hg];unfold pQ;rw[agp _ hg,ahN hg,List.length_set];rfl
    have hG2:G.set j ⟨g.f,g.ps++[⟨lo,hi2⟩]⟩≠[]:=by intro e;have:=congrArg List.length e;simp at this;exact hGn this
    repeat' (first|(refine kn rfl rfl rfl rfl rfl rfl rfl (e:=[.c (cl g.f.row),.own (rJ g.ps) (4+3*(0+j))]) (by exact hgj) rfl ?_)|(refine N2 (k:=2) (by_:=16) rfl rfl rfl rfl rfl rfl rfl rfl rfl rfl (by exact hLj) ⟨rfl,hpl,⟨rfl,by decide⟩,by intro e he;simp at he;subst he;rfl,by show(_+1)*16<=_;omega,by show _+1<=_;omega⟩ (by exact hset) ?_)|(refine iV rfl rfl rfl rfl rfl rfl (e:=[.c (cl g.f.row),.own (rJ g.ps) (4+3*(0+j))]) (by exact hgj) ⟨amM _,rfl⟩ (by exact hstr) ?_)|refine aF rfl rfl rfl rfl hpv rfl ?_|refine aF rfl rfl rfl rfl hky rfl ?_|refine gw_ b9 a_ ?_|refine gi_ (fun hb=>?_) (fun hb=>?_)|(refine cR rfl rfl rfl rfl rfl (acV b9 hf rfl rfl rfl rfl rfl rfl) ?_)|fail)
    exact⟨i+1,m0,m0,by rw[hnx,oW hG2,pK hG2,List.length_set];exact fm_ ⟨rfl,rfl,rfl,rfl,rfl,aM (aS m0 m0),t7⟩ [.dead] rfl ⟨t7,(by show 0<_;rw[jX hG2];omega),(by show 3<_;rw[jX hG2,List.length_set];omega),t7,t7,t7,t7⟩ (by rw[<- oW hG2];exact kI _)⟩
   |none =>
    rw[hf]at hnx;dsimp only at hnx
    cases hGe:G with
    |nil =>
     rw[hGe]at hf hnx
     repeat' (first|(refine xT rfl rfl rfl rfl (yK (G:=[]) ⟨⟨row,⟨lo,hi2⟩⟩,[⟨lo,hi2⟩]⟩ b9 hf rfl rfl rfl rfl rfl rfl rfl) ?_)|(refine bL rfl rfl rfl rfl rfl (yF (k:=2) (E:=170) (cs:=[.c (cl row),.emp]) b9 rfl rfl m9 m9 rfl m9 rfl rfl) ?_)|(refine bL rfl rfl rfl rfl rfl (IH (E:=170) (k:=2) (by_:=48) (xs:=[[.c (cl row),.emp]]) b9 rfl rfl rfl ⟨rfl,_,rfl,amG rfl⟩ rfl m9 rfl rfl rfl m9 (amG rfl) (amG rfl) (amG rfl)) ?_)|(refine kn rfl rfl rfl rfl rfl rfl rfl (e:=[.c (cl row),.emp]) r5 rfl ?_)|(refine iV rfl rfl rfl rfl rfl rfl (e:=[.c (cl row),.emp]) r5 ⟨amM _,rfl⟩ rfl ?_)|refine aF rfl rfl rfl rfl hpv rfl ?_|refine aF rfl rfl rfl rfl hky rfl ?_|refine gw_ b9 a_ ?_|refine gi_ (fun hb=>?_) (fun hb=>?_)|(refine cR rfl rfl rfl rfl rfl (AY (G:=[]) b9 hf rfl rfl rfl rfl rfl rfl) ?_)|fail)
     exact⟨i+1,m0,m0,by rw[hnx];exact fm_ ⟨rfl,rfl,rfl,rfl,rfl,aM (aS m0 m0),t7⟩ [] rfl ⟨t7,(by show 0<5;omega),qf _,t7,t7,t7,t7⟩ (kI _)⟩
    |cons g0 G0 =>
     have hGn:G≠[]:=by rw[hGe];simp
     rw[<- hGe];rw[oW hGn,pK hGn];have htl:=NK hGn;obtain⟨gn,hgn⟩:∃ gn:bC,gn=⟨⟨row,⟨lo,hi2⟩⟩,[⟨lo,hi2⟩]⟩:=⟨_,rfl⟩;have hgk:dm gn.f.row=dm row:=by rw[hgn]
     rw[<- hgn]at hnx;have hgbe:gbG gn=Ob.row (170+65536) [[SV.c (cl row),SV.emp]] 2:=by rw[hgn];rfl
     have hLa:(Ob.map (mO 0 (G++[gn]))::Ob.dead::xr G::Ob.row (170+65536*G.length) (d6 0 G) 2::(s8 G++[Ob.dead])).length=3+3*G.length:=by simp;omega
     have hq:((Ob.map (mO 0 (G++[gn]))::Ob.dead::xr G::Ob.row (170+65536*G.length) (d6 0 G) 2::(s8 G++[Ob.dead]))++[Ob.row (170+65536) [[SV.c (cl row),SV.emp]] 2])[3+3*G.length]?=some (Ob.row (170+65536) [[SV.c (cl row),SV.emp]] 2):=by
      rw[amD (by rw[hLa];exact amM _),hLa,Nat.sub_self];rfl
     have hsrc:Kt ((Ob.map (mO 0 (G++[gn]))::Ob.dead::xr G::Ob.row (170+65536*G.length) (d6 0 G) 2::(s8 G++[Ob.dead]))++[Ob.row (170+65536) [[SV.c (cl row),SV.emp]] 2]) (.one (.sl (3+3*G.length) (170+65536) 0 1))=some [[SV.c (cl row),SV.emp]]:=by
      simp only[Kt,hq];rfl
     have hsok:AW aj7 ((Ob.map (mO 0 (G++[gn]))::Ob.dead::xr G::Ob.row (170+65536*G.length) (d6 0 G) 2::(s8 G++[Ob.dead]))++[Ob.row (170+65536) [[SV.c (cl row),SV.emp]] 2]) 2 167 (.one (.sl (3+3*G.length) (170+65536) 0 1)):=⟨rfl,[[SV.c (cl row),SV.emp]],hq,amM _⟩;have hL2:((Ob.map (mO 0 (G++[gn]))::Ob.dead::xr G::Ob.row (170+65536*G.length) (d6 0 G) 2::(s8 G++[Ob.dead]))++[Ob.row (170+65536) [[SV.c (cl row),SV.emp]] 2]).set 3 (Ob.row (170+65536*G.length+65536) (d6 0 G++[[SV.c (cl row),SV.emp]]) 2)=Ob.map (mO 0 (G++[gn]))::Ob.dead::xr G::Ob.row (170+65536*G.length+65536) (d6 0 G++[[SV.c (cl row),SV.emp]]) 2::(s8 G++[Ob.dead,Ob.row (170+65536) [[SV.c (cl row),SV.emp]] 2]):=by simp
     have hL2l:(Ob.map (mO 0 (G++[gn]))::Ob.dead::xr G::Ob.row (170+65536*G.length+65536) (d6 0 G++[[SV.c (cl row),SV.emp]]) 2::(s8 G++[Ob.dead,Ob.row (170+65536) [[SV.c (cl row),SV.emp]] 2])).length=4+3*G.length:=by simp;omega
     have eG:0+((G.length:Nat):Int).toNat=G.length:=by simp
     have hgG:(d6 0 G++[[SV.c (cl row),.emp]])[0+((G.length:Nat):Int).toNat]?=some [SV.c (cl row),SV.emp]:=by
      rw[eG,amD (by rw[mt];exact amM _),mt];simp
     have e10:(G++[gn]).length=G.length+1:=by simp
     have e9:170+65536*(G++[gn]).length=170+65536*G.length+65536:=by rw[e10];omega
     have hG2:G++[gn]≠[]:=by simp
     have hstr:((Ob.map (mO 0 (G++[gn]))::Ob.dead::xr G::Ob.row (170+65536*G.length+65536) (d6 0 G++[[SV.c (cl row),SV.emp]]) 2::(s8 G++[Ob.dead,Ob.row (170+65536) [[SV.c (cl row),SV.emp]] 2]))++[Ob.spare 1 2]).set 3 (Ob.row (170+65536*G.length+65536) ((d6 0 G++[[SV.c (cl row),.emp]]).set (0+((G.length:Nat):Int).toNat) [SV.c (cl row),SV.own [[.int .i64 lo,.int .i64 hi2]] (Ob.map (mO 0 (G++[gn]))::Ob.dead::xr G::Ob.row (170+65536*G.length+65536) (d6 0 G++[[SV.c (cl row),SV.emp]]) 2::(s8 G++[Ob.dead,Ob.row (170+65536) [[SV.c (cl row),SV.emp]] 2])).length]) 2)=pQ (G++[gn]):=by
      have e8:(d6 0 G++[[SV.c (cl row),.emp]]).set G.length [SV.c (cl row),SV.own [[.int .i64 lo,.int .i64 hi2]] (4+3*G.length)]=d6 0 (G++[gn]):=by
       rw[Dj,List.set_append_right _ _ (by rw[mt];exact amM _),mt,hgn];simp[rJ,aH]
      rw[eG,hL2l,e8];unfold pQ;rw[adO gn hGn,afm gn hGn,e9,hgbe,hgn];simp[bxG]
     repeat' (first|refine aF rfl rfl rfl rfl hpv rfl ?_|refine aF rfl rfl rfl rfl hky rfl ?_|refine gw_ b9 a_ ?_|refine gi_ (fun hb=>?_) (fun hb=>?_)|(refine cR rfl rfl rfl rfl rfl (AY (G:=G) b9 hf rfl rfl rfl rfl rfl rfl) ?_)|fail)
     refine xT (L':=(Ob.map (mO 0 (G++[gn]))::Ob.dead::xr G::Ob.row (170+65536*G.length) (d6 0 G) 2::(s8 G++[Ob.dead]))) rfl rfl rfl rfl (yK (G:=G) (id:=0) gn b9 hf hgk rfl rfl rfl rfl rfl rfl) ?_
     repeat' (first|(refine xT (L':=(Ob.map (mO 0 (G++[gn]))::Ob.dead::xr G::Ob.row (170+65536*G.length) (d6 0 G) 2::(s8 G++[Ob.dead]))) rfl rfl rfl rfl (yK (G:=G) (id:=0) gn b9 hf hgk rfl rfl rfl rfl rfl rfl) ?_)|(refine bL (v := .one (.sl (3+3*G.length) (170+65536) 0 1)) (L':=(Ob.map (mO 0 (G++[gn]))::Ob.dead::xr G::Ob.row (170+65536*G.length) (d6 0 G) 2::(s8 G++[Ob.dead]))++[Ob.row (170+65536) [[SV.c (cl row),SV.emp]] 2]) rfl rfl rfl rfl rfl (by rw[<- hLa];exact yF (k:=2) (E:=170) (cs:=[SV.c (cl row),SV.emp]) b9 rfl rfl m9 m9 rfl m9 rfl rfl) ?_)|(refine bL (v := .one (.sl 3 (170+65536*G.length+65536) 0 (G.length+1))) (L':=(Ob.map (mO 0 (G++[gn]))::Ob.dead::xr G::Ob.row (170+65536*G.length+65536) (d6 0 G++[[SV.c (cl row),SV.emp]]) 2::(s8 G++[Ob.dead,Ob.row (170+65536) [[SV.c (cl row),SV.emp]] 2]))) rfl rfl rfl rfl rfl (by rw[<- hL2];exact dD (k:=2) (by_:=48) (xs:=[[SV.c (cl row),SV.emp]]) b9 rfl rfl rfl hsrc hsok rfl (by show(170+65536*G.length)%65536=170;omega) rfl rfl rfl m9 (mt G 0) (by show(_+1)*48<=_;omega) (by show _+1<=_;omega)) ?_)|(refine kn rfl rfl rfl rfl rfl rfl rfl (e:=[SV.c (cl row),SV.emp]) (by exact hgG) rfl ?_)|(refine iV rfl rfl rfl rfl rfl rfl (e:=[SV.c (cl row),SV.emp]) (by exact hgG) ⟨amM _,rfl⟩ (by exact hstr) ?_)|refine aF rfl rfl rfl rfl hpv rfl ?_|refine aF rfl rfl rfl rfl hky rfl ?_|refine gw_ b9 a_ ?_|refine gi_ (fun hb=>?_) (fun hb=>?_)|(refine cR rfl rfl rfl rfl rfl (AY (G:=G) b9 hf rfl rfl rfl rfl rfl rfl) ?_)|fail)
     exact⟨i+1,m0,m0,by rw[hnx,oW hG2,pK hG2,e9,e10];exact fm_ ⟨rfl,rfl,rfl,rfl,rfl,aM (aS m0 m0),t7⟩ [] (am5 _).symm ⟨t7,(by show 0<_;rw[jX hG2];omega),(by show 3<_;rw[jX hG2,e10];omega),t7,t7,t7,t7⟩ (by rw[<- oW hG2];exact kI _)⟩
 ·have htk:l.take i=l:=am_ m0
  have hN:decide ((i:Int)<n)=false:=by simp;omega
  rw[htk]at hgl hgm ⊢;have hgl2:=jQ l;have hrP:fy l=me gU ((ci l).map fun g=>(⟨g.f.row,g.ps⟩:ar)):=rfl;rw[hrP];clear hrP;have hgm2:∀ g∈ci l,g.f.row.length<=1000:=fun g hg=>(h _ (Bi l g hg).2.1).1
  generalize ci l=G at hgl hgm hgl2 hgm2 hg19 ⊢
  repeat' (first|refine gw_ trivial trivial ?_|refine gi_ (fun hb=>?_) (fun hb=>?_)|fail)
  refine aw_region b9 _ rfl ?_
  repeat' (first|rw[hN]|(refine aZ rfl rfl rfl rfl rfl rfl rfl rfl hidx ?_ ?_;· exact⟨m0,rfl⟩)|refine gw_ trivial trivial ?_|refine gi_ (fun hb=>?_) (fun hb=>?_)|fail)
  cases hGe:G with
  |nil =>
   have e0:(me gU (([]:List bC).map fun g=>(⟨g.f.row,g.ps⟩:ar))).map bp=[]:=rfl;rw[e0]
   repeat' (first|refine aF rfl rfl rfl rfl M4 rfl ?_|refine gw_ b9 a_ ?_|refine gi_ (fun hb=>?_) (fun hb=>?_)|fail)
   exact aJ (aO rfl (by trivial) rfl)
  |cons g0 G0 =>
   have hGn:G≠[]:=by rw[hGe];simp
   rw[<- hGe,oW hGn,pK hGn];refine LY 3 rfl (AM G 0) ?_;have e1:(G.map fun g=>[cl g.f.row,AC.lst (rJ g.ps)]).map (List.map SV.c)=((G.map fun g=>(⟨g.f.row,g.ps⟩:ar)).map gQ).map o8:=by
    simp only[List.map_map];rfl
   rw[e1];obtain⟨X,hX⟩:∃ X:List ar,X=G.map fun g=>⟨g.f.row,g.ps⟩:=⟨_,rfl⟩
   have hXl:X.length=G.length:=by rw[hX];simp
   have hXr:∀ s∈X,s.row.length<=1000:=by
    intro s hs;rw[hX]at hs;obtain⟨g,hg,rfl⟩:=am6.1 hs;exact hgm2 g hg
   rw[<- hX];have e2:(pQ G).set 3 (.row (170+65536*G.length) ((X.map gQ).map o8) 2) = .map (mO 0 G) :: .dead::xr G :: .row (170+65536*G.length) ((X.map gQ).map o8) 2::s8 G:=rfl;rw[e2];have hrun:=LN 200 DC (170+65536*G.length) (X.map gQ) G.length (by simp[hXl]) m0 (by
    intro x y hx hy;obtain⟨a,ha,rfl⟩:=am6.1 hx;obtain⟨b,hb,rfl⟩:=am6.1 hy;have la:=hXr a ha;have lb:=hXr b hb;rw[DV];exact gRowsC_ok (abe a b m0 m0))
   rw[LG]at hrun;refine aw_region b9 _ rfl ?_
   repeat' (first|(refine cB [3] rfl rfl rfl rfl hrun rfl (al8 rfl (bS ⟨(by show 0<1;omega),t7,t7⟩)) rfl (jG3 (L' := .map (mO 0 G) :: .dead::xr G :: .row (170+65536*G.length) (((me gU X).map gQ).map o8) 2::s8 G) rfl) ?_)|refine gw_ trivial trivial ?_|refine gi_ (fun hb=>?_) (fun hb=>?_)|fail)
   refine nP 3 (L := .map (mO 0 G) :: .dead::xr G :: .row (170+65536*G.length) (((me gU X).map gQ).map o8) 2::s8 G) rfl (abK _) ?_;simp only[amH,amL,thA,thS,and_self,if_true,List.drop_zero];have e3:(((me gU X).map gQ).map fun x=>[x.1,x.2]).take G.length=(me gU X).map bp:=by
    rw[am_ (by simp[(oG gU X).length_eq,hXl]),List.map_map];rfl
   rw[e3]
   repeat' (first|refine gw_ b9 a_ ?_|refine gi_ (fun hb=>?_) (fun hb=>?_)|fail)
   exact aJ (aO rfl (by trivial) rfl)
structure Cx where
 P:Program
 ti:TI
 xs:J7
 row:FuncId->Nat->Bool
 frz:FuncId->Nat->List Nat
 flg:FuncId->Nat->Bool×Bool
 orc:FuncId->List PV->Option CV
 bad:FuncId->Bool
 fz:FuncId->Nat->List Nat:=fun _ _=>[]
 sw:FuncId->Nat->Option (Nat×List Nat):=fun _ _=>none
def ah2 (n:Nat):Cap->Bool
 |.ptr id _=>Nat.blt id n
 |.c _=>true
def GR (n:Nat):List Cap->Bool
 |[]=>true
 |x::xs=>ah2 n x&&GR n xs
def ais (n:Nat):SV->Bool
 |.own _ t=>Nat.blt t n
 |.ptr id _=>Nat.blt id n
 |.sl id _ _ _=>Nat.blt id n
 |.ep id _ _ _=>Nat.blt id n
 |.mp id=>Nat.blt id n
 |.clo _ caps=>GR n caps
 |.c _=>true
 |.emp=>true
def y8 (n:Nat):List SV->Bool
 |[]=>true
 |x::xs=>ais n x&&y8 n xs
def G3 (n:Nat):List (List SV)->Bool
 |[]=>true
 |x::xs=>y8 n x&&G3 n xs
def ad3 (n:Nat):AV->Bool
 |.one x=>ais n x
 |.agg xs=>y8 n xs
 |.tup _=>true
 |.tupS xs=>y8 n xs
 |.undef=>true
def IU (n:Nat):List AV->Bool
 |[]=>true
 |x::xs=>ad3 n x&&IU n xs
def N8 (n:Nat):List (AC×AV)->Bool
 |[]=>true
 |x::xs=>ad3 n x.2&&N8 n xs
def akg (n:Nat):Ob->Bool
 |.box cs=>y8 n cs
 |.row _ es _=>G3 n es
 |.map kvs=>N8 n kvs
 |.spare _ _=>true
 |.dead=>true
def Ep (n:Nat):List Ob->Bool
 |[]=>true
 |x::xs=>akg n x&&Ep n xs
theorem afs {n:Nat}{x:Cap}(h:ah2 n x=true):x.below n:=by
 cases x with
 |c _=>trivial
 |ptr id _=>exact amG h
theorem Es {n:Nat}:∀ {xs:List Cap},GR n xs=true ->∀ x∈xs,x.below n
 |[],_,x,hx=>by cases hx
 |y::xs,h,x,hx=>by
  rw[GR,amO]at h;rcases amN.1 hx with rfl|hx
  ·exact afs h.1
  ·exact Es h.2 x hx
theorem aao {n:Nat}{x:SV}(h:ais n x=true):x.below n:=by
 cases x with
 |c _=>trivial
 |emp=>trivial
 |own _ t=>exact amG h
 |ptr id _=>exact amG h
 |sl id _ _ _=>exact amG h
 |ep id _ _ _=>exact amG h
 |mp id=>exact amG h
 |clo f caps=>exact Es h
theorem qA {n:Nat}:∀ {xs:List SV},y8 n xs=true ->∀ x∈xs,x.below n
 |[],_,x,hx=>by cases hx
 |y::xs,h,x,hx=>by
  rw[y8,amO]at h;rcases amN.1 hx with rfl|hx
  ·exact aao h.1
  ·exact qA h.2 x hx
theorem C6 {n:Nat}:∀ {xs:List (List SV)},G3 n xs=true ->∀ e∈xs,∀ x∈e,x.below n
 |[],_,x,hx=>by cases hx
 |y::xs,h,x,hx=>by
  rw[G3,amO]at h;rcases amN.1 hx with rfl|hx
  ·exact qA h.1
  ·exact C6 h.2 x hx
theorem rf {n:Nat}{x:AV}(h:ad3 n x=true):x.below n:=by
 cases x with
 |one x=>exact aao h
 |agg xs=>exact qA h
 |tup _=>trivial
 |tupS xs=>exact qA h
 |undef=>trivial
theorem zW {n:Nat}:∀ {xs:List AV},IU n xs=true ->∀ x∈xs,x.below n
 |[],_,x,hx=>by cases hx
 |y::xs,h,x,hx=>by
  rw[IU,amO]at h;rcases amN.1 hx with rfl|hx
  ·exact rf h.1
  ·exact zW h.2 x hx
theorem JZ {n:Nat}:∀ {xs:List (AC×AV)},N8 n xs=true ->∀ p∈xs,p.2.below n
 |[],_,x,hx=>by cases hx
 |y::xs,h,x,hx=>by
  rw[N8,amO]at h;rcases amN.1 hx with rfl|hx
  ·exact rf h.1
  ·exact JZ h.2 x hx
theorem ahi {n:Nat}{x:Ob}(h:akg n x=true):x.below n:=by
 cases x with
 |box cs=>exact qA h
 |row _ es _=>exact C6 h
 |map kvs=>exact JZ h
 |spare _ _=>trivial
 |dead=>trivial
theorem mX {n:Nat}:∀ {xs:List Ob},Ep n xs=true ->∀ x∈xs,x.below n
 |[],_,x,hx=>by cases hx
 |y::xs,h,x,hx=>by
  rw[Ep,amO]at h;rcases amN.1 hx with rfl|hx
  ·exact ahi h.1
  ·exact mX h.2 x hx
theorem ft {n i:Nat}(h:i<n):gX (List.range n) i=i:=by
 unfold gX;rw[ann,List.getElem?_range h];rfl
theorem Cap.ren_range {n:Nat}{x:Cap}(h:x.below n):x.ren (List.range n)=x:=by
 cases x with
 |c _=>rfl
 |ptr id off=>show Cap.ptr (gX _ id) off=_;rw[ft h]
theorem cQ {α:Type}{f:α->α}:∀ {l:List α},(∀ x∈l,f x=x)->l.map f=l
 |[],_=>rfl
 |x::l,h=>by rw[amH,h x (ani ..),cQ fun y hy=>h y (amU _ hy)]
theorem SV.ren_range {n:Nat}{x:SV}(h:x.below n):x.ren (List.range n)=x:=by
 cases x with
 |c _=>rfl
 |emp=>rfl
 |own es t=>show SV.own es (gX _ t)=_;rw[ft h]
 |ptr id off=>show SV.ptr (gX _ id) off=_;rw[ft h]
 |sl id v l m=>show SV.sl (gX _ id) v l m=_;rw[ft h]
 |ep id v i o=>show SV.ep (gX _ id) v i o=_;rw[ft h]
 |mp id=>show SV.mp (gX _ id)=_;rw[ft h]
 |clo f caps=>show SV.clo f (caps.map _)=_;rw[cQ fun x hx=>Cap.ren_range (h x hx)]
theorem AV.ren_range {n:Nat}{x:AV}(h:x.below n):x.ren (List.range n)=x:=by
 cases x with
 |one x=>show AV.one (x.ren _)=_;rw[SV.ren_range h]
 |agg xs=>show AV.agg (xs.map _)=_;rw[cQ fun x hx=>SV.ren_range (h x hx)]
 |tup _=>rfl
 |tupS xs=>show AV.tupS (xs.map _)=_;rw[cQ fun x hx=>SV.ren_range (h x hx)]
 |undef=>rfl
theorem Ob.ren_range {n:Nat}{x:Ob}(h:x.below n):x.ren (List.range n)=x:=by
 cases x with
 |box cs=>show Ob.box (cs.map _)=_;rw[cQ fun x hx=>SV.ren_range (h x hx)]
 |row v es k=>show Ob.row v (es.map (List.map _)) k=_;rw[cQ fun e he=>cQ fun x hx=>SV.ren_range (h e he x hx)]
 |map kvs=>show Ob.map (kvs.map fun p=>(p.1,p.2.ren (List.range n)))=_;rw[cQ (f:=fun p:AC×AV=>(p.1,p.2.ren (List.range n))) fun p hp=>by show(p.1,p.2.ren _)=p;rw[AV.ren_range (h p hp)]]
 |spare _ _=>rfl
 |dead=>rfl
abbrev CP:=FuncId->List PV->Option CV
abbrev CR:=FuncId->List Ob->List AV->Option (List Ob×AV)
def K1 (cx:Cx)(f:FuncId)(id:Nat):Bool->TI
 |false =>{ cx.ti with dyn:=true,soft:=false }
 |true =>{ cx.ti with dyn:=(cx.flg f id).1,soft:=(cx.flg f id).2 }
def fZ (cx:Cx)(f:FuncId):Code->Bool
 |.seq x y=>fZ cx f x&&fZ cx f y
 |.cond _ x y=>fZ cx f x&&fZ cx f y
 |.block _ c=>fZ cx f c
 |.loop c=>fZ cx f c
 |.scope c=>fZ cx f c
 |.region id ops true=>match cx.sw f id with
  |some (p,_)=>(decide (p+1<ops.toList.length)&&ops.toList.all fun o=>o.guard.isNone)&&(fS (cx.fz f id) (K1 cx f id true) (l1E p ops.toList)&&fS (cx.fz f id) (K1 cx f id true) (l2E p ops.toList))
  |none=>fS (cx.fz f id) (K1 cx f id true) ops.toList
 |_=>true
structure LQ (cx:Cx):Prop where
 ti:TIok cx.P cx.ti
 ne:sE cx.P cx.xs
 mix:cx.P.follows .mixedOrders=true
 name : ∀ (f : FuncId) fn, cx.P.funcs[f]? = some fn -> (fn.name == "runtime.NumGoroutine") = false
 code:∀ (f:FuncId) fn c,cx.P.funcs[f]?=some fn->fn.body=some c->cx.bad f=false->fZ cx f c=true
 orc:∀ g ps r,cx.orc g ps=some r->Pure cx.P g ps r
def yC (cx:Cx):List Func->Nat->Bool
 |[],_=>true
 |fn::fs,i=>(match fn.body with
  |some c=>cx.bad i||fZ cx i c
  |none=>true)&&yC cx fs (i+1)
theorem Dc {cx:Cx}:∀ {fs:List Func} {i:Nat},yC cx fs i=true ->∀ (j:Nat) fn c,fs[j]?=some fn->fn.body=some c->cx.bad (i+j)=false->fZ cx (i+j) c=true
 |[],i,h,j,fn,c,hj,_,_=>by simp at hj
 |f0::fs,i,h,0,fn,c,hj,hb,hbad=>by
  rw[yC,amO]at h;simp at hj;subst hj;have h1:=h.1;rw[hb]at h1;rw[Nat.add_zero]at hbad ⊢;simp only[hbad,Bool.false_or]at h1;exact h1
 |f0::fs,i,h,j+1,fn,c,hj,hb,hbad=>by
  rw[yC,amO]at h;have:=Dc h.2 j fn c (by simpa using hj) hb (by rwa[show i+1+j=i+(j+1)by omega]);rwa[show i+1+j=i+(j+1)by omega]at this
def y6:List Func->Bool
 |[]=>true
 | fn :: fs => !(fn.name == "runtime.NumGoroutine") && y6 fs
theorem D3 : ∀ {fs : List Func}, y6 fs = true -> ∀ (j : Nat) fn, fs[j]? = some fn -> (fn.name == "runtime.NumGoroutine") = false
 |[],h,j,fn,hj=>by simp at hj
 |f0::fs,h,0,fn,hj=>by
  rw[y6,amO]at h;simp at hj;subst hj;simpa using h.1
 |f0::fs,h,j+1,fn,hj=>by
  rw[y6,amO]at h;exact D3 h.2 j fn (by simpa using hj)
theorem LQ.of {cx:Cx}(ti:TIok cx.P cx.ti)(ne:sE cx.P cx.xs)(mix:cx.P.follows .mixedOrders=true)(name:y6 cx.P.funcs.toList=true)(code:yC cx cx.P.funcs.toList 0=true)(orc:∀ g ps r,cx.orc g ps=some r->Pure cx.P g ps r):LQ cx :=
 ⟨ti,ne,mix,fun f fn h=>D3 name f fn (by simpa using h),fun f fn c h hb hbad=>by have:=Dc code f fn c (by simpa using h) hb (by rwa[anb]);rwa[anb]at this,orc⟩
theorem oa {α:Type}:∀ (A A' G:List α) (i:Nat) (pre:List α),A.length=A'.length->pre.length=i->dp (pre++A++G) ((List.range A.length).map (i + ·)) A'=pre++A'++G
 |[],[],G,i,pre,_,_=>by simp[dp]
 |[],_::_,_,_,_,h,_=>by simp at h
 |_::_,[],_,_,_,h,_=>by simp at h
 |x::A,y::A',G,i,pre,h,hp=>by
  have hr:(List.range (x::A).length).map (i + ·)=i::(List.range A.length).map (i+1 + ·):=by
   rw[amS,List.range_succ_eq_map,amH,List.map_map];simp only[Nat.add_zero,List.cons.injEq,true_and];refine List.map_congr_left fun j _=>?_
   show i+(j+1)=i+1+j;omega
  rw[hr,dp];have e1:(pre++x::A++G).set i y=(pre++[y])++A++G:=by
   subst hp;rw[amX,List.set_append_right _ _ (amM _),Nat.sub_self];simp
  rw[e1,oa A A' G (i+1) (pre++[y]) (by simpa using h) (by simp[hp])];simp
section
variable {P:Program} {ti:TI} {N n0:Nat} {ds:List (Option Tmp)} {K:Tm->List Ob->Prop} {rest:List Oper} {o:Oper} {T:Tm} {L:List Ob} {ρ:Operand->Option AV}
theorem Aq {Q:AX->Tm->List Ob->Prop}{c:Code}(t t':Nat){n k:Nat}(T1:Tm)(hn0:n0<=t)(htt:t<=t')(hL:L[t']?=some (.spare n k))(hb:∀ x∈L.take t,x.below t)(hT1:∀ p∈T1,(T.lookup p.1=some p.2/\p.2.below t) \/ ∃ es,T.lookup p.1=some (.one (.own es t'))/\p.2 = .one (.own es t))
  (h:Aw P N n0 c Q T1 (L.take t++[.spare n k])):Aw P N n0 c Q T L:=by
 intro hn B R γ w a hi hT;have ht':t'<L.length:=(amw.1 hL).1;have hlt:(L.take t).length=t:=by rw[anm];omega
 have hsplit:L=L.take t++L.drop t:=(ang t L).symm;have hfit:Fits ([]:Tm) L [] (L.take t):=⟨fun p hp=>(by cases hp),⟨_,hsplit⟩,fun p hp=>(by cases hp),fun x hx=>by rw[hlt];exact hb x hx⟩;have hnil:cg N R γ L ([]:Tm) a:=⟨hT.size,hT.defers,fun s x hx=>by simp at hx⟩;obtain⟨j1,_⟩:=hfit.sound hi hnil;rw[hlt]at j1;obtain⟨g,hg⟩:∃ g,γ[t']?=some g:=⟨γ[t']'(by rw[hi.len];exact ht'),amF _⟩;have hobj:=hi.obj t' _ _ hL hg;have hgl:(γ.take t).length=t:=by rw[anm,hi.len];omega
 have hmp:Mv R R (γ.take t) (γ.take t++[g]) (L.take t) (L.take t++[.spare n k]):=Mv.push _ _ j1.len;have hm:fP n0 R R γ (γ.take t++[g]) L (L.take t++[.spare n k]):=by
  have h1:=hfit.mvn hi (by rw[hlt];exact hn0);rw[hlt]at h1;exact h1.trans hi.len (fP.of (by rw[hlt];exact hn0) hmp)
 have hgt:(γ.take t++[g])[t]?=some g:=by
  rw[amD m0];rw[hgl,Nat.sub_self];rfl
 have hlk:(L.take t++[Ob.spare n k])[t]?=some (.spare n k):=by
  rw[amD m0];rw[hlt,Nat.sub_self];rfl
 have gcase:∀ j h,(γ.take t++[g])[j]?=some h->(j=t/\h=g)\/(j<t/\(γ.take t)[j]?=some h):=by
  intro j h hh;by_cases hid:j<t
  ·rw[amK (by rw[hgl];exact hid)]at hh;exact .inr ⟨hid,hh⟩
  ·have:j=t:=by have:=(amw.1 hh).1;rw[amE,hgl]at this;simp at this;omega
   subst this;rw[hgt]at hh;injection hh with hh
   exact .inl ⟨rfl,hh.symm⟩
 have hold:∀ j h,j<t->(γ.take t)[j]?=some h->γ[j]?=some h:=fun j h hj hh=>by rwa[List.getElem?_take_of_lt hj]at hh
 have hI:Inv B R (γ.take t++[g]) (L.take t++[.spare n k]) w:=by
  refine⟨by rw[amE,amE,j1.len];rfl,hi.val,fun j y q hy hq=>?_,fun i j gi gj h1 h2 hne b hb'=>?_,fun i q b hq hb'=>?_,hi.bsz⟩
  ·rcases gcase j q hq with⟨rfl,rfl⟩|⟨hj,hq'⟩
   ·rw[hlk]at hy
    injection hy with hy;subst hy
    match q,hobj with
    |.arr b c,ho=>exact ho
    |.none,ho=>exact ho
   ·rw[amK (by rw[hlt];exact hj)]at hy
    exact(j1.obj j y q hy hq').mv hmp (fun _ _=>rfl) (fun _ _ _ h=>h)
  ·rcases gcase i gi h1 with⟨rfl,rfl⟩|⟨hi1,h1'⟩<;>rcases gcase j gj h2 with⟨rfl,rfl⟩|⟨hj1,h2'⟩
   ·exact absurd rfl hne
   ·exact hi.inj _ j _ gj hg (hold _ _ hj1 h2') m0 b hb'
   ·exact hi.inj i _ gi _ (hold _ _ hi1 h1') hg m0 b hb'
   ·exact j1.inj i j gi gj h1' h2' hne b hb'
  ·rcases gcase i q hq with⟨rfl,rfl⟩|⟨hi1,hq'⟩
   ·exact hi.new _ _ b hg hb'
   ·exact j1.new i q b hq' hb'
 refine wp_mono (h m8 B R _ w a hI ⟨hT.size,hT.defers,fun s x hx=>?_⟩) fun _ _ _ hh=>hh.ext (Ext.refl _ _ _) hi.len hm
 rcases hT1 _ (ig hx)with⟨h1,h2⟩|⟨es,h1,h2⟩
 ·obtain⟨u,hu,hr⟩:=hT.slot s x h1
  refine⟨u,hu,?_⟩;have hc:=AV.cut (R:=R) (γ:=γ) (L:=L.take t) (G:=L.drop t) (by rw[<- hsplit];exact hi.len) (x:=x) (v:=u) (by rw[<- hsplit];exact hr) (by rw[hlt];exact h2);rw[hlt]at hc;exact AV.mv hmp hc
 ·obtain⟨u,hu,hr⟩:=hT.slot s _ h1
  dsimp only at h2;subst h2;refine⟨u,hu,?_⟩;obtain⟨r1,r2,r3⟩:=hr;refine⟨r1,by simp;omega,fun n' k' e=>?_⟩;rw[hlk]at e;injection e with e
  injection e with e1 e2
  subst e1 e2;obtain⟨q1,q2,q3⟩:=r3 _ _ hL;refine⟨q1,q2,fun e=>?_⟩;obtain⟨g',hg',hl⟩:=q3 e;rw[hg]at hg';injection hg' with hg';subst hg'
  exact⟨_,hgt,hl⟩
end
theorem dY {α:Type}(l:List α):l=[] \/ ∃ m x,l=m++[x]:=by
 cases h:l.getLast? with
 |none=>exact .inl (by simpa using h)
 |some x=>exact .inr ⟨l.dropLast,x,by obtain⟨ys,rfl⟩:=List.getLast?_eq_some_iff.1 h;simp⟩
def aj3:TI :={ tab with owns:=fun f=>f==147||tab.owns f }
theorem fQ:TIok Tryz.prog aj3:=⟨tab_ok.size,tab_ok.agg,tab_ok.elem,tab_ok.field,tab_ok.zero,tab_ok.bytes,tab_ok.kind,tab_ok.struct,tab_ok.zok,tab_ok.eqs⟩
def akt:TI :={ aj3 with soft:=true }
theorem tV:TIok Tryz.prog akt:=⟨tab_ok.size,tab_ok.agg,tab_ok.elem,tab_ok.field,tab_ok.zero,tab_ok.bytes,tab_ok.kind,tab_ok.struct,tab_ok.zok,tab_ok.eqs⟩
def kM (l:List au)(p:au):List au:=match l.getLast? with
 |some q=>if p.lo<=q.hi then l.dropLast++[⟨q.lo,Gk q.hi p.hi⟩]else l++[p]
 |none=>l++[p]
theorem BK (p:au):kM [] p=[p]:=rfl
theorem nl (l:List au)(q p:au):kM (l++[q]) p=if p.lo<=q.hi then l++[⟨q.lo,Gk q.hi p.hi⟩]else(l++[q])++[p]:=by
 unfold kM;rw[List.getLast?_concat];simp only[List.dropLast_concat]
theorem Jc (l:List au)(p:au):(kM l p).length<=l.length+1:=by
 rcases dY l with rfl|⟨m,q,rfl⟩
 ·rw[BK];simp
 ·rw[nl];split<;>simp
theorem zm (l:List au)(p:au)(hl:l.length<=1000000):Ee Tryz.prog 147 (l.map aH) 2 [.agg (aH p)] ((kM l p).map aH):=by
 refine Il Tryz.func147 rfl rfl Tryz.ntmps147 m5 ?_;simp only[argT,PV.av,amH,amL];rcases dY l with rfl|⟨m,q,rfl⟩
 ·rw[BK]
  repeat' (first|refine gw_ tab_ok tabS_ok ?_|refine gi_ (fun hb=>?_) (fun hb=>?_)|fail)
  exact⟨.inr rfl,rfl,rfl⟩
 ·have hlen:(m++[q]).length=m.length+1:=by simp
  have hm:m.length<=1000000:=m0
  have hge:((m++[q]).map aH)[((m.length:Nat):Int).toNat]?=some (aH q):=by rw[Int.toNat_natCast,amJ,amD m5];simp
  have hw1:i64.wrap (((m.length+1:Nat):Int)-1)=((m.length:Nat):Int):=aS m0 m0;have hg0:decide ((0:Int)<((m.length+1:Nat):Int))=true:=amA m0;have htk:List.drop (((0:Nat):Int)).toNat (List.take (((m.length:Nat):Int)).toNat ((m++[q]).map aH))=m.map aH:=by rw[Int.toNat_natCast,Int.toNat_natCast,List.drop_zero,amJ,List.take_left' m5]
  have hln:((m++[q]).map aH).length=m.length+1:=by simp
  rw[nl];by_cases hpq:p.lo<=q.hi
  ·have hp1:decide (p.lo<=q.hi)=true:=amA hpq
   rw[if_pos hpq]
   repeat' (first|rw[hln]|rw[hw1]|rw[hg0]|rw[hp1]|rw[htk]|rw[mx_norm]|(refine aZ rfl rfl rfl rfl rfl rfl rfl rfl hge ?_ ?_;· exact⟨m0,rfl⟩)|refine gw_ tab_ok tabS_ok ?_|refine gi_ (fun hb=>?_) (fun hb=>?_)|fail)
   exact⟨.inr rfl,(by rw[amJ];rfl),m5⟩
  ·have hp1:decide (p.lo<=q.hi)=false:=amz hpq
   rw[if_neg hpq]
   repeat' (first|rw[hln]|rw[hw1]|rw[hg0]|rw[hp1]|(refine aZ rfl rfl rfl rfl rfl rfl rfl rfl hge ?_ ?_;· exact⟨m0,rfl⟩)|refine gw_ tab_ok tabS_ok ?_|refine gi_ (fun hb=>?_) (fun hb=>?_)|fail)
   exact⟨.inr rfl,(by rw[amJ (l₁:=m++[q])];rfl),m5⟩
def nM (n:Int):List Stp->List au->List au
 |[],out=>out
 |[x],out=>if n<=x.n then kM out ⟨x.lo,1099511627776⟩else out
 |x::y::r,out=>nM n (y::r) (if n<=x.n then kM out ⟨x.lo,y.lo⟩else out)
def ATs (l:List Stp)(n:Int)(s:List au×Nat):Tm:=[(0,.one (.c (.lst (l.map dM)))),(1,.one (.c (.int .i64 n))),(5,.one (.own (s.1.map aH) 0)),(6,.one (.c (.int .i64 s.2)))]
theorem mr (l:List Stp)(n:Int)(s:List au×Nat):eF 1 (ATs l n s):=⟨t7,t7,(by show 0<1;omega),t7,t7⟩
theorem adg {n:Int}{l:List Stp}{i:Nat}{x:Stp}(hx:l[i]?=some x)(out:List au):nM n (l.drop i) out=nM n (l.drop (i+1)) (if n<=x.n then kM out ⟨x.lo,((l[i+1]?).map (·.lo)).getD 1099511627776⟩else out):=by
 obtain⟨h1,h2⟩:=amw.1 hx;rw[am2 h1,h2];by_cases h:i+1<l.length
 ·rw[am2 h,amF h];rfl
 ·rw[List.drop_eq_nil_of_le m0,anj m0];rfl
theorem adR (l:List Stp)(n:Int)(hl:l.length<=100000):PTz 85 [.one (.lst (l.map dM)),.one (.int .i64 n)] (.val (.one (.lst ((nM n l []).map aH)))):=by
 generalize hR:nM n l []=R;refine pa_ fQ Tryz.func85 rfl rfl Tryz.ntmps85 m5 ?_;simp only[argT,PV.av,amH,amL]
 repeat' (first|refine gw_ fQ tabS_ok ?_|refine gi_ (fun hb=>?_) (fun hb=>?_)|fail)
 refine bK 5 2 rfl ?_;refine cK (ATs l n) (fun s=>[.spare s.1.length 2]) (fun s=>s.2<=l.length/\nM n (l.drop s.2) s.1=R/\s.1.length<=s.2) (fun s=>l.length-s.2) ([],0) ⟨amR _,hR,amM _⟩ (fun _ _=>amR _)
  (fm_ ⟨rfl,rfl,rfl,rfl,t7⟩ [] rfl (mr _ _ _) ⟨t7,t7⟩) ?_
 rintro⟨out,i⟩ ⟨h1,h2,h3⟩;dsimp only at h1 h2 h3;unfold ATs;dsimp only;by_cases hlt:i<l.length
 ·obtain⟨x,hx⟩:=gol_ hlt
  have hG:decide (((i:Nat):Int)<((l.length:Nat):Int))=true:=amA m0;have hw1:i64.wrap (((i:Nat):Int)+1)=((i+1:Nat):Int):=aS m0 m0;rw[adg hx]at h2;generalize hy:((l[i+1]?).map (·.lo)).getD 1099511627776=y at h2;have hjn:=zm out ⟨x.lo,y⟩ m0;have hlen:=Jc out ⟨x.lo,y⟩;by_cases hk:n<=x.n
  ·have hK:decide (n<=x.n)=true:=amA hk
   rw[if_pos hk]at h2;by_cases hl2:i+1<l.length
   ·obtain⟨z,hz⟩:=gol_ hl2
    have hG2:decide (((i+1:Nat):Int)<((l.length:Nat):Int))=true:=amA m0;rw[hz]at hy;obtain rfl:z.lo=y:=hy
    repeat' (first|rw[amI]|rw[hG]|rw[hw1]|rw[hG2]|rw[hK]|(refine Fp rfl rfl rfl rfl (by rw[amI];rfl) hjn ?_)|(refine Aq 0 1 [(0,.one (.c (.lst (l.map dM)))),(1,.one (.c (.int .i64 n))),(5,.one (.own ((kM out ⟨x.lo,z.lo⟩).map aH) 0)),(6,.one (.c (.int .i64 ((i:Nat):Int))))] (amR _) m0 rfl (by intro z hz;simp at hz) (by intro z hz;simp only[amN,List.not_mem_nil,or_false]at hz;rcases hz with rfl|rfl|rfl|rfl;exact .inl ⟨rfl,t7⟩;exact .inl ⟨rfl,t7⟩;exact .inr ⟨_,rfl,rfl⟩;exact .inl ⟨rfl,t7⟩) ?_)|(refine aZ rfl rfl rfl rfl rfl rfl rfl rfl (aU hx) ?_ ?_;· exact⟨m0,rfl⟩)|(refine aZ rfl rfl rfl rfl rfl rfl rfl rfl (aU hz) ?_ ?_;· exact⟨m0,rfl⟩)|refine gw_ fQ tabS_ok ?_|refine gi_ (fun hb=>?_) (fun hb=>?_)|fail)
    exact⟨(kM out ⟨x.lo,z.lo⟩,i+1),⟨by show i+1<=_;omega,h2,by show(kM out ⟨x.lo,z.lo⟩).length<=i+1;omega⟩,by show l.length-(i+1)<l.length-i;omega,fm_ ⟨rfl,rfl,rfl,rfl,t7⟩ [] rfl (mr _ _ _) ⟨t7,t7⟩⟩
   ·have hG2:decide (((i+1:Nat):Int)<((l.length:Nat):Int))=false:=amz m0
    rw[anj m0]at hy;obtain rfl:1099511627776=y:=hy
    repeat' (first|rw[amI]|rw[hG]|rw[hw1]|rw[hG2]|rw[hK]|(refine Fp rfl rfl rfl rfl (by rw[amI];rfl) hjn ?_)|(refine Aq 0 1 [(0,.one (.c (.lst (l.map dM)))),(1,.one (.c (.int .i64 n))),(5,.one (.own ((kM out ⟨x.lo,1099511627776⟩).map aH) 0)),(6,.one (.c (.int .i64 ((i:Nat):Int))))] (amR _) m0 rfl (by intro z hz;simp at hz) (by intro z hz;simp only[amN,List.not_mem_nil,or_false]at hz;rcases hz with rfl|rfl|rfl|rfl;exact .inl ⟨rfl,t7⟩;exact .inl ⟨rfl,t7⟩;exact .inr ⟨_,rfl,rfl⟩;exact .inl ⟨rfl,t7⟩) ?_)|(refine aZ rfl rfl rfl rfl rfl rfl rfl rfl (aU hx) ?_ ?_;· exact⟨m0,rfl⟩)|refine gw_ fQ tabS_ok ?_|refine gi_ (fun hb=>?_) (fun hb=>?_)|fail)
    exact⟨(kM out ⟨x.lo,1099511627776⟩,i+1),⟨by show i+1<=_;omega,h2,by show(kM out ⟨x.lo,1099511627776⟩).length<=i+1;omega⟩,by show l.length-(i+1)<l.length-i;omega,fm_ ⟨rfl,rfl,rfl,rfl,t7⟩ [] rfl (mr _ _ _) ⟨t7,t7⟩⟩
  ·have hK:decide (n<=x.n)=false:=amz hk
   rw[if_neg hk]at h2;by_cases hl2:i+1<l.length
   ·obtain⟨z,hz⟩:=gol_ hl2
    have hG2:decide (((i+1:Nat):Int)<((l.length:Nat):Int))=true:=amA m0
    repeat' (first|rw[amI]|rw[hG]|rw[hw1]|rw[hG2]|rw[hK]|(refine aZ rfl rfl rfl rfl rfl rfl rfl rfl (aU hx) ?_ ?_;· exact⟨m0,rfl⟩)|(refine aZ rfl rfl rfl rfl rfl rfl rfl rfl (aU hz) ?_ ?_;· exact⟨m0,rfl⟩)|refine gw_ fQ tabS_ok ?_|refine gi_ (fun hb=>?_) (fun hb=>?_)|fail)
    exact⟨(out,i+1),⟨by show i+1<=_;omega,h2,by show(out).length<=i+1;omega⟩,by show l.length-(i+1)<l.length-i;omega,fm_ ⟨rfl,rfl,rfl,rfl,t7⟩ [] rfl (mr _ _ _) ⟨t7,t7⟩⟩
   ·have hG2:decide (((i+1:Nat):Int)<((l.length:Nat):Int))=false:=amz m0
    repeat' (first|rw[amI]|rw[hG]|rw[hw1]|rw[hG2]|rw[hK]|(refine aZ rfl rfl rfl rfl rfl rfl rfl rfl (aU hx) ?_ ?_;· exact⟨m0,rfl⟩)|refine gw_ fQ tabS_ok ?_|refine gi_ (fun hb=>?_) (fun hb=>?_)|fail)
    exact⟨(out,i+1),⟨by show i+1<=_;omega,h2,by show(out).length<=i+1;omega⟩,by show l.length-(i+1)<l.length-i;omega,fm_ ⟨rfl,rfl,rfl,rfl,t7⟩ [] rfl (mr _ _ _) ⟨t7,t7⟩⟩
 ·have hG:decide (((i:Nat):Int)<((l.length:Nat):Int))=false:=amz m0
  rw[List.drop_eq_nil_of_le m0]at h2;have h2:out=R:=h2;subst h2
  repeat' (first|rw[amI]|rw[hG]|refine gw_ fQ tabS_ok ?_|refine gi_ (fun hb=>?_) (fun hb=>?_)|fail)
  refine⟨.inr rfl,?_⟩
  first|exact⟨t7,rfl⟩|exact⟨⟨t7,t7⟩,rfl⟩|(refine⟨?_,rfl⟩;repeat' (first|exact t7|rfl|apply And.intro))
noncomputable section
def dw (a_p:au):Option (Bool):=bif (decide ((0:Int)<=a_p.lo))then bif (decide (a_p.lo<a_p.hi))then some (decide (a_p.hi<=(1099511627776:Int)))else
 some false else
 some false
instance gValid1_ok {a_p : au} {r : Bool} : OkC (dw a_p = some r) (PTz 26 [.agg (aH a_p)] (.val (.one (.bool r)))) := .mk fun H => by
 unfold dw at H;refine po_ Tryz.func26 Tryz.ntmps26 ?_;exact ax H
def dU (a_p:au)(a_t:Int):Option (Bool):=(dw a_p).bind fun r_1=>bif r_1 then bif (decide (a_p.lo<=a_t))then some (decide (a_t<a_p.hi))else
 some false else
 some false
instance gContains1_ok {a_p : au} {a_t : Int} {r : Bool} : OkC (dU a_p a_t = some r) (PTz 49 [.agg (aH a_p), .one (.int .i64 a_t)] (.val (.one (.bool r)))) := .mk fun H => by
 unfold dU at H;refine po_ Tryz.func49 Tryz.ntmps49 ?_;exact ax H
def fL (a_l:(List Int)):((List Int)×Int)->Option (Step ((List Int)×Int) ((List Int))):=fun s=>match s with
 |(out_7,i_8)=>bif (decide (i_8<((a_l.length:Nat):Int)))then(aq a_l i_8).bind fun x_10=>bif (decide (out_7.length+1<=17592186044416))then(some (.next ((out_7++[x_10]),(i64.wrap (i_8+(1:Int))))))else none else
 some (.exit (out_7,i_8))
def ad9:Sum ((List Int)×Int) ((List Int))->Option (((List Int)))
 |.inl (out_7,i_8)=>some out_7
 |.inr q=>some q
def Jt (a_l:(List Int)):((List Int)×Int)->Option (Step ((List Int)×Int) ((List Int))):=fun s=>match s with
 |(out_13,i_14)=>bif (decide (i_14<((a_l.length:Nat):Int)))then(aq a_l i_14).bind fun x_16=>bif (decide (out_13.length+1<=17592186044416))then(some (.next ((out_13++[x_16]),(i64.wrap (i_14+(1:Int))))))else none else
 some (.exit (out_13,i_14))
def afr:Sum ((List Int)×Int) ((List Int))->Option (((List Int)))
 |.inl (out_13,i_14)=>some out_13
 |.inr q=>some q
def Jb (a_l:(List Int)):((List Int)×Int)->Option (Step ((List Int)×Int) ((List Int))):=fun s=>match s with
 |(out_17,i_18)=>bif (decide (i_18<((a_l.length:Nat):Int)))then(aq a_l i_18).bind fun x_20=>bif (decide (out_17.length+1<=17592186044416))then(some (.next ((out_17++[x_20]),(i64.wrap (i_18+(1:Int))))))else none else
 some (.exit (out_17,i_18))
def adh:Sum ((List Int)×Int) ((List Int))->Option (((List Int)))
 |.inl (out_17,i_18)=>some out_17
 |.inr q=>some q
def ky (a_l:(List Int))(a_n:Int):((List Int)×Int)->Option (Step ((List Int)×Int) ((List Int))):=fun s=>match s with
 |(out_1,i_2)=>bif (decide (i_2<((a_l.length:Nat):Int)))then(aq a_l i_2).bind fun x_4=>bif (decide (x_4<a_n))then bif (decide (out_1.length+1<=17592186044416))then(some (.next ((out_1++[x_4]),(i64.wrap (i_2+(1:Int))))))else none else
 some (.exit (out_1,i_2))else
 some (.exit (out_1,i_2))
def jZ (a_l:(List Int))(a_n:Int):Sum ((List Int)×Int) ((List Int))->Option (((List Int)))
 |.inl (out_1,i_2)=>bif (decide (i_2=((a_l.length:Nat):Int)))then bif (decide (out_1.length+1<=17592186044416))then((ap (fL a_l) fuel ((out_1++[a_n]),i_2)).bind (ad9))else none else
 (aq a_l i_2).bind fun x_11=>bif (decide (a_n<x_11))then bif (decide (out_1.length+1<=17592186044416))then((ap (Jt a_l) fuel ((out_1++[a_n]),i_2)).bind (afr))else none else
 (ap (Jb a_l) fuel (out_1,i_2)).bind (adh)
 |.inr q=>some q
def o6 (a_l:(List Int))(a_n:Int):Option ((List Int)):=(ap (ky a_l a_n) fuel ([],(0:Int))).bind (jZ a_l a_n)
instance gIns3_ok {a_l : (List Int)} {a_n : Int} {r : (List Int)} : OkC (o6 a_l a_n = some r) (PTz 50 [.one (.lst (a_l.map (fun x => [AC.int .i64 x]))), .one (.int .i64 a_n)] (.val (.one (.lst (r.map (fun x => [AC.int .i64 x])))))) := .mk fun H => by
 unfold o6 at H;refine po_ Tryz.func50 Tryz.ntmps50 ?_;refine aX ?_;refine bK 5 1 rfl ?_;refine alM_ (fun s:(List Int)×Int=>match s with|(out_1,i_2)=>[(0,.one (.c (.lst (a_l.map (fun x=>[AC.int .i64 x]))))),(1,.one (.c (.int .i64 a_n))),(5,.one (.own (out_1.map (fun x=>[AC.int .i64 x])) 0)),(6,.one (.c (.int .i64 i_2)))]) (fun s=>match s with|(out_1,i_2)=>[.spare out_1.length 1]) H (fun _=>amR _)
  (fm_ bH [] rfl a8 bZ) ?_
 rintro⟨out_1,i_2⟩ st1 hb1 hk1;unfold ky at hb1;dsimp only at hb1 ⊢;rcases af hb1 with⟨q_3,hb1⟩|⟨q_3,hb1⟩
 ·obtain⟨x_4,i1z,i1,i1x,hb1⟩:=aY (f:=(fun x=>[AC.int .i64 x])) hb1
  rcases af hb1 with⟨q_5,hb1⟩|⟨q_5,hb1⟩
  ·exact ag' hb1
  cases hb1;have hx1:jZ a_l a_n (.inl (out_1,i_2))=some _:=hk1;unfold jZ at hx1;dsimp only at hx1;rcases af hx1 with⟨q_6,hx1⟩|⟨q_6,hx1⟩
  ·obtain⟨g3,hx1⟩:=bo hx1
   refine aX ?_;refine alM_ (fun s:(List Int)×Int=>match s with|(out_7,i_8)=>[(0,.one (.c (.lst (a_l.map (fun x=>[AC.int .i64 x]))))),(5,.one (.own (out_7.map (fun x=>[AC.int .i64 x])) 0)),(6,.one (.c (.int .i64 i_8)))]) (fun s=>match s with|(out_7,i_8)=>[.spare out_7.length 1]) hx1 (fun _=>amR _)
    (fm_ ⟨rfl,tN (by rw[amJ];rfl),rfl,t7⟩ [] m5 a8 bZ) ?_
   rintro⟨out_7,i_8⟩ st2 hb2 hk2;exact cL hb2 hk2
  obtain⟨x_11,i6z,i6,i6x,hx1⟩:=aY (f:=(fun x=>[AC.int .i64 x])) hx1
  cases am3 (i1.symm.trans i6);rcases af hx1 with⟨q_12,hx1⟩|⟨q_12,hx1⟩
  ·obtain⟨g7,hx1⟩:=bo hx1
   refine aX ?_;refine alM_ (fun s:(List Int)×Int=>match s with|(out_13,i_14)=>[(0,.one (.c (.lst (a_l.map (fun x=>[AC.int .i64 x]))))),(5,.one (.own (out_13.map (fun x=>[AC.int .i64 x])) 0)),(6,.one (.c (.int .i64 i_14)))]) (fun s=>match s with|(out_13,i_14)=>[.spare out_13.length 1]) hx1 (fun _=>amR _)
    (fm_ ⟨rfl,tN (by rw[amJ];rfl),rfl,t7⟩ [] m5 a8 bZ) ?_
   rintro⟨out_13,i_14⟩ st3 hb3 hk3;exact cL hb3 hk3
  refine aX ?_;refine alM_ (fun s:(List Int)×Int=>match s with|(out_17,i_18)=>[(0,.one (.c (.lst (a_l.map (fun x=>[AC.int .i64 x]))))),(5,.one (.own (out_17.map (fun x=>[AC.int .i64 x])) 0)),(6,.one (.c (.int .i64 i_18)))]) (fun s=>match s with|(out_17,i_18)=>[.spare out_17.length 1]) hx1 (fun _=>amR _)
   (fm_ bH [] rfl a8 bZ) ?_
  rintro⟨out_17,i_18⟩ st4 hb4 hk4;exact cL hb4 hk4
 cases hb1;have hx1:jZ a_l a_n (.inl (out_1,i_2))=some _:=hk1;unfold jZ at hx1;dsimp only at hx1;rcases af hx1 with⟨q_6,hx1⟩|⟨q_6,hx1⟩
 ·obtain⟨g12,hx1⟩:=bo hx1
  refine aX ?_;refine alM_ (fun s:(List Int)×Int=>match s with|(out_7,i_8)=>[(0,.one (.c (.lst (a_l.map (fun x=>[AC.int .i64 x]))))),(5,.one (.own (out_7.map (fun x=>[AC.int .i64 x])) 0)),(6,.one (.c (.int .i64 i_8)))]) (fun s=>match s with|(out_7,i_8)=>[.spare out_7.length 1]) hx1 (fun _=>amR _)
   (fm_ ⟨rfl,tN (by rw[amJ];rfl),rfl,t7⟩ [] m5 a8 bZ) ?_
  rintro⟨out_7,i_8⟩ st2 hb2 hk2;exact cL hb2 hk2
 obtain⟨x_11,i15z,i15,i15x,hx1⟩:=aY (f:=(fun x=>[AC.int .i64 x])) hx1;rcases af hx1 with⟨q_12,hx1⟩|⟨q_12,hx1⟩
 ·obtain⟨g16,hx1⟩:=bo hx1
  refine aX ?_;refine alM_ (fun s:(List Int)×Int=>match s with|(out_13,i_14)=>[(0,.one (.c (.lst (a_l.map (fun x=>[AC.int .i64 x]))))),(5,.one (.own (out_13.map (fun x=>[AC.int .i64 x])) 0)),(6,.one (.c (.int .i64 i_14)))]) (fun s=>match s with|(out_13,i_14)=>[.spare out_13.length 1]) hx1 (fun _=>amR _)
   (fm_ ⟨rfl,tN (by rw[amJ];rfl),rfl,t7⟩ [] m5 a8 bZ) ?_
  rintro⟨out_13,i_14⟩ st3 hb3 hk3;exact cL hb3 hk3
 refine aX ?_;refine alM_ (fun s:(List Int)×Int=>match s with|(out_17,i_18)=>[(0,.one (.c (.lst (a_l.map (fun x=>[AC.int .i64 x]))))),(5,.one (.own (out_17.map (fun x=>[AC.int .i64 x])) 0)),(6,.one (.c (.int .i64 i_18)))]) (fun s=>match s with|(out_17,i_18)=>[.spare out_17.length 1]) hx1 (fun _=>amR _)
  (fm_ bH [] rfl a8 bZ) ?_
 rintro⟨out_17,i_18⟩ st4 hb4 hk4;exact cL hb4 hk4
end
section
variable {P:Program} {ti:TI} {N:Nat} {ds:List (Option Tmp)} {K:Tm->List Ob->Prop} {rest:List Oper} {o:Oper} {T:Tm} {L:List Ob}
theorem tk_ (i:Nat){g:FuncId}{asx:List AV}{es fs:List (List AC)}{n m k d:Nat}(hd:o.dst=some d)(hN:Nat.blt d N=true)(hg:fD ds T o.guard=some true)(hp:dj ti (look T) o.op=some (g,.one (.own es i)::asx))(hL:L[i]?=some (.spare n k))(h:aB P ti N ds K rest ((d,.one (.own fs i))::T) (L.set i (.spare m k)))
  (hc:Run P g [.spare n k] (.one (.own es 0)::asx) [.spare m k] (.one (.own fs 0)):=by assumption) (ha:asx=asx.map (AV.ren [i]):=by rfl) (hb:IU 1 asx=true:=by rfl):aB P ti N ds K (o::rest) T L:=by
 refine cB [i] hd hN hg hp hc (by rw[amH,<- ha];rfl) ⟨rfl,m5,fun j y hy=>?_,bq ⟨t7,t7⟩,fun x hx=>?_⟩ rfl ?_ h
 ·match j,hy with
  |0,hy=>simp only[List.getElem?_cons_zero,Option.some.injEq]at hy;subst hy;exact hL
  |j+1,hy=>simp at hy
 ·rcases amN.1 hx with rfl|hx
  ·show 0<1;omega
  ·exact zW hb x hx
 ·simp only[joinL,join,dp,ct,jN,amH,amL]
  simp[Ob.ren]
end
def ahW:TI :={ tab with owns:=fun f=>f==188||tab.owns f }
theorem zU:TIok Tryz.prog ahW:=⟨tab_ok.size,tab_ok.agg,tab_ok.elem,tab_ok.field,tab_ok.zero,tab_ok.bytes,tab_ok.kind,tab_ok.struct,tab_ok.zok,tab_ok.eqs⟩
def aiq:TI :={ ahW with soft:=true }
theorem Ez:TIok Tryz.prog aiq:=⟨tab_ok.size,tab_ok.agg,tab_ok.elem,tab_ok.field,tab_ok.zero,tab_ok.bytes,tab_ok.kind,tab_ok.struct,tab_ok.zok,tab_ok.eqs⟩
def Kw (l:List Stp)(t n:Int):List Stp:=match l.getLast? with
 |some q=>if q.n=n then l else l++[⟨t,n⟩]
 |none=>l++[⟨t,n⟩]
theorem vB (l:List Stp)(q:Stp)(t n:Int):Kw (l++[q]) t n=if q.n=n then l++[q]else(l++[q])++[⟨t,n⟩]:=by
 unfold Kw;rw[List.getLast?_concat]
theorem ae5 (l:List Stp)(t n:Int):(Kw l t n).length<=l.length+1:=by
 rcases dY l with rfl|⟨m,q,rfl⟩
 ·show([]++[_]:List Stp).length<=_;simp
 ·rw[vB];split<;>simp
def Om (l:List Stp)(t n:Int):Option (List Stp):=bif decide (l.length<=1000000)then some (Kw l t n)else none
theorem adA {l:List Stp}{t n:Int}{r:List Stp}(H:Om l t n=some r):RTz 188 [.spare l.length 2] [.one (.own (l.map dM) 0),.one (.c (.int .i64 t)),.one (.c (.int .i64 n))] [.spare r.length 2] (.one (.own (r.map dM) 0)):=by
 unfold Om at H;obtain⟨g,H⟩:=iD H;obtain rfl:=am3 H;have g:=amZ g;refine cw tab_ok Tryz.func188 rfl rfl Tryz.ntmps188 m5 ?_;simp only[dN];rcases dY l with rfl|⟨m,q,rfl⟩
 ·show Aw _ _ _ _ (fun x T L=>(x = .normal\/x = .ret)/\LZ tab _ _ _ (.one (.own ([(⟨t,n⟩:Stp)].map dM) 0)) T L) _ _
  repeat' (first|refine gw_ tab_ok tabS_ok ?_|refine gi_ (fun hb=>?_) (fun hb=>?_)|fail)
  exact⟨.inr rfl,⟨.inl ⟨6,rfl,rfl⟩,⟨[],rfl⟩,amM _,bq ⟨t7,t7⟩,by show 0<1;omega⟩⟩
 ·have hlen:(m++[q]).length=m.length+1:=by simp
  have hm:m.length<=1000000:=m0
  have hge:((m++[q]).map dM)[((m.length:Nat):Int).toNat]?=some (dM q):=by rw[Int.toNat_natCast,amJ,amD m5];simp
  have hw1:i64.wrap (((m.length+1:Nat):Int)-1)=((m.length:Nat):Int):=aS m0 m0;have hg0:decide ((0:Int)<((m.length+1:Nat):Int))=true:=amA m0;have hln:((m++[q]).map dM).length=m.length+1:=by simp
  rw[vB];by_cases hpq:q.n=n
  ·have hp1:decide (q.n=n)=true:=amA hpq
   rw[if_pos hpq]
   repeat' (first|rw[hln]|rw[hw1]|rw[hg0]|rw[hp1]|(refine aZ rfl rfl rfl rfl rfl rfl rfl rfl hge ?_ ?_;· exact⟨m0,rfl⟩)|refine gw_ tab_ok tabS_ok ?_|refine gi_ (fun hb=>?_) (fun hb=>?_)|fail)
   exact⟨.inr rfl,⟨.inl ⟨6,rfl,rfl⟩,⟨[],rfl⟩,amM _,bq ⟨t7,t7⟩,by show 0<1;omega⟩⟩
  ·have hp1:decide (q.n=n)=false:=amz hpq
   rw[if_neg hpq]
   repeat' (first|rw[hln]|rw[hw1]|rw[hg0]|rw[hp1]|(refine aZ rfl rfl rfl rfl rfl rfl rfl rfl hge ?_ ?_;· exact⟨m0,rfl⟩)|refine gw_ tab_ok tabS_ok ?_|refine gi_ (fun hb=>?_) (fun hb=>?_)|fail)
   exact⟨.inr rfl,⟨.inl ⟨6,rfl,by rw[amJ (l₁:=m++[q])];rfl⟩,⟨[],m5⟩,amM _,bq ⟨t7,t7⟩,by show 0<1;omega⟩⟩
noncomputable section
def ox (a_l:(List ji))(x_12:Int):(Int×Int)->Option (Step (Int×Int) ((List Stp))):=fun s=>match s with
 |(n_14,i_15)=>bif (decide (i_15<((a_l.length:Nat):Int)))then(aq a_l i_15).bind fun x_17=>(dU x_17.period x_12).bind fun r_18=>bif r_18 then some (.next ((i64.wrap (n_14+x_17.n)),(i64.wrap (i_15+(1:Int)))))else
 some (.next (n_14,(i64.wrap (i_15+(1:Int)))))else
 some (.exit (n_14,i_15))
def xN (out_9:(List Stp))(k_10:Int)(x_12:Int):Sum (Int×Int) ((List Stp))->Option (Step ((List Stp)×Int) ((List Stp)))
 |.inl (n_14,i_15)=>(Om out_9 x_12 n_14).bind fun r_20=>some (.next (r_20,(i64.wrap (k_10+(1:Int)))))
 |.inr q=>some (.ret q)
def jj (a_l:(List ji))(p_1:(List Int)):((List Stp)×Int)->Option (Step ((List Stp)×Int) ((List Stp))):=fun s=>match s with
 |(out_9,k_10)=>bif (decide (k_10<((p_1.length:Nat):Int)))then(aq p_1 k_10).bind fun x_12=>bif (decide (x_12<(1099511627776:Int)))then(ap (ox a_l x_12) fuel ((0:Int),(0:Int))).bind (xN out_9 k_10 x_12)else
 some (.exit (out_9,k_10))else
 some (.exit (out_9,k_10))
def uH:Sum ((List Stp)×Int) ((List Stp))->Option (((List Stp)))
 |.inl (out_9,k_10)=>some out_9
 |.inr q=>some q
def nN (a_l:(List ji)):((List Int)×Int)->Option (Step ((List Int)×Int) ((List Stp))):=fun s=>match s with
 |(p_1,i_2)=>bif (decide (i_2<((a_l.length:Nat):Int)))then(aq a_l i_2).bind fun x_4=>(dw x_4.period).bind fun r_5=>bif r_5 then(o6 p_1 x_4.period.lo).bind fun r_7=>(o6 r_7 x_4.period.hi).bind fun r_8=>some (.next (r_8,(i64.wrap (i_2+(1:Int)))))else
 some (.next (p_1,(i64.wrap (i_2+(1:Int)))))else
 some (.exit (p_1,i_2))
def xO (a_l:(List ji)):Sum ((List Int)×Int) ((List Stp))->Option (((List Stp)))
 |.inl (p_1,i_2)=>(ap (jj a_l p_1) fuel ([],(0:Int))).bind (uH)
 |.inr q=>some q
def ahC (a_l:(List ji)):Option ((List Stp)):=(ap (nN a_l) fuel ([(0:Int)],(0:Int))).bind (xO a_l)
theorem pV {p q:Prop}(k:q)(h:Bx q->p:=by
 intro hq
 repeat' (first|refine tk_ 0 rfl rfl rfl rfl rfl ?_|refine p_ rfl rfl rfl rfl rfl ?_|refine st_nil ?_|refine x_ rfl rfl rfl rfl rfl rfl rfl rfl ?_|refine l_ rfl rfl rfl rfl ?_|refine s_ rfl rfl rfl ?_|refine t_ rfl rfl rfl rfl ?_|refine k_ rfl rfl rfl ?_|refine k0_ rfl rfl ?_|refine c_ rfl rfl rfl rfl ?_|refine pick_t rfl rfl rfl rfl rfl rfl rfl ?_|refine pick_f rfl rfl rfl rfl rfl rfl rfl ?_|refine aw_seq ?_|refine aw_region zU _ rfl ?_|refine aw_drawn2 Ez _ rfl mixed (by decide +kernel) ?_|refine aw_condT rfl ?_|refine aw_condF rfl ?_|refine aw_block ?_|refine aw_exit ?_|refine aw_ret ?_|refine aw_skip ?_|rw[amI]|rw[mn_norm]|rw[mx_norm])
 exact hq.out):p:=h ⟨k⟩
theorem aev {p:Prop}(h:p:=by
 repeat' (first|refine tk_ 0 rfl rfl rfl rfl rfl ?_|refine p_ rfl rfl rfl rfl rfl ?_|refine st_nil ?_|refine x_ rfl rfl rfl rfl rfl rfl rfl rfl ?_|refine l_ rfl rfl rfl rfl ?_|refine s_ rfl rfl rfl ?_|refine t_ rfl rfl rfl rfl ?_|refine k_ rfl rfl rfl ?_|refine k0_ rfl rfl ?_|refine c_ rfl rfl rfl rfl ?_|refine pick_t rfl rfl rfl rfl rfl rfl rfl ?_|refine pick_f rfl rfl rfl rfl rfl rfl rfl ?_|refine aw_seq ?_|refine aw_region zU _ rfl ?_|refine aw_drawn2 Ez _ rfl mixed (by decide +kernel) ?_|refine aw_condT rfl ?_|refine aw_condF rfl ?_|refine aw_block ?_|refine aw_exit ?_|refine aw_ret ?_|refine aw_skip ?_|rw[amI]|rw[mn_norm]|rw[mx_norm])
 refine aJ (aO rfl ?_ ?_)
 ·repeat' (first|exact t7|rfl|exact amG rfl|omega|apply And.intro)
 ·first|rfl|(simp only[amJ,amH,amL,amB]<;>rfl)):p:=h
instance gOf4_ok {a_l : (List ji)} {r : (List Stp)} : OkC (ahC a_l = some r) (PTz 135 [.one (.lst (a_l.map ol))] (.val (.one (.lst (r.map dM))))) := .mk fun H => by
 unfold ahC at H;refine pa_ zU Tryz.func135 rfl rfl Tryz.ntmps135 m5 ?_;simp only[argT,PV.av,amH,amL];refine pV ?_;refine alM_ (fun s:(List Int)×Int=>match s with|(p_1,i_2)=>[(0,.one (.c (.lst (a_l.map ol)))),(3,.one (.c (.lst (p_1.map (fun x=>[AC.int .i64 x]))))),(4,.one (.c (.int .i64 i_2)))]) (fun s=>match s with|(p_1,i_2)=>[]) H (fun _=>amR _)
  (fm_ bH [] rfl a8 trivial) ?_
 rintro⟨p_1,i_2⟩ st1 hb1 hk1;unfold nN at hb1;dsimp only at hb1 ⊢;rcases af hb1 with⟨q_3,hb1⟩|⟨q_3,hb1⟩
 ·obtain⟨x_4,i1z,i1,i1x,hb1⟩:=aY (f:=ol) hb1
  obtain⟨r_5,c2,hb1⟩:=bd_ hb1;replace c2:=gValid1_ok c2;rcases af hb1 with⟨q_6,hb1⟩|⟨q_6,hb1⟩
  ·obtain⟨r_7,c3,hb1⟩:=bd_ hb1
   replace c3:=gIns3_ok c3;obtain⟨r_8,c4,hb1⟩:=bd_ hb1;replace c4:=gIns3_ok c4
   cases hb1;refine pV ?_;exact⟨_,rfl,fm_ jb [] rfl a8 trivial⟩
  cases hb1;refine pV ?_;exact⟨_,rfl,fm_ jb [] rfl a8 trivial⟩
 cases hb1;have hx1:xO a_l (.inl (p_1,i_2))=some _:=hk1;unfold xO at hx1;dsimp only at hx1;refine pV ?_;refine bK 5 2 rfl ?_;refine alM_ (fun s:(List Stp)×Int=>match s with|(out_9,k_10)=>[(0,.one (.c (.lst (a_l.map ol)))),(3,.one (.c (.lst (p_1.map (fun x=>[AC.int .i64 x]))))),(5,.one (.own (out_9.map dM) 0)),(6,.one (.c (.int .i64 k_10)))]) (fun s=>match s with|(out_9,k_10)=>[.spare out_9.length 2]) hx1 (fun _=>amR _)
  (fm_ bH [] rfl a8 bZ) ?_
 rintro⟨out_9,k_10⟩ st4 hb4 hk4;unfold jj at hb4;dsimp only at hb4 ⊢;rcases af hb4 with⟨q_11,hb4⟩|⟨q_11,hb4⟩
 ·obtain⟨x_12,i5z,i5,i5x,hb4⟩:=aY (f:=(fun x=>[AC.int .i64 x])) hb4
  rcases af hb4 with⟨q_13,hb4⟩|⟨q_13,hb4⟩
  ·refine pV ?_
   refine alM_ (fun s:Int×Int=>match s with|(n_14,i_15)=>[(0,.one (.c (.lst (a_l.map ol)))),(3,.one (.c (.lst (p_1.map (fun x=>[AC.int .i64 x]))))),(5,.one (.own (out_9.map dM) 0)),(6,.one (.c (.int .i64 k_10))),(7,.one (.c (.int .i64 n_14))),(8,.one (.c (.int .i64 i_15)))]) (fun s=>match s with|(n_14,i_15)=>[.spare out_9.length 2]) hb4 (fun _=>amR _)
    (fm_ bH [] rfl a8 bZ) ?_
   rintro⟨n_14,i_15⟩ st5 hb5 hk5;unfold ox at hb5;dsimp only at hb5 ⊢;rcases af hb5 with⟨q_16,hb5⟩|⟨q_16,hb5⟩
   ·obtain⟨x_17,i6z,i6,i6x,hb5⟩:=aY (f:=ol) hb5
    obtain⟨r_18,c7,hb5⟩:=bd_ hb5;replace c7:=gContains1_ok c7;rcases af hb5 with⟨q_19,hb5⟩|⟨q_19,hb5⟩
    ·cases hb5
     refine pV ?_;exact⟨_,rfl,fm_ bH [] rfl a8 bZ⟩
    cases hb5;refine pV ?_;exact⟨_,rfl,fm_ bH [] rfl a8 bZ⟩
   cases hb5;have hx5:xN out_9 k_10 x_12 (.inl (n_14,i_15))=some _:=hk5;unfold xN at hx5;dsimp only at hx5;obtain⟨r_20,c8,hx5⟩:=bd_ hx5;replace c8:=adA c8
   cases hx5;refine pV ?_;exact⟨_,rfl,fm_ jb [] nk a8 bZ⟩
  cases hb4;have hx4:uH (.inl (out_9,k_10))=some _:=hk4;unfold uH at hx4;dsimp only at hx4
  cases hx4;exact aev
 cases hb4;have hx4:uH (.inl (out_9,k_10))=some _:=hk4;unfold uH at hx4;dsimp only at hx4
 cases hx4;exact aev
end
theorem ahG (n:Int):i64.wrap n=wrap64 n:=IntWalk.i64_left n
theorem Oo (p:au):dw p=some (St.be (toP p)):=by
 unfold dw St.be toP
 cases h1:decide (0<=p.lo)<;>cases h2:decide (p.lo<p.hi)<;>cases h3:decide (p.hi<=1099511627776)<;>simp_all
theorem aeZ (p:au)(t:Int):dU p t=some (St.aI (toP p) t):=by
 unfold dU St.aI;rw[Oo,amv];show(bif St.be (toP p)then(bif decide (p.lo<=t)then some (decide (t<p.hi))else some false)else some false)=some (St.be (toP p)&&decide (p.lo<=t)&&decide (t<p.hi))
 cases St.be (toP p)<;>cases decide (p.lo<=t)<;>rfl
def tlN (n:Int):List Int->List Int
 |[]=>[n]
 |x::l=>if n<x then n::x::l else x::l
theorem IJ (l:List Int)(hl:l.length<=1000000):∀ (n i:Nat) (out:List Int),i<=l.length->l.length-i<n->out.length+(l.length-i)<=4000000->ap (fL l) n (out,(i:Int))=some (.inl (out++l.drop i,((l.length:Nat):Int)))
 |0,i,out,_,h,_=>by omega
 |n+1,i,out,hi,hn,ho=>by
  rw[ap];by_cases hlt:i<l.length
  ·obtain⟨x,hx⟩:=gol_ hlt
   have hd:l.drop i=x::l.drop (i+1):=by rw[am2 hlt,(amw.1 hx).2]
   have hb:fL l (out,(i:Int))=some (.next (out++[x],((i+1:Nat):Int))):=by
    unfold fL;simp only;rw[aC hx,amy,gn_ hx,amv,amA m0,amy,wrapN m0]
   rw[hb];show ap (fL l) n (out++[x],_)=_;rw[IJ l hl n (i+1) (out++[x]) m0 m0 (by rw[amE];simp;omega),hd,amX];rfl
  ·have:i=l.length:=m0
   subst this;have hb:fL l (out,((l.length:Nat):Int))=some (.exit (out,((l.length:Nat):Int))):=by
    unfold fL;simp only;rw[lF_];rfl
   rw[hb,anq,am5]
theorem Ie (l:List Int)(n0:Int)(hl:l.length<=1000000):∀ (n i:Nat) (out:List Int),i<=l.length->l.length-i<n->out.length+(l.length-i)<=2000000 ->
  ∃ j out',ap (ky l n0) n (out,(i:Int))=some (.inl (out',((j:Nat):Int)))/\j<=l.length/\out++St.ins n0 (l.drop i)=out'++tlN n0 (l.drop j)/\out'.length+(l.length-j)<=2000000
 |0,i,out,_,h,_=>by omega
 |n+1,i,out,hi,hn,ho=>by
  rw[ap];by_cases hlt:i<l.length
  ·obtain⟨x,hx⟩:=gol_ hlt
   have hd:l.drop i=x::l.drop (i+1):=by rw[am2 hlt,(amw.1 hx).2]
   have hb:ky l n0 (out,(i:Int))=bif decide (x<n0)then some (.next (out++[x],((i+1:Nat):Int)))else some (.exit (out,(i:Int))):=by
    unfold ky;simp only;rw[aC hx,amy,gn_ hx,amv,amA (show out.length+1<=17592186044416 by omega),amy,wrapN m0]
   rw[hb];by_cases hlx:x<n0
   ·rw[amA hlx,amy]
    obtain⟨j,out',h1,h2,h3,h4⟩:=Ie l n0 hl n (i+1) (out++[x]) m0 m0 (by rw[amE];simp;omega);refine⟨j,out',h1,h2,?_,h4⟩;rw[<- h3,hd,St.ins,if_pos hlx,amX];rfl
   ·rw[amz hlx,amx]
    refine⟨i,out,rfl,hi,?_,ho⟩;rw[hd,St.ins,if_neg hlx,tlN]
  ·have:i=l.length:=m0
   subst this;have hb:ky l n0 (out,((l.length:Nat):Int))=some (.exit (out,((l.length:Nat):Int))):=by
    unfold ky;simp only;rw[lF_];rfl
   rw[hb];exact⟨l.length,out,rfl,amM _,by rw[anq];rfl,ho⟩
theorem Ac (l:List Int)(n:Int)(hl:l.length<=1000000):o6 l n=some (St.ins n l):=by
 obtain⟨j,out,h1,h2,h3,h4⟩:=Ie l n hl fuel 0 [] (amR _) (by unfold fuel;omega) m8;rw[List.drop_zero,amB]at h3;have hc:∀ o:List Int,o.length+(l.length-j)<=4000000->ap (fL l) fuel (o,((j:Nat):Int))=some (.inl (o++l.drop j,((l.length:Nat):Int))):=fun o ho=>IJ l hl fuel j o h2 (by unfold fuel;omega) ho
 unfold o6;rw[show((0:Int))=((0:Nat):Int)from rfl,h1,amv];show jZ l n (.inl (out,((j:Nat):Int)))=_;unfold jZ;simp only;have hg:decide (out.length+1<=17592186044416)=true:=amA m0;by_cases hj:j=l.length
 ·rw[amA (show((j:Nat):Int)=((l.length:Nat):Int)by omega),amy,hg,amy,hc (out++[n]) (by rw[amE];simp;omega),amv,h3,hj,anq]
  show some _=some _;rw[am5];rfl
 ·have hlt:j<l.length:=m0
  obtain⟨x,hx⟩:=gol_ hlt;have hd:l.drop j=x::l.drop (j+1):=by rw[am2 hlt,(amw.1 hx).2]
  rw[amz (show ¬ ((j:Nat):Int)=((l.length:Nat):Int)by omega),amx,gn_ hx,amv,hg];rw[show Jt l=fL l from rfl,show Jb l=fL l from rfl,h3,hd,tlN];by_cases hnx:n<x
  ·rw[amA hnx,amy,amy,if_pos hnx,hc (out++[n]) (by rw[amE];simp;omega),amv]
   show some _=some _;rw[hd,amX];rfl
  ·rw[amz hnx,amx,if_neg hnx,hc out m0,amv]
   show some _=some _;rw[hd]
theorem agO (a:List (Int×Int))(t n:Int):Kw (a.map ofS) t n=(St.bO a (t,n)).map ofS:=by
 unfold St.bO;rcases dY a with rfl|⟨m,q,rfl⟩
 ·rfl
 ·rw[List.getLast?_concat,amJ,amH,amL,vB]
  show(if q.2=n then _ else _)=_;by_cases h:q.2=n
  ·rw[if_pos h,if_pos (by show some q.2=some n;rw[h]),amJ];rfl
  ·rw[if_neg h,if_neg (by show ¬ some q.2=some n;intro e;exact h (am3 e)),amJ,amJ];rfl
theorem afo (l:List ji)(x:Int):∀ (n i:Nat) (a:Int),i<=l.length->l.length-i<n->l.length<=1000000->ap (ox l x) n (a,(i:Int))=some (.inl ((l.drop i).foldl (fun n c=>if St.aI (toC c).1 x then wrap64 (n+(toC c).2)else n) a,((l.length:Nat):Int)))
 |0,i,a,_,h,_=>by omega
 |n+1,i,a,hi,hn,hl=>by
  rw[ap];by_cases hlt:i<l.length
  ·obtain⟨c,hc⟩:=gol_ hlt
   have hb:ox l x (a,(i:Int))=some (.next ((if St.aI (toC c).1 x then wrap64 (a+(toC c).2)else a),((i+1:Nat):Int))):=by
    unfold ox;dsimp only;rw[aC hc,amy,gn_ hc,amv,aeZ,amv,wrapN m0,ahG];show(bif St.aI (toC c).1 x then _ else _)=_
    cases St.aI (toC c).1 x<;>rfl
   rw[hb,am2 hlt,(amw.1 hc).2,anl];exact afo l x n (i+1) _ m0 m0 hl
  ·have:i=l.length:=m0
   subst this;have hb:ox l x (a,((l.length:Nat):Int))=some (.exit (a,((l.length:Nat):Int))):=by
    unfold ox;dsimp only;rw[lF_];rfl
   rw[hb,anq];rfl
theorem ad6 (l:List ji)(hl:l.length<=1000000):∀ (n i:Nat) (p:List Int),i<=l.length->l.length-i<n->p.length+2*(l.length-i)<=900000 ->∃ q,ap (nN l) n (p,(i:Int))=some (.inl (q,((l.length:Nat):Int)))/\q=(l.drop i).foldl (fun p c=>if St.be (toC c).1 then St.ins (toC c).1.2 (St.ins (toC c).1.1 p)else p) p/\q.length<=900000
 |0,i,p,_,h,_=>by omega
 |n+1,i,p,hi,hn,hp=>by
  rw[ap];by_cases hlt:i<l.length
  ·obtain⟨c,hc⟩:=gol_ hlt
   have h1:=St.rA (toC c).1.1 p;have h2:=St.rA (toC c).1.2 (St.ins (toC c).1.1 p);have hb:nN l (p,(i:Int))=some (.next ((if St.be (toC c).1 then St.ins (toC c).1.2 (St.ins (toC c).1.1 p)else p),((i+1:Nat):Int))):=by
    unfold nN;dsimp only;rw[aC hc,amy,gn_ hc,amv,Oo,amv,wrapN m0,Ac _ _ m0,amv];show(bif St.be (toC c).1 then(o6 (St.ins (toC c).1.1 p) (toC c).1.2).bind _ else _)=_;rw[Ac _ _ m0,amv]
    cases St.be (toC c).1<;>rfl
   rw[hb,am2 hlt,(amw.1 hc).2,anl];exact ad6 l hl n (i+1) _ m0 m0 (by split<;>omega)
  ·have:i=l.length:=m0
   subst this;have hb:nN l (p,((l.length:Nat):Int))=some (.exit (p,((l.length:Nat):Int))):=by
    unfold nN;dsimp only;rw[lF_];rfl
   rw[hb,anq];exact⟨p,rfl,rfl,m0⟩
theorem aff (l:List ji)(P:List Int)(hl:l.length<=100000)(hP:P.length<=1000000):∀ (n k:Nat) (o:List Stp),k<=P.length->P.length-k<n->o.length+(P.length-k)<=900000 ->∃ j,ap (jj l P) n (o,(k:Int))=some (.inl (((P.drop k).takeWhile fun p=>decide (p<1099511627776)).foldl (fun o x=>Kw o x (St.ga (l.map toC) x)) o,j))
 |0,k,o,_,h,_=>by omega
 |n+1,k,o,hk,hn,ho=>by
  rw[ap];by_cases hlt:k<P.length
  ·obtain⟨x,hx⟩:=gol_ hlt
   rw[am2 hlt,(amw.1 hx).2,List.takeWhile_cons];by_cases hF:x<1099511627776
   ·have hs:=afo l x fuel 0 0 (amR _) (by unfold fuel;omega) m0
    have hr:(l.drop 0).foldl (fun n c=>if St.aI (toC c).1 x then wrap64 (n+(toC c).2)else n) 0=St.ga (l.map toC) x:=by
     unfold St.ga;rw[List.drop_zero,List.foldl_map]
    rw[hr,show((0:Nat):Int)=0 from rfl]at hs;have hb:jj l P (o,(k:Int))=some (.next (Kw o x (St.ga (l.map toC) x),((k+1:Nat):Int))):=by
     unfold jj;dsimp only;rw[aC hx,amy,gn_ hx,amv,amA hF,amy,hs,amv];unfold xN Om;dsimp only;rw[amA (show o.length<=1000000 by omega),amy,amv,wrapN m0]
    have:=ae5 o x (St.ga (l.map toC) x);rw[hb,if_pos (amA hF),anl];exact aff l P hl hP n (k+1) _ m0 m0 m0
   ·have hb:jj l P (o,(k:Int))=some (.exit (o,(k:Int))):=by
     unfold jj;dsimp only;rw[aC hx,amy,gn_ hx,amv,amz hF,amx]
    rw[hb,if_neg m8];exact⟨_,rfl⟩
  ·have:k=P.length:=m0
   subst this;have hb:jj l P (o,((P.length:Nat):Int))=some (.exit (o,((P.length:Nat):Int))):=by
    unfold jj;dsimp only;rw[lF_];rfl
   rw[hb,anq];exact⟨_,rfl⟩
theorem NN (f:Int->Int):∀ (P:List Int) (a:List (Int×Int)),P.foldl (fun o x=>Kw o x (f x)) (a.map ofS)=(P.foldl (fun a p=>St.bO a (p,f p)) a).map ofS
 |[],a=>rfl
 |x::P,a=>by rw[anl,anl,agO,NN f P]
theorem ag9 (l:List ji)(hl:l.length<=100000):ahC l=some (ip l):=by
 obtain⟨q,h1,h2,h3⟩:=ad6 l m0 fuel 0 [0] (amR _) (by unfold fuel;omega) m8;obtain⟨j,h4⟩:=aff l q hl m0 fuel 0 [] (amR _) (by unfold fuel;omega) m8;rw[show((0:Nat):Int)=0 from rfl]at h1 h4;unfold ahC;rw[h1,amv];unfold xO;dsimp only;rw[h4,amv];show some _=some _;rw[List.drop_zero];have e:(q.takeWhile fun p=>decide (p<1099511627776))=St.ed (l.map toC):=by
  rw[h2];unfold St.ed St.Bj;rw[List.drop_zero,List.foldl_map]
 rw[e];exact congrArg some (NN _ _ [])
theorem afU (l:List ji)(hn:l.length<=100000):PTz 135 [.one (.lst (l.map ol))] (.val (.one (.lst ((ip l).map dM)))):=gOf4_ok (ag9 l hn)
noncomputable section
def rV (l:List Stp)(n:Int):Option (List au):=bif decide (l.length<=100000)then some (nM n l [])else none
theorem AH {l:List Stp}{n:Int}{r:List au}(H:rV l n=some r):PTz 85 [.one (.lst (l.map dM)),.one (.int .i64 n)] (.val (.one (.lst (r.map aH)))):=by
 unfold rV at H;obtain⟨g,H⟩:=bo H
 cases H;exact adR l n g
end
