/- Parts of the proof, joined. No condition. -/
import Derived.Test.YtfccopdbgfdcdaaGreatDoorKAA
import Derived.Test.YtfccopdbgfdcdaaGreatDoorKBL
import Derived.Test.YtfccopdbgfdcdaaGreatDoorKBI
import Derived.Test.YtfccopdbgfdcdaaGreatDoorKAM
set_option linter.unusedSimpArgs false
set_option linter.unusedVariables false
namespace Go.Proofs.YtfccopdbgfdcdaaGreatDoor
open Go.RowKit Go.MapKept
set_option maxRecDepth 100000
theorem Y2 {P:Program} {ti:TI} {N:Nat} {ds:List (Option Tmp)} {K:Tm->List Ob->Prop} {o:Oper} {rest:List Oper} {T:Tm} {L L':List Ob} {x y:Operand} {t tx E:TypeId} {es xs:List (List AC)} {i n k by_ d:Nat} {vx:AV} (hd:o.dst=some d) (hN:Nat.blt d N=true) (hg:jX ds T o.guard=some true)
  (ho:o.op = .call { callee := .builtin .append,args := #[x,y],argTypes := #[t,tx] }) (hx:look T x=some (.one (.own es i))) (hy:look T y=some vx) (hl:eU vx=some xs) (ht:ti.elem t=some E) (hsz:ti.size E=some k) (hb:ti.bytes E=some by_) (hL:L[i]?=some (.spare n k))
  (hφ:(ti.elem tx).isSome/\es.length=n/\(ti.zok E=true/\0<k)/\(∀ e∈xs,e.length=k)/\(n+xs.length)*by_<=140737488355328/\n+xs.length<=140737488355328) (hL':L.set i (.spare (n+xs.length) k)=L')
  (h:aN P ti N ds K rest ((d, .one (.own (es++xs) i))::T) L'):aN P ti N ds K (o::rest) T L :=
 aT hd hN hg (v := .one (.own (es++xs) i)) (L':=L.set i (.spare (n+xs.length) k)) (φ:=(ti.elem tx).isSome/\k=k/\es.length=n/\(ti.zok E=true/\0<k)/\(∀ e∈xs,e.length=k)/\(n+xs.length)*by_<=140737488355328/\n+xs.length<=140737488355328)
  (by rw [ho];simp [FE,hx,hy,Bl,hl,ht,hsz,hb,hL]) ⟨hφ.1,rfl,hφ.2⟩ (by rw [hL'];exact h)
set_option maxHeartbeats 8000000 in
theorem U6 (l:List aG) (hl:l.length<=19) (h : ∀ f∈l,f.row.length<=1000 /\ ∀ v∈f.row,VOK v):Pure Tryz.prog 136 [.one (.lst (l.map aY))] (.val (.one (.lst ((oW l).map bG)))):=by
 refine pa_ cO Tryz.func136 rfl rfl Tryz.ntmps136 (by simp) ?_
 simp only [argT,PV.av,adT,adX]
 obtain ⟨n,hn⟩ : ∃ n,l.length=n:=⟨_,rfl⟩
 have hml:(((l.map aY).length:Nat):Int)=n:=by simp [hn]
 repeat' (first
  | refine st_nil ?_
  | refine aP rfl rfl rfl rfl ph_ ?_
  | refine aT rfl rfl rfl rfl ph_ ?_
  | refine sS_ rfl rfl rfl ph_ ?_
  | refine aS rfl rfl rfl rfl ph_ ?_
  | refine aK rfl rfl rfl ?_
  | refine sk0_ rfl rfl ?_
  | (refine bF rfl (fun hb=>?_) (fun hb=>?_)<;>(first|exact (fx_ hb).elim|rw [hb]))
  | refine aw_seq ?_
  | refine aw_region cO _ rfl ?_
  | refine aw_drawn2 bq _ rfl mixed (by decide +kernel) ?_
  | (refine aJ rfl (fun hb=>?_) (fun hb=>?_)<;>(try exact (fx_ hb).elim))
  | refine aw_block ?_
  | refine aw_exit ?_
  | refine aw_ret ?_
  | refine aw_skip ?_
  | (refine iy rfl rfl rfl rfl rfl Es ?_))
 refine qh (fun i:Nat=>[(0, .one (.c (.lst (l.map aY)))),(3, .one (.mp 0)),(4,N_ (fo (l.take i))),(11, .one (.c (.lst (l.map aY)))),(12, .one (.c (.int .i64 n))),(13, .one (.c (.int .i64 i)))]) (fun i=>O1 (fo (l.take i))) (fun i=>i<=n) (fun i=>n-i) 0 (by omega) (fun _ _=>ad4 _)
  (fm_ ⟨rfl,rfl,rfl,rfl,iA hml,rfl,trivial⟩ [] rfl ⟨trivial,(by cases (fo (l.take 0))<;>first|(show 0<_;simp [O1,xV])|skip),xZ _,trivial,trivial,trivial,trivial⟩ (pI _)) ?_
 intro i hi
 have hgl:=zV (l.take i)
 have hgm:=FM (l.take i)
 rw [aex] at hgl
 by_cases hlt:i<n
 ·obtain ⟨f,hx⟩:=gol_ (show i<l.length by omega)
  have hfm:=adO hx
  have hN:decide ((i:Int)<n)=true:=by simp;exact hlt
  have hnx:fo (l.take (i+1))=jK (fo (l.take i)) f:=by rw [kV hx];exact N7 _ _
  have hpv:=FT (IY f.valid)
  have hky:=UW f.row (h f hfm).1 (h f hfm).2
  have hidx:(l.map aY)[((i:Nat):Int).toNat]?=some (aY f):=Mr hx
  generalize fo (l.take i)=G at hgl hgm hnx
  unfold jK at hnx
  obtain ⟨row,lo,hi2⟩:=f
  dsimp only at hnx hky hpv
  have hcnt:l.length<=19:=hl
  repeat' (first
   | refine st_nil ?_
   | refine aP rfl rfl rfl rfl ph_ ?_
   | refine aT rfl rfl rfl rfl ph_ ?_
   | refine sS_ rfl rfl rfl ph_ ?_
   | refine aS rfl rfl rfl rfl ph_ ?_
   | refine aK rfl rfl rfl ?_
   | refine sk0_ rfl rfl ?_
   | (refine bF rfl (fun hb=>?_) (fun hb=>?_)<;>(first|exact (fx_ hb).elim|rw [hb]))
   | refine aw_seq ?_
   | (refine aJ rfl (fun hb=>?_) (fun hb=>?_)<;>(try exact (fx_ hb).elim))
   | refine aw_block ?_
   | refine aw_exit ?_
   | refine aw_ret ?_
   | refine aw_skip ?_)
  refine aw_region cO _ rfl ?_
  repeat' (first
   | refine st_nil ?_
   | rw [hN]
   | refine aP rfl rfl rfl rfl ph_ ?_
   | (refine A9 rfl rfl rfl rfl rfl rfl rfl rfl hidx ?_ ?_; · exact ⟨by omega,rfl⟩)
   | refine aT rfl rfl rfl rfl ph_ ?_
   | refine sS_ rfl rfl rfl ph_ ?_
   | refine aS rfl rfl rfl rfl ph_ ?_
   | refine aK rfl rfl rfl ?_
   | refine sk0_ rfl rfl ?_
   | (refine bF rfl (fun hb=>?_) (fun hb=>?_)<;>(first|exact (fx_ hb).elim|rw [hb]))
   | refine aw_seq ?_
   | (refine aJ rfl (fun hb=>?_) (fun hb=>?_)<;>(try exact (fx_ hb).elim))
   | refine aw_block ?_
   | refine aw_exit ?_
   | refine aw_ret ?_
   | refine aw_skip ?_)
  refine aw_region cO _ rfl ?_
  repeat' (first
   | refine st_nil ?_
   | (refine VF rfl rfl rfl rfl rfl rfl rfl ?_)
   | refine aP rfl rfl rfl rfl ph_ ?_
   | (refine A9 rfl rfl rfl rfl rfl rfl rfl rfl hidx ?_ ?_; · exact ⟨by omega,rfl⟩)
   | refine aT rfl rfl rfl rfl ph_ ?_
   | refine sS_ rfl rfl rfl ph_ ?_
   | refine aS rfl rfl rfl rfl ph_ ?_
   | refine aK rfl rfl rfl ?_
   | refine sk0_ rfl rfl ?_
   | (refine bF rfl (fun hb=>?_) (fun hb=>?_)<;>(first|exact (fx_ hb).elim|rw [hb]))
   | refine aw_seq ?_
   | (refine aJ rfl (fun hb=>?_) (fun hb=>?_)<;>(try exact (fx_ hb).elim))
   | refine aw_block ?_
   | refine aw_exit ?_
   | refine aw_ret ?_
   | refine aw_skip ?_)
  refine aag (A:=O1 G) rfl (by simp only [adT,adX,Ym];simp only [Xz,WL,if_true,List.drop_zero];rfl) ?_
  cases hv:aM ⟨lo,hi2⟩ with
  | false =>
   rw [hv,adJ] at hnx
   rw [hv] at hpv
   repeat' (first
    | refine st_nil ?_
    | rw [hN]
    | refine aP rfl rfl rfl rfl ph_ ?_
    | (refine A9 rfl rfl rfl rfl rfl rfl rfl rfl hidx ?_ ?_; · exact ⟨by omega,rfl⟩)
    | refine aT rfl rfl rfl rfl ph_ ?_
    | refine sS_ rfl rfl rfl ph_ ?_
    | refine aS rfl rfl rfl rfl ph_ ?_
    | refine aK rfl rfl rfl ?_
    | refine sk0_ rfl rfl ?_
    | refine cK rfl rfl rfl rfl hpv rfl ?_
    | refine cK rfl rfl rfl rfl hky rfl ?_
    | (refine bF rfl (fun hb=>?_) (fun hb=>?_)<;>(first|exact (fx_ hb).elim|rw [hb]))
    | refine aw_seq ?_
    | refine aw_region cO _ rfl ?_
    | refine aw_drawn2 bq _ rfl mixed (by decide +kernel) ?_
    | (refine aJ rfl (fun hb=>?_) (fun hb=>?_)<;>(try exact (fx_ hb).elim))
    | refine aw_block ?_
    | refine aw_exit ?_
    | refine aw_ret ?_
    | refine aw_skip ?_)
   exact ⟨i+1,by omega,by omega,by rw [hnx];exact fm_ ⟨rfl,rfl,rfl,rfl,rfl,iA (iY (by omega) (by omega)),trivial⟩ [.dead] rfl ⟨trivial,(by cases G<;>first|(show 0<_;simp [O1,xV])),xZ _,trivial,trivial,trivial,trivial⟩ (pI _)⟩
  | true =>
   rw [hv,adK] at hnx
   rw [hv] at hpv
   cases hf:iN (jg row) G with
   | some j =>
    have hjl:=FV hf
    obtain ⟨g,hg⟩:=gol_ hjl
    rw [hf] at hnx
    dsimp only at hnx
    rw [hg] at hnx
    dsimp only at hnx
    have hGn:G≠[]:=by intro e;rw [e] at hjl;simp at hjl
    have hgl2:=(hgm g (adO hg)).1
    rw [aex] at hgl2
    rw [vk hGn,xD hGn]
    have ej:0+((j:Nat):Int).toNat=j:=by simp
    have hgj:(gV 0 G)[0+((j:Nat):Int).toNat]?=some [.c (dC g.f.row), .own (zh g.ps) (4+3*(0+j))]:=by rw [ej];exact Po G 0 j g hg
    have hLl:=pE hGn
    have hLj:(xV G++[Ob.dead])[4+3*(0+j)]?=some (.spare g.ps.length 2):=by
     rw [adW (by omega)]
     rw [show 4+3*(0+j)=3*j+1+1+1+1 by omega]
     exact Z8 hg
    have hset:(xV G++[Ob.dead]).set (4+3*(0+j)) (.spare (g.ps.length+1) 2) = .map (rX 0 G) :: .dead::Fe G :: .row (141+65536*G.length) (gV 0 G) 2::(Bd (G.set j ⟨g.f,g.ps++[⟨lo,hi2⟩]⟩)++[.dead]):=by
     rw [List.set_append_left _ _ (by omega)]
     have e6:g.ps.length+1=(g.ps++[(⟨lo,hi2⟩:aW)]).length:=by simp
     rw [e6,show 4+3*(0+j)=3*j+1+1+1+1 by omega, <- aah (g.ps++[(⟨lo,hi2⟩:aW)]) hg]
     rfl
    have hpl:(zh g.ps).length=g.ps.length:=by simp [zh]
    have hstr:(.map (rX 0 G) :: .dead::Fe G :: .row (141+65536*G.length) (gV 0 G) 2::(Bd (G.set j ⟨g.f,g.ps++[⟨lo,hi2⟩]⟩)++[Ob.dead])).set 3 (.row (141+65536*G.length) ((gV 0 G).set (0+((j:Nat):Int).toNat) [.c (dC g.f.row), .own (zh g.ps++[[.int .i64 lo, .int .i64 hi2]]) (4+3*(0+j))]) 2)=xV (G.set j ⟨g.f,g.ps++[⟨lo,hi2⟩]⟩)++[.dead]:=by
     have e7:zh g.ps++[[.int .i64 lo, .int .i64 hi2]]=zh (g.ps++[⟨lo,hi2⟩]):=by simp [zh,dP]
     rw [ej,e7,PN G 0 j g _ hg]
     unfold xV
     rw [ZF _ hg,YX hg,List.length_set]
     rfl
    have hG2:G.set j ⟨g.f,g.ps++[⟨lo,hi2⟩]⟩≠[]:=by intro e;have:=congrArg List.length e;simp at this;exact hGn this
    repeat' (first
     | refine st_nil ?_
     | (refine Q7 rfl rfl rfl rfl rfl rfl rfl (e:=[.c (dC g.f.row), .own (zh g.ps) (4+3*(0+j))]) (by exact hgj) rfl ?_)
     | (refine Y2 (k:=2) (by_:=16) rfl rfl rfl rfl rfl rfl rfl rfl rfl rfl (by exact hLj) ⟨rfl,hpl,⟨rfl,by decide⟩,by intro e he;simp at he;subst he;rfl,by show (_+1)*16<=_;omega,by show _+1<=_;omega⟩ (by exact hset) ?_)
     | (refine D6 rfl rfl rfl rfl rfl rfl (e:=[.c (dC g.f.row), .own (zh g.ps) (4+3*(0+j))]) (by exact hgj) ⟨adY _,rfl⟩ (by exact hstr) ?_)
     | (refine aP rfl rfl rfl rfl ?_ ?_; · (repeat' (first|exact trivial|rfl|exact adS rfl|omega|(intro e he;simp at he;subst he;rfl)|apply And.intro)))
     | (refine aT rfl rfl rfl rfl ?_ ?_; · (repeat' (first|exact trivial|rfl|exact adS rfl|omega|(intro e he;simp at he;subst he;rfl)|apply And.intro)))
     | (refine sS_ rfl rfl rfl ?_ ?_; · (repeat' (first|exact trivial|rfl|exact adS rfl|omega|(intro e he;simp at he;subst he;rfl)|apply And.intro)))
     | (refine aS rfl rfl rfl rfl ?_ ?_; · (repeat' (first|exact trivial|rfl|exact adS rfl|omega|(intro e he;simp at he;subst he;rfl)|apply And.intro)))
     | refine aK rfl rfl rfl ?_
     | refine sk0_ rfl rfl ?_
     | refine cK rfl rfl rfl rfl hpv rfl ?_
     | refine cK rfl rfl rfl rfl hky rfl ?_
     | (refine bF rfl (fun hb=>?_) (fun hb=>?_)<;>(first|exact (fx_ hb).elim|rw [hb]))
     | refine aw_seq ?_
     | refine aw_region cO _ rfl ?_
     | refine aw_drawn2 bq _ rfl mixed (by decide +kernel) ?_
     | (refine aJ rfl (fun hb=>?_) (fun hb=>?_)<;>(try exact (fx_ hb).elim))
     | refine aw_block ?_
     | refine aw_exit ?_
     | refine aw_ret ?_
     | refine aw_skip ?_
     | (refine fw rfl rfl rfl rfl rfl (Xc cO hf rfl rfl rfl rfl rfl rfl) ?_))
    exact ⟨i+1,by omega,by omega,by rw [hnx,vk hG2,xD hG2,List.length_set];exact fm_ ⟨rfl,rfl,rfl,rfl,rfl,iA (iY (by omega) (by omega)),trivial⟩ [.dead] rfl ⟨trivial,(by show 0<_;rw [pE hG2];omega),(by show 3<_;rw [pE hG2,List.length_set];omega),trivial,trivial,trivial,trivial⟩ (by rw [<- vk hG2];exact pI _)⟩
   | none =>
    rw [hf] at hnx
    dsimp only at hnx
    cases hGe:G with
    | nil =>
     rw [hGe] at hf hnx
     repeat' (first
      | refine st_nil ?_
      | (refine ML rfl rfl rfl rfl (Ig (G:=[]) ⟨⟨row,⟨lo,hi2⟩⟩,[⟨lo,hi2⟩]⟩ cO hf rfl rfl rfl rfl rfl rfl rfl) ?_)
      | (refine iy rfl rfl rfl rfl rfl (FO (k:=2) (E:=141) (cs:=[.c (dC row), .emp]) cO rfl rfl (by decide) (by decide) rfl (by decide) rfl rfl) ?_)
      | (refine iy rfl rfl rfl rfl rfl (OA (E:=141) (k:=2) (by_:=48) (xs:=[[.c (dC row), .emp]]) cO rfl rfl rfl ⟨rfl,_,rfl,adS rfl⟩ rfl (by decide) rfl rfl rfl (by decide) (adS rfl) (adS rfl) (adS rfl)) ?_)
      | (refine Q7 rfl rfl rfl rfl rfl rfl rfl (e:=[.c (dC row), .emp]) (by rfl) rfl ?_)
      | (refine D6 rfl rfl rfl rfl rfl rfl (e:=[.c (dC row), .emp]) (by rfl) ⟨adY _,rfl⟩ rfl ?_)
      | (refine aP rfl rfl rfl rfl ?_ ?_; · (repeat' (first|exact trivial|rfl|exact adS rfl|omega|(intro e he;simp at he;subst he;rfl)|decide|(simp only [ad5,aec];omega)|(simp only [ad5,aec,aeo];decide)|apply And.intro)))
      | (refine aT rfl rfl rfl rfl ?_ ?_; · (repeat' (first|exact trivial|rfl|exact adS rfl|omega|(intro e he;simp at he;subst he;rfl)|decide|(simp only [ad5,aec];omega)|(simp only [ad5,aec,aeo];decide)|apply And.intro)))
      | (refine sS_ rfl rfl rfl ?_ ?_; · (repeat' (first|exact trivial|rfl|exact adS rfl|omega|(intro e he;simp at he;subst he;rfl)|decide|(simp only [ad5,aec];omega)|(simp only [ad5,aec,aeo];decide)|apply And.intro)))
      | (refine aS rfl rfl rfl rfl ?_ ?_; · (repeat' (first|exact trivial|rfl|exact adS rfl|omega|(intro e he;simp at he;subst he;rfl)|decide|(simp only [ad5,aec];omega)|(simp only [ad5,aec,aeo];decide)|apply And.intro)))
      | refine aK rfl rfl rfl ?_
      | refine sk0_ rfl rfl ?_
      | refine cK rfl rfl rfl rfl hpv rfl ?_
      | refine cK rfl rfl rfl rfl hky rfl ?_
      | (refine bF rfl (fun hb=>?_) (fun hb=>?_)<;>(first|exact (fx_ hb).elim|rw [hb]))
      | refine aw_seq ?_
      | refine aw_region cO _ rfl ?_
      | refine aw_drawn2 bq _ rfl mixed (by decide +kernel) ?_
      | (refine aJ rfl (fun hb=>?_) (fun hb=>?_)<;>(try exact (fx_ hb).elim))
      | refine aw_block ?_
      | refine aw_exit ?_
      | refine aw_ret ?_
      | refine aw_skip ?_
      | (refine fw rfl rfl rfl rfl rfl (IK (G:=[]) cO hf rfl rfl rfl rfl rfl rfl) ?_))
     exact ⟨i+1,by omega,by omega,by rw [hnx];exact fm_ ⟨rfl,rfl,rfl,rfl,rfl,iA (iY (by omega) (by omega)),trivial⟩ [] rfl ⟨trivial,(by show 0<5;omega),xZ _,trivial,trivial,trivial,trivial⟩ (pI _)⟩
    | cons g0 G0 =>
     have hGn:G≠[]:=by rw [hGe];simp
     rw [<- hGe]
     rw [vk hGn,xD hGn]
     have htl:=TF hGn
     obtain ⟨gn,hgn⟩ : ∃ gn:bN,gn=⟨⟨row,⟨lo,hi2⟩⟩,[⟨lo,hi2⟩]⟩:=⟨_,rfl⟩
     have hgk:jg gn.f.row=jg row:=by rw [hgn]
     rw [<- hgn] at hnx
     have hgbe:gbG gn=Ob.row (141+65536) [[SV.c (dC row),SV.emp]] 2:=by rw [hgn];rfl
     have hLa:(Ob.map (rX 0 (G++[gn]))::Ob.dead::Fe G::Ob.row (141+65536*G.length) (gV 0 G) 2::(Bd G++[Ob.dead])).length=3+3*G.length:=by simp;omega
     have hq:((Ob.map (rX 0 (G++[gn]))::Ob.dead::Fe G::Ob.row (141+65536*G.length) (gV 0 G) 2::(Bd G++[Ob.dead]))++[Ob.row (141+65536) [[SV.c (dC row),SV.emp]] 2])[3+3*G.length]?=some (Ob.row (141+65536) [[SV.c (dC row),SV.emp]] 2):=by
      rw [adP (by rw [hLa];exact adY _),hLa,Nat.sub_self];rfl
     have hsrc:O0 ((Ob.map (rX 0 (G++[gn]))::Ob.dead::Fe G::Ob.row (141+65536*G.length) (gV 0 G) 2::(Bd G++[Ob.dead]))++[Ob.row (141+65536) [[SV.c (dC row),SV.emp]] 2]) (.one (.sl (3+3*G.length) (141+65536) 0 1))=some [[SV.c (dC row),SV.emp]]:=by
      simp only [O0,hq];rfl
     have hsok:G8 ab0 ((Ob.map (rX 0 (G++[gn]))::Ob.dead::Fe G::Ob.row (141+65536*G.length) (gV 0 G) 2::(Bd G++[Ob.dead]))++[Ob.row (141+65536) [[SV.c (dC row),SV.emp]] 2]) 2 138 (.one (.sl (3+3*G.length) (141+65536) 0 1)):=⟨rfl,[[SV.c (dC row),SV.emp]],hq,adY _⟩
     have hL2:((Ob.map (rX 0 (G++[gn]))::Ob.dead::Fe G::Ob.row (141+65536*G.length) (gV 0 G) 2::(Bd G++[Ob.dead]))++[Ob.row (141+65536) [[SV.c (dC row),SV.emp]] 2]).set 3 (Ob.row (141+65536*G.length+65536) (gV 0 G++[[SV.c (dC row),SV.emp]]) 2)=Ob.map (rX 0 (G++[gn]))::Ob.dead::Fe G::Ob.row (141+65536*G.length+65536) (gV 0 G++[[SV.c (dC row),SV.emp]]) 2::(Bd G++[Ob.dead,Ob.row (141+65536) [[SV.c (dC row),SV.emp]] 2]):=by simp
     have hL2l:(Ob.map (rX 0 (G++[gn]))::Ob.dead::Fe G::Ob.row (141+65536*G.length+65536) (gV 0 G++[[SV.c (dC row),SV.emp]]) 2::(Bd G++[Ob.dead,Ob.row (141+65536) [[SV.c (dC row),SV.emp]] 2])).length=4+3*G.length:=by simp;omega
     have eG:0+((G.length:Nat):Int).toNat=G.length:=by simp
     have hgG:(gV 0 G++[[SV.c (dC row), .emp]])[0+((G.length:Nat):Int).toNat]?=some [SV.c (dC row),SV.emp]:=by
      rw [eG,adP (by rw [rY];exact adY _),rY];simp
     have e10:(G++[gn]).length=G.length+1:=by simp
     have e9:141+65536*(G++[gn]).length=141+65536*G.length+65536:=by rw [e10];omega
     have hG2:G++[gn]≠[]:=by simp
     have hstr:((Ob.map (rX 0 (G++[gn]))::Ob.dead::Fe G::Ob.row (141+65536*G.length+65536) (gV 0 G++[[SV.c (dC row),SV.emp]]) 2::(Bd G++[Ob.dead,Ob.row (141+65536) [[SV.c (dC row),SV.emp]] 2]))++[Ob.spare 1 2]).set 3 (Ob.row (141+65536*G.length+65536) ((gV 0 G++[[SV.c (dC row), .emp]]).set (0+((G.length:Nat):Int).toNat) [SV.c (dC row),SV.own [[.int .i64 lo, .int .i64 hi2]] (Ob.map (rX 0 (G++[gn]))::Ob.dead::Fe G::Ob.row (141+65536*G.length+65536) (gV 0 G++[[SV.c (dC row),SV.emp]]) 2::(Bd G++[Ob.dead,Ob.row (141+65536) [[SV.c (dC row),SV.emp]] 2])).length]) 2)=xV (G++[gn]):=by
      have e8:(gV 0 G++[[SV.c (dC row), .emp]]).set G.length [SV.c (dC row),SV.own [[.int .i64 lo, .int .i64 hi2]] (4+3*G.length)]=gV 0 (G++[gn]):=by
       rw [Lm,List.set_append_right _ _ (by rw [rY];exact adY _),rY,hgn]
       simp [zh,dP]
      rw [eG,hL2l,e8]
      unfold xV
      rw [Yu gn hGn,XQ gn hGn,e9,hgbe,hgn]
      simp [bxG]
     repeat' (first
      | refine st_nil ?_
      | (refine aP rfl rfl rfl rfl ?_ ?_; · (repeat' (first|exact trivial|rfl|exact adS rfl|omega|(intro e he;simp at he;subst he;rfl)|decide|(show _<_+1;omega)|apply And.intro)))
      | (refine aT rfl rfl rfl rfl ?_ ?_; · (repeat' (first|exact trivial|rfl|exact adS rfl|omega|(intro e he;simp at he;subst he;rfl)|decide|(show _<_+1;omega)|apply And.intro)))
      | (refine sS_ rfl rfl rfl ?_ ?_; · (repeat' (first|exact trivial|rfl|exact adS rfl|omega|(intro e he;simp at he;subst he;rfl)|decide|(show _<_+1;omega)|apply And.intro)))
      | (refine aS rfl rfl rfl rfl ?_ ?_; · (repeat' (first|exact trivial|rfl|exact adS rfl|omega|(intro e he;simp at he;subst he;rfl)|decide|(show _<_+1;omega)|apply And.intro)))
      | refine aK rfl rfl rfl ?_
      | refine sk0_ rfl rfl ?_
      | refine cK rfl rfl rfl rfl hpv rfl ?_
      | refine cK rfl rfl rfl rfl hky rfl ?_
      | (refine bF rfl (fun hb=>?_) (fun hb=>?_)<;>(first|exact (fx_ hb).elim|rw [hb]))
      | refine aw_seq ?_
      | refine aw_region cO _ rfl ?_
      | refine aw_drawn2 bq _ rfl mixed (by decide +kernel) ?_
      | (refine aJ rfl (fun hb=>?_) (fun hb=>?_)<;>(try exact (fx_ hb).elim))
      | refine aw_block ?_
      | refine aw_exit ?_
      | refine aw_ret ?_
      | refine aw_skip ?_
      | (refine fw rfl rfl rfl rfl rfl (IK (G:=G) cO hf rfl rfl rfl rfl rfl rfl) ?_))
     refine ML (L':=(Ob.map (rX 0 (G++[gn]))::Ob.dead::Fe G::Ob.row (141+65536*G.length) (gV 0 G) 2::(Bd G++[Ob.dead]))) rfl rfl rfl rfl (Ig (G:=G) (id:=0) gn cO hf hgk rfl rfl rfl rfl rfl rfl) ?_
     repeat' (first
      | refine st_nil ?_
      | (refine ML (L':=(Ob.map (rX 0 (G++[gn]))::Ob.dead::Fe G::Ob.row (141+65536*G.length) (gV 0 G) 2::(Bd G++[Ob.dead]))) rfl rfl rfl rfl (Ig (G:=G) (id:=0) gn cO hf hgk rfl rfl rfl rfl rfl rfl) ?_)
      | (refine iy (v := .one (.sl (3+3*G.length) (141+65536) 0 1)) (L':=(Ob.map (rX 0 (G++[gn]))::Ob.dead::Fe G::Ob.row (141+65536*G.length) (gV 0 G) 2::(Bd G++[Ob.dead]))++[Ob.row (141+65536) [[SV.c (dC row),SV.emp]] 2]) rfl rfl rfl rfl rfl (by rw [<- hLa];exact FO (k:=2) (E:=141) (cs:=[SV.c (dC row),SV.emp]) cO rfl rfl (by decide) (by decide) rfl (by decide) rfl rfl) ?_)
      | (refine iy (v := .one (.sl 3 (141+65536*G.length+65536) 0 (G.length+1))) (L':=(Ob.map (rX 0 (G++[gn]))::Ob.dead::Fe G::Ob.row (141+65536*G.length+65536) (gV 0 G++[[SV.c (dC row),SV.emp]]) 2::(Bd G++[Ob.dead,Ob.row (141+65536) [[SV.c (dC row),SV.emp]] 2]))) rfl rfl rfl rfl rfl (by rw [<- hL2];exact yT (k:=2) (by_:=48) (xs:=[[SV.c (dC row),SV.emp]]) cO rfl rfl rfl hsrc hsok rfl (by show (141+65536*G.length)%65536=141;omega) rfl rfl rfl (by decide) (rY G 0) (by show (_+1)*48<=_;omega) (by show _+1<=_;omega)) ?_)
      | (refine Q7 rfl rfl rfl rfl rfl rfl rfl (e:=[SV.c (dC row),SV.emp]) (by exact hgG) rfl ?_)
      | (refine D6 rfl rfl rfl rfl rfl rfl (e:=[SV.c (dC row),SV.emp]) (by exact hgG) ⟨adY _,rfl⟩ (by exact hstr) ?_)
      | (refine aP rfl rfl rfl rfl ?_ ?_; · (repeat' (first|exact trivial|rfl|exact adS rfl|omega|(intro e he;simp at he;subst he;rfl)|decide|(show _<_+1;omega)|apply And.intro)))
      | (refine aT rfl rfl rfl rfl ?_ ?_; · (repeat' (first|exact trivial|rfl|exact adS rfl|omega|(intro e he;simp at he;subst he;rfl)|decide|(show _<_+1;omega)|apply And.intro)))
      | (refine sS_ rfl rfl rfl ?_ ?_; · (repeat' (first|exact trivial|rfl|exact adS rfl|omega|(intro e he;simp at he;subst he;rfl)|decide|(show _<_+1;omega)|apply And.intro)))
      | (refine aS rfl rfl rfl rfl ?_ ?_; · (repeat' (first|exact trivial|rfl|exact adS rfl|omega|(intro e he;simp at he;subst he;rfl)|decide|(show _<_+1;omega)|apply And.intro)))
      | refine aK rfl rfl rfl ?_
      | refine sk0_ rfl rfl ?_
      | refine cK rfl rfl rfl rfl hpv rfl ?_
      | refine cK rfl rfl rfl rfl hky rfl ?_
      | (refine bF rfl (fun hb=>?_) (fun hb=>?_)<;>(first|exact (fx_ hb).elim|rw [hb]))
      | refine aw_seq ?_
      | refine aw_region cO _ rfl ?_
      | refine aw_drawn2 bq _ rfl mixed (by decide +kernel) ?_
      | (refine aJ rfl (fun hb=>?_) (fun hb=>?_)<;>(try exact (fx_ hb).elim))
      | refine aw_block ?_
      | refine aw_exit ?_
      | refine aw_ret ?_
      | refine aw_skip ?_
      | (refine fw rfl rfl rfl rfl rfl (IK (G:=G) cO hf rfl rfl rfl rfl rfl rfl) ?_))
     exact ⟨i+1,by omega,by omega,by rw [hnx,vk hG2,xD hG2,e9,e10];exact fm_ ⟨rfl,rfl,rfl,rfl,rfl,iA (iY (by omega) (by omega)),trivial⟩ [] (aeg _).symm ⟨trivial,(by show 0<_;rw [pE hG2];omega),(by show 3<_;rw [pE hG2,e10];omega),trivial,trivial,trivial,trivial⟩ (by rw [<- vk hG2];exact pI _)⟩
 ·have htk:l.take i=l:=ael (by omega)
  have hN:decide ((i:Int)<n)=false:=by simp;omega
  rw [htk] at hgl hgm ⊢
  have hgl2:=zV l
  have hrP:oW l=ww mi ((fo l).map fun g=>(⟨g.f.row,g.ps⟩:ay)):=rfl
  rw [hrP]
  clear hrP
  have hgm2 : ∀ g∈fo l,g.f.row.length<=1000:=fun g hg=>(h _ (FM l g hg).2.1).1
  generalize fo l=G at hgl hgm hgl2 hgm2 ⊢
  repeat' (first
   | refine st_nil ?_
   | refine aP rfl rfl rfl rfl ph_ ?_
   | refine aT rfl rfl rfl rfl ph_ ?_
   | refine sS_ rfl rfl rfl ph_ ?_
   | refine aS rfl rfl rfl rfl ph_ ?_
   | refine aK rfl rfl rfl ?_
   | refine sk0_ rfl rfl ?_
   | (refine bF rfl (fun hb=>?_) (fun hb=>?_)<;>(first|exact (fx_ hb).elim|rw [hb]))
   | refine aw_seq ?_
   | (refine aJ rfl (fun hb=>?_) (fun hb=>?_)<;>(try exact (fx_ hb).elim))
   | refine aw_block ?_
   | refine aw_exit ?_
   | refine aw_ret ?_
   | refine aw_skip ?_)
  refine aw_region cO _ rfl ?_
  repeat' (first
   | refine st_nil ?_
   | rw [hN]
   | refine aP rfl rfl rfl rfl ph_ ?_
   | (refine A9 rfl rfl rfl rfl rfl rfl rfl rfl hidx ?_ ?_; · exact ⟨by omega,rfl⟩)
   | refine aT rfl rfl rfl rfl ph_ ?_
   | refine sS_ rfl rfl rfl ph_ ?_
   | refine aS rfl rfl rfl rfl ph_ ?_
   | refine aK rfl rfl rfl ?_
   | refine sk0_ rfl rfl ?_
   | (refine bF rfl (fun hb=>?_) (fun hb=>?_)<;>(first|exact (fx_ hb).elim|rw [hb]))
   | refine aw_seq ?_
   | (refine aJ rfl (fun hb=>?_) (fun hb=>?_)<;>(try exact (fx_ hb).elim))
   | refine aw_block ?_
   | refine aw_exit ?_
   | refine aw_ret ?_
   | refine aw_skip ?_)
  cases hGe:G with
  | nil =>
   have e0:(ww mi (([]:List bN).map fun g=>(⟨g.f.row,g.ps⟩:ay))).map bG=[]:=rfl
   rw [e0]
   repeat' (first
    | refine st_nil ?_
    | refine aP rfl rfl rfl rfl ph_ ?_
    | refine aT rfl rfl rfl rfl ph_ ?_
    | refine sS_ rfl rfl rfl ph_ ?_
    | refine aS rfl rfl rfl rfl ph_ ?_
    | refine aK rfl rfl rfl ?_
    | refine sk0_ rfl rfl ?_
    | refine cK rfl rfl rfl rfl Rp rfl ?_
    | (refine bF rfl (fun hb=>?_) (fun hb=>?_)<;>(first|exact (fx_ hb).elim|rw [hb]))
    | refine aw_seq ?_
    | refine aw_region cO _ rfl ?_
    | refine aw_drawn2 bq _ rfl mixed (by decide +kernel) ?_
    | (refine aJ rfl (fun hb=>?_) (fun hb=>?_)<;>(try exact (fx_ hb).elim))
    | refine aw_block ?_
    | refine aw_exit ?_
    | refine aw_ret ?_
    | refine aw_skip ?_)
   exact bE (bR rfl (by trivial) rfl)
  | cons g0 G0 =>
   have hGn:G≠[]:=by rw [hGe];simp
   rw [<- hGe,vk hGn,xD hGn]
   refine RG 3 rfl (Ia G 0) ?_
   have e1:(G.map fun g=>[dC g.f.row,AC.lst (zh g.ps)]).map (List.map SV.c)=((G.map fun g=>(⟨g.f.row,g.ps⟩:ay)).map kr).map wz:=by
    simp only [List.map_map];rfl
   rw [e1]
   obtain ⟨X,hX⟩ : ∃ X:List ay,X=G.map fun g=>⟨g.f.row,g.ps⟩:=⟨_,rfl⟩
   have hXl:X.length=G.length:=by rw [hX];simp
   have hXr : ∀ s∈X,s.row.length<=1000:=by
    intro s hs
    rw [hX] at hs
    obtain ⟨g,hg,rfl⟩:=aeh.1 hs
    exact hgm2 g hg
   rw [<- hX]
   have e2:(xV G).set 3 (.row (141+65536*G.length) ((X.map kr).map wz) 2) = .map (rX 0 G) :: .dead::Fe G :: .row (141+65536*G.length) ((X.map kr).map wz) 2::Bd G:=rfl
   rw [e2]
   have hrun:=QL 172 Kw (141+65536*G.length) (X.map kr) G.length (by simp [hXl]) (by omega) (by
    intro x y hx hy
    obtain ⟨a,ha,rfl⟩:=aeh.1 hx
    obtain ⟨b,hb,rfl⟩:=aeh.1 hy
    have la:=hXr a ha
    have lb:=hXr b hb
    rw [Kk]
    exact UO (UN a b (by omega) (by omega)))
   rw [QJ] at hrun
   refine aw_region cO _ rfl ?_
   repeat' (first
    | refine st_nil ?_
    | (refine lH [3] rfl rfl rfl rfl hrun rfl (ac3 rfl (uh ⟨(by show 0<1;omega),trivial,trivial⟩)) rfl (jG3 (L' := .map (rX 0 G) :: .dead::Fe G :: .row (141+65536*G.length) (((ww mi X).map kr).map wz) 2::Bd G) rfl) ?_)
    | refine aP rfl rfl rfl rfl ph_ ?_
    | refine aT rfl rfl rfl rfl ph_ ?_
    | refine sS_ rfl rfl rfl ph_ ?_
    | refine aS rfl rfl rfl rfl ph_ ?_
    | refine aK rfl rfl rfl ?_
    | refine sk0_ rfl rfl ?_
    | (refine bF rfl (fun hb=>?_) (fun hb=>?_)<;>(first|exact (fx_ hb).elim|rw [hb]))
    | refine aw_seq ?_
    | (refine aJ rfl (fun hb=>?_) (fun hb=>?_)<;>(try exact (fx_ hb).elim))
    | refine aw_block ?_
    | refine aw_exit ?_
    | refine aw_ret ?_
    | refine aw_skip ?_)
   refine vG 3 (L := .map (rX 0 G) :: .dead::Fe G :: .row (141+65536*G.length) (((ww mi X).map kr).map wz) 2::Bd G) rfl (Vz _) ?_
   simp only [adT,adX,thA,thS,and_self,if_true,List.drop_zero]
   have e3:(((ww mi X).map kr).map fun x=>[x.1,x.2]).take G.length=(ww mi X).map bG:=by
    rw [ael (by simp [(Am mi X).length_eq,hXl]),List.map_map];rfl
   rw [e3]
   repeat' (first
    | refine st_nil ?_
    | refine aP rfl rfl rfl rfl ph_ ?_
    | refine aT rfl rfl rfl rfl ph_ ?_
    | refine sS_ rfl rfl rfl ph_ ?_
    | refine aS rfl rfl rfl rfl ph_ ?_
    | refine aK rfl rfl rfl ?_
    | refine sk0_ rfl rfl ?_
    | (refine bF rfl (fun hb=>?_) (fun hb=>?_)<;>(first|exact (fx_ hb).elim|rw [hb]))
    | refine aw_seq ?_
    | refine aw_region cO _ rfl ?_
    | refine aw_drawn2 bq _ rfl mixed (by decide +kernel) ?_
    | (refine aJ rfl (fun hb=>?_) (fun hb=>?_)<;>(try exact (fx_ hb).elim))
    | refine aw_block ?_
    | refine aw_exit ?_
    | refine aw_ret ?_
    | refine aw_skip ?_)
   exact bE (bR rfl (by trivial) rfl)
set_option maxHeartbeats 8000000
def Wj (l:List DI):Option (List Stp):=bif decide (l.length<=100000) then some (zL l) else none
theorem YR {l:List DI} {r:List Stp} (H:Wj l=some r):Pure Tryz.prog 142 [.one (.lst (l.map JE))] (.val (.one (.lst (r.map xN)))):=by
 unfold Wj at H
 obtain ⟨g,H⟩:=oN H
 obtain rfl:=aee H
 exact aak l (aea g)
def X9 (l:List DI):Option (List Stp):=bif decide (l.length<=100000) then some (zL l) else none
theorem ZZ {l:List DI} {r:List Stp} (H:X9 l=some r):Pure Tryz.prog 146 [.one (.lst (l.map JE))] (.val (.one (.lst (r.map xN)))):=by
 unfold X9 at H
 obtain ⟨g,H⟩:=oN H
 obtain rfl:=aee H
 exact VZ l (aea g)
open Classical in
noncomputable def SK (l:List Stp):Option (List aW):=if KT l then some (DY l) else none
theorem Yn {l:List Stp} {r:List aW} (H:SK l=some r):Pure Tryz.prog 90 [.one (.lst (l.map xN))] (.val (.one (.lst (r.map dP)))):=by
 unfold SK at H
 split at H
 ·rename_i h;obtain rfl:=aee H;exact Pz l h
 ·cases H
open Classical in
noncomputable def PG (l:List Stp):Option (List aW):=if KT l then some (DY l) else none
theorem Xn {l:List Stp} {r:List aW} (H:PG l=some r):Pure Tryz.prog 64 [.one (.lst (l.map xN))] (.val (.one (.lst (r.map dP)))):=by
 unfold PG at H
 split at H
 ·rename_i h;obtain rfl:=aee H;exact Vi l h
 ·cases H
def bM (l:List aG):Prop:=l.length<=19 /\ ∀ f∈l,f.row.length<=1000 /\ ∀ v∈f.row,VOK v
open Classical in
noncomputable def Bz (l:List aG):Option (List ay):=if bM l then some (oW l) else none
theorem Sd {l:List aG} {r:List ay} (H:Bz l=some r):Pure Tryz.prog 136 [.one (.lst (l.map aY))] (.val (.one (.lst (r.map bG)))):=by
 unfold Bz at H
 split at H
 ·rename_i h;obtain rfl:=aee H;exact U6 l h.1 h.2
 ·cases H
noncomputable section
def rf (a_l:(List aW)):((List DI) × Int)->Option (Step ((List DI) × Int) ((List Stp))):=fun s=>match s with
 | (c_1,v_2)=>bif (decide (v_2<((a_l.length:Nat):Int))) then
  (aA a_l v_2).bind fun x_4=>bif (decide (c_1.length+1<=5864062014805)) then (some (.next ((c_1++[(⟨x_4,(1:Int)⟩:DI)]),(IntKind.i64.wrap (v_2+(1:Int)))))) else none
 else
  some (.exit (c_1,v_2))
def wT:Sum ((List DI) × Int) ((List Stp))->Option (((List Stp)))
 | .inl (c_1,v_2)=>(Wj c_1).bind fun r_5=>some r_5
 | .inr q=>some q
def wQ (a_l:(List aW)):Option ((List Stp)):=(az (rf a_l) fuel ([],(0:Int))).bind (wT)
theorem NS {a_l:(List aW)} {r:(List Stp)} (H:wQ a_l=some r):Pure Tryz.prog 91 [.one (.lst (a_l.map dP))] (.val (.one (.lst (r.map xN)))):=by
 unfold wQ at H
 refine po_ Tryz.func91 Tryz.ntmps91 ?_
 repeat' (first|refine gs_ ?_|fail)
 refine dz 3 3 rfl ?_
 refine alM_ (fun s:(List DI) × Int=>match s with|(c_1,v_2)=>[(3, .one (.own (c_1.map JE) 0)),(6, .one (.c (.lst (a_l.map dP)))),(7, .one (.c (.int .i64 ((a_l.length:Nat):Int)))),(8, .one (.c (.int .i64 v_2)))]) (fun s=>match s with|(c_1,v_2)=>[.spare c_1.length 3]) H (fun _=>ad4 _)
  (fm_ ⟨rfl,rfl,rfl,rfl,trivial⟩ [] rfl ⟨by show 0<1;omega,trivial,trivial,trivial,trivial⟩ ⟨trivial,trivial⟩) ?_
 rintro ⟨c_1,v_2⟩ st1 hb1 hk1
 unfold rf at hb1
 dsimp only at hb1 ⊢
 rcases Bool.eq_false_or_eq_true (decide (v_2<((a_l.length:Nat):Int))) with q_3|q_3
 ·rw [q_3,adK] at hb1
  obtain ⟨x_4,i1,hb1⟩:=bd_ hb1
  obtain ⟨i1z,i1⟩:=og i1
  have i1x:=aac (f:=dP) i1
  obtain ⟨g2,hb1⟩:=oN hb1
  replace g2:=aea g2
  obtain rfl:=aee hb1
  repeat' (first|refine gs_ ?_|fail)
  exact ⟨_,rfl,fm_ ⟨(by simp only [adV,adT,adX,adN]<;>rfl),rfl,rfl,rfl,trivial⟩ [_] (by simp only [adQ,ad5,aec,aeo,adV,adT,adX]<;>rfl) ⟨by show 0<1;omega,trivial,trivial,trivial,trivial⟩ ⟨trivial,trivial⟩⟩
 ·rw [q_3,adJ] at hb1
  obtain rfl:=aee hb1
  have hx1:wT (.inl (c_1,v_2))=some _:=hk1
  unfold wT at hx1
  dsimp only at hx1
  obtain ⟨r_5,c3,hx1⟩:=bd_ hx1
  replace c3:=YR c3
  try simp only [adV,adT,adX,adN,aj] at c3
  obtain rfl:=aee hx1
  exact af
def OE (a_p:(List aW)):Option ((List aW)):=bif (decide (((a_p.length:Nat):Int)=(1:Int))) then
 some a_p
 else
 (wQ a_p).bind fun r_2=>(SK r_2).bind fun r_3=>some r_3
theorem YE {a_p:(List aW)} {r:(List aW)} (H:OE a_p=some r):Pure Tryz.prog 89 [.one (.lst (a_p.map dP))] (.val (.one (.lst (r.map dP)))):=by
 unfold OE at H
 refine po_ Tryz.func89 Tryz.ntmps89 ?_
 rcases Bool.eq_false_or_eq_true (decide (((a_p.length:Nat):Int)=(1:Int))) with q_1|q_1
 ·rw [q_1,adK] at H
  obtain rfl:=aee H
  exact af
 ·rw [q_1,adJ] at H
  obtain ⟨r_2,c1,H⟩:=bd_ H
  replace c1:=NS c1
  try simp only [adV,adT,adX,adN,aj] at c1
  obtain ⟨r_3,c2,H⟩:=bd_ H
  replace c2:=Yn c2
  try simp only [adV,adT,adX,adN,aj] at c2
  obtain rfl:=aee H
  exact af
def yB (x_5:ay) (r_6:(List aW)):((List aG) × Int)->Option (Step ((List aG) × Int) ((List aG))):=fun s=>match s with
 | (out_7,v_8)=>bif (decide (v_8<((r_6.length:Nat):Int))) then
  (aA r_6 v_8).bind fun x_10=>bif (decide (x_5.row.length<=4398046511104)) then (bif (decide (out_7.length+1<=3518437208883)) then (some (.next ((out_7++[(⟨x_5.row,x_10⟩:aG)]),(IntKind.i64.wrap (v_8+(1:Int)))))) else none) else none
 else
  some (.exit (out_7,v_8))
def DU (v_3:Int):Sum ((List aG) × Int) ((List aG))->Option (Step ((List aG) × Int) ((List aG)))
 | .inl (out_7,v_8)=>some (.next (out_7,(IntKind.i64.wrap (v_3+(1:Int)))))
 | .inr q=>some (.ret q)
def yZ (a_f:(List aW)->Option ((List aW))) (r_1:(List ay)):((List aG) × Int)->Option (Step ((List aG) × Int) ((List aG))):=fun s=>match s with
 | (out_2,v_3)=>bif (decide (v_3<((r_1.length:Nat):Int))) then
  (aA r_1 v_3).bind fun x_5=>(a_f x_5.periods).bind fun r_6=>(az (yB x_5 r_6) fuel (out_2,(0:Int))).bind (DU v_3)
 else
  some (.exit (out_2,v_3))
def yo:Sum ((List aG) × Int) ((List aG))->Option (((List aG)))
 | .inl (out_2,v_3)=>some out_2
 | .inr q=>some q
def L6 (a_l:(List aG)) (a_f:(List aW)->Option ((List aW))):Option ((List aG)):=(Bz a_l).bind fun r_1=>(az (yZ a_f r_1) fuel ([],(0:Int))).bind (yo)
theorem Uo {a_l:(List aG)} {a_f:(List aW)->Option ((List aW))} {r:(List aG)} {F_a_f:FuncId} {caps_a_f:List AC} (hf_a_f : ∀ (y0:(List aW)) (r:(List aW)),a_f y0=some r->Pure Tryz.prog F_a_f ([.one (.lst (y0.map dP))]++caps_a_f.map .one) (.val (.one (.lst (r.map dP))))) (H:L6 a_l a_f=some r):Pure Tryz.prog 88 [.one (.lst (a_l.map aY)), .one (.fn F_a_f caps_a_f)] (.val (.one (.lst (r.map aY)))):=by
 unfold L6 at H
 refine po_ Tryz.func88 Tryz.ntmps88 ?_
 obtain ⟨r_1,c1,H⟩:=bd_ H
 replace c1:=Sd c1
 try simp only [adV,adT,adX,adN,aj] at c1
 repeat' (first|refine gs_ ?_|fail)
 refine dz 5 3 rfl ?_
 refine alM_ (fun s:(List aG) × Int=>match s with|(out_2,v_3)=>[(1, .one (.c (.fn F_a_f caps_a_f))),(5, .one (.own (out_2.map aY) 0)),(11, .one (.c (.lst (r_1.map bG)))),(12, .one (.c (.int .i64 ((r_1.length:Nat):Int)))),(13, .one (.c (.int .i64 v_3)))]) (fun s=>match s with|(out_2,v_3)=>[.spare out_2.length 3]) H (fun _=>ad4 _)
  (fm_ ⟨rfl,rfl,rfl,rfl,rfl,trivial⟩ [] rfl ⟨trivial,by show 0<1;omega,trivial,trivial,trivial,trivial⟩ ⟨trivial,trivial⟩) ?_
 rintro ⟨out_2,v_3⟩ st3 hb3 hk3
 unfold yZ at hb3
 dsimp only at hb3 ⊢
 rcases Bool.eq_false_or_eq_true (decide (v_3<((r_1.length:Nat):Int))) with q_4|q_4
 ·rw [q_4,adK] at hb3
  obtain ⟨x_5,i2,hb3⟩:=bd_ hb3
  obtain ⟨i2z,i2⟩:=og i2
  have i2x:=aac (f:=bG) i2
  obtain ⟨r_6,c3,hb3⟩:=bd_ hb3
  replace c3:=hf_a_f _ _ c3
  try simp only [adV,adT,adX,adN,aj] at c3
  repeat' (first|refine gs_ ?_|fail)
  refine alM_ (fun s:(List aG) × Int=>match s with|(out_7,v_8)=>[(1, .one (.c (.fn F_a_f caps_a_f))),(5, .one (.own (out_7.map aY) 0)),(7, .one (.ptr 1 0)),(11, .one (.c (.lst (r_1.map bG)))),(12, .one (.c (.int .i64 ((r_1.length:Nat):Int)))),(13, .one (.c (.int .i64 v_3))),(20, .one (.c (.lst (r_6.map dP)))),(21, .one (.c (.int .i64 ((r_6.length:Nat):Int)))),(22, .one (.c (.int .i64 v_8)))]) (fun s=>match s with|(out_7,v_8)=>[.spare out_7.length 3, .box [.c (.lst (x_5.row.map cV)), .c (.lst (x_5.periods.map dP))]]) hb3 (fun _=>ad4 _)
   (fm_ ⟨rfl,rfl,rfl,rfl,rfl,rfl,rfl,rfl,rfl,trivial⟩ [] rfl ⟨trivial,by show 0<2;omega,by show 1<2;omega,trivial,trivial,trivial,trivial,trivial,trivial,trivial⟩ ⟨trivial,jl (by rfl),trivial⟩) ?_
  rintro ⟨out_7,v_8⟩ st4 hb4 hk4
  unfold yB at hb4
  dsimp only at hb4 ⊢
  rcases Bool.eq_false_or_eq_true (decide (v_8<((r_6.length:Nat):Int))) with q_9|q_9
  ·rw [q_9,adK] at hb4
   obtain ⟨x_10,i4,hb4⟩:=bd_ hb4
   obtain ⟨i4z,i4⟩:=og i4
   have i4x:=aac (f:=dP) i4
   obtain ⟨g5,hb4⟩:=oN hb4
   replace g5:=aea g5
   obtain ⟨g6,hb4⟩:=oN hb4
   replace g6:=aea g6
   obtain rfl:=aee hb4
   repeat' (first|refine gs_ ?_|fail)
   exact ⟨_,rfl,fm_ ⟨rfl,(by simp only [adV,adT,adX,adN]<;>rfl),rfl,rfl,rfl,rfl,rfl,rfl,rfl,trivial⟩ [_,_] (by simp only [adQ,ad5,aec,aeo,adV,adT,adX]<;>rfl) ⟨trivial,by show 0<2;omega,by show 1<2;omega,trivial,trivial,trivial,trivial,trivial,trivial,trivial⟩ ⟨trivial,jl (by rfl),trivial⟩⟩
  ·rw [q_9,adJ] at hb4
   obtain rfl:=aee hb4
   have hx4:DU v_3 (.inl (out_7,v_8))=some _:=hk4
   unfold DU at hx4
   dsimp only at hx4
   obtain rfl:=aee hx4
   repeat' (first|refine gs_ ?_|fail)
   exact ⟨_,rfl,fm_ ⟨rfl,(by simp only [adV,adT,adX,adN]<;>rfl),rfl,rfl,rfl,trivial⟩ [_] (by simp only [adQ,ad5,aec,aeo,adV,adT,adX]<;>rfl) ⟨trivial,by show 0<1;omega,trivial,trivial,trivial,trivial⟩ ⟨trivial,trivial⟩⟩
 ·rw [q_4,adJ] at hb3
  obtain rfl:=aee hb3
  have hx3:yo (.inl (out_2,v_3))=some _:=hk3
  unfold yo at hx3
  dsimp only at hx3
  obtain rfl:=aee hx3
  exact af
def Nl (a_l:(List aG)):Option ((List aG)):=(L6 a_l (fun x0=>OE x0)).bind fun r_1=>some r_1
theorem Nj {a_l:(List aG)} {r:(List aG)} (H:Nl a_l=some r):Pure Tryz.prog 52 [.one (.lst (a_l.map aY))] (.val (.one (.lst (r.map aY)))):=by
 unfold Nl at H
 refine po_ Tryz.func52 Tryz.ntmps52 ?_
 obtain ⟨r_1,c1,H⟩:=bd_ H
 replace c1:=Uo (F_a_f:=89) (caps_a_f:=[]) (fun x0 r h=>YE h) c1
 try simp only [adV,adT,adX,adN,aj] at c1
 obtain rfl:=aee H
 exact af
end
set_option maxHeartbeats 8000000
def uo (rec:List (List Val)->List JV->Option (List (List Val))) (a_l:(List (List Val))) (a_o:(List JV)):Option ((List (List Val))):=bif (decide (((a_l.length:Nat):Int)=(0:Int))) then some [] else
 bif (decide (((a_l.length:Nat):Int)=(1:Int))) then (aA a_l (0:Int)).bind fun x_3=>bif (decide (x_3.length<=4398046511104)) then (some [x_3]) else none else
 bif (decide ((2:Int)≠0)) then ((jI a_l (0:Int) (IntKind.i64.wrap (((a_l.length:Nat):Int).tdiv (2:Int)))).bind fun s_4=>(rec s_4 a_o).bind fun r_5=>(jI a_l (IntKind.i64.wrap (((a_l.length:Nat):Int).tdiv (2:Int))) ((a_l.length:Nat):Int)).bind fun s_6=>(rec s_6 a_o).bind fun r_7=>(CW r_5 r_7 a_o).bind fun r_8=>some r_8) else none
theorem Rh {rec:List (List Val)->List JV->Option (List (List Val))}  (hrec : ∀ {x:List (List Val)} {y:List JV} {r:List (List Val)}, rec x y=some r->Pure Tryz.prog 96 [.one (.lst (x.map (fun x=>[AC.lst (x.map cV)]))), .one (.lst (y.map FK))] (.val (.one (.lst (r.map (fun x=>[AC.lst (x.map cV)])))))) {a_l:(List (List Val))} {a_o:(List JV)} {r:(List (List Val))} (H:uo rec a_l a_o=some r):Pure Tryz.prog 96 [.one (.lst (a_l.map (fun x=>[AC.lst (x.map cV)]))), .one (.lst (a_o.map FK))] (.val (.one (.lst (r.map (fun x=>[AC.lst (x.map cV)]))))):=by
 unfold uo at H
 refine po_ Tryz.func96 Tryz.ntmps96 ?_
 rcases aa H with ⟨q_1,H⟩|⟨q_1,H⟩
 ·cases H
  exact af
 rcases aa H with ⟨q_2,H⟩|⟨q_2,H⟩
 ·obtain ⟨x_3,i1z,i1,i1x,H⟩:=aR (f:=(fun x=>[AC.lst (x.map cV)])) H
  obtain ⟨g2,H⟩:=bu H
  cases H
  exact af
 obtain ⟨g3,H⟩:=bu H
 obtain ⟨s_4,u4,H⟩:=bd_ H
 obtain ⟨⟨u4a,u4b,u4c⟩,u4⟩:=fq u4
 have u4x:=EM (f:=(fun x=>[AC.lst (x.map cV)])) u4
 obtain ⟨r_5,c5,H⟩:=bd_ H
 replace c5:=hrec c5
 obtain ⟨s_6,u6,H⟩:=bd_ H
 obtain ⟨⟨u6a,u6b,u6c⟩,u6⟩:=fq u6
 have u6x:=EM (f:=(fun x=>[AC.lst (x.map cV)])) u6
 obtain ⟨r_7,c7,H⟩:=bd_ H
 replace c7:=hrec c7
 obtain ⟨r_8,c8,H⟩:=bd_ H
 replace c8:=R6 c8
 cases H
 repeat' (first|refine gs_ ?_|rw [u4x]|rw [u6x]|rw [show ((0:Nat):Int)=0 from rfl])
 refine bE (bR rfl ?_ ?_)
 ·repeat' (first|exact trivial|rfl|exact adS rfl|omega|apply And.intro)
 ·first|rfl|(simp only [adV,adT,adX,adN]<;>rfl)
def DW:Nat->List (List Val)->List JV->Option (List (List Val))
 | 0,_,_=>none
 | n+1,a,b=>uo (DW n) a b
theorem La : ∀ (n:Nat) {x:List (List Val)} {y:List JV} {r:List (List Val)}, DW n x y=some r->Pure Tryz.prog 96 [.one (.lst (x.map (fun x=>[AC.lst (x.map cV)]))), .one (.lst (y.map FK))] (.val (.one (.lst (r.map (fun x=>[AC.lst (x.map cV)])))))
 | 0,_,_,_,h=>nomatch h
 | n+1,_,_,_,h=>Rh (La n) h
def w_ (a_l:(List (List Val))):Option ((List (List Val))):=(DW 64 a_l ([]:(List JV))).bind fun r_1=>some r_1
theorem yU {a_l:(List (List Val))} {r:(List (List Val))} (H:w_ a_l=some r):Pure Tryz.prog 61 [.one (.lst (a_l.map (fun x=>[AC.lst (x.map cV)])))] (.val (.one (.lst (r.map (fun x=>[AC.lst (x.map cV)]))))):=by
 unfold w_ at H
 refine po_ Tryz.func61 Tryz.ntmps61 ?_
 obtain ⟨r_1,c1,H⟩:=bd_ H
 replace c1:=La 64 c1
 try simp only [adV,adT,adX,adN,aj] at c1
 cases H
 exact af
end Go.Proofs.YtfccopdbgfdcdaaGreatDoor
