/- Parts of the proof, joined. No condition. -/
import Derived.Test.YtcehmafobkhdbaaGreatDoorKBG
set_option linter.unusedSimpArgs false
set_option linter.unusedVariables false
namespace Go.Proofs.YtcehmafobkhdbaaGreatDoor
open Go.RowKit Go.MapKept
set_option maxRecDepth 100000
theorem acX {P:Program} {ti:TI} {N:Nat} {ds:List (Option Tmp)} {K:Tm->List Ob->Prop} {o:Oper} {rest:List Oper} {T:Tm} {L L':List Ob} {x y:Operand} {t tx E:TypeId} {es xs:List (List AC)} {i n k by_ d:Nat} {vx:AV} (hd:o.dst=some d) (hN:Nat.blt d N=true) (hg:kJ ds T o.guard=some true)
  (ho:o.op = .call { callee := .builtin .append,args := #[x,y],argTypes := #[t,tx] }) (hx:look T x=some (.one (.own es i))) (hy:look T y=some vx) (hl:fZ vx=some xs) (ht:ti.elem t=some E) (hsz:ti.size E=some k) (hb:ti.bytes E=some by_) (hL:L[i]?=some (.spare n k))
  (hφ:(ti.elem tx).isSome/\es.length=n/\(ti.zok E=true/\0<k)/\(∀ e∈xs,e.length=k)/\(n+xs.length)*by_<=140737488355328/\n+xs.length<=140737488355328) (hL':L.set i (.spare (n+xs.length) k)=L')
  (h:aQ P ti N ds K rest ((d, .one (.own (es++xs) i))::T) L'):aQ P ti N ds K (o::rest) T L :=
 bq hd hN hg (v := .one (.own (es++xs) i)) (L':=L.set i (.spare (n+xs.length) k)) (φ:=(ti.elem tx).isSome/\k=k/\es.length=n/\(ti.zok E=true/\0<k)/\(∀ e∈xs,e.length=k)/\(n+xs.length)*by_<=140737488355328/\n+xs.length<=140737488355328)
  (by rw [ho];simp [He,hx,hy,Bw,hl,ht,hsz,hb,hL]) ⟨hφ.1,rfl,hφ.2⟩ (by rw [hL'];exact h)
set_option maxHeartbeats 8000000 in
theorem WQ (l:List aj) (hl:l.length<=300) (h : ∀ f∈l,f.row.length<=1000 /\ ∀ v∈f.row,VOK v):Pure Tryz.prog 113 [.one (.lst (l.map aJ))] (.val (.one (.lst ((rD l).map ae)))):=by
 refine pa_ dB Tryz.func113 rfl rfl Tryz.ntmps113 (by simp) ?_
 simp only [argT,PV.av,ag6,ag_]
 obtain ⟨n,hn⟩ : ∃ n,l.length=n:=⟨_,rfl⟩
 have hml:(((l.map aJ).length:Nat):Int)=n:=by simp [hn]
 repeat' (first
  | refine st_nil ?_
  | refine aZ rfl rfl rfl rfl ph_ ?_
  | refine bq rfl rfl rfl rfl ph_ ?_
  | refine sS_ rfl rfl rfl ph_ ?_
  | refine bn rfl rfl rfl rfl ph_ ?_
  | refine aW rfl rfl rfl ?_
  | refine sk0_ rfl rfl ?_
  | (refine bQ rfl (fun hb=>?_) (fun hb=>?_)<;>(first|exact (fx_ hb).elim|rw [hb]))
  | refine aw_seq ?_
  | refine aw_region dB _ rfl ?_
  | refine aw_drawn2 bf _ rfl mixed (by decide +kernel) ?_
  | (refine aU rfl (fun hb=>?_) (fun hb=>?_)<;>(try exact (fx_ hb).elim))
  | refine aw_block ?_
  | refine aw_exit ?_
  | refine aw_ret ?_
  | refine aw_skip ?_
  | (refine jQ rfl rfl rfl rfl rfl Gq ?_))
 refine sN (fun i:Nat=>[(0, .one (.c (.lst (l.map aJ)))),(3, .one (.mp 0)),(4,Qz (eT (l.take i))),(11, .one (.c (.lst (l.map aJ)))),(12, .one (.c (.int .i64 n))),(13, .one (.c (.int .i64 i)))]) (fun i=>Qv (eT (l.take i))) (fun i=>i<=n) (fun i=>n-i) 0 (by omega) (fun _ _=>ahe _)
  (fm_ ⟨rfl,rfl,rfl,rfl,jE hml,rfl,trivial⟩ [] rfl ⟨trivial,(by cases (eT (l.take 0))<;>first|(show 0<_;simp [Qv,yP])|skip),yc _,trivial,trivial,trivial,trivial⟩ (qV _)) ?_
 intro i hi
 have hgl:=Bu (l.take i)
 have hgm:=Iw (l.take i)
 rw [ahK] at hgl
 by_cases hlt:i<n
 ·obtain ⟨f,hx⟩:=gol_ (show i<l.length by omega)
  have hfm:=ag1 hx
  have hN:decide ((i:Int)<n)=true:=by simp;exact hlt
  have hnx:eT (l.take (i+1))=jq (eT (l.take i)) f:=by rw [nN hx];exact Rt _ _
  have hpv:=CK (Bj f.valid)
  have hky:=Xh f.row (h f hfm).1 (h f hfm).2
  have hidx:(l.map aJ)[((i:Nat):Int).toNat]?=some (aJ f):=Ow hx
  generalize eT (l.take i)=G at hgl hgm hnx
  unfold jq at hnx
  obtain ⟨row,lo,hi2⟩:=f
  dsimp only at hnx hky hpv
  have hcnt:l.length<=300:=hl
  repeat' (first
   | refine st_nil ?_
   | refine aZ rfl rfl rfl rfl ph_ ?_
   | refine bq rfl rfl rfl rfl ph_ ?_
   | refine sS_ rfl rfl rfl ph_ ?_
   | refine bn rfl rfl rfl rfl ph_ ?_
   | refine aW rfl rfl rfl ?_
   | refine sk0_ rfl rfl ?_
   | (refine bQ rfl (fun hb=>?_) (fun hb=>?_)<;>(first|exact (fx_ hb).elim|rw [hb]))
   | refine aw_seq ?_
   | (refine aU rfl (fun hb=>?_) (fun hb=>?_)<;>(try exact (fx_ hb).elim))
   | refine aw_block ?_
   | refine aw_exit ?_
   | refine aw_ret ?_
   | refine aw_skip ?_)
  refine aw_region dB _ rfl ?_
  repeat' (first
   | refine st_nil ?_
   | rw [hN]
   | refine aZ rfl rfl rfl rfl ph_ ?_
   | (refine CB rfl rfl rfl rfl rfl rfl rfl rfl hidx ?_ ?_; · exact ⟨by omega,rfl⟩)
   | refine bq rfl rfl rfl rfl ph_ ?_
   | refine sS_ rfl rfl rfl ph_ ?_
   | refine bn rfl rfl rfl rfl ph_ ?_
   | refine aW rfl rfl rfl ?_
   | refine sk0_ rfl rfl ?_
   | (refine bQ rfl (fun hb=>?_) (fun hb=>?_)<;>(first|exact (fx_ hb).elim|rw [hb]))
   | refine aw_seq ?_
   | (refine aU rfl (fun hb=>?_) (fun hb=>?_)<;>(try exact (fx_ hb).elim))
   | refine aw_block ?_
   | refine aw_exit ?_
   | refine aw_ret ?_
   | refine aw_skip ?_)
  refine aw_region dB _ rfl ?_
  repeat' (first
   | refine st_nil ?_
   | (refine X8 rfl rfl rfl rfl rfl rfl rfl ?_)
   | refine aZ rfl rfl rfl rfl ph_ ?_
   | (refine CB rfl rfl rfl rfl rfl rfl rfl rfl hidx ?_ ?_; · exact ⟨by omega,rfl⟩)
   | refine bq rfl rfl rfl rfl ph_ ?_
   | refine sS_ rfl rfl rfl ph_ ?_
   | refine bn rfl rfl rfl rfl ph_ ?_
   | refine aW rfl rfl rfl ?_
   | refine sk0_ rfl rfl ?_
   | (refine bQ rfl (fun hb=>?_) (fun hb=>?_)<;>(first|exact (fx_ hb).elim|rw [hb]))
   | refine aw_seq ?_
   | (refine aU rfl (fun hb=>?_) (fun hb=>?_)<;>(try exact (fx_ hb).elim))
   | refine aw_block ?_
   | refine aw_exit ?_
   | refine aw_ret ?_
   | refine aw_skip ?_)
  refine abM (A:=Qv G) rfl (by simp only [ag6,ag_,aal];simp only [Md,Ns,if_true,List.drop_zero];rfl) ?_
  cases hv:aL ⟨lo,hi2⟩ with
  | false =>
   rw [hv,agW] at hnx
   rw [hv] at hpv
   repeat' (first
    | refine st_nil ?_
    | rw [hN]
    | refine aZ rfl rfl rfl rfl ph_ ?_
    | (refine CB rfl rfl rfl rfl rfl rfl rfl rfl hidx ?_ ?_; · exact ⟨by omega,rfl⟩)
    | refine bq rfl rfl rfl rfl ph_ ?_
    | refine sS_ rfl rfl rfl ph_ ?_
    | refine bn rfl rfl rfl rfl ph_ ?_
    | refine aW rfl rfl rfl ?_
    | refine sk0_ rfl rfl ?_
    | refine dG rfl rfl rfl rfl hpv rfl ?_
    | refine dG rfl rfl rfl rfl hky rfl ?_
    | (refine bQ rfl (fun hb=>?_) (fun hb=>?_)<;>(first|exact (fx_ hb).elim|rw [hb]))
    | refine aw_seq ?_
    | refine aw_region dB _ rfl ?_
    | refine aw_drawn2 bf _ rfl mixed (by decide +kernel) ?_
    | (refine aU rfl (fun hb=>?_) (fun hb=>?_)<;>(try exact (fx_ hb).elim))
    | refine aw_block ?_
    | refine aw_exit ?_
    | refine aw_ret ?_
    | refine aw_skip ?_)
   exact ⟨i+1,by omega,by omega,by rw [hnx];exact fm_ ⟨rfl,rfl,rfl,rfl,rfl,jE (ko (by omega) (by omega)),trivial⟩ [.dead] rfl ⟨trivial,(by cases G<;>first|(show 0<_;simp [Qv,yP])),yc _,trivial,trivial,trivial,trivial⟩ (qV _)⟩
  | true =>
   rw [hv,agX] at hnx
   rw [hv] at hpv
   cases hf:ik (dP row) G with
   | some j =>
    have hjl:=JF hf
    obtain ⟨g,hg⟩:=gol_ hjl
    rw [hf] at hnx
    dsimp only at hnx
    rw [hg] at hnx
    dsimp only at hnx
    have hGn:G≠[]:=by intro e;rw [e] at hjl;simp at hjl
    have hgl2:=(hgm g (ag1 hg)).1
    rw [ahK] at hgl2
    rw [xe hGn,yR hGn]
    have ej:0+((j:Nat):Int).toNat=j:=by simp
    have hgj:(iZ 0 G)[0+((j:Nat):Int).toNat]?=some [.c (dW g.f.row), .own (AB g.ps) (4+3*(0+j))]:=by rw [ej];exact Qt G 0 j g hg
    have hLl:=qJ hGn
    have hLj:(yP G++[Ob.dead])[4+3*(0+j)]?=some (.spare g.ps.length 2):=by
     rw [ag9 (by omega)]
     rw [show 4+3*(0+j)=3*j+1+1+1+1 by omega]
     exact abp hg
    have hset:(yP G++[Ob.dead]).set (4+3*(0+j)) (.spare (g.ps.length+1) 2) = .map (vz 0 G) :: .dead::Hm G :: .row (127+65536*G.length) (iZ 0 G) 2::(CQ (G.set j ⟨g.f,g.ps++[⟨lo,hi2⟩]⟩)++[.dead]):=by
     rw [List.set_append_left _ _ (by omega)]
     have e6:g.ps.length+1=(g.ps++[(⟨lo,hi2⟩:aI)]).length:=by simp
     rw [e6,show 4+3*(0+j)=3*j+1+1+1+1 by omega, <- acL (g.ps++[(⟨lo,hi2⟩:aI)]) hg]
     rfl
    have hpl:(AB g.ps).length=g.ps.length:=by simp [AB]
    have hstr:(.map (vz 0 G) :: .dead::Hm G :: .row (127+65536*G.length) (iZ 0 G) 2::(CQ (G.set j ⟨g.f,g.ps++[⟨lo,hi2⟩]⟩)++[Ob.dead])).set 3 (.row (127+65536*G.length) ((iZ 0 G).set (0+((j:Nat):Int).toNat) [.c (dW g.f.row), .own (AB g.ps++[[.int .i64 lo, .int .i64 hi2]]) (4+3*(0+j))]) 2)=yP (G.set j ⟨g.f,g.ps++[⟨lo,hi2⟩]⟩)++[.dead]:=by
     have e7:AB g.ps++[[.int .i64 lo, .int .i64 hi2]]=AB (g.ps++[⟨lo,hi2⟩]):=by simp [AB,bE]
     rw [ej,e7,QB G 0 j g _ hg]
     unfold yP
     rw [acZ _ hg,abu hg,List.length_set]
     rfl
    have hG2:G.set j ⟨g.f,g.ps++[⟨lo,hi2⟩]⟩≠[]:=by intro e;have:=congrArg List.length e;simp at this;exact hGn this
    repeat' (first
     | refine st_nil ?_
     | (refine NV rfl rfl rfl rfl rfl rfl rfl (e:=[.c (dW g.f.row), .own (AB g.ps) (4+3*(0+j))]) (by exact hgj) rfl ?_)
     | (refine acX (k:=2) (by_:=16) rfl rfl rfl rfl rfl rfl rfl rfl rfl rfl (by exact hLj) ⟨rfl,hpl,⟨rfl,by decide⟩,by intro e he;simp at he;subst he;rfl,by show (_+1)*16<=_;omega,by show _+1<=_;omega⟩ (by exact hset) ?_)
     | (refine FP rfl rfl rfl rfl rfl rfl (e:=[.c (dW g.f.row), .own (AB g.ps) (4+3*(0+j))]) (by exact hgj) ⟨ag' _,rfl⟩ (by exact hstr) ?_)
     | (refine aZ rfl rfl rfl rfl ?_ ?_; · (repeat' (first|exact trivial|rfl|exact ag5 rfl|omega|(intro e he;simp at he;subst he;rfl)|apply And.intro)))
     | (refine bq rfl rfl rfl rfl ?_ ?_; · (repeat' (first|exact trivial|rfl|exact ag5 rfl|omega|(intro e he;simp at he;subst he;rfl)|apply And.intro)))
     | (refine sS_ rfl rfl rfl ?_ ?_; · (repeat' (first|exact trivial|rfl|exact ag5 rfl|omega|(intro e he;simp at he;subst he;rfl)|apply And.intro)))
     | (refine bn rfl rfl rfl rfl ?_ ?_; · (repeat' (first|exact trivial|rfl|exact ag5 rfl|omega|(intro e he;simp at he;subst he;rfl)|apply And.intro)))
     | refine aW rfl rfl rfl ?_
     | refine sk0_ rfl rfl ?_
     | refine dG rfl rfl rfl rfl hpv rfl ?_
     | refine dG rfl rfl rfl rfl hky rfl ?_
     | (refine bQ rfl (fun hb=>?_) (fun hb=>?_)<;>(first|exact (fx_ hb).elim|rw [hb]))
     | refine aw_seq ?_
     | refine aw_region dB _ rfl ?_
     | refine aw_drawn2 bf _ rfl mixed (by decide +kernel) ?_
     | (refine aU rfl (fun hb=>?_) (fun hb=>?_)<;>(try exact (fx_ hb).elim))
     | refine aw_block ?_
     | refine aw_exit ?_
     | refine aw_ret ?_
     | refine aw_skip ?_
     | (refine gW rfl rfl rfl rfl rfl (Zq dB hf rfl rfl rfl rfl rfl rfl) ?_))
    exact ⟨i+1,by omega,by omega,by rw [hnx,xe hG2,yR hG2,List.length_set];exact fm_ ⟨rfl,rfl,rfl,rfl,rfl,jE (ko (by omega) (by omega)),trivial⟩ [.dead] rfl ⟨trivial,(by show 0<_;rw [qJ hG2];omega),(by show 3<_;rw [qJ hG2,List.length_set];omega),trivial,trivial,trivial,trivial⟩ (by rw [<- xe hG2];exact qV _)⟩
   | none =>
    rw [hf] at hnx
    dsimp only at hnx
    cases hGe:G with
    | nil =>
     rw [hGe] at hf hnx
     repeat' (first
      | refine st_nil ?_
      | (refine PS rfl rfl rfl rfl (JI (G:=[]) ⟨⟨row,⟨lo,hi2⟩⟩,[⟨lo,hi2⟩]⟩ dB hf rfl rfl rfl rfl rfl rfl rfl) ?_)
      | (refine jQ rfl rfl rfl rfl rfl (J4 (k:=2) (E:=127) (cs:=[.c (dW row), .emp]) dB rfl rfl (by decide) (by decide) rfl (by decide) rfl rfl) ?_)
      | (refine jQ rfl rfl rfl rfl rfl (QT (E:=127) (k:=2) (by_:=48) (xs:=[[.c (dW row), .emp]]) dB rfl rfl rfl ⟨rfl,_,rfl,ag5 rfl⟩ rfl (by decide) rfl rfl rfl (by decide) (ag5 rfl) (ag5 rfl) (ag5 rfl)) ?_)
      | (refine NV rfl rfl rfl rfl rfl rfl rfl (e:=[.c (dW row), .emp]) (by rfl) rfl ?_)
      | (refine FP rfl rfl rfl rfl rfl rfl (e:=[.c (dW row), .emp]) (by rfl) ⟨ag' _,rfl⟩ rfl ?_)
      | (refine aZ rfl rfl rfl rfl ?_ ?_; · (repeat' (first|exact trivial|rfl|exact ag5 rfl|omega|(intro e he;simp at he;subst he;rfl)|decide|(simp only [ahf,aho];omega)|(simp only [ahf,aho,ahB];decide)|apply And.intro)))
      | (refine bq rfl rfl rfl rfl ?_ ?_; · (repeat' (first|exact trivial|rfl|exact ag5 rfl|omega|(intro e he;simp at he;subst he;rfl)|decide|(simp only [ahf,aho];omega)|(simp only [ahf,aho,ahB];decide)|apply And.intro)))
      | (refine sS_ rfl rfl rfl ?_ ?_; · (repeat' (first|exact trivial|rfl|exact ag5 rfl|omega|(intro e he;simp at he;subst he;rfl)|decide|(simp only [ahf,aho];omega)|(simp only [ahf,aho,ahB];decide)|apply And.intro)))
      | (refine bn rfl rfl rfl rfl ?_ ?_; · (repeat' (first|exact trivial|rfl|exact ag5 rfl|omega|(intro e he;simp at he;subst he;rfl)|decide|(simp only [ahf,aho];omega)|(simp only [ahf,aho,ahB];decide)|apply And.intro)))
      | refine aW rfl rfl rfl ?_
      | refine sk0_ rfl rfl ?_
      | refine dG rfl rfl rfl rfl hpv rfl ?_
      | refine dG rfl rfl rfl rfl hky rfl ?_
      | (refine bQ rfl (fun hb=>?_) (fun hb=>?_)<;>(first|exact (fx_ hb).elim|rw [hb]))
      | refine aw_seq ?_
      | refine aw_region dB _ rfl ?_
      | refine aw_drawn2 bf _ rfl mixed (by decide +kernel) ?_
      | (refine aU rfl (fun hb=>?_) (fun hb=>?_)<;>(try exact (fx_ hb).elim))
      | refine aw_block ?_
      | refine aw_exit ?_
      | refine aw_ret ?_
      | refine aw_skip ?_
      | (refine gW rfl rfl rfl rfl rfl (Im (G:=[]) dB hf rfl rfl rfl rfl rfl rfl) ?_))
     exact ⟨i+1,by omega,by omega,by rw [hnx];exact fm_ ⟨rfl,rfl,rfl,rfl,rfl,jE (ko (by omega) (by omega)),trivial⟩ [] rfl ⟨trivial,(by show 0<5;omega),yc _,trivial,trivial,trivial,trivial⟩ (qV _)⟩
    | cons g0 G0 =>
     have hGn:G≠[]:=by rw [hGe];simp
     rw [<- hGe]
     rw [xe hGn,yR hGn]
     have htl:=Wd hGn
     obtain ⟨gn,hgn⟩ : ∃ gn:bL,gn=⟨⟨row,⟨lo,hi2⟩⟩,[⟨lo,hi2⟩]⟩:=⟨_,rfl⟩
     have hgk:dP gn.f.row=dP row:=by rw [hgn]
     rw [<- hgn] at hnx
     have hgbe:gbG gn=Ob.row (127+65536) [[SV.c (dW row),SV.emp]] 2:=by rw [hgn];rfl
     have hLa:(Ob.map (vz 0 (G++[gn]))::Ob.dead::Hm G::Ob.row (127+65536*G.length) (iZ 0 G) 2::(CQ G++[Ob.dead])).length=3+3*G.length:=by simp;omega
     have hq:((Ob.map (vz 0 (G++[gn]))::Ob.dead::Hm G::Ob.row (127+65536*G.length) (iZ 0 G) 2::(CQ G++[Ob.dead]))++[Ob.row (127+65536) [[SV.c (dW row),SV.emp]] 2])[3+3*G.length]?=some (Ob.row (127+65536) [[SV.c (dW row),SV.emp]] 2):=by
      rw [ag2 (by rw [hLa];exact ag' _),hLa,Nat.sub_self];rfl
     have hsrc:Qp ((Ob.map (vz 0 (G++[gn]))::Ob.dead::Hm G::Ob.row (127+65536*G.length) (iZ 0 G) 2::(CQ G++[Ob.dead]))++[Ob.row (127+65536) [[SV.c (dW row),SV.emp]] 2]) (.one (.sl (3+3*G.length) (127+65536) 0 1))=some [[SV.c (dW row),SV.emp]]:=by
      simp only [Qp,hq];rfl
     have hsok:KP afI ((Ob.map (vz 0 (G++[gn]))::Ob.dead::Hm G::Ob.row (127+65536*G.length) (iZ 0 G) 2::(CQ G++[Ob.dead]))++[Ob.row (127+65536) [[SV.c (dW row),SV.emp]] 2]) 2 124 (.one (.sl (3+3*G.length) (127+65536) 0 1)):=⟨rfl,[[SV.c (dW row),SV.emp]],hq,ag' _⟩
     have hL2:((Ob.map (vz 0 (G++[gn]))::Ob.dead::Hm G::Ob.row (127+65536*G.length) (iZ 0 G) 2::(CQ G++[Ob.dead]))++[Ob.row (127+65536) [[SV.c (dW row),SV.emp]] 2]).set 3 (Ob.row (127+65536*G.length+65536) (iZ 0 G++[[SV.c (dW row),SV.emp]]) 2)=Ob.map (vz 0 (G++[gn]))::Ob.dead::Hm G::Ob.row (127+65536*G.length+65536) (iZ 0 G++[[SV.c (dW row),SV.emp]]) 2::(CQ G++[Ob.dead,Ob.row (127+65536) [[SV.c (dW row),SV.emp]] 2]):=by simp
     have hL2l:(Ob.map (vz 0 (G++[gn]))::Ob.dead::Hm G::Ob.row (127+65536*G.length+65536) (iZ 0 G++[[SV.c (dW row),SV.emp]]) 2::(CQ G++[Ob.dead,Ob.row (127+65536) [[SV.c (dW row),SV.emp]] 2])).length=4+3*G.length:=by simp;omega
     have eG:0+((G.length:Nat):Int).toNat=G.length:=by simp
     have hgG:(iZ 0 G++[[SV.c (dW row), .emp]])[0+((G.length:Nat):Int).toNat]?=some [SV.c (dW row),SV.emp]:=by
      rw [eG,ag2 (by rw [uW];exact ag' _),uW];simp
     have e10:(G++[gn]).length=G.length+1:=by simp
     have e9:127+65536*(G++[gn]).length=127+65536*G.length+65536:=by rw [e10];omega
     have hG2:G++[gn]≠[]:=by simp
     have hstr:((Ob.map (vz 0 (G++[gn]))::Ob.dead::Hm G::Ob.row (127+65536*G.length+65536) (iZ 0 G++[[SV.c (dW row),SV.emp]]) 2::(CQ G++[Ob.dead,Ob.row (127+65536) [[SV.c (dW row),SV.emp]] 2]))++[Ob.spare 1 2]).set 3 (Ob.row (127+65536*G.length+65536) ((iZ 0 G++[[SV.c (dW row), .emp]]).set (0+((G.length:Nat):Int).toNat) [SV.c (dW row),SV.own [[.int .i64 lo, .int .i64 hi2]] (Ob.map (vz 0 (G++[gn]))::Ob.dead::Hm G::Ob.row (127+65536*G.length+65536) (iZ 0 G++[[SV.c (dW row),SV.emp]]) 2::(CQ G++[Ob.dead,Ob.row (127+65536) [[SV.c (dW row),SV.emp]] 2])).length]) 2)=yP (G++[gn]):=by
      have e8:(iZ 0 G++[[SV.c (dW row), .emp]]).set G.length [SV.c (dW row),SV.own [[.int .i64 lo, .int .i64 hi2]] (4+3*G.length)]=iZ 0 (G++[gn]):=by
       rw [Np,List.set_append_right _ _ (by rw [uW];exact ag' _),uW,hgn]
       simp [AB,bE]
      rw [eG,hL2l,e8]
      unfold yP
      rw [ZU gn hGn,aa' gn hGn,e9,hgbe,hgn]
      simp [bxG]
     repeat' (first
      | refine st_nil ?_
      | (refine aZ rfl rfl rfl rfl ?_ ?_; · (repeat' (first|exact trivial|rfl|exact ag5 rfl|omega|(intro e he;simp at he;subst he;rfl)|decide|(show _<_+1;omega)|apply And.intro)))
      | (refine bq rfl rfl rfl rfl ?_ ?_; · (repeat' (first|exact trivial|rfl|exact ag5 rfl|omega|(intro e he;simp at he;subst he;rfl)|decide|(show _<_+1;omega)|apply And.intro)))
      | (refine sS_ rfl rfl rfl ?_ ?_; · (repeat' (first|exact trivial|rfl|exact ag5 rfl|omega|(intro e he;simp at he;subst he;rfl)|decide|(show _<_+1;omega)|apply And.intro)))
      | (refine bn rfl rfl rfl rfl ?_ ?_; · (repeat' (first|exact trivial|rfl|exact ag5 rfl|omega|(intro e he;simp at he;subst he;rfl)|decide|(show _<_+1;omega)|apply And.intro)))
      | refine aW rfl rfl rfl ?_
      | refine sk0_ rfl rfl ?_
      | refine dG rfl rfl rfl rfl hpv rfl ?_
      | refine dG rfl rfl rfl rfl hky rfl ?_
      | (refine bQ rfl (fun hb=>?_) (fun hb=>?_)<;>(first|exact (fx_ hb).elim|rw [hb]))
      | refine aw_seq ?_
      | refine aw_region dB _ rfl ?_
      | refine aw_drawn2 bf _ rfl mixed (by decide +kernel) ?_
      | (refine aU rfl (fun hb=>?_) (fun hb=>?_)<;>(try exact (fx_ hb).elim))
      | refine aw_block ?_
      | refine aw_exit ?_
      | refine aw_ret ?_
      | refine aw_skip ?_
      | (refine gW rfl rfl rfl rfl rfl (Im (G:=G) dB hf rfl rfl rfl rfl rfl rfl) ?_))
     refine PS (L':=(Ob.map (vz 0 (G++[gn]))::Ob.dead::Hm G::Ob.row (127+65536*G.length) (iZ 0 G) 2::(CQ G++[Ob.dead]))) rfl rfl rfl rfl (JI (G:=G) (id:=0) gn dB hf hgk rfl rfl rfl rfl rfl rfl) ?_
     repeat' (first
      | refine st_nil ?_
      | (refine PS (L':=(Ob.map (vz 0 (G++[gn]))::Ob.dead::Hm G::Ob.row (127+65536*G.length) (iZ 0 G) 2::(CQ G++[Ob.dead]))) rfl rfl rfl rfl (JI (G:=G) (id:=0) gn dB hf hgk rfl rfl rfl rfl rfl rfl) ?_)
      | (refine jQ (v := .one (.sl (3+3*G.length) (127+65536) 0 1)) (L':=(Ob.map (vz 0 (G++[gn]))::Ob.dead::Hm G::Ob.row (127+65536*G.length) (iZ 0 G) 2::(CQ G++[Ob.dead]))++[Ob.row (127+65536) [[SV.c (dW row),SV.emp]] 2]) rfl rfl rfl rfl rfl (by rw [<- hLa];exact J4 (k:=2) (E:=127) (cs:=[SV.c (dW row),SV.emp]) dB rfl rfl (by decide) (by decide) rfl (by decide) rfl rfl) ?_)
      | (refine jQ (v := .one (.sl 3 (127+65536*G.length+65536) 0 (G.length+1))) (L':=(Ob.map (vz 0 (G++[gn]))::Ob.dead::Hm G::Ob.row (127+65536*G.length+65536) (iZ 0 G++[[SV.c (dW row),SV.emp]]) 2::(CQ G++[Ob.dead,Ob.row (127+65536) [[SV.c (dW row),SV.emp]] 2]))) rfl rfl rfl rfl rfl (by rw [<- hL2];exact zJ (k:=2) (by_:=48) (xs:=[[SV.c (dW row),SV.emp]]) dB rfl rfl rfl hsrc hsok rfl (by show (127+65536*G.length)%65536=127;omega) rfl rfl rfl (by decide) (uW G 0) (by show (_+1)*48<=_;omega) (by show _+1<=_;omega)) ?_)
      | (refine NV rfl rfl rfl rfl rfl rfl rfl (e:=[SV.c (dW row),SV.emp]) (by exact hgG) rfl ?_)
      | (refine FP rfl rfl rfl rfl rfl rfl (e:=[SV.c (dW row),SV.emp]) (by exact hgG) ⟨ag' _,rfl⟩ (by exact hstr) ?_)
      | (refine aZ rfl rfl rfl rfl ?_ ?_; · (repeat' (first|exact trivial|rfl|exact ag5 rfl|omega|(intro e he;simp at he;subst he;rfl)|decide|(show _<_+1;omega)|apply And.intro)))
      | (refine bq rfl rfl rfl rfl ?_ ?_; · (repeat' (first|exact trivial|rfl|exact ag5 rfl|omega|(intro e he;simp at he;subst he;rfl)|decide|(show _<_+1;omega)|apply And.intro)))
      | (refine sS_ rfl rfl rfl ?_ ?_; · (repeat' (first|exact trivial|rfl|exact ag5 rfl|omega|(intro e he;simp at he;subst he;rfl)|decide|(show _<_+1;omega)|apply And.intro)))
      | (refine bn rfl rfl rfl rfl ?_ ?_; · (repeat' (first|exact trivial|rfl|exact ag5 rfl|omega|(intro e he;simp at he;subst he;rfl)|decide|(show _<_+1;omega)|apply And.intro)))
      | refine aW rfl rfl rfl ?_
      | refine sk0_ rfl rfl ?_
      | refine dG rfl rfl rfl rfl hpv rfl ?_
      | refine dG rfl rfl rfl rfl hky rfl ?_
      | (refine bQ rfl (fun hb=>?_) (fun hb=>?_)<;>(first|exact (fx_ hb).elim|rw [hb]))
      | refine aw_seq ?_
      | refine aw_region dB _ rfl ?_
      | refine aw_drawn2 bf _ rfl mixed (by decide +kernel) ?_
      | (refine aU rfl (fun hb=>?_) (fun hb=>?_)<;>(try exact (fx_ hb).elim))
      | refine aw_block ?_
      | refine aw_exit ?_
      | refine aw_ret ?_
      | refine aw_skip ?_
      | (refine gW rfl rfl rfl rfl rfl (Im (G:=G) dB hf rfl rfl rfl rfl rfl rfl) ?_))
     exact ⟨i+1,by omega,by omega,by rw [hnx,xe hG2,yR hG2,e9,e10];exact fm_ ⟨rfl,rfl,rfl,rfl,rfl,jE (ko (by omega) (by omega)),trivial⟩ [] (ahs _).symm ⟨trivial,(by show 0<_;rw [qJ hG2];omega),(by show 3<_;rw [qJ hG2,e10];omega),trivial,trivial,trivial,trivial⟩ (by rw [<- xe hG2];exact qV _)⟩
 ·have htk:l.take i=l:=ahy (by omega)
  have hN:decide ((i:Int)<n)=false:=by simp;omega
  rw [htk] at hgl hgm ⊢
  have hgl2:=Bu l
  have hrP:rD l=qZ jw ((eT l).map fun g=>(⟨g.f.row,g.ps⟩:aa)):=rfl
  rw [hrP]
  clear hrP
  have hgm2 : ∀ g∈eT l,g.f.row.length<=1000:=fun g hg=>(h _ (Iw l g hg).2.1).1
  have hgn2:=Yd l
  generalize eT l=G at hgl hgm hgl2 hgm2 hgn2 ⊢
  repeat' (first
   | refine st_nil ?_
   | refine aZ rfl rfl rfl rfl ph_ ?_
   | refine bq rfl rfl rfl rfl ph_ ?_
   | refine sS_ rfl rfl rfl ph_ ?_
   | refine bn rfl rfl rfl rfl ph_ ?_
   | refine aW rfl rfl rfl ?_
   | refine sk0_ rfl rfl ?_
   | (refine bQ rfl (fun hb=>?_) (fun hb=>?_)<;>(first|exact (fx_ hb).elim|rw [hb]))
   | refine aw_seq ?_
   | (refine aU rfl (fun hb=>?_) (fun hb=>?_)<;>(try exact (fx_ hb).elim))
   | refine aw_block ?_
   | refine aw_exit ?_
   | refine aw_ret ?_
   | refine aw_skip ?_)
  refine aw_region dB _ rfl ?_
  repeat' (first
   | refine st_nil ?_
   | rw [hN]
   | refine aZ rfl rfl rfl rfl ph_ ?_
   | (refine CB rfl rfl rfl rfl rfl rfl rfl rfl hidx ?_ ?_; · exact ⟨by omega,rfl⟩)
   | refine bq rfl rfl rfl rfl ph_ ?_
   | refine sS_ rfl rfl rfl ph_ ?_
   | refine bn rfl rfl rfl rfl ph_ ?_
   | refine aW rfl rfl rfl ?_
   | refine sk0_ rfl rfl ?_
   | (refine bQ rfl (fun hb=>?_) (fun hb=>?_)<;>(first|exact (fx_ hb).elim|rw [hb]))
   | refine aw_seq ?_
   | (refine aU rfl (fun hb=>?_) (fun hb=>?_)<;>(try exact (fx_ hb).elim))
   | refine aw_block ?_
   | refine aw_exit ?_
   | refine aw_ret ?_
   | refine aw_skip ?_)
  cases hGe:G with
  | nil =>
   have e0:(qZ jw (([]:List bL).map fun g=>(⟨g.f.row,g.ps⟩:aa))).map ae=[]:=rfl
   rw [e0]
   repeat' (first
    | refine st_nil ?_
    | refine aZ rfl rfl rfl rfl ph_ ?_
    | refine bq rfl rfl rfl rfl ph_ ?_
    | refine sS_ rfl rfl rfl ph_ ?_
    | refine bn rfl rfl rfl rfl ph_ ?_
    | refine aW rfl rfl rfl ?_
    | refine sk0_ rfl rfl ?_
    | refine dG rfl rfl rfl rfl Uy rfl ?_
    | (refine bQ rfl (fun hb=>?_) (fun hb=>?_)<;>(first|exact (fx_ hb).elim|rw [hb]))
    | refine aw_seq ?_
    | refine aw_region dB _ rfl ?_
    | refine aw_drawn2 bf _ rfl mixed (by decide +kernel) ?_
    | (refine aU rfl (fun hb=>?_) (fun hb=>?_)<;>(try exact (fx_ hb).elim))
    | refine aw_block ?_
    | refine aw_exit ?_
    | refine aw_ret ?_
    | refine aw_skip ?_)
   exact bO (bZ rfl (by trivial) rfl)
  | cons g0 G0 =>
   have hGn:G≠[]:=by rw [hGe];simp
   rw [<- hGe,xe hGn,yR hGn]
   refine Tp 3 rfl (JQ G 0) ?_
   have e1:(G.map fun g=>[dW g.f.row,AC.lst (AB g.ps)]).map (List.map SV.c)=((G.map fun g=>(⟨g.f.row,g.ps⟩:aa)).map kT).map uB:=by
    simp only [List.map_map];rfl
   rw [e1]
   obtain ⟨X,hX⟩ : ∃ X:List aa,X=G.map fun g=>⟨g.f.row,g.ps⟩:=⟨_,rfl⟩
   have hXl:X.length=G.length:=by rw [hX];simp
   have hXr : ∀ s∈X,s.row.length<=1000:=by
    intro s hs
    rw [hX] at hs
    obtain ⟨g,hg,rfl⟩:=aht.1 hs
    exact hgm2 g hg
   rw [<- hX]
   have e2:(yP G).set 3 (.row (127+65536*G.length) ((X.map kT).map uB) 2) = .map (vz 0 G) :: .dead::Hm G :: .row (127+65536*G.length) ((X.map kT).map uB) 2::CQ G:=rfl
   rw [e2]
   rw [<- hX] at hgn2
   have hrun:=WO (127+65536*G.length) (X:=X) (n:=G.length) hXl hgn2 (by omega) (fun s hs=>by have:=hXr s hs;omega)
   refine aw_region dB _ rfl ?_
   repeat' (first
    | refine st_nil ?_
    | (refine kN [3] rfl rfl rfl rfl hrun rfl (agx rfl (wX ⟨(by show 0<1;omega),trivial,trivial⟩)) rfl (jG3 (L' := .map (vz 0 G) :: .dead::Hm G :: .row (127+65536*G.length) (((qZ jw X).map kT).map uB) 2::CQ G) rfl) ?_)
    | refine aZ rfl rfl rfl rfl ph_ ?_
    | refine bq rfl rfl rfl rfl ph_ ?_
    | refine sS_ rfl rfl rfl ph_ ?_
    | refine bn rfl rfl rfl rfl ph_ ?_
    | refine aW rfl rfl rfl ?_
    | refine sk0_ rfl rfl ?_
    | (refine bQ rfl (fun hb=>?_) (fun hb=>?_)<;>(first|exact (fx_ hb).elim|rw [hb]))
    | refine aw_seq ?_
    | (refine aU rfl (fun hb=>?_) (fun hb=>?_)<;>(try exact (fx_ hb).elim))
    | refine aw_block ?_
    | refine aw_exit ?_
    | refine aw_ret ?_
    | refine aw_skip ?_)
   refine wM 3 (L := .map (vz 0 G) :: .dead::Hm G :: .row (127+65536*G.length) (((qZ jw X).map kT).map uB) 2::CQ G) rfl (YI _) ?_
   simp only [ag6,ag_,thA,thS,and_self,if_true,List.drop_zero]
   have e3:(((qZ jw X).map kT).map fun x=>[x.1,x.2]).take G.length=(qZ jw X).map ae:=by
    rw [ahy (by simp [(wN jw X).length_eq,hXl]),List.map_map];rfl
   rw [e3]
   repeat' (first
    | refine st_nil ?_
    | refine aZ rfl rfl rfl rfl ph_ ?_
    | refine bq rfl rfl rfl rfl ph_ ?_
    | refine sS_ rfl rfl rfl ph_ ?_
    | refine bn rfl rfl rfl rfl ph_ ?_
    | refine aW rfl rfl rfl ?_
    | refine sk0_ rfl rfl ?_
    | (refine bQ rfl (fun hb=>?_) (fun hb=>?_)<;>(first|exact (fx_ hb).elim|rw [hb]))
    | refine aw_seq ?_
    | refine aw_region dB _ rfl ?_
    | refine aw_drawn2 bf _ rfl mixed (by decide +kernel) ?_
    | (refine aU rfl (fun hb=>?_) (fun hb=>?_)<;>(try exact (fx_ hb).elim))
    | refine aw_block ?_
    | refine aw_exit ?_
    | refine aw_ret ?_
    | refine aw_skip ?_)
   exact bO (bZ rfl (by trivial) rfl)
set_option maxHeartbeats 8000000
def aaU (l:List FE):Option (List Stp):=bif decide (l.length<=100000) then some (AU l) else none
theorem acC {l:List FE} {r:List Stp} (H:aaU l=some r):Pure Tryz.prog 119 [.one (.lst (l.map LV))] (.val (.one (.lst (r.map y8)))):=by
 unfold aaU at H
 obtain ⟨g,H⟩:=vI H
 obtain rfl:=ahq H
 exact abq l (ahm g)
def aac (l:List FE):Option (List Stp):=bif decide (l.length<=100000) then some (AU l) else none
theorem acx {l:List FE} {r:List Stp} (H:aac l=some r):Pure Tryz.prog 148 [.one (.lst (l.map LV))] (.val (.one (.lst (r.map y8)))):=by
 unfold aac at H
 obtain ⟨g,H⟩:=vI H
 obtain rfl:=ahq H
 exact Y2 l (ahm g)
open Classical in
noncomputable def Vs (l:List Stp):Option (List aI):=if Ng l then some (EC l) else none
theorem aaJ {l:List Stp} {r:List aI} (H:Vs l=some r):Pure Tryz.prog 70 [.one (.lst (l.map y8))] (.val (.one (.lst (r.map bE)))):=by
 unfold Vs at H
 split at H
 ·rename_i h;obtain rfl:=ahq H;exact R4 l h
 ·cases H
open Classical in
noncomputable def Rl (l:List Stp):Option (List aI):=if Ng l then some (EC l) else none
theorem Z_ {l:List Stp} {r:List aI} (H:Rl l=some r):Pure Tryz.prog 60 [.one (.lst (l.map y8))] (.val (.one (.lst (r.map bE)))):=by
 unfold Rl at H
 split at H
 ·rename_i h;obtain rfl:=ahq H;exact WT l h
 ·cases H
def bM (l:List aj):Prop:=l.length<=300 /\ ∀ f∈l,f.row.length<=1000 /\ ∀ v∈f.row,VOK v
open Classical in
noncomputable def Du (l:List aj):Option (List aa):=if bM l then some (rD l) else none
theorem Uc {l:List aj} {r:List aa} (H:Du l=some r):Pure Tryz.prog 113 [.one (.lst (l.map aJ))] (.val (.one (.lst (r.map ae)))):=by
 unfold Du at H
 split at H
 ·rename_i h;obtain rfl:=ahq H;exact WQ l h.1 h.2
 ·cases H
noncomputable section
def sj (a_l:(List aI)):((List FE) × Int)->Option (Step ((List FE) × Int) ((List Stp))):=fun s=>match s with
 | (c_1,v_2)=>bif (decide (v_2<((a_l.length:Nat):Int))) then
  (aH a_l v_2).bind fun x_4=>bif (decide (c_1.length+1<=5864062014805)) then (some (.next ((c_1++[(⟨x_4,(1:Int)⟩:FE)]),(IntKind.i64.wrap (v_2+(1:Int)))))) else none
 else
  some (.exit (c_1,v_2))
def zy:Sum ((List FE) × Int) ((List Stp))->Option (((List Stp)))
 | .inl (c_1,v_2)=>(aaU c_1).bind fun r_5=>some r_5
 | .inr q=>some q
def yw (a_l:(List aI)):Option ((List Stp)):=(ax (sj a_l) fuel ([],(0:Int))).bind (zy)
theorem QX {a_l:(List aI)} {r:(List Stp)} (H:yw a_l=some r):Pure Tryz.prog 71 [.one (.lst (a_l.map bE))] (.val (.one (.lst (r.map y8)))):=by
 unfold yw at H
 refine po_ Tryz.func71 Tryz.ntmps71 ?_
 repeat' (first|refine gs_ ?_|fail)
 refine bX 3 3 rfl ?_
 refine alM_ (fun s:(List FE) × Int=>match s with|(c_1,v_2)=>[(3, .one (.own (c_1.map LV) 0)),(6, .one (.c (.lst (a_l.map bE)))),(7, .one (.c (.int .i64 ((a_l.length:Nat):Int)))),(8, .one (.c (.int .i64 v_2)))]) (fun s=>match s with|(c_1,v_2)=>[.spare c_1.length 3]) H (fun _=>ahe _)
  (fm_ ⟨rfl,rfl,rfl,rfl,trivial⟩ [] rfl ⟨by show 0<1;omega,trivial,trivial,trivial,trivial⟩ ⟨trivial,trivial⟩) ?_
 rintro ⟨c_1,v_2⟩ st1 hb1 hk1
 unfold sj at hb1
 dsimp only at hb1 ⊢
 rcases Bool.eq_false_or_eq_true (decide (v_2<((a_l.length:Nat):Int))) with q_3|q_3
 ·rw [q_3,agX] at hb1
  obtain ⟨x_4,i1,hb1⟩:=bd_ hb1
  obtain ⟨i1z,i1⟩:=nE i1
  have i1x:=abO (f:=bE) i1
  obtain ⟨g2,hb1⟩:=vI hb1
  replace g2:=ahm g2
  obtain rfl:=ahq hb1
  repeat' (first|refine gs_ ?_|fail)
  exact ⟨_,rfl,fm_ ⟨(by simp only [ag8,ag6,ag_,ag0]<;>rfl),rfl,rfl,rfl,trivial⟩ [_] (by simp only [ag3,ahf,aho,ahB,ag8,ag6,ag_]<;>rfl) ⟨by show 0<1;omega,trivial,trivial,trivial,trivial⟩ ⟨trivial,trivial⟩⟩
 ·rw [q_3,agW] at hb1
  obtain rfl:=ahq hb1
  have hx1:zy (.inl (c_1,v_2))=some _:=hk1
  unfold zy at hx1
  dsimp only at hx1
  obtain ⟨r_5,c3,hx1⟩:=bd_ hx1
  replace c3:=acC c3
  try simp only [ag8,ag6,ag_,ag0,aC] at c3
  obtain rfl:=ahq hx1
  exact aD
def Sb (a_p:(List aI)):Option ((List aI)):=bif (decide (((a_p.length:Nat):Int)=(1:Int))) then
 some a_p
 else
 (yw a_p).bind fun r_2=>(Vs r_2).bind fun r_3=>some r_3
theorem Y8 {a_p:(List aI)} {r:(List aI)} (H:Sb a_p=some r):Pure Tryz.prog 69 [.one (.lst (a_p.map bE))] (.val (.one (.lst (r.map bE)))):=by
 unfold Sb at H
 refine po_ Tryz.func69 Tryz.ntmps69 ?_
 rcases Bool.eq_false_or_eq_true (decide (((a_p.length:Nat):Int)=(1:Int))) with q_1|q_1
 ·rw [q_1,agX] at H
  obtain rfl:=ahq H
  exact aD
 ·rw [q_1,agW] at H
  obtain ⟨r_2,c1,H⟩:=bd_ H
  replace c1:=QX c1
  try simp only [ag8,ag6,ag_,ag0,aC] at c1
  obtain ⟨r_3,c2,H⟩:=bd_ H
  replace c2:=aaJ c2
  try simp only [ag8,ag6,ag_,ag0,aC] at c2
  obtain rfl:=ahq H
  exact aD
def zZ (x_5:aa) (r_6:(List aI)):((List aj) × Int)->Option (Step ((List aj) × Int) ((List aj))):=fun s=>match s with
 | (out_7,v_8)=>bif (decide (v_8<((r_6.length:Nat):Int))) then
  (aH r_6 v_8).bind fun x_10=>bif (decide (x_5.row.length<=4398046511104)) then (bif (decide (out_7.length+1<=3518437208883)) then (some (.next ((out_7++[(⟨x_5.row,x_10⟩:aj)]),(IntKind.i64.wrap (v_8+(1:Int)))))) else none) else none
 else
  some (.exit (out_7,v_8))
def FJ (v_3:Int):Sum ((List aj) × Int) ((List aj))->Option (Step ((List aj) × Int) ((List aj)))
 | .inl (out_7,v_8)=>some (.next (out_7,(IntKind.i64.wrap (v_3+(1:Int)))))
 | .inr q=>some (.ret q)
def zW (a_f:(List aI)->Option ((List aI))) (r_1:(List aa)):((List aj) × Int)->Option (Step ((List aj) × Int) ((List aj))):=fun s=>match s with
 | (out_2,v_3)=>bif (decide (v_3<((r_1.length:Nat):Int))) then
  (aH r_1 v_3).bind fun x_5=>(a_f x_5.periods).bind fun r_6=>(ax (zZ x_5 r_6) fuel (out_2,(0:Int))).bind (FJ v_3)
 else
  some (.exit (out_2,v_3))
def Ap:Sum ((List aj) × Int) ((List aj))->Option (((List aj)))
 | .inl (out_2,v_3)=>some out_2
 | .inr q=>some q
def Oe (a_l:(List aj)) (a_f:(List aI)->Option ((List aI))):Option ((List aj)):=(Du a_l).bind fun r_1=>(ax (zW a_f r_1) fuel ([],(0:Int))).bind (Ap)
theorem Xu {a_l:(List aj)} {a_f:(List aI)->Option ((List aI))} {r:(List aj)} {F_a_f:FuncId} {caps_a_f:List AC} (hf_a_f : ∀ (y0:(List aI)) (r:(List aI)),a_f y0=some r->Pure Tryz.prog F_a_f ([.one (.lst (y0.map bE))]++caps_a_f.map .one) (.val (.one (.lst (r.map bE))))) (H:Oe a_l a_f=some r):Pure Tryz.prog 68 [.one (.lst (a_l.map aJ)), .one (.fn F_a_f caps_a_f)] (.val (.one (.lst (r.map aJ)))):=by
 unfold Oe at H
 refine po_ Tryz.func68 Tryz.ntmps68 ?_
 obtain ⟨r_1,c1,H⟩:=bd_ H
 replace c1:=Uc c1
 try simp only [ag8,ag6,ag_,ag0,aC] at c1
 repeat' (first|refine gs_ ?_|fail)
 refine bX 5 3 rfl ?_
 refine alM_ (fun s:(List aj) × Int=>match s with|(out_2,v_3)=>[(1, .one (.c (.fn F_a_f caps_a_f))),(5, .one (.own (out_2.map aJ) 0)),(11, .one (.c (.lst (r_1.map ae)))),(12, .one (.c (.int .i64 ((r_1.length:Nat):Int)))),(13, .one (.c (.int .i64 v_3)))]) (fun s=>match s with|(out_2,v_3)=>[.spare out_2.length 3]) H (fun _=>ahe _)
  (fm_ ⟨rfl,rfl,rfl,rfl,rfl,trivial⟩ [] rfl ⟨trivial,by show 0<1;omega,trivial,trivial,trivial,trivial⟩ ⟨trivial,trivial⟩) ?_
 rintro ⟨out_2,v_3⟩ st3 hb3 hk3
 unfold zW at hb3
 dsimp only at hb3 ⊢
 rcases Bool.eq_false_or_eq_true (decide (v_3<((r_1.length:Nat):Int))) with q_4|q_4
 ·rw [q_4,agX] at hb3
  obtain ⟨x_5,i2,hb3⟩:=bd_ hb3
  obtain ⟨i2z,i2⟩:=nE i2
  have i2x:=abO (f:=ae) i2
  obtain ⟨r_6,c3,hb3⟩:=bd_ hb3
  replace c3:=hf_a_f _ _ c3
  try simp only [ag8,ag6,ag_,ag0,aC] at c3
  repeat' (first|refine gs_ ?_|fail)
  refine alM_ (fun s:(List aj) × Int=>match s with|(out_7,v_8)=>[(1, .one (.c (.fn F_a_f caps_a_f))),(5, .one (.own (out_7.map aJ) 0)),(7, .one (.ptr 1 0)),(11, .one (.c (.lst (r_1.map ae)))),(12, .one (.c (.int .i64 ((r_1.length:Nat):Int)))),(13, .one (.c (.int .i64 v_3))),(20, .one (.c (.lst (r_6.map bE)))),(21, .one (.c (.int .i64 ((r_6.length:Nat):Int)))),(22, .one (.c (.int .i64 v_8)))]) (fun s=>match s with|(out_7,v_8)=>[.spare out_7.length 3, .box [.c (.lst (x_5.row.map cV)), .c (.lst (x_5.periods.map bE))]]) hb3 (fun _=>ahe _)
   (fm_ ⟨rfl,rfl,rfl,rfl,rfl,rfl,rfl,rfl,rfl,trivial⟩ [] rfl ⟨trivial,by show 0<2;omega,by show 1<2;omega,trivial,trivial,trivial,trivial,trivial,trivial,trivial⟩ ⟨trivial,kQ (by rfl),trivial⟩) ?_
  rintro ⟨out_7,v_8⟩ st4 hb4 hk4
  unfold zZ at hb4
  dsimp only at hb4 ⊢
  rcases Bool.eq_false_or_eq_true (decide (v_8<((r_6.length:Nat):Int))) with q_9|q_9
  ·rw [q_9,agX] at hb4
   obtain ⟨x_10,i4,hb4⟩:=bd_ hb4
   obtain ⟨i4z,i4⟩:=nE i4
   have i4x:=abO (f:=bE) i4
   obtain ⟨g5,hb4⟩:=vI hb4
   replace g5:=ahm g5
   obtain ⟨g6,hb4⟩:=vI hb4
   replace g6:=ahm g6
   obtain rfl:=ahq hb4
   repeat' (first|refine gs_ ?_|fail)
   exact ⟨_,rfl,fm_ ⟨rfl,(by simp only [ag8,ag6,ag_,ag0]<;>rfl),rfl,rfl,rfl,rfl,rfl,rfl,rfl,trivial⟩ [_,_] (by simp only [ag3,ahf,aho,ahB,ag8,ag6,ag_]<;>rfl) ⟨trivial,by show 0<2;omega,by show 1<2;omega,trivial,trivial,trivial,trivial,trivial,trivial,trivial⟩ ⟨trivial,kQ (by rfl),trivial⟩⟩
  ·rw [q_9,agW] at hb4
   obtain rfl:=ahq hb4
   have hx4:FJ v_3 (.inl (out_7,v_8))=some _:=hk4
   unfold FJ at hx4
   dsimp only at hx4
   obtain rfl:=ahq hx4
   repeat' (first|refine gs_ ?_|fail)
   exact ⟨_,rfl,fm_ ⟨rfl,(by simp only [ag8,ag6,ag_,ag0]<;>rfl),rfl,rfl,rfl,trivial⟩ [_] (by simp only [ag3,ahf,aho,ahB,ag8,ag6,ag_]<;>rfl) ⟨trivial,by show 0<1;omega,trivial,trivial,trivial,trivial⟩ ⟨trivial,trivial⟩⟩
 ·rw [q_4,agW] at hb3
  obtain rfl:=ahq hb3
  have hx3:Ap (.inl (out_2,v_3))=some _:=hk3
  unfold Ap at hx3
  dsimp only at hx3
  obtain rfl:=ahq hx3
  exact aD
def Dw (a_l:(List aj)):Option ((List aj)):=(Oe a_l (fun x0=>Sb x0)).bind fun r_1=>some r_1
theorem GN {a_l:(List aj)} {r:(List aj)} (H:Dw a_l=some r):Pure Tryz.prog 41 [.one (.lst (a_l.map aJ))] (.val (.one (.lst (r.map aJ)))):=by
 unfold Dw at H
 refine po_ Tryz.func41 Tryz.ntmps41 ?_
 obtain ⟨r_1,c1,H⟩:=bd_ H
 replace c1:=Xu (F_a_f:=69) (caps_a_f:=[]) (fun x0 r h=>Y8 h) c1
 try simp only [ag8,ag6,ag_,ag0,aC] at c1
 obtain rfl:=ahq H
 exact aD
end
set_option maxHeartbeats 8000000
def wV (rec:List (List Val)->List LJ->Option (List (List Val))) (a_l:(List (List Val))) (a_o:(List LJ)):Option ((List (List Val))):=bif (decide (((a_l.length:Nat):Int)=(0:Int))) then some [] else
 bif (decide (((a_l.length:Nat):Int)=(1:Int))) then (aH a_l (0:Int)).bind fun x_3=>bif (decide (x_3.length<=4398046511104)) then (some [x_3]) else none else
 bif (decide ((2:Int)≠0)) then ((lT a_l (0:Int) (IntKind.i64.wrap (((a_l.length:Nat):Int).tdiv (2:Int)))).bind fun s_4=>(rec s_4 a_o).bind fun r_5=>(lT a_l (IntKind.i64.wrap (((a_l.length:Nat):Int).tdiv (2:Int))) ((a_l.length:Nat):Int)).bind fun s_6=>(rec s_6 a_o).bind fun r_7=>(Dn r_5 r_7 a_o).bind fun r_8=>some r_8) else none
theorem UF {rec:List (List Val)->List LJ->Option (List (List Val))}  (hrec : ∀ {x:List (List Val)} {y:List LJ} {r:List (List Val)}, rec x y=some r->Pure Tryz.prog 87 [.one (.lst (x.map (fun x=>[AC.lst (x.map cV)]))), .one (.lst (y.map IJ))] (.val (.one (.lst (r.map (fun x=>[AC.lst (x.map cV)])))))) {a_l:(List (List Val))} {a_o:(List LJ)} {r:(List (List Val))} (H:wV rec a_l a_o=some r):Pure Tryz.prog 87 [.one (.lst (a_l.map (fun x=>[AC.lst (x.map cV)]))), .one (.lst (a_o.map IJ))] (.val (.one (.lst (r.map (fun x=>[AC.lst (x.map cV)]))))):=by
 unfold wV at H
 refine po_ Tryz.func87 Tryz.ntmps87 ?_
 rcases af H with ⟨q_1,H⟩|⟨q_1,H⟩
 ·cases H
  exact aD
 rcases af H with ⟨q_2,H⟩|⟨q_2,H⟩
 ·obtain ⟨x_3,i1z,i1,i1x,H⟩:=aY (f:=(fun x=>[AC.lst (x.map cV)])) H
  obtain ⟨g2,H⟩:=aG H
  cases H
  exact aD
 obtain ⟨g3,H⟩:=aG H
 obtain ⟨s_4,u4,H⟩:=bd_ H
 obtain ⟨⟨u4a,u4b,u4c⟩,u4⟩:=ji u4
 have u4x:=L8 (f:=(fun x=>[AC.lst (x.map cV)])) u4
 obtain ⟨r_5,c5,H⟩:=bd_ H
 replace c5:=hrec c5
 obtain ⟨s_6,u6,H⟩:=bd_ H
 obtain ⟨⟨u6a,u6b,u6c⟩,u6⟩:=ji u6
 have u6x:=L8 (f:=(fun x=>[AC.lst (x.map cV)])) u6
 obtain ⟨r_7,c7,H⟩:=bd_ H
 replace c7:=hrec c7
 obtain ⟨r_8,c8,H⟩:=bd_ H
 replace c8:=Ta c8
 cases H
 repeat' (first|refine gs_ ?_|rw [u4x]|rw [u6x]|rw [show ((0:Nat):Int)=0 from rfl])
 refine bO (bZ rfl ?_ ?_)
 ·repeat' (first|exact trivial|rfl|exact ag5 rfl|omega|apply And.intro)
 ·first|rfl|(simp only [ag8,ag6,ag_,ag0]<;>rfl)
def EH:Nat->List (List Val)->List LJ->Option (List (List Val))
 | 0,_,_=>none
 | n+1,a,b=>wV (EH n) a b
theorem MM : ∀ (n:Nat) {x:List (List Val)} {y:List LJ} {r:List (List Val)}, EH n x y=some r->Pure Tryz.prog 87 [.one (.lst (x.map (fun x=>[AC.lst (x.map cV)]))), .one (.lst (y.map IJ))] (.val (.one (.lst (r.map (fun x=>[AC.lst (x.map cV)])))))
 | 0,_,_,_,h=>nomatch h
 | n+1,_,_,_,h=>UF (MM n) h
def Br (a_l:(List (List Val))):Option ((List (List Val))):=(EH 301 a_l ([]:(List LJ))).bind fun r_1=>some r_1
theorem FN {a_l:(List (List Val))} {r:(List (List Val))} (H:Br a_l=some r):Pure Tryz.prog 53 [.one (.lst (a_l.map (fun x=>[AC.lst (x.map cV)])))] (.val (.one (.lst (r.map (fun x=>[AC.lst (x.map cV)]))))):=by
 unfold Br at H
 refine po_ Tryz.func53 Tryz.ntmps53 ?_
 obtain ⟨r_1,c1,H⟩:=bd_ H
 replace c1:=MM 301 c1
 try simp only [ag8,ag6,ag_,ag0,aC] at c1
 cases H
 exact aD
set_option maxHeartbeats 8000000
noncomputable section
def iP (a_p:aI):Option (Bool):=bif (decide ((0:Int)<=a_p.lo)) then bif (decide (a_p.lo<a_p.hi)) then some (decide (a_p.hi<=(1099511627776:Int))) else
 some false else
 some false
theorem fw {a_p:aI} {r:Bool} (H:iP a_p=some r):Pure Tryz.prog 42 [.agg (bE a_p)] (.val (.one (.bool r))):=by
 unfold iP at H
 refine po_ Tryz.func42 Tryz.ntmps42 ?_
 rcases af H with ⟨q_1,H⟩|⟨q_1,H⟩
 ·rcases af H with ⟨q_2,H⟩|⟨q_2,H⟩
  ·cases H
   exact aD
  cases H
  exact aD
 cases H
 exact aD
def bU (r_1:(List (List Val))):((List (List Val)) × Int)->Option (Step ((List (List Val)) × Int) ((List (List Val)))):=fun s=>match s with
 | (out_2,i_3)=>bif (decide (i_3<((r_1.length:Nat):Int))) then bif (decide (i_3=(0:Int))) then (aH r_1 i_3).bind fun x_6=>bif (decide (out_2.length+1<=5864062014805)) then (some (.next ((out_2++[x_6]),(IntKind.i64.wrap (i_3+(1:Int)))))) else none else
 (aH r_1 (IntKind.i64.wrap (i_3-(1:Int)))).bind fun x_7=>(aH r_1 i_3).bind fun x_8=>(mQ x_7 x_8).bind fun r_9=>bif (!r_9) then bif (decide (out_2.length+1<=5864062014805)) then (some (.next ((out_2++[x_8]),(IntKind.i64.wrap (i_3+(1:Int)))))) else none else
 some (.next (out_2,(IntKind.i64.wrap (i_3+(1:Int))))) else
 some (.exit (out_2,i_3))
def kV:Sum ((List (List Val)) × Int) ((List (List Val)))->Option (((List (List Val))))
 | .inl (out_2,i_3)=>some out_2
 | .inr q=>some q
def nL (a_l:(List (List Val))):Option ((List (List Val))):=(Br a_l).bind fun r_1=>(ax (bU r_1) fuel ([],(0:Int))).bind (kV)
theorem Lf {a_l:(List (List Val))} {r:(List (List Val))} (H:nL a_l=some r):Pure Tryz.prog 147 [.one (.lst (a_l.map (fun x=>[AC.lst (x.map cV)])))] (.val (.one (.lst (r.map (fun x=>[AC.lst (x.map cV)]))))):=by
 unfold nL at H
 refine po_ Tryz.func147 Tryz.ntmps147 ?_
 obtain ⟨r_1,c1,H⟩:=bd_ H
 replace c1:=FN c1
 refine bF ?_
 refine bX 4 1 rfl ?_
 refine alM_ (fun s:(List (List Val)) × Int=>match s with|(out_2,i_3)=>[(3, .one (.c (.lst (r_1.map (fun x=>[AC.lst (x.map cV)]))))),(4, .one (.own (out_2.map (fun x=>[AC.lst (x.map cV)])) 0)),(5, .one (.c (.int .i64 i_3)))]) (fun s=>match s with|(out_2,i_3)=>[.spare out_2.length 1]) H (fun _=>ahe _)
  (fm_ dh [] rfl bH dw) ?_
 rintro ⟨out_2,i_3⟩ st1 hb1 hk1
 unfold bU at hb1
 dsimp only at hb1 ⊢
 rcases af hb1 with ⟨q_4,hb1⟩|⟨q_4,hb1⟩
 ·rcases af hb1 with ⟨q_5,hb1⟩|⟨q_5,hb1⟩
  ·obtain ⟨x_6,i2z,i2,i2x,hb1⟩:=aY (f:=(fun x=>[AC.lst (x.map cV)])) hb1
   obtain ⟨g3,hb1⟩:=aG hb1
   cases hb1
   refine bF ?_
   exact ⟨_,rfl,fm_ lC [] lD bH dw⟩
  obtain ⟨x_7,i4z,i4,i4x,hb1⟩:=aY (f:=(fun x=>[AC.lst (x.map cV)])) hb1
  obtain ⟨x_8,i5z,i5,i5x,hb1⟩:=aY (f:=(fun x=>[AC.lst (x.map cV)])) hb1
  obtain ⟨r_9,c6,hb1⟩:=bd_ hb1
  replace c6:=K7 c6
  rcases af hb1 with ⟨q_10,hb1⟩|⟨q_10,hb1⟩
  ·obtain ⟨g7,hb1⟩:=aG hb1
   cases hb1
   refine bF ?_
   exact ⟨_,rfl,fm_ lC [] lD bH dw⟩
  cases hb1
  refine bF ?_
  exact ⟨_,rfl,fm_ lC [] lD bH dw⟩
 cases hb1
 have hx1:kV (.inl (out_2,i_3))=some _:=hk1
 unfold kV at hx1
 dsimp only at hx1
 cases hx1
 exact aD
def wG (a_l:(List aj)):((List (List Val)) × Int)->Option (Step ((List (List Val)) × Int) ((List (List Val)))):=fun s=>match s with
 | (out_1,i_2)=>bif (decide (i_2<((a_l.length:Nat):Int))) then (aH a_l i_2).bind fun x_4=>(iP x_4.valid).bind fun r_5=>bif r_5 then bif (decide (out_1.length+1<=5864062014805)) then (some (.next ((out_1++[x_4.row]),(IntKind.i64.wrap (i_2+(1:Int)))))) else none else
 some (.next (out_1,(IntKind.i64.wrap (i_2+(1:Int))))) else
 some (.exit (out_1,i_2))
def BV:Sum ((List (List Val)) × Int) ((List (List Val)))->Option (((List (List Val))))
 | .inl (out_1,i_2)=>(nL out_1).bind fun r_7=>some r_7
 | .inr q=>some q
def D_ (a_l:(List aj)):Option ((List (List Val))):=(ax (wG a_l) fuel ([],(0:Int))).bind (BV)
theorem Jp {a_l:(List aj)} {r:(List (List Val))} (H:D_ a_l=some r):Pure Tryz.prog 104 [.one (.lst (a_l.map aJ))] (.val (.one (.lst (r.map (fun x=>[AC.lst (x.map cV)]))))):=by
 unfold D_ at H
 refine po_ Tryz.func104 Tryz.ntmps104 ?_
 refine bF ?_
 refine bX 3 1 rfl ?_
 refine alM_ (fun s:(List (List Val)) × Int=>match s with|(out_1,i_2)=>[(0, .one (.c (.lst (a_l.map aJ)))),(3, .one (.own (out_1.map (fun x=>[AC.lst (x.map cV)])) 0)),(4, .one (.c (.int .i64 i_2)))]) (fun s=>match s with|(out_1,i_2)=>[.spare out_1.length 1]) H (fun _=>ahe _)
  (fm_ dh [] rfl bH dw) ?_
 rintro ⟨out_1,i_2⟩ st1 hb1 hk1
 unfold wG at hb1
 dsimp only at hb1 ⊢
 rcases af hb1 with ⟨q_3,hb1⟩|⟨q_3,hb1⟩
 ·obtain ⟨x_4,i1z,i1,i1x,hb1⟩:=aY (f:=aJ) hb1
  obtain ⟨r_5,c2,hb1⟩:=bd_ hb1
  replace c2:=fw c2
  rcases af hb1 with ⟨q_6,hb1⟩|⟨q_6,hb1⟩
  ·obtain ⟨g3,hb1⟩:=aG hb1
   cases hb1
   refine bF ?_
   exact ⟨_,rfl,fm_ lC [] lD bH dw⟩
  cases hb1
  refine bF ?_
  exact ⟨_,rfl,fm_ lC [] lD bH dw⟩
 cases hb1
 have hx1:BV (.inl (out_1,i_2))=some _:=hk1
 unfold BV at hx1
 dsimp only at hx1
 obtain ⟨r_7,c4,hx1⟩:=bd_ hx1
 replace c4:=Lf c4
 cases hx1
 exact aD
def pX (a_l:(List aj)) (a_row:(List Val)):((List FE) × Int)->Option (Step ((List FE) × Int) ((List Stp))):=fun s=>match s with
 | (c_1,i_2)=>bif (decide (i_2<((a_l.length:Nat):Int))) then (aH a_l i_2).bind fun x_4=>(vo x_4.row a_row).bind fun r_5=>bif (decide (r_5=(0:Int))) then bif (decide (c_1.length+1<=5864062014805)) then (some (.next ((c_1++[(⟨x_4.valid,(1:Int)⟩:FE)]),(IntKind.i64.wrap (i_2+(1:Int)))))) else none else
 some (.next (c_1,(IntKind.i64.wrap (i_2+(1:Int))))) else
 some (.exit (c_1,i_2))
def vZ:Sum ((List FE) × Int) ((List Stp))->Option (((List Stp)))
 | .inl (c_1,i_2)=>(aac c_1).bind fun r_7=>some r_7
 | .inr q=>some q
def ul (a_l:(List aj)) (a_row:(List Val)):Option ((List Stp)):=(ax (pX a_l a_row) fuel ([],(0:Int))).bind (vZ)
theorem En {a_l:(List aj)} {a_row:(List Val)} {r:(List Stp)} (H:ul a_l a_row=some r):Pure Tryz.prog 105 [.one (.lst (a_l.map aJ)), .one (.lst (a_row.map cV))] (.val (.one (.lst (r.map y8)))):=by
 unfold ul at H
 refine po_ Tryz.func105 Tryz.ntmps105 ?_
 refine bF ?_
 refine bX 5 3 rfl ?_
 refine alM_ (fun s:(List FE) × Int=>match s with|(c_1,i_2)=>[(0, .one (.c (.lst (a_l.map aJ)))),(1, .one (.c (.lst (a_row.map cV)))),(5, .one (.own (c_1.map LV) 0)),(6, .one (.c (.int .i64 i_2)))]) (fun s=>match s with|(c_1,i_2)=>[.spare c_1.length 3]) H (fun _=>ahe _)
  (fm_ dh [] rfl bH dw) ?_
 rintro ⟨c_1,i_2⟩ st1 hb1 hk1
 unfold pX at hb1
 dsimp only at hb1 ⊢
 rcases af hb1 with ⟨q_3,hb1⟩|⟨q_3,hb1⟩
 ·obtain ⟨x_4,i1z,i1,i1x,hb1⟩:=aY (f:=aJ) hb1
  obtain ⟨r_5,c2,hb1⟩:=bd_ hb1
  replace c2:=qG c2
  rcases af hb1 with ⟨q_6,hb1⟩|⟨q_6,hb1⟩
  ·obtain ⟨g3,hb1⟩:=aG hb1
   cases hb1
   refine bF ?_
   exact ⟨_,rfl,fm_ lC [] lD bH dw⟩
  cases hb1
  refine bF ?_
  exact ⟨_,rfl,fm_ lC [] lD bH dw⟩
 cases hb1
 have hx1:vZ (.inl (c_1,i_2))=some _:=hk1
 unfold vZ at hx1
 dsimp only at hx1
 obtain ⟨r_7,c4,hx1⟩:=bd_ hx1
 replace c4:=acx c4
 cases hx1
 exact aD
def wR (a_row:(List Val)) (a_p:(List aI)):((List aj) × Int)->Option (Step ((List aj) × Int) ((List aj))):=fun s=>match s with
 | (out_1,i_2)=>bif (decide (i_2<((a_p.length:Nat):Int))) then (aH a_p i_2).bind fun x_4=>bif (decide (out_1.length+1<=3518437208883)) then (some (.next ((out_1++[(⟨a_row,x_4⟩:aj)]),(IntKind.i64.wrap (i_2+(1:Int)))))) else none else
 some (.exit (out_1,i_2))
def BM:Sum ((List aj) × Int) ((List aj))->Option (((List aj)))
 | .inl (out_1,i_2)=>some out_1
 | .inr q=>some q
def wL (a_row:(List Val)) (a_p:(List aI)):Option ((List aj)):=(ax (wR a_row a_p) fuel ([],(0:Int))).bind (BM)
theorem BU {a_row:(List Val)} {a_p:(List aI)} {r:(List aj)} (H:wL a_row a_p=some r):Pure Tryz.prog 59 [.one (.lst (a_row.map cV)), .one (.lst (a_p.map bE))] (.val (.one (.lst (r.map aJ)))):=by
 unfold wL at H
 refine po_ Tryz.func59 Tryz.ntmps59 ?_
 refine bF ?_
 refine bX 5 3 rfl ?_
 refine alM_ (fun s:(List aj) × Int=>match s with|(out_1,i_2)=>[(0, .one (.c (.lst (a_row.map cV)))),(1, .one (.c (.lst (a_p.map bE)))),(5, .one (.own (out_1.map aJ) 0)),(6, .one (.c (.int .i64 i_2)))]) (fun s=>match s with|(out_1,i_2)=>[.spare out_1.length 3]) H (fun _=>ahe _)
  (fm_ dh [] rfl bH dw) ?_
 rintro ⟨out_1,i_2⟩ st1 hb1 hk1
 unfold wR at hb1
 dsimp only at hb1 ⊢
 rcases af hb1 with ⟨q_3,hb1⟩|⟨q_3,hb1⟩
 ·obtain ⟨x_4,i1z,i1,i1x,hb1⟩:=aY (f:=bE) hb1
  obtain ⟨g2,hb1⟩:=aG hb1
  cases hb1
  refine bF ?_
  exact ⟨_,rfl,fm_ lC [] lD bH dw⟩
 cases hb1
 have hx1:BM (.inl (out_1,i_2))=some _:=hk1
 unfold BM at hx1
 dsimp only at hx1
 cases hx1
 exact aD
def dI (a_a:(List aj)) (a_b:(List aj)):((List aj) × Int × Int)->Option (Step ((List aj) × Int × Int) ((List aj))):=fun s=>match s with
 | (out_1,i_2,k_3)=>bif (decide (i_2<((a_a.length:Nat):Int))) then bif (decide (i_2=((a_a.length:Nat):Int))) then (aH a_b k_3).bind fun x_6=>bif (decide (out_1.length+1<=3518437208883)) then (some (.next ((out_1++[x_6]),i_2,(IntKind.i64.wrap (k_3+(1:Int)))))) else none else
 bif (decide (k_3<((a_b.length:Nat):Int))) then (aH a_b k_3).bind fun x_8=>(aH a_a i_2).bind fun x_9=>(vo x_8.row x_9.row).bind fun r_10=>bif (decide (r_10<(0:Int))) then bif (decide (out_1.length+1<=3518437208883)) then (some (.next ((out_1++[x_8]),i_2,(IntKind.i64.wrap (k_3+(1:Int)))))) else none else
 bif (decide (out_1.length+1<=3518437208883)) then (some (.next ((out_1++[x_9]),(IntKind.i64.wrap (i_2+(1:Int))),k_3))) else none else
 (aH a_a i_2).bind fun x_12=>bif (decide (out_1.length+1<=3518437208883)) then (some (.next ((out_1++[x_12]),(IntKind.i64.wrap (i_2+(1:Int))),k_3))) else none else
 bif (decide (k_3<((a_b.length:Nat):Int))) then bif (decide (i_2=((a_a.length:Nat):Int))) then (aH a_b k_3).bind fun x_15=>bif (decide (out_1.length+1<=3518437208883)) then (some (.next ((out_1++[x_15]),i_2,(IntKind.i64.wrap (k_3+(1:Int)))))) else none else
 (aH a_b k_3).bind fun x_16=>(aH a_a i_2).bind fun x_17=>(vo x_16.row x_17.row).bind fun r_18=>bif (decide (r_18<(0:Int))) then bif (decide (out_1.length+1<=3518437208883)) then (some (.next ((out_1++[x_16]),i_2,(IntKind.i64.wrap (k_3+(1:Int)))))) else none else
 bif (decide (out_1.length+1<=3518437208883)) then (some (.next ((out_1++[x_17]),(IntKind.i64.wrap (i_2+(1:Int))),k_3))) else none else
 some (.exit (out_1,i_2,k_3))
def pY:Sum ((List aj) × Int × Int) ((List aj))->Option (((List aj)))
 | .inl (out_1,i_2,k_3)=>some out_1
 | .inr q=>some q
def vG (a_a:(List aj)) (a_b:(List aj)):Option ((List aj)):=(ax (dI a_a a_b) fuel ([],(0:Int),(0:Int))).bind (pY)
theorem PK {a_a:(List aj)} {a_b:(List aj)} {r:(List aj)} (H:vG a_a a_b=some r):Pure Tryz.prog 146 [.one (.lst (a_a.map aJ)), .one (.lst (a_b.map aJ))] (.val (.one (.lst (r.map aJ)))):=by
 unfold vG at H
 refine po_ Tryz.func146 Tryz.ntmps146 ?_
 refine bF ?_
 refine bX 5 3 rfl ?_
 refine alM_ (fun s:(List aj) × Int × Int=>match s with|(out_1,i_2,k_3)=>[(0, .one (.c (.lst (a_a.map aJ)))),(1, .one (.c (.lst (a_b.map aJ)))),(5, .one (.own (out_1.map aJ) 0)),(6, .one (.c (.int .i64 i_2))),(7, .one (.c (.int .i64 k_3)))]) (fun s=>match s with|(out_1,i_2,k_3)=>[.spare out_1.length 3]) H (fun _=>ahe _)
  (fm_ dh [] rfl bH dw) ?_
 rintro ⟨out_1,i_2,k_3⟩ st1 hb1 hk1
 unfold dI at hb1
 dsimp only at hb1 ⊢
 rcases af hb1 with ⟨q_4,hb1⟩|⟨q_4,hb1⟩
 ·rcases af hb1 with ⟨q_5,hb1⟩|⟨q_5,hb1⟩
  ·obtain ⟨x_6,i1z,i1,i1x,hb1⟩:=aY (f:=aJ) hb1
   obtain ⟨g2,hb1⟩:=aG hb1
   cases hb1
   refine bF ?_
   exact ⟨_,rfl,fm_ lC [] lD bH dw⟩
  rcases af hb1 with ⟨q_7,hb1⟩|⟨q_7,hb1⟩
  ·obtain ⟨x_8,i3z,i3,i3x,hb1⟩:=aY (f:=aJ) hb1
   obtain ⟨x_9,i4z,i4,i4x,hb1⟩:=aY (f:=aJ) hb1
   obtain ⟨r_10,c5,hb1⟩:=bd_ hb1
   replace c5:=qG c5
   rcases af hb1 with ⟨q_11,hb1⟩|⟨q_11,hb1⟩
   ·obtain ⟨g6,hb1⟩:=aG hb1
    cases hb1
    refine bF ?_
    exact ⟨_,rfl,fm_ lC [] lD bH dw⟩
   obtain ⟨g7,hb1⟩:=aG hb1
   cases hb1
   refine bF ?_
   exact ⟨_,rfl,fm_ lC [] lD bH dw⟩
  obtain ⟨x_12,i8z,i8,i8x,hb1⟩:=aY (f:=aJ) hb1
  obtain ⟨g9,hb1⟩:=aG hb1
  cases hb1
  refine bF ?_
  exact ⟨_,rfl,fm_ lC [] lD bH dw⟩
 rcases af hb1 with ⟨q_13,hb1⟩|⟨q_13,hb1⟩
 ·rcases af hb1 with ⟨q_14,hb1⟩|⟨q_14,hb1⟩
  ·obtain ⟨x_15,i10z,i10,i10x,hb1⟩:=aY (f:=aJ) hb1
   obtain ⟨g11,hb1⟩:=aG hb1
   cases hb1
   refine bF ?_
   exact ⟨_,rfl,fm_ lC [] lD bH dw⟩
  obtain ⟨x_16,i12z,i12,i12x,hb1⟩:=aY (f:=aJ) hb1
  obtain ⟨x_17,i13z,i13,i13x,hb1⟩:=aY (f:=aJ) hb1
  obtain ⟨r_18,c14,hb1⟩:=bd_ hb1
  replace c14:=qG c14
  rcases af hb1 with ⟨q_19,hb1⟩|⟨q_19,hb1⟩
  ·obtain ⟨g15,hb1⟩:=aG hb1
   cases hb1
   refine bF ?_
   exact ⟨_,rfl,fm_ lC [] lD bH dw⟩
  obtain ⟨g16,hb1⟩:=aG hb1
  cases hb1
  refine bF ?_
  exact ⟨_,rfl,fm_ lC [] lD bH dw⟩
 cases hb1
 have hx1:pY (.inl (out_1,i_2,k_3))=some _:=hk1
 unfold pY at hx1
 dsimp only at hx1
 cases hx1
 exact aD
def uP (rec:List aj->Option (List aj)) (a_l:(List aj)):Option ((List aj)):=bif (decide (((a_l.length:Nat):Int)<(2:Int))) then some a_l else
 bif (decide ((2:Int)≠0)) then ((lT a_l (0:Int) (IntKind.i64.wrap (((a_l.length:Nat):Int).tdiv (2:Int)))).bind fun s_2=>(rec s_2).bind fun r_3=>(lT a_l (IntKind.i64.wrap (((a_l.length:Nat):Int).tdiv (2:Int))) ((a_l.length:Nat):Int)).bind fun s_4=>(rec s_4).bind fun r_5=>(vG r_3 r_5).bind fun r_6=>some r_6) else none
theorem OW {rec:List aj->Option (List aj)}  (hrec : ∀ {x:List aj} {r:List aj}, rec x=some r->Pure Tryz.prog 103 [.one (.lst (x.map aJ))] (.val (.one (.lst (r.map aJ))))) {a_l:(List aj)} {r:(List aj)} (H:uP rec a_l=some r):Pure Tryz.prog 103 [.one (.lst (a_l.map aJ))] (.val (.one (.lst (r.map aJ)))):=by
 unfold uP at H
 refine po_ Tryz.func103 Tryz.ntmps103 ?_
 rcases af H with ⟨q_1,H⟩|⟨q_1,H⟩
 ·cases H
  exact aD
 obtain ⟨g1,H⟩:=aG H
 obtain ⟨s_2,u2,H⟩:=bd_ H
 obtain ⟨⟨u2a,u2b,u2c⟩,u2⟩:=ji u2
 have u2x:=L8 (f:=aJ) u2
 obtain ⟨r_3,c3,H⟩:=bd_ H
 replace c3:=hrec c3
 obtain ⟨s_4,u4,H⟩:=bd_ H
 obtain ⟨⟨u4a,u4b,u4c⟩,u4⟩:=ji u4
 have u4x:=L8 (f:=aJ) u4
 obtain ⟨r_5,c5,H⟩:=bd_ H
 replace c5:=hrec c5
 obtain ⟨r_6,c6,H⟩:=bd_ H
 replace c6:=PK c6
 cases H
 repeat' (first|refine gs_ ?_|rw [u2x]|rw [u4x]|rw [show ((0:Nat):Int)=0 from rfl])
 refine bO (bZ rfl ?_ ?_)
 ·repeat' (first|exact trivial|rfl|exact ag5 rfl|omega|apply And.intro)
 ·first|rfl|(simp only [ag8,ag6,ag_,ag0]<;>rfl)
def yM:Nat->List aj->Option (List aj)
 | 0,_=>none
 | n+1,a=>uP (yM n) a
theorem Gm : ∀ (n:Nat) {x:List aj} {r:List aj}, yM n x=some r->Pure Tryz.prog 103 [.one (.lst (x.map aJ))] (.val (.one (.lst (r.map aJ))))
 | 0,_,_,h=>nomatch h
 | n+1,_,_,h=>OW (Gm n) h
def kr (s_11:(List aj)) (r_12:(List (List Val))):((List cu) × Int)->Option (Step ((List cu) × Int) ((List cu))):=fun s=>match s with
 | (out_13,n_14)=>bif (decide (n_14<((r_12.length:Nat):Int))) then (aH r_12 n_14).bind fun x_16=>(ul s_11 x_16).bind fun r_17=>bif (decide (out_13.length+1<=2932031007402)) then (some (.next ((out_13++[(⟨x_16,r_17⟩:cu)]),(IntKind.i64.wrap (n_14+(1:Int)))))) else none else
 some (.exit (out_13,n_14))
def ky (k_5:Int):Sum ((List cu) × Int) ((List cu))->Option (Step ((List cu) × Int) ((List cu)))
 | .inl (out_13,n_14)=>some (.next (out_13,k_5))
 | .inr q=>some (.ret q)
def iT (r_1:(List aj)) (i_3:Int):(Int)->Option (Step (Int) ((List cu))):=fun s=>match s with
 | k_5=>bif (decide (k_5<((r_1.length:Nat):Int))) then (aH r_1 k_5).bind fun x_7=>(aH r_1 i_3).bind fun x_8=>(vo x_7.row x_8.row).bind fun r_9=>bif (decide (r_9=(0:Int))) then some (.next (IntKind.i64.wrap (k_5+(1:Int)))) else
 some (.exit k_5) else
 some (.exit k_5)
def mH (r_1:(List aj)) (out_2:(List cu)) (i_3:Int):Sum (Int) ((List cu))->Option (Step ((List cu) × Int) ((List cu)))
 | .inl k_5=>(lT r_1 i_3 k_5).bind fun s_11=>(D_ s_11).bind fun r_12=>(ax (kr s_11 r_12) fuel (out_2,(0:Int))).bind (ky k_5)
 | .inr q=>some (.ret q)
def gH (r_1:(List aj)):((List cu) × Int)->Option (Step ((List cu) × Int) ((List cu))):=fun s=>match s with
 | (out_2,i_3)=>bif (decide (i_3<((r_1.length:Nat):Int))) then (ax (iT r_1 i_3) fuel i_3).bind (mH r_1 out_2 i_3) else
 some (.exit (out_2,i_3))
def vO:Sum ((List cu) × Int) ((List cu))->Option (((List cu)))
 | .inl (out_2,i_3)=>some out_2
 | .inr q=>some q
def uX (a_l:(List aj)):Option ((List cu)):=(yM 640 a_l).bind fun r_1=>(ax (gH r_1) fuel ([],(0:Int))).bind (vO)
theorem OX {a_l:(List aj)} {r:(List cu)} (H:uX a_l=some r):Pure Tryz.prog 58 [.one (.lst (a_l.map aJ))] (.val (.one (.lst (r.map nZ)))):=by
 unfold uX at H
 refine po_ Tryz.func58 Tryz.ntmps58 ?_
 obtain ⟨r_1,c1,H⟩:=bd_ H
 replace c1:=Gm 640 c1
 refine bF ?_
 refine bX 4 2 rfl ?_
 refine alM_ (fun s:(List cu) × Int=>match s with|(out_2,i_3)=>[(3, .one (.c (.lst (r_1.map aJ)))),(4, .one (.own (out_2.map nZ) 0)),(5, .one (.c (.int .i64 i_3)))]) (fun s=>match s with|(out_2,i_3)=>[.spare out_2.length 2]) H (fun _=>ahe _)
  (fm_ dh [] rfl bH dw) ?_
 rintro ⟨out_2,i_3⟩ st5 hb5 hk5
 unfold gH at hb5
 dsimp only at hb5 ⊢
 rcases af hb5 with ⟨q_4,hb5⟩|⟨q_4,hb5⟩
 ·refine bF ?_
  refine alM_ (fun s:Int=>match s with|k_5=>[(3, .one (.c (.lst (r_1.map aJ)))),(4, .one (.own (out_2.map nZ) 0)),(5, .one (.c (.int .i64 i_3))),(6, .one (.c (.int .i64 k_5)))]) (fun s=>match s with|k_5=>[.spare out_2.length 2]) hb5 (fun _=>ahe _)
   (fm_ dh [] rfl bH dw) ?_
  rintro k_5 st6 hb6 hk6
  unfold iT at hb6
  dsimp only at hb6 ⊢
  rcases af hb6 with ⟨q_6,hb6⟩|⟨q_6,hb6⟩
  ·obtain ⟨x_7,i2z,i2,i2x,hb6⟩:=aY (f:=aJ) hb6
   obtain ⟨x_8,i3z,i3,i3x,hb6⟩:=aY (f:=aJ) hb6
   obtain ⟨r_9,c4,hb6⟩:=bd_ hb6
   replace c4:=qG c4
   rcases af hb6 with ⟨q_10,hb6⟩|⟨q_10,hb6⟩
   ·cases hb6
    refine bF ?_
    exact ⟨_,rfl,fm_ dh [] rfl bH dw⟩
   cases hb6
   have hx6:mH r_1 out_2 i_3 (.inl k_5)=some _:=hk6
   unfold mH at hx6
   dsimp only at hx6
   obtain ⟨s_11,u5,hx6⟩:=bd_ hx6
   obtain ⟨⟨u5a,u5b,u5c⟩,u5⟩:=ji u5
   have u5x:=L8 (f:=aJ) u5
   obtain ⟨r_12,c6,hx6⟩:=bd_ hx6
   replace c6:=Jp c6
   repeat' (first|refine gs_ ?_|rw [u5x]|rw [show ((0:Nat):Int)=0 from rfl])
   refine alM_ (fun s:(List cu) × Int=>match s with|(out_13,n_14)=>[(3, .one (.c (.lst (r_1.map aJ)))),(4, .one (.own (out_13.map nZ) 0)),(5, .one (.c (.int .i64 i_3))),(6, .one (.c (.int .i64 k_5))),(7, .one (.c (.lst (r_12.map (fun x=>[AC.lst (x.map cV)]))))),(8, .one (.c (.int .i64 n_14)))]) (fun s=>match s with|(out_13,n_14)=>[.spare out_13.length 2]) hx6 (fun _=>ahe _)
    (fm_ dh [] rfl bH dw) ?_
   rintro ⟨out_13,n_14⟩ st7 hb7 hk7
   unfold kr at hb7
   dsimp only at hb7 ⊢
   rcases af hb7 with ⟨q_15,hb7⟩|⟨q_15,hb7⟩
   ·obtain ⟨x_16,i7z,i7,i7x,hb7⟩:=aY (f:=(fun x=>[AC.lst (x.map cV)])) hb7
    obtain ⟨r_17,c8,hb7⟩:=bd_ hb7
    replace c8:=En c8
    obtain ⟨g9,hb7⟩:=aG hb7
    cases hb7
    repeat' (first|refine gs_ ?_|rw [u5x]|rw [show ((0:Nat):Int)=0 from rfl])
    exact ⟨_,rfl,fm_ lC [] lD bH dw⟩
   cases hb7
   have hx7:ky k_5 (.inl (out_13,n_14))=some _:=hk7
   unfold ky at hx7
   dsimp only at hx7
   cases hx7
   repeat' (first|refine gs_ ?_|rw [u5x]|rw [show ((0:Nat):Int)=0 from rfl])
   exact ⟨_,rfl,fm_ lC [] lD bH dw⟩
  cases hb6
  have hx6:mH r_1 out_2 i_3 (.inl k_5)=some _:=hk6
  unfold mH at hx6
  dsimp only at hx6
  obtain ⟨s_11,u10,hx6⟩:=bd_ hx6
  obtain ⟨⟨u10a,u10b,u10c⟩,u10⟩:=ji u10
  have u10x:=L8 (f:=aJ) u10
  obtain ⟨r_12,c11,hx6⟩:=bd_ hx6
  replace c11:=Jp c11
  repeat' (first|refine gs_ ?_|rw [u10x]|rw [show ((0:Nat):Int)=0 from rfl])
  refine alM_ (fun s:(List cu) × Int=>match s with|(out_13,n_14)=>[(3, .one (.c (.lst (r_1.map aJ)))),(4, .one (.own (out_13.map nZ) 0)),(5, .one (.c (.int .i64 i_3))),(6, .one (.c (.int .i64 k_5))),(7, .one (.c (.lst (r_12.map (fun x=>[AC.lst (x.map cV)]))))),(8, .one (.c (.int .i64 n_14)))]) (fun s=>match s with|(out_13,n_14)=>[.spare out_13.length 2]) hx6 (fun _=>ahe _)
   (fm_ dh [] rfl bH dw) ?_
  rintro ⟨out_13,n_14⟩ st7 hb7 hk7
  unfold kr at hb7
  dsimp only at hb7 ⊢
  rcases af hb7 with ⟨q_15,hb7⟩|⟨q_15,hb7⟩
  ·obtain ⟨x_16,i12z,i12,i12x,hb7⟩:=aY (f:=(fun x=>[AC.lst (x.map cV)])) hb7
   obtain ⟨r_17,c13,hb7⟩:=bd_ hb7
   replace c13:=En c13
   obtain ⟨g14,hb7⟩:=aG hb7
   cases hb7
   repeat' (first|refine gs_ ?_|rw [u10x]|rw [show ((0:Nat):Int)=0 from rfl])
   exact ⟨_,rfl,fm_ lC [] lD bH dw⟩
  cases hb7
  have hx7:ky k_5 (.inl (out_13,n_14))=some _:=hk7
  unfold ky at hx7
  dsimp only at hx7
  cases hx7
  repeat' (first|refine gs_ ?_|rw [u10x]|rw [show ((0:Nat):Int)=0 from rfl])
  exact ⟨_,rfl,fm_ lC [] lD bH dw⟩
 cases hb5
 have hx5:vO (.inl (out_2,i_3))=some _:=hk5
 unfold vO at hx5
 dsimp only at hx5
 cases hx5
 exact aD
def Dt (r_1:(List cu)):((List aj) × Int)->Option (Step ((List aj) × Int) ((List aj))):=fun s=>match s with
 | (out_2,i_3)=>bif (decide (i_3<((r_1.length:Nat):Int))) then (aH r_1 i_3).bind fun x_5=>(Rl x_5.steps).bind fun r_6=>(wL x_5.row r_6).bind fun r_7=>bif (decide (out_2.length+r_7.length<=3518437208883)) then (some (.next ((out_2++r_7),(IntKind.i64.wrap (i_3+(1:Int)))))) else none else
 some (.exit (out_2,i_3))
def IB:Sum ((List aj) × Int) ((List aj))->Option (((List aj)))
 | .inl (out_2,i_3)=>some out_2
 | .inr q=>some q
def kU (a_l:(List aj)):Option ((List aj)):=(uX a_l).bind fun r_1=>(ax (Dt r_1) fuel ([],(0:Int))).bind (IB)
theorem oW {a_l:(List aj)} {r:(List aj)} (H:kU a_l=some r):Pure Tryz.prog 25 [.one (.lst (a_l.map aJ))] (.val (.one (.lst (r.map aJ)))):=by
 unfold kU at H
 refine po_ Tryz.func25 Tryz.ntmps25 ?_
 obtain ⟨r_1,c1,H⟩:=bd_ H
 replace c1:=OX c1
 refine bF ?_
 refine bX 4 3 rfl ?_
 refine alM_ (fun s:(List aj) × Int=>match s with|(out_2,i_3)=>[(3, .one (.c (.lst (r_1.map nZ)))),(4, .one (.own (out_2.map aJ) 0)),(5, .one (.c (.int .i64 i_3)))]) (fun s=>match s with|(out_2,i_3)=>[.spare out_2.length 3]) H (fun _=>ahe _)
  (fm_ dh [] rfl bH dw) ?_
 rintro ⟨out_2,i_3⟩ st1 hb1 hk1
 unfold Dt at hb1
 dsimp only at hb1 ⊢
 rcases af hb1 with ⟨q_4,hb1⟩|⟨q_4,hb1⟩
 ·obtain ⟨x_5,i2z,i2,i2x,hb1⟩:=aY (f:=nZ) hb1
  obtain ⟨r_6,c3,hb1⟩:=bd_ hb1
  replace c3:=Z_ c3
  obtain ⟨r_7,c4,hb1⟩:=bd_ hb1
  replace c4:=BU c4
  obtain ⟨g5,hb1⟩:=aG hb1
  cases hb1
  refine bF ?_
  exact ⟨_,rfl,fm_ lC [] lD bH dw⟩
 cases hb1
 have hx1:IB (.inl (out_2,i_3))=some _:=hk1
 unfold IB at hx1
 dsimp only at hx1
 cases hx1
 exact aD
def l7 (a_a:(List aj)) (a_b:(List aj)):(Int)->Option (Step (Int) (Bool)):=fun s=>match s with
 | i_2=>bif (decide (i_2<((a_a.length:Nat):Int))) then (aH a_a i_2).bind fun x_4=>(aH a_b i_2).bind fun x_5=>bif (!(dL [.c (.int .i64 x_4.valid.lo), .c (.int .i64 x_4.valid.hi)] [.c (.int .i64 x_5.valid.lo), .c (.int .i64 x_5.valid.hi)])) then some (.ret false) else
 (vo x_4.row x_5.row).bind fun r_7=>bif (decide (r_7≠(0:Int))) then some (.ret false) else
 some (.next (IntKind.i64.wrap (i_2+(1:Int)))) else
 some (.exit i_2)
def nD:Sum (Int) (Bool)->Option ((Bool))
 | .inl i_2=>some true
 | .inr q=>some q
def kM (a_a:(List aj)) (a_b:(List aj)):Option (Bool):=bif (decide (((a_a.length:Nat):Int)≠((a_b.length:Nat):Int))) then some false else
 (ax (l7 a_a a_b) fuel (0:Int)).bind (nD)
theorem jm {a_a:(List aj)} {a_b:(List aj)} {r:Bool} (H:kM a_a a_b=some r):Pure Tryz.prog 11 [.one (.lst (a_a.map aJ)), .one (.lst (a_b.map aJ))] (.val (.one (.bool r))):=by
 unfold kM at H
 refine po_ Tryz.func11 Tryz.ntmps11 ?_
 rcases af H with ⟨q_1,H⟩|⟨q_1,H⟩
 ·cases H
  exact aD
 refine bF ?_
 refine alM_ (fun s:Int=>match s with|i_2=>[(0, .one (.c (.lst (a_a.map aJ)))),(1, .one (.c (.lst (a_b.map aJ)))),(5, .one (.c (.int .i64 i_2)))]) (fun s=>match s with|i_2=>[]) H (fun _=>ahe _)
  (fm_ dh [] rfl bH trivial) ?_
 rintro i_2 st1 hb1 hk1
 unfold l7 at hb1
 dsimp only at hb1 ⊢
 rcases af hb1 with ⟨q_3,hb1⟩|⟨q_3,hb1⟩
 ·obtain ⟨x_4,i1z,i1,i1x,hb1⟩:=aY (f:=aJ) hb1
  obtain ⟨x_5,i2z,i2,i2x,hb1⟩:=aY (f:=aJ) hb1
  rcases af hb1 with ⟨q_6,hb1⟩|⟨q_6,hb1⟩
  ·cases hb1
   have hx1:nD (.inr false)=some _:=hk1
   unfold nD at hx1
   dsimp only at hx1
   cases hx1
   exact aD
  obtain ⟨r_7,c3,hb1⟩:=bd_ hb1
  replace c3:=qG c3
  rcases af hb1 with ⟨q_8,hb1⟩|⟨q_8,hb1⟩
  ·cases hb1
   have hx1:nD (.inr false)=some _:=hk1
   unfold nD at hx1
   dsimp only at hx1
   cases hx1
   exact aD
  cases hb1
  refine bF ?_
  exact ⟨_,rfl,fm_ dh [] rfl bH trivial⟩
 cases hb1
 have hx1:nD (.inl i_2)=some _:=hk1
 unfold nD at hx1
 dsimp only at hx1
 cases hx1
 exact aD
end
set_option maxHeartbeats 8000000
def KW (a_s:ByteArray):Option (Val):=(wy (⟨(2:Int),(0:Int),a_s⟩:Val)).bind fun r_1=>some r_1
theorem Yo {a_s:ByteArray} {r:Val} (H:KW a_s=some r):Pure Tryz.prog 143 [.one (.str a_s)] (.val (.agg (cV r))):=by
 unfold KW at H
 refine po_ Tryz.func143 Tryz.ntmps143 ?_
 obtain ⟨r_1,c1,H⟩:=bd_ H
 replace c1:=Jy c1
 cases H
 exact aD
def wB (a_b:Bool):Option (Val):=bif a_b then some (⟨(3:Int),(1:Int),ByteArray.empty⟩:Val) else
 some (⟨(3:Int),(0:Int),ByteArray.empty⟩:Val)
theorem qj {a_b:Bool} {r:Val} (H:wB a_b=some r):Pure Tryz.prog 88 [.one (.bool a_b)] (.val (.agg (cV r))):=by
 unfold wB at H
 refine po_ Tryz.func88 Tryz.ntmps88 ?_
 rcases af H with ⟨q_1,H⟩|⟨q_1,H⟩
 ·cases H
  exact aD
 cases H
 exact aD
def Ak (a_a:Val) (a_b:Val) (a_is:Bool):Option (Int):=bif (decide (a_a.kind=(0:Int))) then some (1:Int) else
 bif (decide (a_a.kind≠a_b.kind)) then some (1:Int) else
 bif a_is then some (2:Int) else
 some (0:Int)
theorem Ki {a_a:Val} {a_b:Val} {a_is:Bool} {r:Int} (H:Ak a_a a_b a_is=some r):Pure Tryz.prog 170 [.agg (cV a_a), .agg (cV a_b), .one (.bool a_is)] (.val (.one (.int .i64 r))):=by
 unfold Ak at H
 refine po_ Tryz.func170 Tryz.ntmps170 ?_
 rcases af H with ⟨q_1,H⟩|⟨q_1,H⟩
 ·cases H
  exact aD
 rcases af H with ⟨q_2,H⟩|⟨q_2,H⟩
 ·cases H
  exact aD
 rcases af H with ⟨q_3,H⟩|⟨q_3,H⟩
 ·cases H
  exact aD
 cases H
 exact aD
def X9 (a_a:Val) (a_b:Val):Option (Int):=(AL a_a a_b).bind fun r_1=>(Ak a_a a_b (decide (r_1=(0:Int)))).bind fun r_2=>some r_2
theorem U2 {a_a:Val} {a_b:Val} {r:Int} (H:X9 a_a a_b=some r):Pure Tryz.prog 140 [.agg (cV a_a), .agg (cV a_b)] (.val (.one (.int .i64 r))):=by
 unfold X9 at H
 refine po_ Tryz.func140 Tryz.ntmps140 ?_
 obtain ⟨r_1,c1,H⟩:=bd_ H
 replace c1:=Dm c1
 obtain ⟨r_2,c2,H⟩:=bd_ H
 replace c2:=Ki c2
 cases H
 exact aD
def zq (a_a:Val) (a_b:Val):Option (Int):=(AL a_a a_b).bind fun r_1=>(Ak a_a a_b (decide (r_1<(0:Int)))).bind fun r_2=>some r_2
theorem Am {a_a:Val} {a_b:Val} {r:Int} (H:zq a_a a_b=some r):Pure Tryz.prog 141 [.agg (cV a_a), .agg (cV a_b)] (.val (.one (.int .i64 r))):=by
 unfold zq at H
 refine po_ Tryz.func141 Tryz.ntmps141 ?_
 obtain ⟨r_1,c1,H⟩:=bd_ H
 replace c1:=Dm c1
 obtain ⟨r_2,c2,H⟩:=bd_ H
 replace c2:=Ki c2
 cases H
 exact aD
def Ku (a_a:Int):Option (Int):=bif (decide (a_a=(2:Int))) then some (0:Int) else
 bif (decide (a_a=(0:Int))) then some (2:Int) else
 some (1:Int)
theorem Ep {a_a:Int} {r:Int} (H:Ku a_a=some r):Pure Tryz.prog 93 [.one (.int .i64 a_a)] (.val (.one (.int .i64 r))):=by
 unfold Ku at H
 refine po_ Tryz.func93 Tryz.ntmps93 ?_
 rcases af H with ⟨q_1,H⟩|⟨q_1,H⟩
 ·cases H
  exact aD
 rcases af H with ⟨q_2,H⟩|⟨q_2,H⟩
 ·cases H
  exact aD
 cases H
 exact aD
def IV (a_a:Int) (a_b:Int):Option (Int):=bif (decide (a_a=(0:Int))) then some (0:Int) else
 bif (decide (a_b=(0:Int))) then some (0:Int) else
 bif (decide (a_a=(2:Int))) then bif (decide (a_b=(2:Int))) then some (2:Int) else
 some (1:Int) else
 some (1:Int)
theorem aaH {a_a:Int} {a_b:Int} {r:Int} (H:IV a_a a_b=some r):Pure Tryz.prog 138 [.one (.int .i64 a_a), .one (.int .i64 a_b)] (.val (.one (.int .i64 r))):=by
 unfold IV at H
 refine po_ Tryz.func138 Tryz.ntmps138 ?_
 rcases af H with ⟨q_1,H⟩|⟨q_1,H⟩
 ·cases H
  exact aD
 rcases af H with ⟨q_2,H⟩|⟨q_2,H⟩
 ·cases H
  exact aD
 rcases af H with ⟨q_3,H⟩|⟨q_3,H⟩
 ·rcases af H with ⟨q_4,H⟩|⟨q_4,H⟩
  ·cases H
   exact aD
  cases H
  exact aD
 cases H
 exact aD
def TU (a_a:Int) (a_b:Int):Option (Int):=bif (decide (a_a=(2:Int))) then some (2:Int) else
 bif (decide (a_b=(2:Int))) then some (2:Int) else
 bif (decide (a_a=(0:Int))) then bif (decide (a_b=(0:Int))) then some (0:Int) else
 some (1:Int) else
 some (1:Int)
theorem abL {a_a:Int} {a_b:Int} {r:Int} (H:TU a_a a_b=some r):Pure Tryz.prog 139 [.one (.int .i64 a_a), .one (.int .i64 a_b)] (.val (.one (.int .i64 r))):=by
 unfold TU at H
 refine po_ Tryz.func139 Tryz.ntmps139 ?_
 rcases af H with ⟨q_1,H⟩|⟨q_1,H⟩
 ·cases H
  exact aD
 rcases af H with ⟨q_2,H⟩|⟨q_2,H⟩
 ·cases H
  exact aD
 rcases af H with ⟨q_3,H⟩|⟨q_3,H⟩
 ·rcases af H with ⟨q_4,H⟩|⟨q_4,H⟩
  ·cases H
   exact aD
  cases H
  exact aD
 cases H
 exact aD
def jy (a_v:Val):Option (Int):=(wB true).bind fun r_1=>bif (dL [.c (.int .i64 a_v.kind), .c (.int .i64 a_v.int), .c (.str a_v.text)] [.c (.int .i64 r_1.kind), .c (.int .i64 r_1.int), .c (.str r_1.text)]) then some (2:Int) else
 (wB false).bind fun r_3=>bif (dL [.c (.int .i64 a_v.kind), .c (.int .i64 a_v.int), .c (.str a_v.text)] [.c (.int .i64 r_3.kind), .c (.int .i64 r_3.int), .c (.str r_3.text)]) then some (0:Int) else
 some (1:Int)
theorem nO {a_v:Val} {r:Int} (H:jy a_v=some r):Pure Tryz.prog 54 [.agg (cV a_v)] (.val (.one (.int .i64 r))):=by
 unfold jy at H
 refine po_ Tryz.func54 Tryz.ntmps54 ?_
 obtain ⟨r_1,c1,H⟩:=bd_ H
 replace c1:=qj c1
 rcases af H with ⟨q_2,H⟩|⟨q_2,H⟩
 ·cases H
  exact aD
 obtain ⟨r_3,c2,H⟩:=bd_ H
 replace c2:=qj c2
 rcases af H with ⟨q_4,H⟩|⟨q_4,H⟩
 ·cases H
  exact aD
 cases H
 exact aD
def GD (a_t:Int):Option (Val):=bif (decide (a_t=(2:Int))) then (wB (decide (a_t=(2:Int)))).bind fun r_2=>some r_2 else
 bif (decide (a_t=(0:Int))) then (wB (decide (a_t=(2:Int)))).bind fun r_4=>some r_4 else
 (fQ ).bind fun r_5=>some r_5
theorem sK {a_t:Int} {r:Val} (H:GD a_t=some r):Pure Tryz.prog 92 [.one (.int .i64 a_t)] (.val (.agg (cV r))):=by
 unfold GD at H
 refine po_ Tryz.func92 Tryz.ntmps92 ?_
 rcases af H with ⟨q_1,H⟩|⟨q_1,H⟩
 ·obtain ⟨r_2,c1,H⟩:=bd_ H
  replace c1:=qj c1
  cases H
  exact aD
 rcases af H with ⟨q_3,H⟩|⟨q_3,H⟩
 ·obtain ⟨r_4,c2,H⟩:=bd_ H
  replace c2:=qj c2
  cases H
  exact aD
 obtain ⟨r_5,c3,H⟩:=bd_ H
 replace c3:=dm c3
 cases H
 exact aD
end Go.Proofs.YtcehmafobkhdbaaGreatDoor
