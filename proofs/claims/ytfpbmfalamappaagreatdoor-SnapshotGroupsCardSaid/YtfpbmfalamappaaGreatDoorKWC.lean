/- Parts of the proof, joined. No condition. -/
import Derived.Test.YtfpbmfalamappaaGreatDoorKAA
import Derived.Test.YtfpbmfalamappaaGreatDoorKWB
set_option linter.unusedSimpArgs false
set_option linter.unusedVariables false
namespace Go.Proofs.YtfpbmfalamappaaGreatDoor
open Go.RowKit Go.MapKept
set_option maxRecDepth 100000
theorem FO (ky:List Val->ByteArray) (rows:List (List Val)) : ∀ g∈(kM ky rows).G,g.length<=rows.length:=by
 have : ∀ (rows:List (List Val)) (s:Gs) (b:Nat),(∀ g∈s.G,g.length<=b) -> ∀ g∈(rows.foldl (jY ky) s).G,g.length<=b+rows.length:=by
  intro rows
  induction rows with
  | nil=>intro s b h g hg;simpa using h g hg
  | cons r rows ih =>
   intro s b h g hg
   rw [abX] at hg
   have:=ih (jY ky s r) (b+1) (fun g hg=>by
    unfold jY at hg
    cases hb:ji s.M (ky r) with
    | true =>
     rw [hb,aa'] at hg
     rcases List.mem_or_eq_of_mem_set hg with hg|rfl
     ·have:=h g hg;omega
     ·rw [abg,List.length_singleton,abZ]
      cases hq:s.G[(dm s.M (ky r)).toNat]? with
      | none=>simp
      | some x=>have:=h x (abe hq);simp;omega
    | false =>
     rw [hb,aa_] at hg
     rcases abC.1 hg with hg|hg
     ·have:=h g hg;omega
     ·simp at hg;subst hg;simp) g hg
   simp only [abw];omega
 have h:=this rows ⟨[],[]⟩ 0 (fun g hg=>by cases hg)
 intro g hg
 have:=h g hg
 omega
theorem Rx (ky:List Val->ByteArray) (rows:List (List Val)) : ∀ g∈(kM ky rows).G, ∀ r∈g,r∈rows:=by
 have : ∀ (rows:List (List Val)) (s:Gs), ∀ g∈(rows.foldl (jY ky) s).G, ∀ x∈g,(∃ g'∈s.G,x∈g')\/x∈rows:=by
  intro rows
  induction rows with
  | nil=>intro s g hg x hx;exact .inl ⟨g,hg,hx⟩
  | cons r rows ih =>
   intro s g hg x hx
   rw [abX] at hg
   rcases ih (jY ky s r) g hg x hx with ⟨g',hg',hx'⟩|h
   ·unfold jY at hg'
    cases hb:ji s.M (ky r) with
    | true =>
     rw [hb,aa'] at hg'
     rcases List.mem_or_eq_of_mem_set hg' with hg'|rfl
     ·exact .inl ⟨g',hg',hx'⟩
     ·rcases abC.1 hx' with hx'|hx'
      ·rw [abZ] at hx'
       cases hq:s.G[(dm s.M (ky r)).toNat]? with
       | none=>rw [hq] at hx';simp at hx'
       | some y=>rw [hq] at hx';exact .inl ⟨y,abe hq,hx'⟩
      ·simp at hx';exact .inr (by rw [hx'];simp)
    | false =>
     rw [hb,aa_] at hg'
     rcases abC.1 hg' with hg'|hg'
     ·exact .inl ⟨g',hg',hx'⟩
     ·simp at hg';subst hg';simp at hx';exact .inr (by rw [hx'];simp)
   ·exact .inr (aby _ h)
 intro g hg x hx
 rcases this rows ⟨[],[]⟩ g hg x hx with ⟨g',hg',_⟩|h
 ·cases hg'
 ·exact h
def IJ (G:kR):AV:=match G with
 | [] => .one .emp
 | _::_ => .one (.sl 4 (23+65536*G.length) 0 G.length)
def Pq (kk:List Int) (rows:List (List Val)) (S:Gs):List Ob:=match S.G with
 | []=>hd3 kk rows S.M
 | _::_=>Cz kk rows S.M S.G
theorem yJ {kk:List Int} {rows:List (List Val)} {S:Gs} (h:S.G≠[]):Pq kk rows S=Cz kk rows S.M S.G:=by
 unfold Pq
 split
 ·rename_i e;exact absurd e h
 ·rfl
theorem uV {G:kR} (h:G≠[]):IJ G = .one (.sl 4 (23+65536*G.length) 0 G.length):=by
 cases G with
 | nil=>exact absurd rfl h
 | cons g r=>rfl
theorem Nv {kk:List Int} {rows:List (List Val)} {S:Gs} : (IJ S.G).below (Pq kk rows S).length:=by
 by_cases h:S.G=[]
 ·rw [h];trivial
 ·rw [uV h,yJ h,Ee h]
  show 4<4+2*S.G.length
  cases hG:S.G with
  | nil=>exact absurd hG h
  | cons g r=>simp
theorem wS {kk:List Int} {rows:List (List Val)} {S:Gs} : GZ (Pq kk rows S).length (Pq kk rows S):=by
 by_cases h:S.G=[]
 ·unfold Pq;rw [h];exact ⟨a_,bL _,bN _ _,trivial⟩
 ·rw [yJ h,Ee h];exact IK (Sr (abp _))
theorem XN {kk:List Int} {rows:List (List Val)} {S:Gs} : 3<=(Pq kk rows S).length:=by
 by_cases h:S.G=[]
 ·unfold Pq;rw [h];exact abp _
 ·rw [yJ h,Ee h];omega
theorem LW : ∀ (G:kR) (k:Nat),lU (yx k G)=some (G.map fun g=>[AC.lst (gX g)])
 | [],_=>rfl
 | g::r,k=>by
  have:=LW r (k+1)
  simp only [yx,lU,lZ,SV.norm,this,abk]
def Mf (G:kR):AC := .lst (G.map fun g=>[AC.lst (gX g)])
theorem Dv (kinds:List Int) : ∀ (keys acc:List Int),(iw kinds keys acc).1.length<=acc.length+keys.length
 | [],acc=>by simp [iw]
 | k::ks,acc=>by
  unfold iw
  cases Qf kinds k with
  | true=>rw [aa'];have:=Dv kinds ks (acc++[kinds.getD k.toNat 0]);simp at this ⊢;omega
  | false=>rw [aa_];simp
theorem CG (kinds:List Int) : ∀ (l:List LX) (acc:List Int),(lG kinds l acc).1.length<=acc.length+l.length
 | [],acc=>by simp [lG]
 | a::l,acc=>by
  unfold lG
  cases decide (Ff kinds a=0) with
  | true=>rw [aa'];have:=CG kinds l (acc++[Hf kinds a]);simp at this ⊢;omega
  | false=>rw [aa_];simp
theorem FY (kinds keys:List Int) (aggs:List LX):(uH kinds keys aggs).1.length<=keys.length+aggs.length:=by
 unfold uH
 have h1:=Dv kinds keys []
 have h2:=CG kinds aggs (iw kinds keys []).1
 cases decide ((iw kinds keys []).2=0) with
 | true=>rw [aa'];simp at h1;omega
 | false=>rw [aa_];simp
def oL (keys:List Int) (aggs:List LX) (g:List (List Val)):List Val:=bY (g.headD []) keys++aggs.map fun a=>fZ a.1 a.2 g
theorem xP {kk keys:List Int} {aggs:List LX} {rows:List (List Val)} (S:Gs) (a b:Int):KE (Pq kk rows S).length [(0, .agg [.c (bB kk), .c (bM rows)]),(1, .one (.c (bB keys))),(2, .one (.c (jb aggs))),(3, .one (.ptr 0 0)),(6, .one (.ptr 1 0)),(7, .one (.mp 2)),(8,IJ S.G),(31, .one (.c (bM rows))),(32, .one (.c (.int .i64 a))),(33, .one (.c (.int .i64 b)))]:=by
 have hle:=XN (kk:=kk) (rows:=rows) (S:=S)
 refine ⟨fun x hx=>?_,trivial,trivial,by show 0<_;omega,by show 1<_;omega,by show 2<_;omega,Nv,trivial,trivial,trivial,trivial⟩
 rcases abq.1 hx with rfl|hx
 ·trivial
 rcases abq.1 hx with rfl|hx
 ·trivial
 cases hx
set_option maxHeartbeats 4000000 in
theorem Xt (it:Int->ByteArray) (kk keys:List Int) (aggs:List LX) (rows:List (List Val)) (h1:kk.length<=100000) (h2:keys.length<=100000) (h3:aggs.length<=100000) (hl:rows.length<=300) (h0:keys≠[]) (hr : ∀ r∈rows,r.length<=1000000) (hk : ∀ r∈rows,Pure Tryz.prog 54 [.one (bO (bY r keys))] (.val (.one (.str (dD it (bY r keys)))))):Pure Tryz.prog 18 [.agg [bB kk,bM rows], .one (bB keys), .one (jb aggs)] (.val (.agg [bB (uH kk keys aggs).1,bM <| aI ((kM (fun r=>dD it (bY r keys)) rows).G.map (oL keys aggs))])):=by
 refine pa_ bq Tryz.func18 rfl rfl Tryz.ntmps18 (by simp) ?_
 simp only [argT,PV.av,abk,abo]
 obtain ⟨n,hn⟩ : ∃ n,rows.length=n:=⟨_,rfl⟩
 have hml:(((rows.map fun r=>[bO r]).length:Nat):Int)=n:=by simp [hn]
 have hkz:decide ((((keys.map fun x=>[AC.int .i64 x]).length:Nat):Int)=0)=false:=by
  cases keys with
  | nil=>exact absurd rfl h0
  | cons x l=>simp;omega
 obtain ⟨inf,hinf,hiz⟩ : ∃ inf,Tryz.prog.info? 23=some inf/\inf.zero=some (.slice none 0 0):=by
  have hh:(Tryz.prog.info? 23).bind (·.zero)=some (.slice none 0 0):=by kernel_rfl
  cases hi:Tryz.prog.info? 23 with
  | none=>rw [hi] at hh;cases hh
  | some j=>rw [hi] at hh;exact ⟨j,rfl,by simpa using hh⟩
 obtain ⟨ky,hky⟩ : ∃ ky:List Val->ByteArray,ky=fun r=>dD it (bY r keys):=⟨_,rfl⟩
 rw [<- hky]
 have hkP : ∀ r∈rows,Pure Tryz.prog 54 [.one (bO (bY r keys))] (.val (.one (.str (ky r)))):=fun r h=>by rw [hky];exact hk r h
 repeat' (first
  | refine st_nil ?_
  | rw [hkz]
  | refine ay rfl rfl rfl rfl ph_ ?_
  | refine az rfl rfl rfl rfl ph_ ?_
  | refine sS_ rfl rfl rfl ph_ ?_
  | refine aC rfl rfl rfl rfl ph_ ?_
  | refine aj rfl rfl rfl ?_
  | refine sk0_ rfl rfl ?_
  | (refine aM rfl (fun hb=>?_) (fun hb=>?_)<;>(first|exact (fx_ hb).elim|rw [hb]))
  | refine aw_seq ?_
  | refine aw_region bq _ rfl ?_
  | refine aw_drawn2 aF _ rfl mixed (by decide +kernel) ?_
  | (refine ah rfl (fun hb=>?_) (fun hb=>?_)<;>(try exact (fx_ hb).elim))
  | refine aw_block ?_
  | refine aw_exit ?_
  | refine aw_ret ?_
  | refine aw_skip ?_
  | (refine cZ rfl rfl rfl rfl rfl jZ ?_))
 refine df (fun i:Nat=>[(0, .agg [.c (bB kk), .c (bM rows)]),(1, .one (.c (bB keys))),(2, .one (.c (jb aggs))),(3, .one (.ptr 0 0)),(6, .one (.ptr 1 0)),(7, .one (.mp 2)),(8,IJ (kM ky (rows.take i)).G),(31, .one (.c (bM rows))),(32, .one (.c (.int .i64 n))),(33, .one (.c (.int .i64 i)))]) (fun i=>Pq kk rows (kM ky (rows.take i))) (fun i=>i<=n) (fun i=>n-i) 0 (by omega) (fun _ _=>abv _)
  (fm_ ⟨rfl,rfl,rfl,rfl,rfl,rfl,rfl,rfl,aT hml,rfl,trivial⟩ [] rfl (xP _ _ _) wS) ?_
 intro i hi
 have hok:=U8 ky (rows.take i)
 have hGl:=Q9 ky (rows.take i)
 have hgb:=FO ky (rows.take i)
 rw [abY] at hGl
 by_cases hlt:i<n
 ·obtain ⟨r,hx⟩:=gol_ (show i<rows.length by omega)
  have hrm:=abe hx
  have hnx:kM ky (rows.take (i+1))=jY ky (kM ky (rows.take i)) r:=by rw [bS hx];exact Gn _ _ _
  have hN:decide ((i:Int)<n)=true:=by simp;exact hlt
  have hpk:=Jb r keys (hr r hrm) (by omega)
  have hkr:=hkP r hrm
  generalize kM ky (rows.take i)=S at hok hGl hgb hnx
  obtain ⟨M,G⟩:=S
  unfold jY at hnx
  dsimp only at hok hGl hgb hnx ⊢
  have hcnt:rows.length<=300:=hl
  cases G with
  | nil =>
   have hmh:ji M (ky r)=false:=by
    cases hh:ji M (ky r) with
    | false=>rfl
    | true=>have:=hok.idx _ hh;simp at this;omega
   rw [hmh,aa_] at hnx
   have e1:Pq kk rows ⟨M,[]⟩=hd3 kk rows M:=rfl
   have e2:IJ [] = .one .emp:=rfl
   rw [e1,e2]
   repeat' (first
    | refine st_nil ?_
    | rw [hN]
    | rw [hmh]
    | (refine cZ rfl rfl rfl rfl rfl (uQ (E:=23) (k:=1) (by_:=24) (xs:=[[.emp]]) bq rfl rfl rfl ⟨rfl,_,rfl,by decide⟩ rfl (by decide) rfl rfl rfl (by decide) (by decide) (by decide) (by decide)) ?_)
    | (refine cZ rfl rfl rfl rfl rfl (rZ (E:=23) bq rfl (by decide) rfl rfl hinf hiz) ?_)
    | (refine ay rfl rfl rfl rfl ?_ ?_; · (repeat' (first|exact trivial|rfl|exact abj rfl|omega|(intro e he;simp at he;subst he;rfl)|decide|apply And.intro)))
    | (refine aW rfl rfl rfl rfl rfl rfl rfl rfl (bg hx) ?_ ?_; · exact ⟨by omega,rfl⟩)
    | (refine az rfl rfl rfl rfl ?_ ?_; · (repeat' (first|exact trivial|rfl|exact abj rfl|omega|(intro e he;simp at he;subst he;rfl)|decide|apply And.intro)))
    | (refine sS_ rfl rfl rfl ?_ ?_; · (repeat' (first|exact trivial|rfl|exact abj rfl|omega|(intro e he;simp at he;subst he;rfl)|decide|apply And.intro)))
    | (refine aC rfl rfl rfl rfl ?_ ?_; · (repeat' (first|exact trivial|rfl|exact abj rfl|omega|(intro e he;simp at he;subst he;rfl)|decide|apply And.intro)))
    | refine aj rfl rfl rfl ?_
    | refine sk0_ rfl rfl ?_
    | refine aG rfl rfl rfl rfl hpk rfl ?_
    | refine aG rfl rfl rfl rfl hkr rfl ?_
    | (refine aM rfl (fun hb=>?_) (fun hb=>?_)<;>(first|exact (fx_ hb).elim|rw [hb]))
    | refine aw_seq ?_
    | refine aw_region bq _ rfl ?_
    | refine aw_drawn2 aF _ rfl mixed (by decide +kernel) ?_
    | (refine ah rfl (fun hb=>?_) (fun hb=>?_)<;>(try exact (fx_ hb).elim))
    | refine aw_block ?_
    | refine aw_exit ?_
    | refine aw_ret ?_
    | refine aw_skip ?_
    | (refine dB rfl rfl rfl rfl rfl (qy (M:=M) bq rfl rfl rfl rfl rfl rfl) ?_)
    | (refine uo rfl rfl rfl rfl (wJ (M:=M) bq rfl rfl rfl rfl rfl rfl) ?_))
   exact ⟨i+1,by omega,by omega,by rw [hnx];exact fm_ ⟨rfl,rfl,rfl,rfl,rfl,rfl,rfl,rfl,rfl,aT (bu (by omega) (by omega)),trivial⟩ [] (rfl) (xP _ _ _) wS⟩
  | cons g0 G0 =>
   generalize hGe:g0::G0=G at hok hGl hgb hnx ⊢
   have hGn:G≠[]:=by rw [<- hGe];simp
   have e1:Pq kk rows ⟨M,G⟩=Cz kk rows M G:=yJ hGn
   rw [e1,uV hGn]
   have hLl:=Ee (kk:=kk) (rows:=rows) (M:=M) hGn
   cases hmh:ji M (ky r) with
   | true =>
    rw [hmh,aa'] at hnx
    obtain ⟨hj0,hj1⟩:=hok.idx _ hmh
    dsimp only at hj0 hj1
    obtain ⟨j,hjj⟩ : ∃ j:Nat,dm M (ky r)=j:=⟨(dm M (ky r)).toNat,by omega⟩
    rw [hjj] at hnx hj0 hj1
    obtain ⟨g,hg⟩:=gol_ (show j<G.length by omega)
    have ej:0+((j:Nat):Int).toNat=j:=by simp
    have hgj:(yx 0 G)[0+((j:Nat):Int).toNat]?=some [.own (gX g) (5+2*(0+j))]:=by rw [ej];exact Qw G 0 j g hg
    have hgD:G.getD ((j:Nat):Int).toNat []=g:=by rw [abZ];simp [hg]
    rw [hgD] at hnx
    have ej2:((j:Nat):Int).toNat=j:=by simp
    rw [ej2] at hnx
    have hLj:(Cz kk rows M G)[5+2*(0+j)]?=some (.spare g.length 1):=by
     unfold Cz
     rw [abf (by simp [hd3]<;>omega)]
     have e5:5+2*(0+j)-(hd3 kk rows M++[gJ,Ob.row (23+65536*G.length) (yx 0 G) 1]).length=2*j:=by simp [hd3]<;>omega
     rw [e5];exact We hg
    have hset:(Cz kk rows M G).set (5+2*(0+j)) (.spare (g.length+1) 1)=hd3 kk rows M++[gJ, .row (23+65536*G.length) (yx 0 G) 1]++Jl (G.set j (g++[r])):=by
     unfold Cz
     rw [List.set_append_right _ _ (by simp [hd3]<;>omega)]
     have e5:5+2*(0+j)-(hd3 kk rows M++[gJ,Ob.row (23+65536*G.length) (yx 0 G) 1]).length=2*j:=by simp [hd3]<;>omega
     have e6:g.length+1=(g++[r]).length:=by simp
     rw [e5,e6,VT (g++[r]) (by omega)]
    have hgl:(gX g).length=g.length:=by simp [gX]
    have hgb2:=hgb g (abe hg)
    rw [abY] at hgb2
    have hstr:(hd3 kk rows M++[gJ, .row (23+65536*G.length) (yx 0 G) 1]++Jl (G.set j (g++[r]))).set 4 (.row (23+65536*G.length) ((yx 0 G).set (0+((j:Nat):Int).toNat) [.own (gX g++[[bO r]]) (5+2*(0+j))]) 1)=Cz kk rows M (G.set j (g++[r])):=by
     have e7:gX g++[[bO r]]=gX (g++[r]):=by simp [gX]
     rw [ej,e7,PR G 0 j (g++[r]) (by omega)]
     unfold Cz
     rw [List.length_set]
     rfl
    have hG2:G.set j (g++[r])≠[]:=by intro e;have:=congrArg List.length e;simp at this;exact hGn this
    repeat' (first
     | refine st_nil ?_
     | rw [hN]
     | rw [hmh]
     | rw [hjj]
     | (refine vD rfl rfl rfl rfl rfl rfl rfl (e:=[.own (gX g) (5+2*(0+j))]) (by exact hgj) rfl ?_)
     | (refine Qh (k:=1) (by_:=24) rfl rfl rfl rfl rfl rfl rfl rfl rfl rfl (by exact hLj) ⟨rfl,hgl,⟨rfl,by decide⟩,by intro e he;simp at he;subst he;rfl,by show (_+1)*24<=_;omega,by show _+1<=_;omega⟩ (by exact hset) ?_)
     | (refine vV rfl rfl rfl rfl rfl rfl (e:=[.own (gX g) (5+2*(0+j))]) (by exact hgj) ⟨abp _,rfl⟩ (by exact hstr) ?_)
     | (refine ay rfl rfl rfl rfl ?_ ?_; · (repeat' (first|exact trivial|rfl|exact abj rfl|omega|(intro e he;simp at he;subst he;rfl)|apply And.intro)))
     | (refine aW rfl rfl rfl rfl rfl rfl rfl rfl (bg hx) ?_ ?_; · exact ⟨by omega,rfl⟩)
     | (refine az rfl rfl rfl rfl ?_ ?_; · (repeat' (first|exact trivial|rfl|exact abj rfl|omega|(intro e he;simp at he;subst he;rfl)|apply And.intro)))
     | (refine sS_ rfl rfl rfl ?_ ?_; · (repeat' (first|exact trivial|rfl|exact abj rfl|omega|(intro e he;simp at he;subst he;rfl)|apply And.intro)))
     | (refine aC rfl rfl rfl rfl ?_ ?_; · (repeat' (first|exact trivial|rfl|exact abj rfl|omega|(intro e he;simp at he;subst he;rfl)|apply And.intro)))
     | refine aj rfl rfl rfl ?_
     | refine sk0_ rfl rfl ?_
     | refine aG rfl rfl rfl rfl hpk rfl ?_
     | refine aG rfl rfl rfl rfl hkr rfl ?_
     | (refine aM rfl (fun hb=>?_) (fun hb=>?_)<;>(first|exact (fx_ hb).elim|rw [hb]))
     | refine aw_seq ?_
     | refine aw_region bq _ rfl ?_
     | refine aw_drawn2 aF _ rfl mixed (by decide +kernel) ?_
     | (refine ah rfl (fun hb=>?_) (fun hb=>?_)<;>(try exact (fx_ hb).elim))
     | refine aw_block ?_
     | refine aw_exit ?_
     | refine aw_ret ?_
     | refine aw_skip ?_
     | (refine dB rfl rfl rfl rfl rfl (qy (M:=M) bq rfl rfl rfl rfl rfl rfl) ?_))
    exact ⟨i+1,by omega,by omega,by rw [hnx];exact fm_ ⟨rfl,rfl,rfl,rfl,rfl,rfl,(by rw [uV hG2,List.length_set];rfl),rfl,rfl,aT (bu (by omega) (by omega)),trivial⟩ [] (by rw [yJ hG2];exact (abJ _).symm) (xP _ _ _) wS⟩
   | false =>
    rw [hmh,aa_] at hnx
    obtain ⟨M2,hM2⟩ : ∃ M2,M2=d9 M (ky r) (G.length:Nat):=⟨_,rfl⟩
    rw [<- hM2] at hnx
    have hput:(Cz kk rows M G).set 2 (.map (dQ (d9 M (ky r) (G.length:Nat))))=Cz kk rows M2 G:=by rw [hM2];rfl
    have hsrc:Lm (Cz kk rows M2 G++[gJ]) (.one (.sl (Cz kk rows M2 G).length (23+65536) 0 1))=some [[SV.emp]]:=by simp [Lm,gJ]
    have hsok:Ey Zo (Cz kk rows M2 G++[gJ]) 1 75 (.one (.sl (Cz kk rows M2 G).length (23+65536) 0 1)):=⟨rfl,[[SV.emp]],by simp [gJ],by decide⟩
    have hL2:(Cz kk rows M2 G++[gJ]).set 4 (Ob.row (23+65536*G.length+65536) (yx 0 G++[[SV.emp]]) 1)=hd3 kk rows M2++[gJ,Ob.row (23+65536*G.length+65536) (yx 0 G++[[SV.emp]]) 1]++(Jl G++[gJ]):=by
     unfold Cz hd3;simp
    have hL2l:(hd3 kk rows M2++[gJ,Ob.row (23+65536*G.length+65536) (yx 0 G++[[SV.emp]]) 1]++(Jl G++[gJ])).length=5+2*G.length:=by
     have:=PG hGn
     simp [hd3];omega
    have eG:0+((G.length:Nat):Int).toNat=G.length:=by simp
    have hgG:(yx 0 G++[[SV.emp]])[0+((G.length:Nat):Int).toNat]?=some [.emp]:=by
     rw [eG,abf (by rw [wZ];exact abp _),wZ];simp
    have hstr:((hd3 kk rows M2++[gJ,Ob.row (23+65536*G.length+65536) (yx 0 G++[[SV.emp]]) 1]++(Jl G++[gJ]))++[Ob.spare 1 1]).set 4 (Ob.row (23+65536*G.length+65536) ((yx 0 G++[[SV.emp]]).set (0+((G.length:Nat):Int).toNat) [SV.own [[bO r]] (hd3 kk rows M2++[gJ,Ob.row (23+65536*G.length+65536) (yx 0 G++[[SV.emp]]) 1]++(Jl G++[gJ])).length]) 1)=Cz kk rows M2 (G++[[r]]):=by
     have e8:(yx 0 G++[[SV.emp]]).set G.length [SV.own [[bO r]] (5+2*G.length)]=yx 0 (G++[[r]]):=by
      rw [LQ,List.set_append_right _ _ (by rw [wZ];exact abp _),wZ]
      simp [gX]
     rw [eG,hL2l,e8]
     have e9:23+65536*G.length+65536=23+65536*(G++[[r]]).length:=by rw [abg];simp;omega
     rw [e9]
     unfold Cz
     rw [Ty [r] hGn]
     unfold hd3;simp
    have hG2:G++[[r]]≠[]:=by simp
    have e9:23+65536*(G++[[r]]).length=23+65536*G.length+65536:=by rw [abg];simp;omega
    have e10:(G++[[r]]).length=G.length+1:=by simp
    repeat' (first
     | refine st_nil ?_
     | rw [hN]
     | rw [hmh]
     | (refine uo (L':=Cz kk rows M2 G) rfl rfl rfl rfl (by rw [<- hput];exact wJ (M:=M) bq rfl rfl rfl rfl rfl rfl) ?_)
     | (refine cZ (L':=Cz kk rows M2 G++[gJ]) rfl rfl rfl rfl rfl (rZ (E:=23) bq rfl (by decide) rfl rfl hinf hiz) ?_)
     | (refine cZ (v := .one (.sl 4 (23+65536*G.length+65536) 0 (G.length+1))) (L':=hd3 kk rows M2++[gJ,Ob.row (23+65536*G.length+65536) (yx 0 G++[[SV.emp]]) 1]++(Jl G++[gJ])) rfl rfl rfl rfl rfl (by rw [<- hL2];exact lI (k:=1) (by_:=24) (xs:=[[SV.emp]]) bq rfl rfl rfl hsrc hsok rfl (by show (23+65536*G.length)%65536=23;omega) rfl rfl rfl (by decide) (wZ G 0) (by show (_+1)*24<=_;omega) (by show _+1<=_;omega)) ?_)
     | (refine vD rfl rfl rfl rfl rfl rfl rfl (e:=[SV.emp]) (by exact hgG) rfl ?_)
     | (refine vV rfl rfl rfl rfl rfl rfl (e:=[SV.emp]) (by exact hgG) ⟨abp _,rfl⟩ (by exact hstr) ?_)
     | (refine ay rfl rfl rfl rfl ?_ ?_; · (repeat' (first|exact trivial|rfl|exact abj rfl|omega|(intro e he;simp at he;subst he;rfl)|decide|(show _<_+1;omega)|apply And.intro)))
     | (refine aW rfl rfl rfl rfl rfl rfl rfl rfl (bg hx) ?_ ?_; · exact ⟨by omega,rfl⟩)
     | (refine az rfl rfl rfl rfl ?_ ?_; · (repeat' (first|exact trivial|rfl|exact abj rfl|omega|(intro e he;simp at he;subst he;rfl)|decide|(show _<_+1;omega)|apply And.intro)))
     | (refine sS_ rfl rfl rfl ?_ ?_; · (repeat' (first|exact trivial|rfl|exact abj rfl|omega|(intro e he;simp at he;subst he;rfl)|decide|(show _<_+1;omega)|apply And.intro)))
     | (refine aC rfl rfl rfl rfl ?_ ?_; · (repeat' (first|exact trivial|rfl|exact abj rfl|omega|(intro e he;simp at he;subst he;rfl)|decide|(show _<_+1;omega)|apply And.intro)))
     | refine aj rfl rfl rfl ?_
     | refine sk0_ rfl rfl ?_
     | refine aG rfl rfl rfl rfl hpk rfl ?_
     | refine aG rfl rfl rfl rfl hkr rfl ?_
     | (refine aM rfl (fun hb=>?_) (fun hb=>?_)<;>(first|exact (fx_ hb).elim|rw [hb]))
     | refine aw_seq ?_
     | refine aw_region bq _ rfl ?_
     | refine aw_drawn2 aF _ rfl mixed (by decide +kernel) ?_
     | (refine ah rfl (fun hb=>?_) (fun hb=>?_)<;>(try exact (fx_ hb).elim))
     | refine aw_block ?_
     | refine aw_exit ?_
     | refine aw_ret ?_
     | refine aw_skip ?_
     | (refine dB rfl rfl rfl rfl rfl (qy (M:=M) bq rfl rfl rfl rfl rfl rfl) ?_))
    exact ⟨i+1,by omega,by omega,by rw [hnx];exact fm_ ⟨rfl,rfl,rfl,rfl,rfl,rfl,(by rw [uV hG2,e9,e10];rfl),rfl,rfl,aT (bu (by omega) (by omega)),trivial⟩ [] (by rw [yJ hG2];exact (abJ _).symm) (xP _ _ _) wS⟩
 ·have htk:rows.take i=rows:=abP (by omega)
  have hN:decide ((i:Int)<n)=false:=by simp;omega
  rw [htk] at hok hGl ⊢
  have hgb:=FO ky rows
  have hgm:=Rx ky rows
  generalize kM ky rows=S at hok hGl hgb hgm
  obtain ⟨M,G⟩:=S
  dsimp only at hok hGl hgb hgm ⊢
  suffices hmain:Aw Tryz.prog 111 0 _ _ [(1, .one (.c (bB keys))),(2, .one (.c (jb aggs))),(3, .one (.ptr 0 0)),(6, .one (.ptr 1 0)),(8, .one (.c (Mf G))),(32, .one (.c (.int .i64 n))),(33, .one (.c (.int .i64 i)))] [.box [.c (bB kk), .c (bM rows)], .box [.emp, .emp]] by
   by_cases hGn:G=[]
   ·have hs8:IJ G = .one .emp:=by rw [hGn];rfl
    have hgS:Pq kk rows ⟨M,G⟩=hd3 kk rows M:=by unfold Pq;rw [hGn]
    have htG:Mf G = .lst []:=by rw [hGn];rfl
    rw [hs8,hgS]
    rw [htG] at hmain
    refine V5 8 (x := .emp) (y := .lst []) rfl rfl ?_
    exact S9 (T1:=[(1, .one (.c (bB keys))),(2, .one (.c (jb aggs))),(3, .one (.ptr 0 0)),(6, .one (.ptr 1 0)),(8, .one (.c (.lst []))),(32, .one (.c (.int .i64 n))),(33, .one (.c (.int .i64 i)))]) (L1:=[.box [.c (bB kk), .c (bM rows)], .box [.emp, .emp]]) (abv _) (fm_ ⟨rfl,rfl,rfl,rfl,rfl,rfl,rfl,trivial⟩ [_] rfl ⟨trivial,trivial,by show 0<2;omega,by show 1<2;omega,trivial,trivial,trivial,trivial⟩ ⟨a_,bL _,trivial⟩) hmain
   ·rw [show Pq kk rows ⟨M,G⟩=Cz kk rows M G from yJ hGn,uV hGn]
    refine jy 4 8 (L:=Cz kk rows M G) rfl (LW G 0) rfl (by simp) ?_
    exact S9 (T1:=[(1, .one (.c (bB keys))),(2, .one (.c (jb aggs))),(3, .one (.ptr 0 0)),(6, .one (.ptr 1 0)),(8, .one (.c (Mf G))),(32, .one (.c (.int .i64 n))),(33, .one (.c (.int .i64 i)))]) (L1:=[.box [.c (bB kk), .c (bM rows)], .box [.emp, .emp]]) (abv _) (fm_ ⟨rfl,rfl,rfl,rfl,rfl,rfl,rfl,trivial⟩ _ rfl ⟨trivial,trivial,by show 0<2;omega,by show 1<2;omega,trivial,trivial,trivial,trivial⟩ ⟨a_,bL _,trivial⟩) hmain
  obtain ⟨m,hm⟩ : ∃ m,G.length=m:=⟨_,rfl⟩
  have hmG:(((G.map fun g=>[AC.lst (gX g)]).length:Nat):Int)=m:=by simp [hm]
  have hgr:=tT kk keys aggs h1 h2 h3
  have hgl:=FY kk keys aggs
  have hbag:=EB (uH kk keys aggs).1 (G.map (oL keys aggs)) (by omega) (by rw [abl];omega) (fun r hr'=>by
   obtain ⟨g,hg,rfl⟩:=abK.1 hr'
   have hlen:(oL keys aggs g).length=keys.length+aggs.length:=by simp [oL,bY]
   have hk1:0<keys.length:=by cases keys with|nil=>exact absurd rfl h0|cons x l=>simp
   exact ⟨by intro e;rw [e] at hlen;simp at hlen;omega,by omega⟩)
  have hkg:decide ((0:Int)<((keys.map fun x=>[AC.int .i64 x]).length:Nat))=true:=by
   cases keys with
   | nil=>exact absurd rfl h0
   | cons x l=>simp<;>omega
  repeat' (first
   | refine st_nil ?_
   | rw [hN]
   | refine ay rfl rfl rfl rfl ph_ ?_
   | refine az rfl rfl rfl rfl ph_ ?_
   | refine sS_ rfl rfl rfl ph_ ?_
   | refine aC rfl rfl rfl rfl ph_ ?_
   | refine aj rfl rfl rfl ?_
   | refine sk0_ rfl rfl ?_
   | (refine aM rfl (fun hb=>?_) (fun hb=>?_)<;>(first|exact (fx_ hb).elim|rw [hb]))
   | refine aw_seq ?_
   | refine aw_region bq _ rfl ?_
   | refine aw_drawn2 aF _ rfl mixed (by decide +kernel) ?_
   | (refine ah rfl (fun hb=>?_) (fun hb=>?_)<;>(try exact (fx_ hb).elim))
   | refine aw_block ?_
   | refine aw_exit ?_
   | refine aw_ret ?_
   | refine aw_skip ?_)
  refine dh 14 1 rfl ?_
  refine df (fun j:Nat=>[(1, .one (.c (bB keys))),(2, .one (.c (jb aggs))),(3, .one (.ptr 0 0)),(6, .one (.ptr 1 0)),(14, .one (.own (((G.take j).map (oL keys aggs)).map fun r=>[bO r]) 2)),(68, .one (.c (Mf G))),(69, .one (.c (.int .i64 m))),(70, .one (.c (.int .i64 j)))]) (fun j=>[.box [.c (bB kk), .c (bM rows)], .box [.emp, .emp], .spare j 1]) (fun j=>j<=m) (fun j=>m-j) 0 (by omega) (fun _ _=>abv _)
   (fm_ ⟨rfl,rfl,rfl,rfl,rfl,rfl,aT hmG,rfl,trivial⟩ [] rfl ⟨trivial,trivial,by show 0<3;omega,by show 1<3;omega,by show 2<3;omega,trivial,trivial,trivial,trivial⟩ ⟨a_,bL _,trivial,trivial⟩) ?_
  intro j hj
  by_cases hlj:j<m
  ·obtain ⟨g,hg⟩:=gol_ (show j<G.length by omega)
   have hgmem:=abe hg
   have hNj:decide ((j:Int)<m)=true:=by simp;exact hlj
   obtain ⟨x,g',hgx⟩ : ∃ x g',g=x::g':=by
    cases g with
    | nil=>exact absurd rfl (hok.ne [] hgmem)
    | cons x g'=>exact ⟨x,g',rfl⟩
   have hxr:=hr x (hgm g hgmem x (by rw [hgx];simp))
   have hga : ∀ r∈g,r.length<=1000000:=fun r h=>hr r (hgm g hgmem r h)
   have hgl2:=hgb g hgmem
   have hout:((G.take (j+1)).map (oL keys aggs)).map (fun r=>[bO r])=((G.take j).map (oL keys aggs)).map (fun r=>[bO r])++[[bO (oL keys aggs g)]]:=by rw [bS hg];simp
   have holen:(((G.take j).map (oL keys aggs)).map fun r=>[bO r]).length=j:=by simp;omega
   have hidx:(G.map fun g=>[AC.lst (gX g)])[((j:Nat):Int).toNat]?=some [.lst (gX g)]:=bg hg
   have hhead:g.headD []=x:=by rw [hgx];rfl
   subst hgx
   generalize hOut:((G.take j).map (oL keys aggs)).map (fun r=>[bO r])=Out at holen hout
   repeat' (first
    | refine st_nil ?_
    | rw [hNj]
    | rw [hkg]
    | refine ay rfl rfl rfl rfl ph_ ?_
    | (refine aW rfl rfl rfl rfl rfl rfl rfl rfl hidx ?_ ?_; · exact ⟨by omega,rfl⟩)
    | refine az rfl rfl rfl rfl ph_ ?_
    | refine sS_ rfl rfl rfl ph_ ?_
    | refine aC rfl rfl rfl rfl ph_ ?_
    | refine aj rfl rfl rfl ?_
    | refine sk0_ rfl rfl ?_
    | (refine dF [] (r' := .one (.own ((bY x keys).map cV) 3)) (L':=[.box [.c (bB kk), .c (bM rows)], .box [.emp, .emp], .spare j 1, .spare keys.length 3]) rfl rfl rfl rfl (Va x keys hxr (by omega)) rfl ⟨rfl,by simp,fun i x hx=>by simp at hx,fun x hx=>by simp at hx,kU ⟨trivial,trivial,trivial⟩⟩ rfl rfl ?_)
    | (refine aM rfl (fun hb=>?_) (fun hb=>?_)<;>(first|exact (fx_ hb).elim|rw [hb]))
    | refine aw_seq ?_
    | refine aw_region bq _ rfl ?_
    | refine aw_drawn2 aF _ rfl mixed (by decide +kernel) ?_
    | (refine ah rfl (fun hb=>?_) (fun hb=>?_)<;>(try exact (fx_ hb).elim))
    | refine aw_block ?_
    | refine aw_exit ?_
    | refine aw_ret ?_
    | refine aw_skip ?_)
   obtain ⟨q,hq⟩ : ∃ q,aggs.length=q:=⟨_,rfl⟩
   have hqm:(((aggs.map cA).length:Nat):Int)=q:=by simp [hq]
   have hpl:(bY x keys).length=keys.length:=by simp [bY]
   refine df (fun a:Nat=>[(1, .one (.c (bB keys))),(2, .one (.c (jb aggs))),(3, .one (.ptr 0 0)),(6, .one (.ptr 1 0)),(14, .one (.own Out 2)),(16, .one (.c (.lst (gX (x::g'))))),(17, .one (.own ((bY x keys++(aggs.take a).map fun z=>fZ z.1 z.2 (x::g')).map cV) 3)),(68, .one (.c (Mf G))),(69, .one (.c (.int .i64 m))),(70, .one (.c (.int .i64 j))),(82, .one (.c (jb aggs))),(83, .one (.c (.int .i64 q))),(84, .one (.c (.int .i64 a)))]) (fun a=>[.box [.c (bB kk), .c (bM rows)], .box [.emp, .emp], .spare j 1, .spare (keys.length+a) 3]) (fun a=>a<=q) (fun a=>q-a) 0 (by omega) (fun _ _=>abv _)
    (fm_ ⟨rfl,rfl,rfl,rfl,rfl,rfl,cB (by simp),rfl,rfl,rfl,rfl,aT hqm,rfl,trivial⟩ [] rfl ⟨trivial,trivial,by show 0<4;omega,by show 1<4;omega,by show 2<4;omega,trivial,by show 3<4;omega,trivial,trivial,trivial,trivial,trivial,trivial,trivial⟩ ⟨a_,bL _,trivial,trivial,trivial⟩) ?_
   intro a ha
   by_cases hla:a<q
   ·obtain ⟨z,hz⟩:=gol_ (show a<aggs.length by omega)
    have hNa:decide ((a:Int)<q)=true:=by simp;exact hla
    have hzi:(aggs.map cA)[((a:Nat):Int).toNat]?=some [.int .i64 z.1, .int .i64 z.2]:=bg hz
    have hag:=EH z.1 z.2 (x::g') (by simp only [abw] at hgl2 ⊢;omega) hga
    have hrow:(bY x keys++(aggs.take (a+1)).map fun z=>fZ z.1 z.2 (x::g')).map cV=(bY x keys++(aggs.take a).map fun z=>fZ z.1 z.2 (x::g')).map cV++[cV (fZ z.1 z.2 (x::g'))]:=by rw [bS hz];simp
    have hrl:((bY x keys++(aggs.take a).map fun z=>fZ z.1 z.2 (x::g')).map cV).length=keys.length+a:=by simp [bY];omega
    generalize (bY x keys++(aggs.take a).map fun z=>fZ z.1 z.2 (x::g')).map cV=Row at hrow hrl
    repeat' (first
     | refine st_nil ?_
     | rw [hNa]
     | (refine ay rfl rfl rfl rfl ?_ ?_; · (repeat' (first|exact trivial|rfl|exact abj rfl|omega|(intro e he;simp at he;subst he;rfl)|exact hrl|(show (_+1)*32<=_;omega)|(show _+1<=_;omega)|apply And.intro)))
     | (refine aW rfl rfl rfl rfl rfl rfl rfl rfl hzi ?_ ?_; · exact ⟨by omega,rfl⟩)
     | (refine az rfl rfl rfl rfl ?_ ?_; · (repeat' (first|exact trivial|rfl|exact abj rfl|omega|(intro e he;simp at he;subst he;rfl)|exact hrl|(show (_+1)*32<=_;omega)|(show _+1<=_;omega)|apply And.intro)))
     | (refine sS_ rfl rfl rfl ?_ ?_; · (repeat' (first|exact trivial|rfl|exact abj rfl|omega|(intro e he;simp at he;subst he;rfl)|exact hrl|(show (_+1)*32<=_;omega)|(show _+1<=_;omega)|apply And.intro)))
     | (refine aC rfl rfl rfl rfl ?_ ?_; · (repeat' (first|exact trivial|rfl|exact abj rfl|omega|(intro e he;simp at he;subst he;rfl)|exact hrl|(show (_+1)*32<=_;omega)|(show _+1<=_;omega)|apply And.intro)))
     | refine aj rfl rfl rfl ?_
     | refine sk0_ rfl rfl ?_
     | refine aG rfl rfl rfl rfl hag rfl ?_
     | (refine aM rfl (fun hb=>?_) (fun hb=>?_)<;>(first|exact (fx_ hb).elim|rw [hb]))
     | refine aw_seq ?_
     | refine aw_region bq _ rfl ?_
     | refine aw_drawn2 aF _ rfl mixed (by decide +kernel) ?_
     | (refine ah rfl (fun hb=>?_) (fun hb=>?_)<;>(try exact (fx_ hb).elim))
     | refine aw_block ?_
     | refine aw_exit ?_
     | refine aw_ret ?_
     | refine aw_skip ?_)
    exact ⟨a+1,by omega,by omega,fm_ ⟨rfl,rfl,rfl,rfl,rfl,rfl,cB (by rw [hrow];rfl),rfl,rfl,rfl,rfl,rfl,aT (bu (by omega) (by omega)),trivial⟩ [_] rfl ⟨trivial,trivial,by show 0<4;omega,by show 1<4;omega,by show 2<4;omega,trivial,by show 3<4;omega,trivial,trivial,trivial,trivial,trivial,trivial,trivial⟩ ⟨a_,bL _,trivial,trivial,trivial⟩⟩
   ·have hNa:decide ((a:Int)<q)=false:=by simp;omega
    have hta:aggs.take a=aggs:=abP (by omega)
    rw [hta]
    have hgrow:oL keys aggs (x::g')=bY x keys++aggs.map fun z=>fZ z.1 z.2 (x::g'):=rfl
    rw [<- hgrow]
    repeat' (first
     | refine st_nil ?_
     | rw [hNa]
     | (refine ay rfl rfl rfl rfl ?_ ?_; · (repeat' (first|exact trivial|rfl|exact abj rfl|omega|(intro e he;simp at he;subst he;rfl)|exact holen|(show (_+1)*24<=_;omega)|(show _+1<=_;omega)|apply And.intro)))
     | (refine az rfl rfl rfl rfl ?_ ?_; · (repeat' (first|exact trivial|rfl|exact abj rfl|omega|(intro e he;simp at he;subst he;rfl)|exact holen|(show (_+1)*24<=_;omega)|(show _+1<=_;omega)|apply And.intro)))
     | (refine sS_ rfl rfl rfl ?_ ?_; · (repeat' (first|exact trivial|rfl|exact abj rfl|omega|(intro e he;simp at he;subst he;rfl)|exact holen|(show (_+1)*24<=_;omega)|(show _+1<=_;omega)|apply And.intro)))
     | (refine aC rfl rfl rfl rfl ?_ ?_; · (repeat' (first|exact trivial|rfl|exact abj rfl|omega|(intro e he;simp at he;subst he;rfl)|exact holen|(show (_+1)*24<=_;omega)|(show _+1<=_;omega)|apply And.intro)))
     | refine aj rfl rfl rfl ?_
     | refine sk0_ rfl rfl ?_
     | (refine aM rfl (fun hb=>?_) (fun hb=>?_)<;>(first|exact (fx_ hb).elim|rw [hb]))
     | refine aw_seq ?_
     | refine aw_region bq _ rfl ?_
     | refine aw_drawn2 aF _ rfl mixed (by decide +kernel) ?_
     | (refine ah rfl (fun hb=>?_) (fun hb=>?_)<;>(try exact (fx_ hb).elim))
     | refine aw_block ?_
     | refine aw_exit ?_
     | refine aw_ret ?_
     | refine aw_skip ?_)
    exact ⟨j+1,by omega,by omega,fm_ ⟨rfl,rfl,rfl,rfl,cB (by rw [hout];rfl),rfl,rfl,aT (bu (by omega) (by omega)),trivial⟩ [_] rfl ⟨trivial,trivial,by show 0<3;omega,by show 1<3;omega,by show 2<3;omega,trivial,trivial,trivial,trivial⟩ ⟨a_,bL _,trivial,trivial⟩⟩
  ·have hNj:decide ((j:Int)<m)=false:=by simp;omega
   have htj:G.take j=G:=abP (by omega)
   rw [htj]
   repeat' (first
    | refine st_nil ?_
    | rw [hNj]
    | refine ay rfl rfl rfl rfl ph_ ?_
    | refine az rfl rfl rfl rfl ph_ ?_
    | refine sS_ rfl rfl rfl ph_ ?_
    | refine aC rfl rfl rfl rfl ph_ ?_
    | refine aj rfl rfl rfl ?_
    | refine sk0_ rfl rfl ?_
    | refine aG rfl rfl rfl rfl hgr rfl ?_
    | refine aG rfl rfl rfl rfl hbag rfl ?_
    | (refine aM rfl (fun hb=>?_) (fun hb=>?_)<;>(first|exact (fx_ hb).elim|rw [hb]))
    | refine aw_seq ?_
    | refine aw_region bq _ rfl ?_
    | refine aw_drawn2 aF _ rfl mixed (by decide +kernel) ?_
    | (refine ah rfl (fun hb=>?_) (fun hb=>?_)<;>(try exact (fx_ hb).elim))
    | refine aw_block ?_
    | refine aw_exit ?_
    | refine aw_ret ?_
    | refine aw_skip ?_)
   exact aO (aR rfl ⟨abp 2,trivial⟩ rfl)
set_option maxHeartbeats 4000000 in
theorem WR (kk:List Int) (aggs:List LX) (h1:kk.length<=100000) (h3:aggs.length<=100000) (h0:aggs≠[]):Pure Tryz.prog 18 [.agg [bB kk,bM []], .one (bB []), .one (jb aggs)] (.val (.agg [bB (uH kk [] aggs).1,bM <| aI [aggs.map fun z=>fZ z.1 z.2 []]])):=by
 refine pa_ bq Tryz.func18 rfl rfl Tryz.ntmps18 (by simp) ?_
 simp only [argT,PV.av,abk,abo]
 obtain ⟨inf,hinf,hiz⟩ : ∃ inf,Tryz.prog.info? 23=some inf/\inf.zero=some (.slice none 0 0):=by
  have hh:(Tryz.prog.info? 23).bind (·.zero)=some (.slice none 0 0):=by kernel_rfl
  cases hi:Tryz.prog.info? 23 with
  | none=>rw [hi] at hh;cases hh
  | some j=>rw [hi] at hh;exact ⟨j,rfl,by simpa using hh⟩
 have hgr:=tT kk [] aggs h1 (abv _) h3
 have hgl:=FY kk [] aggs
 simp only [abF] at hgl
 have hbag:=EB (uH kk [] aggs).1 [aggs.map fun z=>fZ z.1 z.2 []] (by omega) (by simp) (fun r hr'=>by
  simp at hr';subst hr'
  exact ⟨by intro e;exact h0 (List.map_eq_nil_iff.1 e),by simp;omega⟩)
 repeat' (first
  | refine st_nil ?_
  | (refine cZ rfl rfl rfl rfl rfl (uQ (E:=23) (k:=1) (by_:=24) (xs:=[[.emp]]) bq rfl rfl rfl ⟨rfl,_,rfl,by decide⟩ rfl (by decide) rfl rfl rfl (by decide) (by decide) (by decide) (by decide)) ?_)
  | (refine cZ rfl rfl rfl rfl rfl (rZ (E:=23) bq rfl (by decide) rfl rfl hinf hiz) ?_)
  | (refine ay rfl rfl rfl rfl ?_ ?_; · (repeat' (first|exact trivial|rfl|exact abj rfl|omega|decide|apply And.intro)))
  | (refine az rfl rfl rfl rfl ?_ ?_; · (repeat' (first|exact trivial|rfl|exact abj rfl|omega|decide|apply And.intro)))
  | (refine sS_ rfl rfl rfl ?_ ?_; · (repeat' (first|exact trivial|rfl|exact abj rfl|omega|decide|apply And.intro)))
  | (refine aC rfl rfl rfl rfl ?_ ?_; · (repeat' (first|exact trivial|rfl|exact abj rfl|omega|decide|apply And.intro)))
  | refine aj rfl rfl rfl ?_
  | refine sk0_ rfl rfl ?_
  | (refine aM rfl (fun hb=>?_) (fun hb=>?_)<;>(first|exact (fx_ hb).elim|rw [hb]))
  | refine aw_seq ?_
  | refine aw_region bq _ rfl ?_
  | refine aw_drawn2 aF _ rfl mixed (by decide +kernel) ?_
  | (refine ah rfl (fun hb=>?_) (fun hb=>?_)<;>(try exact (fx_ hb).elim))
  | refine aw_block ?_
  | refine aw_exit ?_
  | refine aw_ret ?_
  | refine aw_skip ?_
  | (refine cZ rfl rfl rfl rfl rfl jZ ?_)
  | (refine uo rfl rfl rfl rfl (wJ (M:=[]) bq rfl rfl rfl rfl rfl rfl) ?_))
 refine df (fun _:Unit=>[(1, .one (.c (bB []))),(2, .one (.c (jb aggs))),(3, .one (.ptr 0 0)),(6, .one (.ptr 1 0)),(8, .one (.sl 4 (23+65536) 0 1)),(32, .one (.c (.int .i64 0))),(33, .one (.c (.int .i64 0)))]) (fun _=>[.box [.c (bB kk), .c (bM [])], .box [.emp, .emp], .map (dQ [(⟨#[]⟩,0)]),gJ, .row (23+65536) [[.emp]] 1]) (fun _=>True) (fun _=>0) () trivial (fun _ _=>abv _)
  (fm_ ⟨rfl,rfl,rfl,rfl,rfl,rfl,rfl,trivial⟩ [] rfl ⟨trivial,trivial,by show 0<5;omega,by show 1<5;omega,by show 4<5;omega,trivial,trivial,trivial⟩ ⟨a_,bL _,bN _ _,dn _,dn _,trivial⟩) ?_
 intro _ _
 refine jy 4 8 rfl (cs:=[[.lst []]]) rfl rfl rfl ?_
 repeat' (first
  | refine st_nil ?_
  | refine ay rfl rfl rfl rfl ph_ ?_
  | refine az rfl rfl rfl rfl ph_ ?_
  | refine sS_ rfl rfl rfl ph_ ?_
  | refine aC rfl rfl rfl rfl ph_ ?_
  | refine aj rfl rfl rfl ?_
  | refine sk0_ rfl rfl ?_
  | (refine aM rfl (fun hb=>?_) (fun hb=>?_)<;>(first|exact (fx_ hb).elim|rw [hb]))
  | refine aw_seq ?_
  | refine aw_region bq _ rfl ?_
  | refine aw_drawn2 aF _ rfl mixed (by decide +kernel) ?_
  | (refine ah rfl (fun hb=>?_) (fun hb=>?_)<;>(try exact (fx_ hb).elim))
  | refine aw_block ?_
  | refine aw_exit ?_
  | refine aw_ret ?_
  | refine aw_skip ?_)
 refine dh 14 1 rfl ?_
 refine df (fun j:Nat=>[(1, .one (.c (bB []))),(2, .one (.c (jb aggs))),(3, .one (.ptr 0 0)),(6, .one (.ptr 1 0)),(14, .one (.own (((List.replicate j (aggs.map fun z=>fZ z.1 z.2 [])).map fun r=>[bO r])) 5)),(68, .one (.c (.lst [[.lst []]]))),(69, .one (.c (.int .i64 1))),(70, .one (.c (.int .i64 j)))]) (fun j=>[.box [.c (bB kk), .c (bM [])], .box [.emp, .emp], .map (dQ [(⟨#[]⟩,0)]),gJ, .dead, .spare j 1]) (fun j=>j<=1) (fun j=>1-j) 0 (by omega) (fun _ _=>abv _)
  (fm_ ⟨rfl,rfl,rfl,rfl,rfl,rfl,rfl,rfl,trivial⟩ [] rfl ⟨trivial,trivial,by show 0<6;omega,by show 1<6;omega,by show 5<6;omega,trivial,trivial,trivial,trivial⟩ ⟨a_,bL _,bN _ _,dn _,trivial,trivial,trivial⟩) ?_
 intro j hj
 have hj':j=0\/j=1:=by omega
 rcases hj' with rfl|rfl
 ·repeat' (first
   | refine st_nil ?_
   | refine ay rfl rfl rfl rfl ph_ ?_
   | refine az rfl rfl rfl rfl ph_ ?_
   | refine sS_ rfl rfl rfl ph_ ?_
   | refine aC rfl rfl rfl rfl ph_ ?_
   | refine aj rfl rfl rfl ?_
   | refine sk0_ rfl rfl ?_
   | (refine aM rfl (fun hb=>?_) (fun hb=>?_)<;>(first|exact (fx_ hb).elim|rw [hb]))
   | refine aw_seq ?_
   | refine aw_region bq _ rfl ?_
   | refine aw_drawn2 aF _ rfl mixed (by decide +kernel) ?_
   | (refine ah rfl (fun hb=>?_) (fun hb=>?_)<;>(try exact (fx_ hb).elim))
   | refine aw_block ?_
   | refine aw_exit ?_
   | refine aw_ret ?_
   | refine aw_skip ?_)
  refine dh 17 3 rfl ?_
  obtain ⟨q,hq⟩ : ∃ q,aggs.length=q:=⟨_,rfl⟩
  have hqm:(((aggs.map cA).length:Nat):Int)=q:=by simp [hq]
  refine df (fun a:Nat=>[(1, .one (.c (bB []))),(2, .one (.c (jb aggs))),(3, .one (.ptr 0 0)),(6, .one (.ptr 1 0)),(14, .one (.own [] 5)),(16, .one (.c (.lst []))),(17, .one (.own (((aggs.take a).map fun z=>fZ z.1 z.2 []).map cV) 6)),(68, .one (.c (.lst [[.lst []]]))),(69, .one (.c (.int .i64 1))),(70, .one (.c (.int .i64 0))),(82, .one (.c (jb aggs))),(83, .one (.c (.int .i64 q))),(84, .one (.c (.int .i64 a)))]) (fun a=>[.box [.c (bB kk), .c (bM [])], .box [.emp, .emp], .map (dQ [(⟨#[]⟩,0)]),gJ, .dead, .spare 0 1, .spare a 3]) (fun a=>a<=q) (fun a=>q-a) 0 (by omega) (fun _ _=>abv _)
   (fm_ ⟨rfl,rfl,rfl,rfl,rfl,rfl,rfl,rfl,rfl,rfl,rfl,aT hqm,rfl,trivial⟩ [] rfl ⟨trivial,trivial,by show 0<7;omega,by show 1<7;omega,by show 5<7;omega,trivial,by show 6<7;omega,trivial,trivial,trivial,trivial,trivial,trivial,trivial⟩ ⟨a_,bL _,bN _ _,dn _,trivial,trivial,trivial,trivial⟩) ?_
  intro a ha
  by_cases hla:a<q
  ·obtain ⟨z,hz⟩:=gol_ (show a<aggs.length by omega)
   have hNa:decide ((a:Int)<q)=true:=by simp;exact hla
   have hzi:(aggs.map cA)[((a:Nat):Int).toNat]?=some [.int .i64 z.1, .int .i64 z.2]:=bg hz
   have hag:=EH z.1 z.2 [] (by simp) (by simp)
   have hrow:((aggs.take (a+1)).map fun z=>fZ z.1 z.2 []).map cV=((aggs.take a).map fun z=>fZ z.1 z.2 []).map cV++[cV (fZ z.1 z.2 [])]:=by rw [bS hz];simp
   have hrl:(((aggs.take a).map fun z=>fZ z.1 z.2 []).map cV).length=a:=by simp;omega
   generalize ((aggs.take a).map fun z=>fZ z.1 z.2 []).map cV=Row at hrow hrl
   repeat' (first
    | refine st_nil ?_
    | rw [hNa]
    | (refine ay rfl rfl rfl rfl ?_ ?_; · (repeat' (first|exact trivial|rfl|exact abj rfl|omega|(intro e he;simp at he;subst he;rfl)|exact hrl|(show (_+1)*32<=_;omega)|(show _+1<=_;omega)|apply And.intro)))
    | (refine aW rfl rfl rfl rfl rfl rfl rfl rfl hzi ?_ ?_; · exact ⟨by omega,rfl⟩)
    | (refine az rfl rfl rfl rfl ?_ ?_; · (repeat' (first|exact trivial|rfl|exact abj rfl|omega|(intro e he;simp at he;subst he;rfl)|exact hrl|(show (_+1)*32<=_;omega)|(show _+1<=_;omega)|apply And.intro)))
    | (refine sS_ rfl rfl rfl ?_ ?_; · (repeat' (first|exact trivial|rfl|exact abj rfl|omega|(intro e he;simp at he;subst he;rfl)|exact hrl|(show (_+1)*32<=_;omega)|(show _+1<=_;omega)|apply And.intro)))
    | (refine aC rfl rfl rfl rfl ?_ ?_; · (repeat' (first|exact trivial|rfl|exact abj rfl|omega|(intro e he;simp at he;subst he;rfl)|exact hrl|(show (_+1)*32<=_;omega)|(show _+1<=_;omega)|apply And.intro)))
    | refine aj rfl rfl rfl ?_
    | refine sk0_ rfl rfl ?_
    | refine aG rfl rfl rfl rfl hag rfl ?_
    | (refine aM rfl (fun hb=>?_) (fun hb=>?_)<;>(first|exact (fx_ hb).elim|rw [hb]))
    | refine aw_seq ?_
    | refine aw_region bq _ rfl ?_
    | refine aw_drawn2 aF _ rfl mixed (by decide +kernel) ?_
    | (refine ah rfl (fun hb=>?_) (fun hb=>?_)<;>(try exact (fx_ hb).elim))
    | refine aw_block ?_
    | refine aw_exit ?_
    | refine aw_ret ?_
    | refine aw_skip ?_)
   exact ⟨a+1,by omega,by omega,fm_ ⟨rfl,rfl,rfl,rfl,rfl,rfl,cB (by rw [hrow];rfl),rfl,rfl,rfl,rfl,rfl,aT (bu (by omega) (by omega)),trivial⟩ [_] rfl ⟨trivial,trivial,by show 0<7;omega,by show 1<7;omega,by show 5<7;omega,trivial,by show 6<7;omega,trivial,trivial,trivial,trivial,trivial,trivial,trivial⟩ ⟨a_,bL _,bN _ _,dn _,trivial,trivial,trivial,trivial⟩⟩
  ·have hNa:decide ((a:Int)<q)=false:=by simp;omega
   have hta:aggs.take a=aggs:=abP (by omega)
   rw [hta]
   repeat' (first
    | refine st_nil ?_
    | rw [hNa]
    | (refine ay rfl rfl rfl rfl ?_ ?_; · (repeat' (first|exact trivial|rfl|exact abj rfl|omega|(intro e he;simp at he;subst he;rfl)|decide|apply And.intro)))
    | (refine az rfl rfl rfl rfl ?_ ?_; · (repeat' (first|exact trivial|rfl|exact abj rfl|omega|(intro e he;simp at he;subst he;rfl)|decide|apply And.intro)))
    | (refine sS_ rfl rfl rfl ?_ ?_; · (repeat' (first|exact trivial|rfl|exact abj rfl|omega|(intro e he;simp at he;subst he;rfl)|decide|apply And.intro)))
    | (refine aC rfl rfl rfl rfl ?_ ?_; · (repeat' (first|exact trivial|rfl|exact abj rfl|omega|(intro e he;simp at he;subst he;rfl)|decide|apply And.intro)))
    | refine aj rfl rfl rfl ?_
    | refine sk0_ rfl rfl ?_
    | (refine aM rfl (fun hb=>?_) (fun hb=>?_)<;>(first|exact (fx_ hb).elim|rw [hb]))
    | refine aw_seq ?_
    | refine aw_region bq _ rfl ?_
    | refine aw_drawn2 aF _ rfl mixed (by decide +kernel) ?_
    | (refine ah rfl (fun hb=>?_) (fun hb=>?_)<;>(try exact (fx_ hb).elim))
    | refine aw_block ?_
    | refine aw_exit ?_
    | refine aw_ret ?_
    | refine aw_skip ?_)
   exact ⟨1,by omega,by omega,fm_ ⟨rfl,rfl,rfl,rfl,rfl,rfl,rfl,rfl,trivial⟩ [_] rfl ⟨trivial,trivial,by show 0<6;omega,by show 1<6;omega,by show 5<6;omega,trivial,trivial,trivial,trivial⟩ ⟨a_,bL _,bN _ _,dn _,trivial,trivial,trivial⟩⟩
 ·repeat' (first
   | refine st_nil ?_
   | refine ay rfl rfl rfl rfl ph_ ?_
   | refine az rfl rfl rfl rfl ph_ ?_
   | refine sS_ rfl rfl rfl ph_ ?_
   | refine aC rfl rfl rfl rfl ph_ ?_
   | refine aj rfl rfl rfl ?_
   | refine sk0_ rfl rfl ?_
   | refine aG rfl rfl rfl rfl hgr rfl ?_
   | refine aG rfl rfl rfl rfl hbag rfl ?_
   | (refine aM rfl (fun hb=>?_) (fun hb=>?_)<;>(first|exact (fx_ hb).elim|rw [hb]))
   | refine aw_seq ?_
   | refine aw_region bq _ rfl ?_
   | refine aw_drawn2 aF _ rfl mixed (by decide +kernel) ?_
   | (refine ah rfl (fun hb=>?_) (fun hb=>?_)<;>(try exact (fx_ hb).elim))
   | refine aw_block ?_
   | refine aw_exit ?_
   | refine aw_ret ?_
   | refine aw_skip ?_)
  exact aO (aR rfl ⟨abp 2,trivial⟩ rfl)
def vz (kk:List Int) (rows:List (List Val)):Nat->List Ob
 | 0=>[.box [.c (bB kk), .c (bM rows)], .box [.emp, .emp], .map (dQ [(⟨#[]⟩,0)]),gJ, .row (23+65536) [[.emp]] 1]
 | i+1=>[.box [.c (bB kk), .c (bM rows)], .box [.emp, .emp], .map (dQ [(⟨#[]⟩,0)]),gJ, .row (23+65536) [[.own (gX (rows.take (i+1))) 5]] 1, .spare (i+1) 1]
theorem Pg (n v:Nat):(Ob.row v [[.emp]] 1).below n:=by
 intro e he x hx
 simp at he;subst he
 simp at hx;subst hx
 trivial
theorem CL (v:Nat) (es:List (List AC)):(Ob.row v [[.own es 5]] 1).below 6:=by
 intro e he x hx
 simp at he;subst he
 simp at hx;subst hx
 show 5<6;omega
set_option maxHeartbeats 8000000 in
theorem WT (kk:List Int) (aggs:List LX) (rows:List (List Val)) (h1:kk.length<=100000) (h3:aggs.length<=100000) (h0:aggs≠[]) (hl:rows.length<=300) (hne:rows≠[]) (hr : ∀ r∈rows,r.length<=1000000):Pure Tryz.prog 18 [.agg [bB kk,bM rows], .one (bB []), .one (jb aggs)] (.val (.agg [bB (uH kk [] aggs).1,bM [aggs.map fun z=>fZ z.1 z.2 rows]])):=by
 refine pa_ bq Tryz.func18 rfl rfl Tryz.ntmps18 (by simp) ?_
 simp only [argT,PV.av,abk,abo]
 obtain ⟨inf,hinf,hiz⟩ : ∃ inf,Tryz.prog.info? 23=some inf/\inf.zero=some (.slice none 0 0):=by
  have hh:(Tryz.prog.info? 23).bind (·.zero)=some (.slice none 0 0):=by kernel_rfl
  cases hi:Tryz.prog.info? 23 with
  | none=>rw [hi] at hh;cases hh
  | some j=>rw [hi] at hh;exact ⟨j,rfl,by simpa using hh⟩
 have hgr:=tT kk [] aggs h1 (abv _) h3
 have hgl:=FY kk [] aggs
 simp only [abF] at hgl
 have hbag:Pure Tryz.prog 58 [.one (bB (uH kk [] aggs).1), .one (bM [aggs.map fun z=>fZ z.1 z.2 rows])] (.val (.agg [bB (uH kk [] aggs).1,bM [aggs.map fun z=>fZ z.1 z.2 rows]])):=by
  have:=EB (uH kk [] aggs).1 [aggs.map fun z=>fZ z.1 z.2 rows] (by omega) (by simp) (fun r hr'=>by
   simp at hr';subst hr'
   exact ⟨by intro e;exact h0 (List.map_eq_nil_iff.1 e),by simp;omega⟩)
  exact this
 obtain ⟨n,hn⟩ : ∃ n,rows.length=n:=⟨_,rfl⟩
 have hml:(((rows.map fun r=>[bO r]).length:Nat):Int)=n:=by simp [hn]
 have hn0:0<n:=by rw [<- hn];exact List.length_pos_iff.2 hne
 repeat' (first
  | refine st_nil ?_
  | (refine cZ rfl rfl rfl rfl rfl (uQ (E:=23) (k:=1) (by_:=24) (xs:=[[.emp]]) bq rfl rfl rfl ⟨rfl,_,rfl,by decide⟩ rfl (by decide) rfl rfl rfl (by decide) (by decide) (by decide) (by decide)) ?_)
  | (refine cZ rfl rfl rfl rfl rfl (rZ (E:=23) bq rfl (by decide) rfl rfl hinf hiz) ?_)
  | (refine ay rfl rfl rfl rfl ?_ ?_; · (repeat' (first|exact trivial|rfl|exact abj rfl|omega|decide|apply And.intro)))
  | (refine az rfl rfl rfl rfl ?_ ?_; · (repeat' (first|exact trivial|rfl|exact abj rfl|omega|decide|apply And.intro)))
  | (refine sS_ rfl rfl rfl ?_ ?_; · (repeat' (first|exact trivial|rfl|exact abj rfl|omega|decide|apply And.intro)))
  | (refine aC rfl rfl rfl rfl ?_ ?_; · (repeat' (first|exact trivial|rfl|exact abj rfl|omega|decide|apply And.intro)))
  | refine aj rfl rfl rfl ?_
  | refine sk0_ rfl rfl ?_
  | (refine aM rfl (fun hb=>?_) (fun hb=>?_)<;>(first|exact (fx_ hb).elim|rw [hb]))
  | refine aw_seq ?_
  | refine aw_region bq _ rfl ?_
  | refine aw_drawn2 aF _ rfl mixed (by decide +kernel) ?_
  | (refine ah rfl (fun hb=>?_) (fun hb=>?_)<;>(try exact (fx_ hb).elim))
  | refine aw_block ?_
  | refine aw_exit ?_
  | refine aw_ret ?_
  | refine aw_skip ?_
  | (refine cZ rfl rfl rfl rfl rfl jZ ?_)
  | (refine uo rfl rfl rfl rfl (wJ (M:=[]) bq rfl rfl rfl rfl rfl rfl) ?_))
 refine df (fun i:Nat=>[(1, .one (.c (bB []))),(2, .one (.c (jb aggs))),(3, .one (.ptr 0 0)),(6, .one (.ptr 1 0)),(7, .one (.mp 2)),(8, .one (.sl 4 (23+65536) 0 1)),(31, .one (.c (bM rows))),(32, .one (.c (.int .i64 n))),(33, .one (.c (.int .i64 i)))]) (fun i=>vz kk rows i) (fun i=>i<=n) (fun i=>n-i) 0 (abv _) (fun _ _=>abv _)
  (fm_ ⟨rfl,rfl,rfl,rfl,rfl,rfl,rfl,aT hml,rfl,trivial⟩ [] rfl ⟨trivial,trivial,by show 0<_;simp [vz],by show 1<_;simp [vz],by show 2<_;simp [vz],by show 4<_;simp [vz],trivial,trivial,trivial,trivial⟩ ⟨a_,bL _,bN _ _,dn _,Pg _ _,trivial⟩) ?_
 intro i hi
 by_cases hlt:i<n
 ·obtain ⟨r,hx⟩:=gol_ (show i<rows.length by omega)
  have hrm:=abe hx
  have htk:=bS hx
  have hN:decide ((i:Int)<n)=true:=by simp;exact hlt
  have hpk:=Jb r [] (hr r hrm) (by simp)
  have hkr:Pure Tryz.prog 54 [.one (bO (bY r []))] (.val (.one (.str ⟨#[]⟩))):=xE [] (by simp) (fun v hv=>by cases hv)
  have hmg:dm [((⟨#[]⟩:ByteArray),(0:Int))] ⟨#[]⟩=0:=by simp [dm]
  have hmh:ji [((⟨#[]⟩:ByteArray),(0:Int))] ⟨#[]⟩=true:=by simp [ji,dQ,iR]
  match i,hi,hlt,hx,htk,hN with
  | 0,hi,hlt,hx,htk,hN =>
   have hg1:gX (rows.take (0+1))=[[bO r]]:=by rw [htk];rfl
   have hO1:vz kk rows 1=[.box [.c (bB kk), .c (bM rows)], .box [.emp, .emp], .map (dQ [(⟨#[]⟩,0)]),gJ, .row (23+65536) [[.own [[bO r]] 5]] 1, .spare 1 1]:=by
    show [.box [.c (bB kk), .c (bM rows)], .box [.emp, .emp], .map (dQ [(⟨#[]⟩,0)]),gJ, .row (23+65536) [[.own (gX (rows.take (0+1))) 5]] 1, .spare (0+1) 1]=_
    rw [hg1]
   repeat' (first
    | refine st_nil ?_
    | rw [hN]
    | rw [hmh]
    | rw [hmg]
    | (refine vD rfl rfl rfl rfl rfl rfl rfl (e:=[.emp]) rfl rfl ?_)
    | (refine vV rfl rfl rfl rfl rfl rfl (e:=[.emp]) rfl ⟨abp _,rfl⟩ rfl ?_)
    | (refine ay rfl rfl rfl rfl ?_ ?_; · (repeat' (first|exact trivial|rfl|exact abj rfl|omega|(intro e he;simp at he;subst he;rfl)|decide|apply And.intro)))
    | (refine aW rfl rfl rfl rfl rfl rfl rfl rfl (bg hx) ?_ ?_; · exact ⟨by omega,rfl⟩)
    | (refine az rfl rfl rfl rfl ?_ ?_; · (repeat' (first|exact trivial|rfl|exact abj rfl|omega|(intro e he;simp at he;subst he;rfl)|decide|apply And.intro)))
    | (refine sS_ rfl rfl rfl ?_ ?_; · (repeat' (first|exact trivial|rfl|exact abj rfl|omega|(intro e he;simp at he;subst he;rfl)|decide|apply And.intro)))
    | (refine aC rfl rfl rfl rfl ?_ ?_; · (repeat' (first|exact trivial|rfl|exact abj rfl|omega|(intro e he;simp at he;subst he;rfl)|decide|apply And.intro)))
    | refine aj rfl rfl rfl ?_
    | refine sk0_ rfl rfl ?_
    | refine aG rfl rfl rfl rfl hpk rfl ?_
    | refine aG rfl rfl rfl rfl hkr rfl ?_
    | (refine aM rfl (fun hb=>?_) (fun hb=>?_)<;>(first|exact (fx_ hb).elim|rw [hb]))
    | refine aw_seq ?_
    | refine aw_region bq _ rfl ?_
    | refine aw_drawn2 aF _ rfl mixed (by decide +kernel) ?_
    | (refine ah rfl (fun hb=>?_) (fun hb=>?_)<;>(try exact (fx_ hb).elim))
    | refine aw_block ?_
    | refine aw_exit ?_
    | refine aw_ret ?_
    | refine aw_skip ?_
    | (refine dB rfl rfl rfl rfl rfl (qy (M:=[(⟨#[]⟩,0)]) bq rfl rfl rfl rfl rfl rfl) ?_))
   exact ⟨1,hlt,by omega,fm_ ⟨rfl,rfl,rfl,rfl,rfl,rfl,rfl,rfl,rfl,trivial⟩ [] (by rw [hO1];rfl) ⟨trivial,trivial,by show 0<_;simp [vz],by show 1<_;simp [vz],by show 2<_;simp [vz],by show 4<_;simp [vz],trivial,trivial,trivial,trivial⟩ (by rw [hO1];exact ⟨a_,bL _,bN _ _,dn _,CL _ _,trivial,trivial⟩)⟩
  | j+1,hi,hlt,hx,htk,hN =>
   have hgl2:(gX (rows.take (j+1))).length=j+1:=by unfold gX;rw [abl,abY];omega
   have hg2:gX (rows.take (j+1+1))=gX (rows.take (j+1))++[[bO r]]:=by rw [htk];unfold gX;rw [abm];rfl
   have hO:vz kk rows (j+1)=[.box [.c (bB kk), .c (bM rows)], .box [.emp, .emp], .map (dQ [(⟨#[]⟩,0)]),gJ, .row (23+65536) [[.own (gX (rows.take (j+1))) 5]] 1, .spare (j+1) 1]:=rfl
   have hO2:vz kk rows (j+1+1)=[.box [.c (bB kk), .c (bM rows)], .box [.emp, .emp], .map (dQ [(⟨#[]⟩,0)]),gJ, .row (23+65536) [[.own (gX (rows.take (j+1))++[[bO r]]) 5]] 1, .spare (j+1+1) 1]:=by
    show [.box [.c (bB kk), .c (bM rows)], .box [.emp, .emp], .map (dQ [(⟨#[]⟩,0)]),gJ, .row (23+65536) [[.own (gX (rows.take (j+1+1))) 5]] 1, .spare (j+1+1) 1]=_
    rw [hg2]
   rw [hO]
   generalize gX (rows.take (j+1))=gg at hgl2 hg2 hO2
   repeat' (first
    | refine st_nil ?_
    | rw [hN]
    | rw [hmh]
    | rw [hmg]
    | (refine vD rfl rfl rfl rfl rfl rfl rfl (e:=[.own gg 5]) rfl rfl ?_)
    | (refine Qh (k:=1) (by_:=24) rfl rfl rfl rfl rfl rfl rfl rfl rfl rfl rfl ⟨rfl,hgl2,⟨rfl,by decide⟩,by intro e he;simp at he;subst he;rfl,by show (_+1)*24<=_;omega,by show _+1<=_;omega⟩ rfl ?_)
    | (refine vV rfl rfl rfl rfl rfl rfl (e:=[.own gg 5]) rfl ⟨abp _,rfl⟩ rfl ?_)
    | (refine ay rfl rfl rfl rfl ?_ ?_; · (repeat' (first|exact trivial|rfl|exact abj rfl|omega|(intro e he;simp at he;subst he;rfl)|apply And.intro)))
    | (refine aW rfl rfl rfl rfl rfl rfl rfl rfl (bg hx) ?_ ?_; · exact ⟨by omega,rfl⟩)
    | (refine az rfl rfl rfl rfl ?_ ?_; · (repeat' (first|exact trivial|rfl|exact abj rfl|omega|(intro e he;simp at he;subst he;rfl)|apply And.intro)))
    | (refine sS_ rfl rfl rfl ?_ ?_; · (repeat' (first|exact trivial|rfl|exact abj rfl|omega|(intro e he;simp at he;subst he;rfl)|apply And.intro)))
    | (refine aC rfl rfl rfl rfl ?_ ?_; · (repeat' (first|exact trivial|rfl|exact abj rfl|omega|(intro e he;simp at he;subst he;rfl)|apply And.intro)))
    | refine aj rfl rfl rfl ?_
    | refine sk0_ rfl rfl ?_
    | refine aG rfl rfl rfl rfl hpk rfl ?_
    | refine aG rfl rfl rfl rfl hkr rfl ?_
    | (refine aM rfl (fun hb=>?_) (fun hb=>?_)<;>(first|exact (fx_ hb).elim|rw [hb]))
    | refine aw_seq ?_
    | refine aw_region bq _ rfl ?_
    | refine aw_drawn2 aF _ rfl mixed (by decide +kernel) ?_
    | (refine ah rfl (fun hb=>?_) (fun hb=>?_)<;>(try exact (fx_ hb).elim))
    | refine aw_block ?_
    | refine aw_exit ?_
    | refine aw_ret ?_
    | refine aw_skip ?_
    | (refine dB rfl rfl rfl rfl rfl (qy (M:=[(⟨#[]⟩,0)]) bq rfl rfl rfl rfl rfl rfl) ?_))
   exact ⟨j+1+1,hlt,by omega,fm_ ⟨rfl,rfl,rfl,rfl,rfl,rfl,rfl,rfl,aT (bu (by omega) (by omega)),trivial⟩ [] (by rw [hO2];rfl) ⟨trivial,trivial,by show 0<_;simp [vz],by show 1<_;simp [vz],by show 2<_;simp [vz],by show 4<_;simp [vz],trivial,trivial,trivial,trivial⟩ (by rw [hO2];exact ⟨a_,bL _,bN _ _,dn _,CL _ _,trivial,trivial⟩)⟩
 ·have hin:i=n:=by omega
  subst hin
  have hN:decide (((i:Nat):Int)<((i:Nat):Int))=false:=by simp
  obtain ⟨m,rfl⟩ : ∃ m,i=m+1:=⟨i-1,by omega⟩
  have htk:rows.take (m+1)=rows:=abP (by omega)
  have hO:vz kk rows (m+1)=[.box [.c (bB kk), .c (bM rows)], .box [.emp, .emp], .map (dQ [(⟨#[]⟩,0)]),gJ, .row (23+65536) [[.own (gX rows) 5]] 1, .spare (m+1) 1]:=by
   show [.box [.c (bB kk), .c (bM rows)], .box [.emp, .emp], .map (dQ [(⟨#[]⟩,0)]),gJ, .row (23+65536) [[.own (gX (rows.take (m+1))) 5]] 1, .spare (m+1) 1]=_
   rw [htk]
  rw [hO]
  refine jy 4 8 rfl (cs:=[[.lst (gX rows)]]) rfl rfl rfl ?_
  repeat' (first
   | refine st_nil ?_
   | rw [hN]
   | refine ay rfl rfl rfl rfl ph_ ?_
   | refine az rfl rfl rfl rfl ph_ ?_
   | refine sS_ rfl rfl rfl ph_ ?_
   | refine aC rfl rfl rfl rfl ph_ ?_
   | refine aj rfl rfl rfl ?_
   | refine sk0_ rfl rfl ?_
   | (refine aM rfl (fun hb=>?_) (fun hb=>?_)<;>(first|exact (fx_ hb).elim|rw [hb]))
   | refine aw_seq ?_
   | refine aw_region bq _ rfl ?_
   | refine aw_drawn2 aF _ rfl mixed (by decide +kernel) ?_
   | (refine ah rfl (fun hb=>?_) (fun hb=>?_)<;>(try exact (fx_ hb).elim))
   | refine aw_block ?_
   | refine aw_exit ?_
   | refine aw_ret ?_
   | refine aw_skip ?_)
  refine dh 14 1 rfl ?_
  refine df (fun j:Nat=>[(1, .one (.c (bB []))),(2, .one (.c (jb aggs))),(3, .one (.ptr 0 0)),(6, .one (.ptr 1 0)),(14, .one (.own (((List.replicate j (aggs.map fun z=>fZ z.1 z.2 rows)).map fun r=>[bO r])) 6)),(68, .one (.c (.lst [[.lst (gX rows)]]))),(69, .one (.c (.int .i64 1))),(70, .one (.c (.int .i64 j)))]) (fun j=>[.box [.c (bB kk), .c (bM rows)], .box [.emp, .emp], .map (dQ [(⟨#[]⟩,0)]),gJ, .dead, .spare (m+1) 1, .spare j 1]) (fun j=>j<=1) (fun j=>1-j) 0 (by omega) (fun _ _=>abv _)
   (fm_ ⟨rfl,rfl,rfl,rfl,rfl,rfl,rfl,rfl,trivial⟩ [] rfl ⟨trivial,trivial,by show 0<7;omega,by show 1<7;omega,by show 6<7;omega,trivial,trivial,trivial,trivial⟩ ⟨a_,bL _,bN _ _,dn _,trivial,trivial,trivial,trivial⟩) ?_
  intro j hj
  have hj':j=0\/j=1:=by omega
  rcases hj' with rfl|rfl
  ·repeat' (first
    | refine st_nil ?_
    | refine ay rfl rfl rfl rfl ph_ ?_
    | refine az rfl rfl rfl rfl ph_ ?_
    | refine sS_ rfl rfl rfl ph_ ?_
    | refine aC rfl rfl rfl rfl ph_ ?_
    | refine aj rfl rfl rfl ?_
    | refine sk0_ rfl rfl ?_
    | (refine aM rfl (fun hb=>?_) (fun hb=>?_)<;>(first|exact (fx_ hb).elim|rw [hb]))
    | refine aw_seq ?_
    | refine aw_region bq _ rfl ?_
    | refine aw_drawn2 aF _ rfl mixed (by decide +kernel) ?_
    | (refine ah rfl (fun hb=>?_) (fun hb=>?_)<;>(try exact (fx_ hb).elim))
    | refine aw_block ?_
    | refine aw_exit ?_
    | refine aw_ret ?_
    | refine aw_skip ?_)
   refine dh 17 3 rfl ?_
   obtain ⟨q,hq⟩ : ∃ q,aggs.length=q:=⟨_,rfl⟩
   have hqm:(((aggs.map cA).length:Nat):Int)=q:=by simp [hq]
   refine df (fun a:Nat=>[(1, .one (.c (bB []))),(2, .one (.c (jb aggs))),(3, .one (.ptr 0 0)),(6, .one (.ptr 1 0)),(14, .one (.own [] 6)),(16, .one (.c (.lst (gX rows)))),(17, .one (.own (((aggs.take a).map fun z=>fZ z.1 z.2 rows).map cV) 7)),(68, .one (.c (.lst [[.lst (gX rows)]]))),(69, .one (.c (.int .i64 1))),(70, .one (.c (.int .i64 0))),(82, .one (.c (jb aggs))),(83, .one (.c (.int .i64 q))),(84, .one (.c (.int .i64 a)))]) (fun a=>[.box [.c (bB kk), .c (bM rows)], .box [.emp, .emp], .map (dQ [(⟨#[]⟩,0)]),gJ, .dead, .spare (m+1) 1, .spare 0 1, .spare a 3]) (fun a=>a<=q) (fun a=>q-a) 0 (by omega) (fun _ _=>abv _)
    (fm_ ⟨rfl,rfl,rfl,rfl,rfl,rfl,rfl,rfl,rfl,rfl,rfl,aT hqm,rfl,trivial⟩ [] rfl ⟨trivial,trivial,by show 0<8;omega,by show 1<8;omega,by show 6<8;omega,trivial,by show 7<8;omega,trivial,trivial,trivial,trivial,trivial,trivial,trivial⟩ ⟨a_,bL _,bN _ _,dn _,trivial,trivial,trivial,trivial,trivial⟩) ?_
   intro a ha
   by_cases hla:a<q
   ·obtain ⟨z,hz⟩:=gol_ (show a<aggs.length by omega)
    have hNa:decide ((a:Int)<q)=true:=by simp;exact hla
    have hzi:(aggs.map cA)[((a:Nat):Int).toNat]?=some [.int .i64 z.1, .int .i64 z.2]:=bg hz
    have hag:=EH z.1 z.2 rows (by omega) hr
    have hrow:((aggs.take (a+1)).map fun z=>fZ z.1 z.2 rows).map cV=((aggs.take a).map fun z=>fZ z.1 z.2 rows).map cV++[cV (fZ z.1 z.2 rows)]:=by rw [bS hz];simp
    have hrl:(((aggs.take a).map fun z=>fZ z.1 z.2 rows).map cV).length=a:=by simp;omega
    generalize ((aggs.take a).map fun z=>fZ z.1 z.2 rows).map cV=Row at hrow hrl
    repeat' (first
     | refine st_nil ?_
     | rw [hNa]
     | (refine ay rfl rfl rfl rfl ?_ ?_; · (repeat' (first|exact trivial|rfl|exact abj rfl|omega|(intro e he;simp at he;subst he;rfl)|exact hrl|(show (_+1)*32<=_;omega)|(show _+1<=_;omega)|apply And.intro)))
     | (refine aW rfl rfl rfl rfl rfl rfl rfl rfl hzi ?_ ?_; · exact ⟨by omega,rfl⟩)
     | (refine az rfl rfl rfl rfl ?_ ?_; · (repeat' (first|exact trivial|rfl|exact abj rfl|omega|(intro e he;simp at he;subst he;rfl)|exact hrl|(show (_+1)*32<=_;omega)|(show _+1<=_;omega)|apply And.intro)))
     | (refine sS_ rfl rfl rfl ?_ ?_; · (repeat' (first|exact trivial|rfl|exact abj rfl|omega|(intro e he;simp at he;subst he;rfl)|exact hrl|(show (_+1)*32<=_;omega)|(show _+1<=_;omega)|apply And.intro)))
     | (refine aC rfl rfl rfl rfl ?_ ?_; · (repeat' (first|exact trivial|rfl|exact abj rfl|omega|(intro e he;simp at he;subst he;rfl)|exact hrl|(show (_+1)*32<=_;omega)|(show _+1<=_;omega)|apply And.intro)))
     | refine aj rfl rfl rfl ?_
     | refine sk0_ rfl rfl ?_
     | refine aG rfl rfl rfl rfl hag rfl ?_
     | (refine aM rfl (fun hb=>?_) (fun hb=>?_)<;>(first|exact (fx_ hb).elim|rw [hb]))
     | refine aw_seq ?_
     | refine aw_region bq _ rfl ?_
     | refine aw_drawn2 aF _ rfl mixed (by decide +kernel) ?_
     | (refine ah rfl (fun hb=>?_) (fun hb=>?_)<;>(try exact (fx_ hb).elim))
     | refine aw_block ?_
     | refine aw_exit ?_
     | refine aw_ret ?_
     | refine aw_skip ?_)
    exact ⟨a+1,by omega,by omega,fm_ ⟨rfl,rfl,rfl,rfl,rfl,rfl,cB (by rw [hrow];rfl),rfl,rfl,rfl,rfl,rfl,aT (bu (by omega) (by omega)),trivial⟩ [_] rfl ⟨trivial,trivial,by show 0<8;omega,by show 1<8;omega,by show 6<8;omega,trivial,by show 7<8;omega,trivial,trivial,trivial,trivial,trivial,trivial,trivial⟩ ⟨a_,bL _,bN _ _,dn _,trivial,trivial,trivial,trivial,trivial⟩⟩
   ·have hNa:decide ((a:Int)<q)=false:=by simp;omega
    have hta:aggs.take a=aggs:=abP (by omega)
    rw [hta]
    repeat' (first
     | refine st_nil ?_
     | rw [hNa]
     | (refine ay rfl rfl rfl rfl ?_ ?_; · (repeat' (first|exact trivial|rfl|exact abj rfl|omega|(intro e he;simp at he;subst he;rfl)|decide|apply And.intro)))
     | (refine az rfl rfl rfl rfl ?_ ?_; · (repeat' (first|exact trivial|rfl|exact abj rfl|omega|(intro e he;simp at he;subst he;rfl)|decide|apply And.intro)))
     | (refine sS_ rfl rfl rfl ?_ ?_; · (repeat' (first|exact trivial|rfl|exact abj rfl|omega|(intro e he;simp at he;subst he;rfl)|decide|apply And.intro)))
     | (refine aC rfl rfl rfl rfl ?_ ?_; · (repeat' (first|exact trivial|rfl|exact abj rfl|omega|(intro e he;simp at he;subst he;rfl)|decide|apply And.intro)))
     | refine aj rfl rfl rfl ?_
     | refine sk0_ rfl rfl ?_
     | (refine aM rfl (fun hb=>?_) (fun hb=>?_)<;>(first|exact (fx_ hb).elim|rw [hb]))
     | refine aw_seq ?_
     | refine aw_region bq _ rfl ?_
     | refine aw_drawn2 aF _ rfl mixed (by decide +kernel) ?_
     | (refine ah rfl (fun hb=>?_) (fun hb=>?_)<;>(try exact (fx_ hb).elim))
     | refine aw_block ?_
     | refine aw_exit ?_
     | refine aw_ret ?_
     | refine aw_skip ?_)
    exact ⟨1,by omega,by omega,fm_ ⟨rfl,rfl,rfl,rfl,rfl,rfl,rfl,rfl,trivial⟩ [_] rfl ⟨trivial,trivial,by show 0<7;omega,by show 1<7;omega,by show 6<7;omega,trivial,trivial,trivial,trivial⟩ ⟨a_,bL _,bN _ _,dn _,trivial,trivial,trivial,trivial⟩⟩
  ·repeat' (first
    | refine st_nil ?_
    | refine ay rfl rfl rfl rfl ph_ ?_
    | refine az rfl rfl rfl rfl ph_ ?_
    | refine sS_ rfl rfl rfl ph_ ?_
    | refine aC rfl rfl rfl rfl ph_ ?_
    | refine aj rfl rfl rfl ?_
    | refine sk0_ rfl rfl ?_
    | refine aG rfl rfl rfl rfl hgr rfl ?_
    | refine aG rfl rfl rfl rfl hbag rfl ?_
    | (refine aM rfl (fun hb=>?_) (fun hb=>?_)<;>(first|exact (fx_ hb).elim|rw [hb]))
    | refine aw_seq ?_
    | refine aw_region bq _ rfl ?_
    | refine aw_drawn2 aF _ rfl mixed (by decide +kernel) ?_
    | (refine ah rfl (fun hb=>?_) (fun hb=>?_)<;>(try exact (fx_ hb).elim))
    | refine aw_block ?_
    | refine aw_exit ?_
    | refine aw_ret ?_
    | refine aw_skip ?_)
   exact aO (aR rfl ⟨abp 2,trivial⟩ rfl)
end Go.Proofs.YtfpbmfalamappaaGreatDoor
