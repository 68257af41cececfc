/- Parts of the proof, joined. No condition. -/
import Derived.Test.YtlcceppoloaecaaGreatDoorKAA
import Derived.Test.YtlcceppoloaecaaGreatDoorKBX
import Derived.Test.YtlcceppoloaecaaGreatDoorKBK
import Derived.Test.YtlcceppoloaecaaGreatDoorKBW
import Derived.Test.YtlcceppoloaecaaGreatDoorKCC
set_option linter.unusedSimpArgs false
set_option linter.unusedVariables false
namespace Go.Proofs.YtlcceppoloaecaaGreatDoor
open Go.RowKit Go.MapKept
set_option maxRecDepth 100000
set_option maxHeartbeats 4000000
def anL (f:FuncId):Bool:=Nat.beq f 52||Nat.beq f 54||Nat.beq f 92||Nat.beq f 145||Nat.beq f 18||Nat.beq f 62||an8 f
def apx:TI := { tab with owns:=anL,dyn:=true }
theorem bW:TIok Tryz.prog apx:=⟨tab_ok.size,tab_ok.agg,tab_ok.elem,tab_ok.field,tab_ok.zero,tab_ok.bytes,tab_ok.kind,tab_ok.struct,tab_ok.zok,tab_ok.eqs⟩
def an0:TI := { tab with owns:=anL,soft:=true }
theorem dJ:TIok Tryz.prog an0:=⟨tab_ok.size,tab_ok.agg,tab_ok.elem,tab_ok.field,tab_ok.zero,tab_ok.bytes,tab_ok.kind,tab_ok.struct,tab_ok.zok,tab_ok.eqs⟩
theorem akl {l r:List aC} (H:ya l=some r):Run Tryz.prog 92 [] [.one (.c (.lst (l.map aU)))] [.spare r.length 3] (.one (.own (r.map aU) 0)):=by
 unfold ya at H
 obtain ⟨r1,H1,H2⟩:=bd_ H
 obtain rfl:=aqw H2
 have hb:=ZA (F_a_f:=146) (caps_a_f:=[]) (fun x0 r h=>Wd h) H1
 refine bP bW Tryz.func92 rfl rfl Tryz.ntmps92 (by simp) ?_
 simp only [iH]
 repeat' (first
  | refine st_nil ?_
  | refine co_ rfl rfl rfl rfl ?_ hb
  | (refine aM rfl rfl rfl rfl ?_ ?_; · (repeat' (first|exact trivial|rfl|exact ap_ rfl|omega|exact aqa .. | (simp only [aqk,aqu];omega)|exact aF (by intro _;rfl) _|(intro e he;simp at he;subst he;rfl)|(intro e he;obtain ⟨q,_,rfl⟩:=aqz.1 he;rfl)|(simp only [aqa];omega)|(simp only [aqa,ap8,aqk,aqu];omega)|apply And.intro)))
  | (refine aN rfl rfl rfl rfl ?_ ?_; · (repeat' (first|exact trivial|rfl|exact ap_ rfl|omega|exact aqa .. | (simp only [aqk,aqu];omega)|exact aF (by intro _;rfl) _|(intro e he;simp at he;subst he;rfl)|(intro e he;obtain ⟨q,_,rfl⟩:=aqz.1 he;rfl)|(simp only [aqa];omega)|(simp only [aqa,ap8,aqk,aqu];omega)|apply And.intro)))
  | (refine sS_ rfl rfl rfl ?_ ?_; · (repeat' (first|exact trivial|rfl|exact ap_ rfl|omega|exact aqa .. | (simp only [aqk,aqu];omega)|exact aF (by intro _;rfl) _|(intro e he;simp at he;subst he;rfl)|(intro e he;obtain ⟨q,_,rfl⟩:=aqz.1 he;rfl)|(simp only [aqa];omega)|(simp only [aqa,ap8,aqk,aqu];omega)|apply And.intro)))
  | (refine aO rfl rfl rfl rfl ?_ ?_; · (repeat' (first|exact trivial|rfl|exact ap_ rfl|omega|exact aqa .. | (simp only [aqk,aqu];omega)|exact aF (by intro _;rfl) _|(intro e he;simp at he;subst he;rfl)|(intro e he;obtain ⟨q,_,rfl⟩:=aqz.1 he;rfl)|(simp only [aqa];omega)|(simp only [aqa,ap8,aqk,aqu];omega)|apply And.intro)))
  | refine aH rfl rfl rfl ?_
  | refine sk0_ rfl rfl ?_
  | (refine aV rfl (fun hb=>?_) (fun hb=>?_)<;>(first|exact (fx_ hb).elim|rw [hb]))
  | refine aw_seq ?_
  | refine aw_region bW _ rfl ?_
  | refine aw_drawn2 dJ _ rfl mixed (by decide +kernel) ?_
  | (refine aG rfl (fun hb=>?_) (fun hb=>?_)<;>(try exact (fx_ hb).elim))
  | refine aw_block ?_
  | refine aw_exit ?_
  | refine aw_ret ?_
  | refine aw_skip ?_)
 exact ⟨.inr rfl,⟨.inl ⟨_,rfl,rfl⟩,⟨[],rfl⟩,aqj _,jf rfl,lV rfl⟩⟩
theorem aj0 {k:List Int} {l r:List aC} (hk:k.length<=1000000) (H:ya l=some r):Run Tryz.prog 54 [.spare k.length 1] [.one (.own (k.map fun x=>[AC.int .i64 x]) 0), .one (.c (.lst (l.map aU)))] [.spare k.length 1, .box [.own (k.map fun x=>[AC.int .i64 x]) 2, .own (r.map aU) 3], .spare k.length 1, .spare r.length 3] (.agg [.own (k.map fun x=>[AC.int .i64 x]) 2, .own (r.map aU) 3]):=by
 have hb:=akl H
 refine EO bW Tryz.func54 rfl rfl Tryz.ntmps54 (by simp) ?_
 simp only [iH]
 repeat' (first
  | refine st_nil ?_
  | refine co_ rfl rfl rfl rfl ?_ hb
  | (refine aM rfl rfl rfl rfl ?_ ?_; · (repeat' (first|exact trivial|rfl|exact ap_ rfl|omega|exact aqa .. | (simp only [aqk,aqu];omega)|exact aF (by intro _;rfl) _|(intro e he;simp at he;subst he;rfl)|(intro e he;obtain ⟨q,_,rfl⟩:=aqz.1 he;rfl)|(simp only [aqa];omega)|(simp only [aqa,ap8,aqk,aqu];omega)|apply And.intro)))
  | (refine aN rfl rfl rfl rfl ?_ ?_; · (repeat' (first|exact trivial|rfl|exact ap_ rfl|omega|exact aqa .. | (simp only [aqk,aqu];omega)|exact aF (by intro _;rfl) _|(intro e he;simp at he;subst he;rfl)|(intro e he;obtain ⟨q,_,rfl⟩:=aqz.1 he;rfl)|(simp only [aqa];omega)|(simp only [aqa,ap8,aqk,aqu];omega)|apply And.intro)))
  | (refine sS_ rfl rfl rfl ?_ ?_; · (repeat' (first|exact trivial|rfl|exact ap_ rfl|omega|exact aqa .. | (simp only [aqk,aqu];omega)|exact aF (by intro _;rfl) _|(intro e he;simp at he;subst he;rfl)|(intro e he;obtain ⟨q,_,rfl⟩:=aqz.1 he;rfl)|(simp only [aqa];omega)|(simp only [aqa,ap8,aqk,aqu];omega)|apply And.intro)))
  | (refine aO rfl rfl rfl rfl ?_ ?_; · (repeat' (first|exact trivial|rfl|exact ap_ rfl|omega|exact aqa .. | (simp only [aqk,aqu];omega)|exact aF (by intro _;rfl) _|(intro e he;simp at he;subst he;rfl)|(intro e he;obtain ⟨q,_,rfl⟩:=aqz.1 he;rfl)|(simp only [aqa];omega)|(simp only [aqa,ap8,aqk,aqu];omega)|apply And.intro)))
  | refine aH rfl rfl rfl ?_
  | refine sk0_ rfl rfl ?_
  | (refine aV rfl (fun hb=>?_) (fun hb=>?_)<;>(first|exact (fx_ hb).elim|rw [hb]))
  | refine aw_seq ?_
  | refine aw_region bW _ rfl ?_
  | refine aw_drawn2 dJ _ rfl mixed (by decide +kernel) ?_
  | (refine aG rfl (fun hb=>?_) (fun hb=>?_)<;>(try exact (fx_ hb).elim))
  | refine aw_block ?_
  | refine aw_exit ?_
  | refine aw_ret ?_
  | refine aw_skip ?_)
 exact ⟨.inr rfl,⟨.inr ⟨4,_,1,0,_,rfl,rfl,rfl,by repeat' (first|exact trivial|rfl|exact ap_ rfl|omega|apply And.intro)⟩,⟨[],by rw [aqa];rfl⟩,by show 1<=4;omega,jf rfl,lV rfl⟩⟩
def OJ:Nat->List aC->Ob
 | 0,_ => .dead
 | 1,_ => .dead
 | 2,_ => .dead
 | 3,_ => .box [.emp, .emp]
 | 4,l => .box [.own (l.map aU) 5]
 | 5,l => .spare l.length 3
 | _,_ => .spare 0 1
def JL (es:List (List AC)) (n:Nat):List Ob:=[.dead, .dead, .dead, .box [.emp, .emp], .box [.own es 5], .spare n 3, .spare 0 1, .spare 0 1, .spare 0 1, .spare 0 1, .spare 0 1, .spare 0 1, .spare 0 1, .spare 0 1, .spare 0 1, .spare 0 1, .spare 0 1]
theorem Hl (l:List aC) : ∀ i,i<17->(OJ i l).below 17
 | 0,_=>trivial
 | 1,_=>trivial
 | 2,_=>trivial
 | 3,_=>(by intro x hx;simp at hx;subst hx;trivial)
 | 4,_=>(by intro x hx;simp at hx;subst hx;show 5<17;omega)
 | 5,_=>trivial
 | i+6,_=>trivial
theorem afu (l:List aC) (i:Nat) (row:List Val) (p:aP) (hl:l.length<=1000000):Run Tryz.prog 53 (K7 OJ l) [.one (.c (.int .i64 (i:Int))), .one (.c (.lst (row.map cV))), .agg ((bv p).map SV.c), .one (.ptr 4 0)] (K7 OJ (l++[⟨row,p⟩])) (.tup []):=by
 have e1:(l++[(⟨row,p⟩:aC)]).map aU=l.map aU++[aU ⟨row,p⟩]:=aqb
 have e2:(l++[(⟨row,p⟩:aC)]).length=l.length+1:=by simp
 refine bP bW Tryz.func53 rfl rfl Tryz.ntmps53 (by simp) ?_
 simp only [iH]
 unfold K7
 repeat' (first
  | refine st_nil ?_
  | (refine aM rfl rfl rfl rfl ?_ ?_; · (repeat' (first|exact trivial|rfl|exact ap_ rfl|omega|exact aqa .. | (simp only [aqk,aqu];omega)|exact aF (by intro _;rfl) _|(intro e he;simp at he;subst he;rfl)|(intro e he;obtain ⟨q,_,rfl⟩:=aqz.1 he;rfl)|(simp only [aqa];omega)|(simp only [aqa,ap8,aqk,aqu];omega)|apply And.intro)))
  | (refine aN rfl rfl rfl rfl ?_ ?_; · (repeat' (first|exact trivial|rfl|exact ap_ rfl|omega|exact aqa .. | (simp only [aqk,aqu];omega)|exact aF (by intro _;rfl) _|(intro e he;simp at he;subst he;rfl)|(intro e he;obtain ⟨q,_,rfl⟩:=aqz.1 he;rfl)|(simp only [aqa];omega)|(simp only [aqa,ap8,aqk,aqu];omega)|apply And.intro)))
  | (refine sS_ rfl rfl rfl ?_ ?_; · (repeat' (first|exact trivial|rfl|exact ap_ rfl|omega|exact aqa .. | (simp only [aqk,aqu];omega)|exact aF (by intro _;rfl) _|(intro e he;simp at he;subst he;rfl)|(intro e he;obtain ⟨q,_,rfl⟩:=aqz.1 he;rfl)|(simp only [aqa];omega)|(simp only [aqa,ap8,aqk,aqu];omega)|apply And.intro)))
  | (refine aO rfl rfl rfl rfl ?_ ?_; · (repeat' (first|exact trivial|rfl|exact ap_ rfl|omega|exact aqa .. | (simp only [aqk,aqu];omega)|exact aF (by intro _;rfl) _|(intro e he;simp at he;subst he;rfl)|(intro e he;obtain ⟨q,_,rfl⟩:=aqz.1 he;rfl)|(simp only [aqa];omega)|(simp only [aqa,ap8,aqk,aqu];omega)|apply And.intro)))
  | refine aH rfl rfl rfl ?_
  | refine sk0_ rfl rfl ?_
  | (refine aV rfl (fun hb=>?_) (fun hb=>?_)<;>(first|exact (fx_ hb).elim|rw [hb]))
  | refine aw_seq ?_
  | refine aw_region bW _ rfl ?_
  | refine aw_drawn2 dJ _ rfl mixed (by decide +kernel) ?_
  | (refine aG rfl (fun hb=>?_) (fun hb=>?_)<;>(try exact (fx_ hb).elim))
  | refine aw_block ?_
  | refine aw_exit ?_
  | refine aw_ret ?_
  | refine aw_skip ?_)
 exact ⟨.inl rfl,⟨.inr ⟨.tup [],⟨trivial,rfl⟩,rfl⟩,⟨[_],by show _=JL ((l++[(⟨row,p⟩:aC)]).map aU) (l++[(⟨row,p⟩:aC)]).length++[_];rw [e1,e2];rfl⟩,aqe _,fun x hx=>jB (Hl _) x hx,trivial⟩⟩
def apy (ks fs gs:List (List AC)) (n m q:Nat):List Ob:=[.dead, .dead, .dead, .box [.own ks 19, .own fs 20], .dead, .spare q 3, .spare 0 1, .spare 0 1, .spare 0 1, .spare 0 1, .spare 0 1, .spare 0 1, .spare 0 1, .spare 0 1, .spare 0 1, .spare 0 1, .spare 0 1, .spare n 1, .box [.own ks 19, .own fs 20], .spare n 1, .spare m 3]
theorem Yd (a b:bH) (e:Ex) (ha:a.facts.length<=1000) (hb:b.facts.length<=1000) (hra : ∀ f∈a.facts,0<f.row.length/\f.row.length<=1000) (hrb : ∀ f∈b.facts,f.row.length<=1000) (he:lF fuel e) (hka:a.kinds.length<=1000) (hkb:b.kinds.length<=1000) {r:List aC} (H:ya (Ce e a.facts b.facts)=some r) :
  ∃ gs q,Run Tryz.prog 18 [] [.agg ((bD a).map SV.c), .agg ((bD b).map SV.c), .agg ((tE e).map SV.c)] (apy ((a.kinds++b.kinds).map fun x=>[AC.int .i64 x]) (r.map aU) gs (a.kinds++b.kinds).length r.length q) (.agg [.own ((a.kinds++b.kinds).map fun x=>[AC.int .i64 x]) 19, .own (r.map aU) 20]):=by
 have heach:=YE (fun i l=>OJ i l) 53 adL (fun n l=>l.length<=n) a b e (fun l=>Hl l) (fun n l i row p hl hn _=>⟨afu l i row p (by omega),by unfold adL;simp;omega⟩) (fun n l h=>by omega) ha hb hra hrb he [] (by simp)
 rw [aiy,aL e] at heach
 have hrel:=aj0 (k:=a.kinds++b.kinds) (by rw [ap8];omega) H
 have hkl:(a.kinds++b.kinds).length=(a.kinds.map fun x=>[AC.int .i64 x]).length+(b.kinds.map fun x=>[AC.int .i64 x]).length:=by simp
 have hkm:(a.kinds++b.kinds).map (fun x=>[AC.int .i64 x])=a.kinds.map (fun x=>[AC.int .i64 x])++b.kinds.map (fun x=>[AC.int .i64 x]):=aqb
 rw [hkl,hkm] at hrel ⊢
 generalize Ce e a.facts b.facts=jl at heach hrel
 refine ⟨jl.map aU,jl.length,?_⟩
 rw [aL e]
 refine EO bW Tryz.func18 rfl rfl Tryz.ntmps18 (by simp) ?_
 simp only [iH,bD,ap',aqd]
 repeat' (first
  | refine st_nil ?_
  | (refine bu 0 (ts:=bD a) rfl rfl ?_)
  | (refine bu 1 (ts:=bD b) rfl rfl ?_)
  | (refine bu 2 (ts:=xE e) rfl rfl ?_)
  | (refine S9 4 0 3 rfl rfl ?_;refine Jc 1 11 _ ?_)
  | (refine dS rfl rfl rfl rfl rfl (yg (caps:=[.ptr 4 0]) rfl) ?_)
  | (refine Jy 17 (K7 (fun i l=>OJ i l) []) (K7 (fun i l=>OJ i l) jl) [] rfl rfl rfl rfl rfl heach rfl rfl (jB (Hl _)) (jB (Hl _)) (dE ⟨(fun z hz=>by obtain ⟨w,_,rfl⟩:=aqz.1 (show z∈(bD a).map SV.c from hz);trivial),(fun z hz=>by obtain ⟨w,_,rfl⟩:=aqz.1 (show z∈(bD b).map SV.c from hz);trivial),(fun z hz=>by obtain ⟨w,_,rfl⟩:=aqz.1 (show z∈(xE e).map SV.c from hz);trivial),(by intro x hx;simp at hx;subst hx;show 4<17;omega),trivial⟩) ?_)
  | (refine bu 4 (ts:=[.lst (jl.map aU)]) rfl rfl ?_)
  | (refine eP [17] rfl rfl rfl rfl hrel rfl ⟨rfl,by simp,fun i x hx=>by (match i,hx with|0,hx=>obtain rfl:=aqw hx;rfl|i+1,hx=>simp at hx),bT ⟨trivial,trivial⟩,dE ⟨(by show 0<1;omega),trivial,trivial⟩⟩ rfl rfl ?_)
  | (refine aM rfl rfl rfl rfl ?_ ?_; · (repeat' (first|exact trivial|rfl|exact ap_ rfl|omega|exact aqa .. | (simp only [aqk,aqu];omega)|exact aF (by intro _;rfl) _|(intro e he;simp at he;subst he;rfl)|(intro e he;obtain ⟨q,_,rfl⟩:=aqz.1 he;rfl)|(simp only [aqa];omega)|(simp only [aqa,ap8,aqk,aqu];omega)|apply And.intro)))
  | (refine aN rfl rfl rfl rfl ?_ ?_; · (repeat' (first|exact trivial|rfl|exact ap_ rfl|omega|exact aqa .. | (simp only [aqk,aqu];omega)|exact aF (by intro _;rfl) _|(intro e he;simp at he;subst he;rfl)|(intro e he;obtain ⟨q,_,rfl⟩:=aqz.1 he;rfl)|(simp only [aqa];omega)|(simp only [aqa,ap8,aqk,aqu];omega)|apply And.intro)))
  | (refine sS_ rfl rfl rfl ?_ ?_; · (repeat' (first|exact trivial|rfl|exact ap_ rfl|omega|exact aqa .. | (simp only [aqk,aqu];omega)|exact aF (by intro _;rfl) _|(intro e he;simp at he;subst he;rfl)|(intro e he;obtain ⟨q,_,rfl⟩:=aqz.1 he;rfl)|(simp only [aqa];omega)|(simp only [aqa,ap8,aqk,aqu];omega)|apply And.intro)))
  | (refine aO rfl rfl rfl rfl ?_ ?_; · (repeat' (first|exact trivial|rfl|exact ap_ rfl|omega|exact aqa .. | (simp only [aqk,aqu];omega)|exact aF (by intro _;rfl) _|(intro e he;simp at he;subst he;rfl)|(intro e he;obtain ⟨q,_,rfl⟩:=aqz.1 he;rfl)|(simp only [aqa];omega)|(simp only [aqa,ap8,aqk,aqu];omega)|apply And.intro)))
  | refine aH rfl rfl rfl ?_
  | refine sk0_ rfl rfl ?_
  | (refine aV rfl (fun hb=>?_) (fun hb=>?_)<;>(first|exact (fx_ hb).elim|rw [hb]))
  | refine aw_seq ?_
  | refine aw_region bW _ rfl ?_
  | refine aw_drawn2 dJ _ rfl mixed (by decide +kernel) ?_
  | (refine aG rfl (fun hb=>?_) (fun hb=>?_)<;>(try exact (fx_ hb).elim))
  | refine aw_block ?_
  | refine aw_exit ?_
  | refine aw_ret ?_
  | refine aw_skip ?_)
 exact ⟨.inr rfl,⟨.inr ⟨6,_,3,0,_,rfl,rfl,rfl,by repeat' (first|exact trivial|rfl|exact ap_ rfl|omega|apply And.intro)⟩,⟨[],rfl⟩,aqj _,jf rfl,lV rfl⟩⟩
end Go.Proofs.YtlcceppoloaecaaGreatDoor
