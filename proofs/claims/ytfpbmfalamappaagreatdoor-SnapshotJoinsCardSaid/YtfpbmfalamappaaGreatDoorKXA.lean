/- Parts of the proof, joined. No condition. -/
import Derived.Test.YtfpbmfalamappaaGreatDoorKAA
import Derived.Test.YtfpbmfalamappaaGreatDoorKBC
import Derived.Shelf.Spec.SlicesGrow
import Derived.Shelf.SlGeneric
import Derived.Test.YtfpbmfalamappaaGreatDoorProg
import Derived.Test.YtfpbmfalamappaaGreatDoorKAJ
import Derived.Test.YtfpbmfalamappaaGreatDoorKAI
import Derived.Test.YtfpbmfalamappaaGreatDoorKAS
import Derived.Test.YtfpbmfalamappaaGreatDoorKAW
import Derived.Test.YtfpbmfalamappaaGreatDoorKAT
import Derived.Test.YtfpbmfalamappaaGreatDoorKAU
import Derived.Test.YtfpbmfalamappaaGreatDoorKAR
import Derived.Test.YtfpbmfalamappaaGreatDoorKBE
set_option linter.unusedSimpArgs false
set_option linter.unusedVariables false
namespace Go.Proofs
open Go.Shelf
def Tryz.growV_ren:Go.Shelf.Ren:=⟨fun|4=>166|n=>n,fun|22=>49|25=>25|3=>3|4=>4|9=>9|20=>20|0=>0|n=>n,fun|n=>n⟩
theorem Tryz.growV:Go.Proofs.Lays8.n4 Tryz.prog Tryz.growV_ren := {
 mixed:=by kernel_rfl
 f4:=⟨Tryz.f166.name,by decide,Tryz.func166.trans (congrArg some (by kernel_rfl))⟩
 t0:=Tryz.underlying0
 a0:=Tryz.isAgg0
 z0:=Tryz.sizeOf0
 v0:=Tryz.zeroValue0
 t3:=Tryz.underlying3
 a3:=Tryz.isAgg3
 z3:=Tryz.sizeOf3
 v3:=Tryz.zeroValue3
 t4:=Tryz.underlying4
 a4:=Tryz.isAgg4
 z4:=Tryz.sizeOf4
 v4:=Tryz.zeroValue4
 t9:=Tryz.underlying9
 a9:=Tryz.isAgg9
 z9:=Tryz.sizeOf9
 v9:=Tryz.zeroValue9
 t20:=Tryz.underlying20
 a20:=Tryz.isAgg20
 z20:=Tryz.sizeOf20
 v20:=Tryz.zeroValue20
 t22:=Tryz.underlying49
 a22:=Tryz.isAgg49
 z22:=Tryz.sizeOf49
 v22:=Tryz.zeroValue49 }
end Go.Proofs
namespace Go.Proofs.YtfpbmfalamappaaGreatDoor
open Go.RowKit Go.MapKept
set_option maxRecDepth 100000
theorem Ue (n:Nat) (h0:0<n) (hn:n<=1000000000):Run Tryz.prog 166 [] [.one .emp, .one (.c (.int .i64 n))] [.row (25+65536) [] 3] (.one (.sl 0 (25+65536) 0 0)):=by
 refine ⟨⟨_,Tryz.func166,by kernel_rfl,by kernel_rfl⟩,fun B R γ w vs hi hs hv=>?_⟩
 obtain ⟨v1,v2,rfl⟩ : ∃ a b,vs = #[a,b]:=by
  match vs,hs with
  | ⟨[a,b]⟩,_=>exact ⟨a,b,rfl⟩
 obtain ⟨a,rfl⟩:=hv 0 v1 _ rfl rfl
 have h2:bU R v2 (.int .i64 n):=hv 1 v2 _ rfl rfl
 cases h2
 obtain ⟨inf,z,hinf,hzz,hisz,hzc⟩:=au.zok 25 rfl 3 (au.size _ _ rfl)
 have hbytes:inf.bytes=32:=by have hby:=au.bytes 25 32 rfl;unfold nY at hby;rw [hinf] at hby;simpa using hby
 have hgr:=Any8.slices_Grow_grow Tryz.growV inf z hinf hzz (by rw [hisz];decide) a 0 0 n [] w (abp _) (by omega) (by rw [hbytes];omega) (by omega) (by simp) (fun _=>rfl) (fun _ _ j v h=>by simp at h)
 refine (show Calls Tryz.prog 166 #[.slice a 0 0, .int .i64 n] w _ from hgr).mono ?_
 rintro e w' ⟨rfl,rfl⟩
 have hcap:=grownCap_ge w (0+n) 0 25
 have hE:(Tryz.growV_ren.t 25)=25:=rfl
 rw [hE]
 generalize grownCap w (0+n) 0 25=cap at hcap
 have hγ:γ=[]:=abA (by rw [hi.len];rfl)
 subst hγ
 have hm:Mv R R ([]:List Gh) ([]++[.arr w.heap.size cap]) [] ([]++[.row (25+65536) [] 3]):=Mv.push _ _ hi.len
 have hIp:Inv B R ([]++[.arr w.heap.size cap]) ([]++[.row (25+65536) [] 3]) (w.alloc (.cells (([]:List Value).toArray++Builtin.zeroCells z.cells (0+n-0)++Builtin.zeroCells z.cells (cap-(0+n))) 25)):=by
  refine hi.push _ _ _ rfl ⟨⟨_,25,⟨fo w _,by show (25:Nat)=(25+65536)%65536;omega,by show 65536<=(25:Nat)+65536;omega⟩,?_,fun i e j u x he hu hx=>by simp at he⟩,abv _,by decide,(fun e he=>by cases he),fun o=>hi.none_at o⟩
  rw [Array.size_append,Array.size_append,size_zeroCells,size_zeroCells,hzc]
  simp only [List.size_toArray,abF]
  rw [abR, <- Nat.add_mul];congr 1;omega
 refine ⟨_,R,_,rfl,⟨hIp.len,fun b o u h=>hIp.val b o u h,fun i x g h1 h2=>(hIp.obj i x g h1 h2).mv Mv.refl (fun _ _=>rfl) (fun _ _ _ h=>h),hIp.inj,hIp.new,hIp.bsz⟩,⟨⟨rfl,rfl,rfl,by show w.heap.size<=(w.heap.push _).size;simp,fun b hb=>g_ w.drew _ (hi.bsz b hb)⟩,PH.sub_refl _,fun _ _ _=>rfl⟩,hm,⟨rfl,rfl⟩,by simp,fun ver2 es2 k2 e2=>?_⟩
 simp at e2
 obtain ⟨q1,q2,q3⟩:=e2
 subst q1 q2 q3
 exact ⟨abp _,fun _=>⟨by simp, .arr w.heap.size cap,rfl, .inl (by simp)⟩⟩
set_option maxHeartbeats 8000000
def YP:TI := { tab with owns:=fun f=>f==166||tab.owns f }
theorem jg:TIok Tryz.prog YP:=⟨tab_ok.size,tab_ok.agg,tab_ok.elem,tab_ok.field,tab_ok.zero,tab_ok.bytes,tab_ok.kind,tab_ok.struct,tab_ok.zok,tab_ok.eqs⟩
def Jp (a b:List Val):Nat->Nat
 | 0=>0
 | 1=>a.length
 | _=>a.length+b.length
def Tw (a b:List Val):Nat->List Val
 | 0=>[]
 | 1=>a
 | _=>a++b
theorem NM (l:List Val) : ∀ e∈l.map cV,e.length=3:=by intro e he;obtain ⟨x,_,rfl⟩:=abK.1 he;rfl
theorem KQ {id v w n m:Nat} (h:n=m) (hv:v=w):some (AV.one (.sl id v 0 n))=some (AV.one (.sl id w 0 m)):=by subst h hv;rfl
theorem OB {v w k:Nat} {a b:List (List SV)} (h:a=b) (hv:v=w):[Ob.row v a k]=[Ob.row w b k]:=by rw [h,hv]
theorem NL (a b:List Val) (h0:0<a.length+b.length) (h1:a.length+b.length<=1000000):Pure Tryz.prog 121 [.one (.lst [[bO a],[bO b]])] (.val (.one (bO (a++b)))):=by
 refine pa_ jg Tryz.func121 rfl rfl Tryz.ntmps121 (by simp) ?_
 simp only [argT,PV.av,abk,abo]
 have ha:(((a.map cV).length:Nat):Int)=a.length:=by simp
 have hb:(((b.map cV).length:Nat):Int)=b.length:=by simp
 have w1:IntKind.i64.wrap (((Jp a b 0:Nat):Int)+((a.map cV).length:Nat))=((Jp a b 1:Nat):Int):=by rw [ha];exact bu (by simp [Jp]) (by simp only [Jp];omega)
 have w2:IntKind.i64.wrap (((Jp a b 1:Nat):Int)+((b.map cV).length:Nat))=((Jp a b 2:Nat):Int):=by rw [hb];exact bu (by simp [Jp]) (by simp only [Jp];omega)
 have n1:decide (((Jp a b 1:Nat):Int)<0)=false:=aba (by omega)
 have n2:decide (((Jp a b 2:Nat):Int)<0)=false:=aba (by omega)
 repeat' (first
  | refine st_nil ?_
  | refine ay rfl rfl rfl rfl ph_ ?_
  | refine az rfl rfl rfl rfl ph_ ?_
  | refine sS_ rfl rfl rfl ph_ ?_
  | refine aC rfl rfl rfl rfl ph_ ?_
  | refine aj rfl rfl rfl ?_
  | refine sk0_ rfl rfl ?_
  | (refine aM rfl (fun hb=>?_) (fun hb=>?_)<;>(first|exact (fx_ hb).elim|rw [hb]))
  | refine aw_seq ?_
  | refine aw_region jg _ rfl ?_
  | refine aw_drawn2 tabS_ok _ rfl mixed (by decide +kernel) ?_
  | (refine ah rfl (fun hb=>?_) (fun hb=>?_)<;>(try exact (fx_ hb).elim))
  | refine aw_block ?_
  | refine aw_exit ?_
  | refine aw_ret ?_
  | refine aw_skip ?_)
 refine df (fun i:Nat=>[(0, .one (.c (.lst [[bO a],[bO b]]))),(3, .one (.c (.int .i64 (Jp a b i)))),(9, .one (.c (.lst [[bO a],[bO b]]))),(10, .one (.c (.int .i64 2))),(11, .one (.c (.int .i64 i)))]) (fun _=>[]) (fun i=>i<=2) (fun i=>2-i) 0 (by omega) (fun _ _=>abv _)
  (fm_ ⟨rfl,rfl,rfl,rfl,rfl,trivial⟩ [] rfl (by repeat' (first|exact trivial|apply And.intro)) (by repeat' (first|exact trivial|apply And.intro))) ?_
 intro i hi
 match i,hi with
 | 0,_ =>
  repeat' (first
   | refine st_nil ?_
   | rw [w1]
   | rw [n1]
   | refine ay rfl rfl rfl rfl ph_ ?_
   | refine az rfl rfl rfl rfl ph_ ?_
   | refine sS_ rfl rfl rfl ph_ ?_
   | refine aC rfl rfl rfl rfl ph_ ?_
   | refine aj rfl rfl rfl ?_
   | refine sk0_ rfl rfl ?_
   | (refine aM rfl (fun hb=>?_) (fun hb=>?_)<;>(first|exact (fx_ hb).elim|rw [hb]))
   | refine aw_seq ?_
   | refine aw_region jg _ rfl ?_
   | refine aw_drawn2 tabS_ok _ rfl mixed (by decide +kernel) ?_
   | (refine ah rfl (fun hb=>?_) (fun hb=>?_)<;>(try exact (fx_ hb).elim))
   | refine aw_block ?_
   | refine aw_exit ?_
   | refine aw_ret ?_
   | refine aw_skip ?_)
  exact ⟨1,by omega,by omega,fm_ ⟨rfl,rfl,rfl,rfl,rfl,trivial⟩ [] rfl (by repeat' (first|exact trivial|apply And.intro)) (by repeat' (first|exact trivial|apply And.intro))⟩
 | 1,_ =>
  repeat' (first
   | refine st_nil ?_
   | rw [w2]
   | rw [n2]
   | refine ay rfl rfl rfl rfl ph_ ?_
   | refine az rfl rfl rfl rfl ph_ ?_
   | refine sS_ rfl rfl rfl ph_ ?_
   | refine aC rfl rfl rfl rfl ph_ ?_
   | refine aj rfl rfl rfl ?_
   | refine sk0_ rfl rfl ?_
   | (refine aM rfl (fun hb=>?_) (fun hb=>?_)<;>(first|exact (fx_ hb).elim|rw [hb]))
   | refine aw_seq ?_
   | refine aw_region jg _ rfl ?_
   | refine aw_drawn2 tabS_ok _ rfl mixed (by decide +kernel) ?_
   | (refine ah rfl (fun hb=>?_) (fun hb=>?_)<;>(try exact (fx_ hb).elim))
   | refine aw_block ?_
   | refine aw_exit ?_
   | refine aw_ret ?_
   | refine aw_skip ?_)
  exact ⟨2,by omega,by omega,fm_ ⟨rfl,rfl,rfl,rfl,rfl,trivial⟩ [] rfl (by repeat' (first|exact trivial|apply And.intro)) (by repeat' (first|exact trivial|apply And.intro))⟩
 | 2,_ =>
  have hg:=Ue (a.length+b.length) h0 (by omega)
  repeat' (first
   | refine st_nil ?_
   | refine ay rfl rfl rfl rfl ph_ ?_
   | refine az rfl rfl rfl rfl ph_ ?_
   | refine sS_ rfl rfl rfl ph_ ?_
   | refine aC rfl rfl rfl rfl ph_ ?_
   | refine aj rfl rfl rfl ?_
   | refine sk0_ rfl rfl ?_
   | (refine dF [] (r' := .one (.sl 0 (25+65536) 0 0)) (L':=[.row (25+65536) [] 3]) rfl rfl rfl rfl hg rfl ⟨rfl,by simp,fun i x hx=>by simp at hx,fun x hx=>by simp at hx,kU ⟨trivial,trivial,trivial⟩⟩ rfl rfl ?_)
   | (refine aM rfl (fun hb=>?_) (fun hb=>?_)<;>(first|exact (fx_ hb).elim|rw [hb]))
   | refine aw_seq ?_
   | refine aw_region jg _ rfl ?_
   | refine aw_drawn2 tabS_ok _ rfl mixed (by decide +kernel) ?_
   | (refine ah rfl (fun hb=>?_) (fun hb=>?_)<;>(try exact (fx_ hb).elim))
   | refine aw_block ?_
   | refine aw_exit ?_
   | refine aw_ret ?_
   | refine aw_skip ?_)
  refine df (fun i:Nat=>[(6, .one (.sl 0 (25+65536+65536*i) 0 (Jp a b i))),(25, .one (.c (.lst [[bO a],[bO b]]))),(26, .one (.c (.int .i64 2))),(27, .one (.c (.int .i64 i)))]) (fun i=>[.row (25+65536+65536*i) (((Tw a b i).map cV).map (List.map SV.c)) 3]) (fun i=>i<=2) (fun i=>2-i) 0 (by omega) (fun _ _=>abv _)
   (fm_ ⟨KQ rfl (by omega),rfl,rfl,rfl,trivial⟩ [] (OB rfl (by omega)) ⟨Nat.zero_lt_one,trivial,trivial,trivial,trivial⟩ ⟨lg _ _ _ _ _,trivial⟩) ?_
  intro i hi
  match i,hi with
  | 0,_ =>
   repeat' (first
    | refine st_nil ?_
    | (refine cZ rfl rfl rfl rfl rfl (lI jg (k:=3) (by_:=32) (xs:=(a.map cV).map (List.map SV.c)) rfl rfl rfl rfl ⟨rfl,_,rfl,NM _⟩ rfl (by omega) rfl rfl rfl (by decide) (by simp [Tw,Jp]) (by rw [abl,abl];simp only [Jp];omega) (by rw [abl,abl];simp only [Jp];omega)) ?_)
    | refine ay rfl rfl rfl rfl ph_ ?_
    | refine az rfl rfl rfl rfl ph_ ?_
    | refine sS_ rfl rfl rfl ph_ ?_
    | refine aC rfl rfl rfl rfl ph_ ?_
    | refine aj rfl rfl rfl ?_
    | refine sk0_ rfl rfl ?_
    | (refine aM rfl (fun hb=>?_) (fun hb=>?_)<;>(first|exact (fx_ hb).elim|rw [hb]))
    | refine aw_seq ?_
    | refine aw_region jg _ rfl ?_
    | refine aw_drawn2 tabS_ok _ rfl mixed (by decide +kernel) ?_
    | (refine ah rfl (fun hb=>?_) (fun hb=>?_)<;>(try exact (fx_ hb).elim))
    | refine aw_block ?_
    | refine aw_exit ?_
    | refine aw_ret ?_
    | refine aw_skip ?_)
   exact ⟨1,by omega,by omega,fm_ ⟨KQ (by simp [Jp]) (by omega),rfl,rfl,rfl,trivial⟩ [] (OB (by simp [Tw]) (by omega)) ⟨Nat.zero_lt_one,trivial,trivial,trivial,trivial⟩ ⟨lg _ _ _ _ _,trivial⟩⟩
  | 1,_ =>
   repeat' (first
    | refine st_nil ?_
    | (refine cZ rfl rfl rfl rfl rfl (lI jg (k:=3) (by_:=32) (xs:=(b.map cV).map (List.map SV.c)) rfl rfl rfl rfl ⟨rfl,_,rfl,NM _⟩ rfl (by omega) rfl rfl rfl (by decide) (by simp [Tw,Jp]) (by rw [abl,abl];simp only [Jp];omega) (by rw [abl,abl];simp only [Jp];omega)) ?_)
    | refine ay rfl rfl rfl rfl ph_ ?_
    | refine az rfl rfl rfl rfl ph_ ?_
    | refine sS_ rfl rfl rfl ph_ ?_
    | refine aC rfl rfl rfl rfl ph_ ?_
    | refine aj rfl rfl rfl ?_
    | refine sk0_ rfl rfl ?_
    | (refine aM rfl (fun hb=>?_) (fun hb=>?_)<;>(first|exact (fx_ hb).elim|rw [hb]))
    | refine aw_seq ?_
    | refine aw_region jg _ rfl ?_
    | refine aw_drawn2 tabS_ok _ rfl mixed (by decide +kernel) ?_
    | (refine ah rfl (fun hb=>?_) (fun hb=>?_)<;>(try exact (fx_ hb).elim))
    | refine aw_block ?_
    | refine aw_exit ?_
    | refine aw_ret ?_
    | refine aw_skip ?_)
   exact ⟨2,by omega,by omega,fm_ ⟨KQ (by simp [Jp]) (by omega),rfl,rfl,rfl,trivial⟩ [] (OB (by simp [Tw]) (by omega)) ⟨Nat.zero_lt_one,trivial,trivial,trivial,trivial⟩ ⟨lg _ _ _ _ _,trivial⟩⟩
  | 2,_ =>
   refine jy 0 6 (cs:=(a++b).map cV) rfl (w_ _) rfl (by rw [abl,abg];rfl) ?_
   repeat' (first
    | refine st_nil ?_
    | refine ay rfl rfl rfl rfl ph_ ?_
    | refine az rfl rfl rfl rfl ph_ ?_
    | refine sS_ rfl rfl rfl ph_ ?_
    | refine aC rfl rfl rfl rfl ph_ ?_
    | refine aj rfl rfl rfl ?_
    | refine sk0_ rfl rfl ?_
    | (refine aM rfl (fun hb=>?_) (fun hb=>?_)<;>(first|exact (fx_ hb).elim|rw [hb]))
    | refine aw_seq ?_
    | refine aw_region jg _ rfl ?_
    | refine aw_drawn2 tabS_ok _ rfl mixed (by decide +kernel) ?_
    | (refine ah rfl (fun hb=>?_) (fun hb=>?_)<;>(try exact (fx_ hb).elim))
    | refine aw_block ?_
    | refine aw_exit ?_
    | refine aw_ret ?_
    | refine aw_skip ?_)
   exact aO (aR rfl (by trivial) rfl)
def OO (a b:List Val):Bool:=decide (0<a.length+b.length)&&decide (a.length+b.length<=1000000)
def qP (a b:List Val):Option (List Val):=bif OO a b then some (a++b) else none
theorem De {a b r:List Val} (H:qP a b=some r):Pure Tryz.prog 75 [.one (.lst (a.map cV)), .one (.lst (b.map cV))] (.val (.one (.lst (r.map cV)))):=by
 unfold qP at H
 obtain ⟨g,H⟩:=nP H
 obtain rfl:=abH H
 unfold OO at g
 rw [abr] at g
 have hc:=NL a b (abD g.1) (abD g.2)
 refine po_ Tryz.func75 Tryz.ntmps75 ?_
 repeat' (first
  | refine st_nil ?_
  | refine t_ rfl rfl rfl rfl ?_
  | refine ay rfl rfl rfl rfl ph_ ?_
  | refine az rfl rfl rfl rfl ph_ ?_
  | refine sS_ rfl rfl rfl ph_ ?_
  | refine aC rfl rfl rfl rfl ph_ ?_
  | refine aj rfl rfl rfl ?_
  | refine sk0_ rfl rfl ?_
  | refine aG rfl rfl rfl rfl hc rfl ?_
  | (refine aM rfl (fun hb=>?_) (fun hb=>?_)<;>(first|exact (fx_ hb).elim|rw [hb]))
  | refine aw_seq ?_
  | refine aw_region tab_ok _ rfl ?_
  | refine aw_drawn2 tabS_ok _ rfl mixed (by decide +kernel) ?_
  | (refine ah rfl (fun hb=>?_) (fun hb=>?_)<;>(try exact (fx_ hb).elim))
  | refine aw_block ?_
  | refine aw_exit ?_
  | refine aw_ret ?_
  | refine aw_skip ?_)
 exact aO (aR rfl (by trivial) rfl)
def Ac (n:Int):Option (List Val):=bif decide (n<1) then some [] else bif decide (4096<n) then some [] else some (List.replicate n.toNat ⟨0,0,ByteArray.empty⟩)
theorem Pf {n:Int} {r:List Val} (H:Ac n=some r):Pure Tryz.prog 76 [.one (.int .i64 n)] (.val (.one (.lst (r.map cV)))):=by
 unfold Ac at H
 have hnr:lU (List.replicate n.toNat [SV.c (.int .i64 0), .c (.int .i64 0), .c (.str ByteArray.empty)])=some (List.replicate n.toNat (cV ⟨0,0,ByteArray.empty⟩)):=by
  have:=w_ (List.replicate n.toNat (cV ⟨0,0,ByteArray.empty⟩))
  rwa [List.map_replicate] at this
 refine po_ Tryz.func76 Tryz.ntmps76 ?_
 rcases h1:decide (n<1) with _|_
 ·rw [h1,aa_] at H
  rcases h2:decide (4096<n) with _|_
  ·rw [h2,aa_] at H
   obtain rfl:=abH H
   have g1:=of_decide_eq_false h1
   have g2:=of_decide_eq_false h2
   repeat' (first
    | refine st_nil ?_
    | rw [h1]
    | rw [h2]
    | (refine cZ rfl rfl rfl rfl rfl (xG tab_ok (k:=3) (by_:=32) rfl rfl rfl (by decide) rfl rfl rfl rfl rfl (by decide) (by omega) (by omega) (by omega)) ?_)
    | (refine jy 0 2 (cs:=List.replicate n.toNat (cV ⟨0,0,ByteArray.empty⟩)) rfl hnr rfl (by simp) ?_)
    | refine ay rfl rfl rfl rfl ph_ ?_
    | refine az rfl rfl rfl rfl ph_ ?_
    | refine sS_ rfl rfl rfl ph_ ?_
    | refine aC rfl rfl rfl rfl ph_ ?_
    | refine aj rfl rfl rfl ?_
    | refine sk0_ rfl rfl ?_
    | (refine aM rfl (fun hb=>?_) (fun hb=>?_)<;>(first|exact (fx_ hb).elim|rw [hb]))
    | refine aw_seq ?_
    | refine aw_region tab_ok _ rfl ?_
    | refine aw_drawn2 tabS_ok _ rfl mixed (by decide +kernel) ?_
    | (refine ah rfl (fun hb=>?_) (fun hb=>?_)<;>(try exact (fx_ hb).elim))
    | refine aw_block ?_
    | refine aw_exit ?_
    | refine aw_ret ?_
    | refine aw_skip ?_)
   exact aO (aR rfl (by trivial) (by rw [List.map_replicate];rfl))
  ·rw [h2,aa'] at H
   obtain rfl:=abH H
   repeat' (first
    | refine st_nil ?_
    | rw [h1]
    | rw [h2]
    | refine ay rfl rfl rfl rfl ph_ ?_
    | refine az rfl rfl rfl rfl ph_ ?_
    | refine sS_ rfl rfl rfl ph_ ?_
    | refine aC rfl rfl rfl rfl ph_ ?_
    | refine aj rfl rfl rfl ?_
    | refine sk0_ rfl rfl ?_
    | (refine aM rfl (fun hb=>?_) (fun hb=>?_)<;>(first|exact (fx_ hb).elim|rw [hb]))
    | refine aw_seq ?_
    | refine aw_region tab_ok _ rfl ?_
    | refine aw_drawn2 tabS_ok _ rfl mixed (by decide +kernel) ?_
    | (refine ah rfl (fun hb=>?_) (fun hb=>?_)<;>(try exact (fx_ hb).elim))
    | refine aw_block ?_
    | refine aw_exit ?_
    | refine aw_ret ?_
    | refine aw_skip ?_)
   exact aO (aR rfl (by trivial) rfl)
 ·rw [h1,aa'] at H
  obtain rfl:=abH H
  repeat' (first
   | refine st_nil ?_
   | rw [h1]
   | refine ay rfl rfl rfl rfl ph_ ?_
   | refine az rfl rfl rfl rfl ph_ ?_
   | refine sS_ rfl rfl rfl ph_ ?_
   | refine aC rfl rfl rfl rfl ph_ ?_
   | refine aj rfl rfl rfl ?_
   | refine sk0_ rfl rfl ?_
   | (refine aM rfl (fun hb=>?_) (fun hb=>?_)<;>(first|exact (fx_ hb).elim|rw [hb]))
   | refine aw_seq ?_
   | refine aw_region tab_ok _ rfl ?_
   | refine aw_drawn2 tabS_ok _ rfl mixed (by decide +kernel) ?_
   | (refine ah rfl (fun hb=>?_) (fun hb=>?_)<;>(try exact (fx_ hb).elim))
   | refine aw_block ?_
   | refine aw_exit ?_
   | refine aw_ret ?_
   | refine aw_skip ?_)
  exact aO (aR rfl (by trivial) rfl)
set_option maxHeartbeats 8000000
noncomputable section
def qW (a_b:Bag) (a_e:Ex) (x_4:(List Val)):((List (List Val)) × Bool × Int)->Option (Step ((List (List Val)) × Bool × Int) (Bag)):=fun s=>match s with
 | (out_5,alone_6,v_7)=>bif (decide (v_7<((a_b.rows.length:Nat):Int))) then (aL a_b.rows v_7).bind fun x_9=>(qP x_4 x_9).bind fun r_10=>(xn a_e r_10).bind fun r_11=>bif (decide (r_11=(2:Int))) then bif (decide (out_5.length+1<=5864062014805)) then (some (.next ((out_5++[r_10]),false,(IntKind.i64.wrap (v_7+(1:Int)))))) else none else
 some (.next (out_5,alone_6,(IntKind.i64.wrap (v_7+(1:Int))))) else
 some (.exit (out_5,alone_6,v_7))
def xx (a_b:Bag) (a_left:Bool) (v_2:Int) (x_4:(List Val)):Sum ((List (List Val)) × Bool × Int) (Bag)->Option (Step ((List (List Val)) × Int) (Bag))
 | .inl (out_5,alone_6,v_7)=>bif alone_6 then bif a_left then (Ac ((a_b.kinds.length:Nat):Int)).bind fun r_15=>(qP x_4 r_15).bind fun r_16=>bif (decide (out_5.length+1<=5864062014805)) then (some (.next ((out_5++[r_16]),(IntKind.i64.wrap (v_2+(1:Int)))))) else none else
 some (.next (out_5,(IntKind.i64.wrap (v_2+(1:Int))))) else
 some (.next (out_5,(IntKind.i64.wrap (v_2+(1:Int)))))
 | .inr q=>some (.ret q)
def xD (a_a:Bag) (a_b:Bag) (a_e:Ex) (a_left:Bool):((List (List Val)) × Int)->Option (Step ((List (List Val)) × Int) (Bag)):=fun s=>match s with
 | (out_1,v_2)=>bif (decide (v_2<((a_a.rows.length:Nat):Int))) then (aL a_a.rows v_2).bind fun x_4=>(ax (qW a_b a_e x_4) fuel (out_1,true,(0:Int))).bind (xx a_b a_left v_2 x_4) else
 some (.exit (out_1,v_2))
def xz (a_a:Bag) (a_b:Bag):Sum ((List (List Val)) × Int) (Bag)->Option ((Bag))
 | .inl (out_1,v_2)=>bif (decide (a_a.kinds.length<=17592186044416)) then (bif (decide (a_a.kinds.length+a_b.kinds.length<=17592186044416)) then ((mI (a_a.kinds++a_b.kinds) out_1).bind fun r_17=>some r_17) else none) else none
 | .inr q=>some q
def Cs (a_a:Bag) (a_b:Bag) (a_e:Ex) (a_left:Bool):Option (Bag):=(ax (xD a_a a_b a_e a_left) fuel ([],(0:Int))).bind (xz a_a a_b)
theorem IC {a_a:Bag} {a_b:Bag} {a_e:Ex} {a_left:Bool} {r:Bag} (H:Cs a_a a_b a_e a_left=some r):Pure Tryz.prog 40 [.agg (cBag a_a), .agg (cBag a_b), .agg (tE a_e), .one (.bool a_left)] (.val (.agg (cBag r))):=by
 unfold Cs at H
 rw [tE_eq a_e]
 refine po_ Tryz.func40 Tryz.ntmps40 ?_
 refine bC ?_
 refine dh 9 1 rfl ?_
 refine alM_ (fun s:(List (List Val)) × Int=>match s with|(out_1,v_2)=>[(3, .one (.c (.bool a_left))),(4, .one (.ptr 0 0)),(5, .one (.ptr 1 0)),(6, .one (.ptr 2 0)),(8, .one (.ptr 3 0)),(9, .one (.own (out_1.map (fun x=>[AC.lst (x.map cV)])) 4)),(17, .one (.c (.lst (a_a.rows.map (fun x=>[AC.lst (x.map cV)]))))),(18, .one (.c (.int .i64 ((a_a.rows.length:Nat):Int)))),(19, .one (.c (.int .i64 v_2)))]) (fun s=>match s with|(out_1,v_2)=>[.box [.c (.lst (a_a.kinds.map (fun x=>[AC.int .i64 x]))), .c (.lst (a_a.rows.map (fun x=>[AC.lst (x.map cV)])))], .box [.c (.lst (a_b.kinds.map (fun x=>[AC.int .i64 x]))), .c (.lst (a_b.rows.map (fun x=>[AC.lst (x.map cV)])))], .box [.c (.int .i64 a_e.op), .c (.int .i64 a_e.int), .c (.int .i64 a_e.v.kind), .c (.int .i64 a_e.v.int), .c (.str a_e.v.text), .c (.str a_e.nm), .c (.lst (a_e.args.map tE))], .box [.emp, .emp], .spare out_1.length 1]) H (fun _=>abv _)
  (fm_ bV [] rfl bE dw) ?_
 rintro ⟨out_1,v_2⟩ st3 hb3 hk3
 unfold xD at hb3
 dsimp only at hb3 ⊢
 rcases cnd_ hb3 with ⟨q_3,hb3⟩|⟨q_3,hb3⟩
 ·obtain ⟨x_4,i1z,i1,i1x,hb3⟩:=aX (f:=(fun x=>[AC.lst (x.map cV)])) hb3
  refine bC ?_
  refine alM_ (fun s:(List (List Val)) × Bool × Int=>match s with|(out_5,alone_6,v_7)=>[(3, .one (.c (.bool a_left))),(4, .one (.ptr 0 0)),(5, .one (.ptr 1 0)),(6, .one (.ptr 2 0)),(8, .one (.ptr 3 0)),(9, .one (.own (out_5.map (fun x=>[AC.lst (x.map cV)])) 4)),(11, .one (.c (.lst (x_4.map cV)))),(12, .one (.c (.bool alone_6))),(17, .one (.c (.lst (a_a.rows.map (fun x=>[AC.lst (x.map cV)]))))),(18, .one (.c (.int .i64 ((a_a.rows.length:Nat):Int)))),(19, .one (.c (.int .i64 v_2))),(24, .one (.c (.lst (a_b.rows.map (fun x=>[AC.lst (x.map cV)]))))),(25, .one (.c (.int .i64 ((a_b.rows.length:Nat):Int)))),(26, .one (.c (.int .i64 v_7)))]) (fun s=>match s with|(out_5,alone_6,v_7)=>[.box [.c (.lst (a_a.kinds.map (fun x=>[AC.int .i64 x]))), .c (.lst (a_a.rows.map (fun x=>[AC.lst (x.map cV)])))], .box [.c (.lst (a_b.kinds.map (fun x=>[AC.int .i64 x]))), .c (.lst (a_b.rows.map (fun x=>[AC.lst (x.map cV)])))], .box [.c (.int .i64 a_e.op), .c (.int .i64 a_e.int), .c (.int .i64 a_e.v.kind), .c (.int .i64 a_e.v.int), .c (.str a_e.v.text), .c (.str a_e.nm), .c (.lst (a_e.args.map tE))], .box [.emp, .emp], .spare out_5.length 1]) hb3 (fun _=>abv _)
   (fm_ bV [] rfl bE dw) ?_
  rintro ⟨out_5,alone_6,v_7⟩ st4 hb4 hk4
  unfold qW at hb4
  dsimp only at hb4 ⊢
  rcases cnd_ hb4 with ⟨q_8,hb4⟩|⟨q_8,hb4⟩
  ·obtain ⟨x_9,i2z,i2,i2x,hb4⟩:=aX (f:=(fun x=>[AC.lst (x.map cV)])) hb4
   obtain ⟨r_10,c3,hb4⟩:=bd_ hb4
   replace c3:=De c3
   obtain ⟨r_11,c4,hb4⟩:=bd_ hb4
   replace c4:=Er c4
   try simp only [abm,abk,abo,abd,tE_eq,tP_eq] at c4
   rcases cnd_ hb4 with ⟨q_12,hb4⟩|⟨q_12,hb4⟩
   ·obtain ⟨g5,hb4⟩:=aK hb4
    cases hb4
    refine bC ?_
    exact ⟨_,rfl,fm_ o8 [] kJ bE dw⟩
   cases hb4
   refine bC ?_
   exact ⟨_,rfl,fm_ o8 [] kJ bE dw⟩
  cases hb4
  have hx4:xx a_b a_left v_2 x_4 (.inl (out_5,alone_6,v_7))=some _:=hk4
  unfold xx at hx4
  dsimp only at hx4
  rcases cnd_ hx4 with ⟨q_13,hx4⟩|⟨q_13,hx4⟩
  ·rcases cnd_ hx4 with ⟨q_14,hx4⟩|⟨q_14,hx4⟩
   ·obtain ⟨r_15,c6,hx4⟩:=bd_ hx4
    replace c6:=Pf c6
    obtain ⟨r_16,c7,hx4⟩:=bd_ hx4
    replace c7:=De c7
    obtain ⟨g8,hx4⟩:=aK hx4
    cases hx4
    refine bC ?_
    exact ⟨_,rfl,fm_ o8 [] kJ bE dw⟩
   cases hx4
   refine bC ?_
   exact ⟨_,rfl,fm_ o8 [] kJ bE dw⟩
  cases hx4
  refine bC ?_
  exact ⟨_,rfl,fm_ o8 [] kJ bE dw⟩
 cases hb3
 have hx3:xz a_a a_b (.inl (out_1,v_2))=some _:=hk3
 unfold xz at hx3
 dsimp only at hx3
 obtain ⟨g9,hx3⟩:=aK hx3
 obtain ⟨g10,hx3⟩:=aK hx3
 obtain ⟨r_17,c11,hx3⟩:=bd_ hx3
 replace c11:=mq c11
 try simp only [abm,abk,abo,abd,tE_eq,tP_eq] at c11
 cases hx3
 exact go_
end
set_option maxHeartbeats 8000000
noncomputable section
def rG (a_a:(List Val)) (a_b:(List Val)):Option ((List Val)):=bif (decide (a_a.length<=4398046511104)) then (bif (decide (a_a.length+a_b.length<=4398046511104)) then (some (a_a++a_b)) else none) else none
theorem CU {a_a:(List Val)} {a_b:(List Val)} {r:(List Val)} (H:rG a_a a_b=some r):Pure Tryz.prog 78 [.one (.lst (a_a.map cV)), .one (.lst (a_b.map cV))] (.val (.one (.lst (r.map cV)))):=by
 unfold rG at H
 refine po_ Tryz.func78 Tryz.ntmps78 ?_
 obtain ⟨g1,H⟩:=aK H
 obtain ⟨g2,H⟩:=aK H
 cases H
 exact go_
def jL (a_n:Int):((List Val) × Int)->Option (Step ((List Val) × Int) ((List Val))):=fun s=>match s with
 | (out_1,i_2)=>bif (decide (i_2<a_n)) then bif (decide (a_n<=(4096:Int))) then (dJ ).bind fun r_5=>bif (decide (out_1.length+1<=4398046511104)) then (some (.next ((out_1++[r_5]),(IntKind.i64.wrap (i_2+(1:Int)))))) else none else
 some (.exit (out_1,i_2)) else
 some (.exit (out_1,i_2))
def oD:Sum ((List Val) × Int) ((List Val))->Option (((List Val)))
 | .inl (out_1,i_2)=>some out_1
 | .inr q=>some q
def A7 (a_n:Int):Option ((List Val)):=(ax (jL a_n) fuel ([],(0:Int))).bind (oD)
theorem OZ {a_n:Int} {r:(List Val)} (H:A7 a_n=some r):Pure Tryz.prog 79 [.one (.int .i64 a_n)] (.val (.one (.lst (r.map cV)))):=by
 unfold A7 at H
 refine po_ Tryz.func79 Tryz.ntmps79 ?_
 refine bC ?_
 refine dh 3 3 rfl ?_
 refine alM_ (fun s:(List Val) × Int=>match s with|(out_1,i_2)=>[(0, .one (.c (.int .i64 a_n))),(3, .one (.own (out_1.map cV) 0)),(4, .one (.c (.int .i64 i_2)))]) (fun s=>match s with|(out_1,i_2)=>[.spare out_1.length 3]) H (fun _=>abv _)
  (fm_ bV [] rfl bE dw) ?_
 rintro ⟨out_1,i_2⟩ st1 hb1 hk1
 unfold jL at hb1
 dsimp only at hb1 ⊢
 rcases cnd_ hb1 with ⟨q_3,hb1⟩|⟨q_3,hb1⟩
 ·rcases cnd_ hb1 with ⟨q_4,hb1⟩|⟨q_4,hb1⟩
  ·obtain ⟨r_5,c1,hb1⟩:=bd_ hb1
   replace c1:=bT c1
   obtain ⟨g2,hb1⟩:=aK hb1
   cases hb1
   refine bC ?_
   exact ⟨_,rfl,fm_ o8 [] kJ bE dw⟩
  cases hb1
  have hx1:oD (.inl (out_1,i_2))=some _:=hk1
  unfold oD at hx1
  dsimp only at hx1
  cases hx1
  exact go_
 cases hb1
 have hx1:oD (.inl (out_1,i_2))=some _:=hk1
 unfold oD at hx1
 dsimp only at hx1
 cases hx1
 exact go_
def zA (a_a:(List Int)) (a_b:(List Int)):Option ((List Int)):=bif (decide (a_a.length<=17592186044416)) then (bif (decide (a_a.length+a_b.length<=17592186044416)) then (some (a_a++a_b)) else none) else none
theorem Od {a_a:(List Int)} {a_b:(List Int)} {r:(List Int)} (H:zA a_a a_b=some r):Pure Tryz.prog 77 [.one (.lst (a_a.map (fun x=>[AC.int .i64 x]))), .one (.lst (a_b.map (fun x=>[AC.int .i64 x])))] (.val (.one (.lst (r.map (fun x=>[AC.int .i64 x]))))):=by
 unfold zA at H
 refine po_ Tryz.func77 Tryz.ntmps77 ?_
 obtain ⟨g1,H⟩:=aK H
 obtain ⟨g2,H⟩:=aK H
 cases H
 exact go_
def o5 (a_a:Bag) (a_b:Bag) (a_e:Ex) (i_3:Int):((List (List Val)) × Bool × Int)->Option (Step ((List (List Val)) × Bool × Int) (Bag)):=fun s=>match s with
 | (c_5,found_6,k_7)=>bif (decide (k_7<((a_b.rows.length:Nat):Int))) then (aL a_a.rows i_3).bind fun x_9=>(aL a_b.rows k_7).bind fun x_10=>(rG x_9 x_10).bind fun r_11=>(nK a_e r_11).bind fun r_12=>bif (decide (r_12=(2:Int))) then bif (decide (c_5.length+1<=5864062014805)) then (some (.next ((c_5++[r_11]),true,(IntKind.i64.wrap (k_7+(1:Int)))))) else none else
 some (.next (c_5,found_6,(IntKind.i64.wrap (k_7+(1:Int))))) else
 some (.exit (c_5,found_6,k_7))
def sV (a_a:Bag) (a_b:Bag) (a_left:Bool) (i_3:Int):Sum ((List (List Val)) × Bool × Int) (Bag)->Option (Step ((List (List Val)) × Int) (Bag))
 | .inl (c_5,found_6,k_7)=>bif a_left then bif (!found_6) then (aL a_a.rows i_3).bind fun x_16=>(A7 ((a_b.kinds.length:Nat):Int)).bind fun r_17=>(rG x_16 r_17).bind fun r_18=>bif (decide (c_5.length+1<=5864062014805)) then (some (.next ((c_5++[r_18]),(IntKind.i64.wrap (i_3+(1:Int)))))) else none else
 some (.next (c_5,(IntKind.i64.wrap (i_3+(1:Int))))) else
 some (.next (c_5,(IntKind.i64.wrap (i_3+(1:Int)))))
 | .inr q=>some (.ret q)
def si (a_a:Bag) (a_b:Bag) (a_e:Ex) (a_left:Bool):((List (List Val)) × Int)->Option (Step ((List (List Val)) × Int) (Bag)):=fun s=>match s with
 | (c_2,i_3)=>bif (decide (i_3<((a_a.rows.length:Nat):Int))) then (ax (o5 a_a a_b a_e i_3) fuel (c_2,false,(0:Int))).bind (sV a_a a_b a_left i_3) else
 some (.exit (c_2,i_3))
def sO (r_1:(List Int)):Sum ((List (List Val)) × Int) (Bag)->Option ((Bag))
 | .inl (c_2,i_3)=>(ku c_2).bind fun r_19=>some (⟨r_1,r_19⟩:Bag)
 | .inr q=>some q
def xQ (a_a:Bag) (a_b:Bag) (a_e:Ex) (a_left:Bool):Option (Bag):=(zA a_a.kinds a_b.kinds).bind fun r_1=>(ax (si a_a a_b a_e a_left) fuel ([],(0:Int))).bind (sO r_1)
theorem ED {a_a:Bag} {a_b:Bag} {a_e:Ex} {a_left:Bool} {r:Bag} (H:xQ a_a a_b a_e a_left=some r):Pure Tryz.prog 41 [.agg (cBag a_a), .agg (cBag a_b), .agg (tE a_e), .one (.bool a_left)] (.val (.agg (cBag r))):=by
 unfold xQ at H
 rw [tE_eq a_e]
 refine po_ Tryz.func41 Tryz.ntmps41 ?_
 obtain ⟨r_1,c1,H⟩:=bd_ H
 replace c1:=Od c1
 refine bC ?_
 refine nI 4 1 1 rfl rfl ?_
 refine alM_ (fun s:(List (List Val)) × Int=>match s with|(c_2,i_3)=>[(3, .one (.c (.bool a_left))),(4, .one (.ptr 0 0)),(5, .one (.ptr 1 0)),(6, .one (.ptr 2 0)),(8, .one (.ptr 3 0)),(9, .one (.ptr 4 0)),(10, .one (.c (.int .i64 i_3)))]) (fun s=>match s with|(c_2,i_3)=>[.box [.c (.lst (a_a.kinds.map (fun x=>[AC.int .i64 x]))), .c (.lst (a_a.rows.map (fun x=>[AC.lst (x.map cV)])))], .box [.c (.lst (a_b.kinds.map (fun x=>[AC.int .i64 x]))), .c (.lst (a_b.rows.map (fun x=>[AC.lst (x.map cV)])))], .box [.c (.int .i64 a_e.op), .c (.int .i64 a_e.int), .c (.int .i64 a_e.v.kind), .c (.int .i64 a_e.v.int), .c (.str a_e.v.text), .c (.str a_e.nm), .c (.lst (a_e.args.map tE))], .box [.emp, .emp], .box [.c (.lst (r_1.map (fun x=>[AC.int .i64 x]))), .own (c_2.map (fun x=>[AC.lst (x.map cV)])) 5], .spare c_2.length 1]) H (fun _=>abv _)
  (fm_ bV [] rfl bE dw) ?_
 rintro ⟨c_2,i_3⟩ st3 hb3 hk3
 unfold si at hb3
 dsimp only at hb3 ⊢
 rcases cnd_ hb3 with ⟨q_4,hb3⟩|⟨q_4,hb3⟩
 ·refine bC ?_
  refine alM_ (fun s:(List (List Val)) × Bool × Int=>match s with|(c_5,found_6,k_7)=>[(3, .one (.c (.bool a_left))),(4, .one (.ptr 0 0)),(5, .one (.ptr 1 0)),(6, .one (.ptr 2 0)),(8, .one (.ptr 3 0)),(9, .one (.ptr 4 0)),(10, .one (.c (.int .i64 i_3))),(11, .one (.c (.bool found_6))),(12, .one (.c (.int .i64 k_7)))]) (fun s=>match s with|(c_5,found_6,k_7)=>[.box [.c (.lst (a_a.kinds.map (fun x=>[AC.int .i64 x]))), .c (.lst (a_a.rows.map (fun x=>[AC.lst (x.map cV)])))], .box [.c (.lst (a_b.kinds.map (fun x=>[AC.int .i64 x]))), .c (.lst (a_b.rows.map (fun x=>[AC.lst (x.map cV)])))], .box [.c (.int .i64 a_e.op), .c (.int .i64 a_e.int), .c (.int .i64 a_e.v.kind), .c (.int .i64 a_e.v.int), .c (.str a_e.v.text), .c (.str a_e.nm), .c (.lst (a_e.args.map tE))], .box [.emp, .emp], .box [.c (.lst (r_1.map (fun x=>[AC.int .i64 x]))), .own (c_5.map (fun x=>[AC.lst (x.map cV)])) 5], .spare c_5.length 1]) hb3 (fun _=>abv _)
   (fm_ bV [] rfl bE dw) ?_
  rintro ⟨c_5,found_6,k_7⟩ st4 hb4 hk4
  unfold o5 at hb4
  dsimp only at hb4 ⊢
  rcases cnd_ hb4 with ⟨q_8,hb4⟩|⟨q_8,hb4⟩
  ·obtain ⟨x_9,i2z,i2,i2x,hb4⟩:=aX (f:=(fun x=>[AC.lst (x.map cV)])) hb4
   obtain ⟨x_10,i3z,i3,i3x,hb4⟩:=aX (f:=(fun x=>[AC.lst (x.map cV)])) hb4
   obtain ⟨r_11,c4,hb4⟩:=bd_ hb4
   replace c4:=CU c4
   obtain ⟨r_12,c5,hb4⟩:=bd_ hb4
   replace c5:=AA c5
   try simp only [abm,abk,abo,abd,tE_eq,tP_eq] at c5
   rcases cnd_ hb4 with ⟨q_13,hb4⟩|⟨q_13,hb4⟩
   ·obtain ⟨g6,hb4⟩:=aK hb4
    cases hb4
    refine bC ?_
    exact ⟨_,rfl,fm_ bV [] kJ bE dw⟩
   cases hb4
   refine bC ?_
   exact ⟨_,rfl,fm_ bV [] kJ bE dw⟩
  cases hb4
  have hx4:sV a_a a_b a_left i_3 (.inl (c_5,found_6,k_7))=some _:=hk4
  unfold sV at hx4
  dsimp only at hx4
  rcases cnd_ hx4 with ⟨q_14,hx4⟩|⟨q_14,hx4⟩
  ·rcases cnd_ hx4 with ⟨q_15,hx4⟩|⟨q_15,hx4⟩
   ·obtain ⟨x_16,i7z,i7,i7x,hx4⟩:=aX (f:=(fun x=>[AC.lst (x.map cV)])) hx4
    obtain ⟨r_17,c8,hx4⟩:=bd_ hx4
    replace c8:=OZ c8
    obtain ⟨r_18,c9,hx4⟩:=bd_ hx4
    replace c9:=CU c9
    obtain ⟨g10,hx4⟩:=aK hx4
    cases hx4
    refine bC ?_
    exact ⟨_,rfl,fm_ bV [] kJ bE dw⟩
   cases hx4
   refine bC ?_
   exact ⟨_,rfl,fm_ bV [] kJ bE dw⟩
  cases hx4
  refine bC ?_
  exact ⟨_,rfl,fm_ bV [] kJ bE dw⟩
 cases hb3
 have hx3:sO r_1 (.inl (c_2,i_3))=some _:=hk3
 unfold sO at hx3
 dsimp only at hx3
 obtain ⟨r_19,c11,hx3⟩:=bd_ hx3
 replace c11:=fH c11
 cases hx3
 exact go_
end
set_option maxHeartbeats 8000000
noncomputable section
def wW (a_a:Bag) (a_b:Bag) (a_e:Ex):Option (Bool):=(gFew21 a_a (12:Int)).bind fun r_1=>bif (!r_1) then some (true) else
 (gFew21 a_b (12:Int)).bind fun r_4=>bif (!r_4) then some (true) else
 (gSlight [a_e]).bind fun r_7=>bif (!r_7) then some (true) else
 bif (decide ((48:Int)<(IntKind.i64.wrap (((a_a.kinds.length:Nat):Int)+((a_b.kinds.length:Nat):Int))))) then some (true) else
 bif (decide (a_a.kinds.length<=17592186044416)) then (bif (decide (a_a.kinds.length+a_b.kinds.length<=17592186044416)) then ((gPred21 a_e (a_a.kinds++a_b.kinds)).bind fun r_12=>bif (decide (r_12≠(0:Int))) then some (true) else
 (Cs a_a a_b a_e false).bind fun r_15=>(xQ a_a a_b a_e false).bind fun r_16=>(gExactly r_15 r_16).bind fun r_17=>bif r_17 then (Cs a_a a_b a_e true).bind fun r_19=>(xQ a_a a_b a_e true).bind fun r_20=>(gExactly r_19 r_20).bind fun r_21=>bif r_21 then some (true) else
 some false else
 some false) else none) else none
theorem JV {a_a:Bag} {a_b:Bag} {a_e:Ex} {r:Bool} (H:wW a_a a_b a_e=some r):Pure Tryz.prog 9 [.agg (cBag a_a), .agg (cBag a_b), .agg (tE a_e)] (.val (.one (.bool r))):=by
 unfold wW at H
 rw [tE_eq a_e]
 refine po_ Tryz.func9 Tryz.ntmps9 ?_
 obtain ⟨r_1,c1,H⟩:=bd_ H
 replace c1:=gFew21_ok c1
 rcases cnd_ H with ⟨q_2,H⟩|⟨q_2,H⟩
 ·have hc_3:=awake_pure
  try simp only [abm,abk,abo,abd,tE_eq,tP_eq] at hc_3
  cases H
  exact go_
 obtain ⟨r_4,c2,H⟩:=bd_ H
 replace c2:=gFew21_ok c2
 rcases cnd_ H with ⟨q_5,H⟩|⟨q_5,H⟩
 ·have hc_6:=awake_pure
  try simp only [abm,abk,abo,abd,tE_eq,tP_eq] at hc_6
  cases H
  exact go_
 obtain ⟨r_7,c3,H⟩:=bd_ H
 replace c3:=gSlight_ok c3
 try simp only [abm,abk,abo,abd,tE_eq,tP_eq] at c3
 rcases cnd_ H with ⟨q_8,H⟩|⟨q_8,H⟩
 ·have hc_9:=awake_pure
  try simp only [abm,abk,abo,abd,tE_eq,tP_eq] at hc_9
  cases H
  exact go_
 rcases cnd_ H with ⟨q_10,H⟩|⟨q_10,H⟩
 ·have hc_11:=awake_pure
  try simp only [abm,abk,abo,abd,tE_eq,tP_eq] at hc_11
  cases H
  exact go_
 obtain ⟨g4,H⟩:=aK H
 obtain ⟨g5,H⟩:=aK H
 obtain ⟨r_12,c6,H⟩:=bd_ H
 replace c6:=gPred21_ok c6
 try simp only [abm,abk,abo,abd,tE_eq,tP_eq] at c6
 rcases cnd_ H with ⟨q_13,H⟩|⟨q_13,H⟩
 ·have hc_14:=awake_pure
  try simp only [abm,abk,abo,abd,tE_eq,tP_eq] at hc_14
  cases H
  exact go_
 obtain ⟨r_15,c7,H⟩:=bd_ H
 replace c7:=IC c7
 try simp only [abm,abk,abo,abd,tE_eq,tP_eq] at c7
 obtain ⟨r_16,c8,H⟩:=bd_ H
 replace c8:=ED c8
 try simp only [abm,abk,abo,abd,tE_eq,tP_eq] at c8
 obtain ⟨r_17,c9,H⟩:=bd_ H
 replace c9:=gExactly_ok c9
 rcases cnd_ H with ⟨q_18,H⟩|⟨q_18,H⟩
 ·obtain ⟨r_19,c10,H⟩:=bd_ H
  replace c10:=IC c10
  try simp only [abm,abk,abo,abd,tE_eq,tP_eq] at c10
  obtain ⟨r_20,c11,H⟩:=bd_ H
  replace c11:=ED c11
  try simp only [abm,abk,abo,abd,tE_eq,tP_eq] at c11
  obtain ⟨r_21,c12,H⟩:=bd_ H
  replace c12:=gExactly_ok c12
  rcases cnd_ H with ⟨q_22,H⟩|⟨q_22,H⟩
  ·have hc_23:=awake_pure
   try simp only [abm,abk,abo,abd,tE_eq,tP_eq] at hc_23
   cases H
   exact go_
  cases H
  exact go_
 cases H
 exact go_
end
theorem Jt {α β ρ:Type} {l:List α} {body:(List β × Bool × Int)->Option (Step (List β × Bool × Int) ρ)} (g:α->List β) (v:Bool) (N:Nat) (h1 : ∀ (s:List β) (f:Bool) (i:Nat) x,l[i]?=some x->s.length+(g x).length<=N->body (s,f,(i:Int))=some (.next (s++g x,(bif (g x).isEmpty then f else v),((i+1:Nat):Int)))) (h2 : ∀ (s:List β) (f:Bool),body (s,f,((l.length:Nat):Int))=some (.exit (s,f,((l.length:Nat):Int)))) (hl:l.length<fuel) (s:List β) (f:Bool) (hN:s.length+(l.flatMap g).length<=N) :
  ax body fuel (s,f,(0:Int))=some (.inl (s++l.flatMap g,(bif (l.flatMap g).isEmpty then f else v),((l.length:Nat):Int))):=by
 have key : ∀ (n i:Nat) (s:List β) (f:Bool),i<=l.length->l.length-i<n->s.length+((l.drop i).flatMap g).length<=N->ax body n (s,f,(i:Int))=some (.inl (s++(l.drop i).flatMap g,(bif ((l.drop i).flatMap g).isEmpty then f else v),((l.length:Nat):Int))):=by
  intro n
  induction n with
  | zero=>intro i s f _ h _;omega
  | succ n ih =>
   intro i s f hi hn hs
   rw [ax]
   by_cases hlt:i<l.length
   ·obtain ⟨x,hx⟩:=gol_ hlt
    have e1:=(aa9.1 hx).2
    rw [abG hlt,e1,abN] at hs ⊢
    rw [abg] at hs
    rw [h1 s f i x hx (by omega)]
    show ax body n _=_
    rw [ih (i+1) (s++g x) _ (by omega) (by omega) (by rw [abg];omega),abB]
    generalize (l.drop (i+1)).flatMap g=m
    cases g x<;>cases m<;>rfl
   ·have:i=l.length:=by omega
    subst this
    rw [h2,ab1]
    simp
 have:=key fuel 0 s f (abv _) (by omega) (by simpa using hN)
 simpa using this
theorem JQ {α β:Type} (g:α->List β) (k:Nat) : ∀ l:List α,(∀ x∈l,(g x).length<=k)->(l.flatMap g).length<=l.length*k
 | [],_=>by simp
 | x::l,h=>by
  have h1:=h x (by simp)
  have h2:=JQ g k l fun y hy=>h y (by simp [hy])
  rw [abN,abg,abw,Nat.add_mul]
  omega
def jm (e:Ex) (b:List (List Val)) (x:List Val):List (List Val):=b.flatMap fun y=>bif gm e (x++y) then [x++y] else []
def uU (e:Ex) (left:Bool) (n:Nat) (b:List (List Val)) (x:List Val):List (List Val):=jm e b x++bif left&&(jm e b x).isEmpty then [x++List.replicate n gH] else []
def uA (e:Ex) (left:Bool) (n:Nat) (a b:List (List Val)):List (List Val):=a.flatMap (uU e left n b)
theorem TP (e:Ex) (b:List (List Val)) (x:List Val):(jm e b x).length<=b.length:=by
 have:=JQ (fun y=>bif gm e (x++y) then [x++y] else []) 1 b fun y _=>by cases gm e (x++y)<;>simp
 unfold jm;omega
theorem Rw (e:Ex) (left:Bool) (n:Nat) (b:List (List Val)) (x:List Val):(uU e left n b x).length<=b.length+1:=by
 have:=TP e b x
 unfold uU
 rw [abg]
 cases left&&(jm e b x).isEmpty<;>simp<;>omega
theorem Ca (e:Ex) (left:Bool) (n:Nat) {a b:List (List Val)} (ha:a.length<=12) (hb:b.length<=12):(uA e left n a b).length<=156:=by
 have:=JQ (uU e left n b) 13 a fun x _=>by have:=Rw e left n b x;omega
 unfold uA;omega
theorem Bn (e:Ex) (left:Bool) (n:Nat) {a b:List (List Val)} {k:Nat} (ha : ∀ r∈a,r.length=k) (hb : ∀ r∈b,r.length=n) : ∀ r∈uA e left n a b,r.length=k+n:=by
 intro r hr
 unfold uA at hr
 obtain ⟨x,hx,hr⟩:=List.mem_flatMap.1 hr
 have h1:=ha x hx
 unfold uU at hr
 rcases abC.1 hr with hr|hr
 ·unfold jm at hr
  obtain ⟨y,hy,hr⟩:=List.mem_flatMap.1 hr
  have h2:=hb y hy
  cases hs:gm e (x++y) with
  | false=>rw [hs] at hr;cases hr
  | true=>rw [hs,aa',List.mem_singleton] at hr;rw [hr,abg];omega
 ·cases hs:left&&(jm e b x).isEmpty with
  | false=>rw [hs] at hr;cases hr
  | true=>rw [hs,aa',List.mem_singleton] at hr;rw [hr,abg,List.length_replicate];omega
theorem Da {x y:List Val} (h0:0<x.length+y.length) (h1:x.length+y.length<=1000000):qP x y=some (x++y):=by
 unfold qP OO
 rw [abb h0,abb h1];rfl
theorem Dw {x y:List Val} (h1:x.length+y.length<=1000000):rG x y=some (x++y):=by
 unfold rG
 rw [abb (show x.length<=4398046511104 by omega),abb (show x.length+y.length<=4398046511104 by omega)];rfl
theorem OX {n:Nat} (h0:0<n) (h1:n<=48):Ac ((n:Nat):Int)=some (List.replicate n gH):=by
 unfold Ac
 rw [aba (show ¬ ((n:Nat):Int)<1 by omega),aba (show ¬ (4096:Int)<((n:Nat):Int) by omega)];rfl
theorem OG {n:Nat} (h1:n<=48):A7 ((n:Nat):Int)=some (List.replicate n gH):=by
 have key : ∀ (m i:Nat),i<=n->n-i<m->ax (jL ((n:Nat):Int)) m (List.replicate i gH,(i:Int))=some (.inl (List.replicate n gH,((n:Nat):Int))):=by
  intro m
  induction m with
  | zero=>intro i _ h;omega
  | succ m ih =>
   intro i hi hn
   rw [ax]
   by_cases hlt:i<n
   ·have hb:jL ((n:Nat):Int) (List.replicate i gH,(i:Int))=some (.next (List.replicate (i+1) gH,((i+1:Nat):Int))):=by
     unfold jL
     dsimp only
     rw [abb (show (i:Int)<((n:Nat):Int) by omega),aa',abb (show ((n:Nat):Int)<=4096 by omega),aa',bR,aa8,List.length_replicate,abb (show i+1<=4398046511104 by omega),aa',wrapN (by omega),List.replicate_succ']
    rw [hb]
    exact ih (i+1) (by omega) (by omega)
   ·have:i=n:=by omega
    subst this
    have hb:jL ((i:Nat):Int) (List.replicate i gH,(i:Int))=some (.exit (List.replicate i gH,(i:Int))):=by
     unfold jL
     dsimp only
     rw [aba (show ¬ ((i:Int)<((i:Nat):Int)) by omega),aa_]
    rw [hb]
 unfold A7
 have:=key fuel 0 (abv _) (by unfold fuel;omega)
 rw [show (List.replicate 0 gH,((0:Nat):Int))=(([],(0:Int)):List Val × Int) from rfl] at this
 rw [this];rfl
theorem Pi {a b:List Int} (h:a.length+b.length<=1000000):zA a b=some (a++b):=by
 unfold zA
 rw [abb (show a.length<=17592186044416 by omega),abb (show a.length+b.length<=17592186044416 by omega)];rfl
section
variable {a b:Bag} {e:Ex}
theorem Lv (he:gY fuel e) {x:List Val} (hx0:0<x.length) (hx:x.length<=48) (hb:ym 12 b) (s:List (List Val)) (f:Bool) (hs:s.length+(jm e b.rows x).length<=5864062014805):ax (qW b e x) fuel (s,f,(0:Int))=some (.inl (s++jm e b.rows x,(bif (jm e b.rows x).isEmpty then f else false),((b.rows.length:Nat):Int))):=by
 have hbl:=hb.len
 rw [Jt (l:=b.rows) (fun y=>bif gm e (x++y) then [x++y] else []) false 5864062014805 ?_ ?_ (by unfold fuel;omega) s f (by unfold jm at hs;exact hs)]
 ·rfl
 ·intro s f i y hy hs
  have hi:=(aa9.1 hy).1
  have hyk:=hb.row y (abe hy)
  have:=hb.kinds
  unfold qW
  dsimp only
  rw [aY hy,aa',gn_ hy,aa8,Da (by omega) (by omega),aa8,Fq he,aa8,wrapN (by omega)]
  show (bif gm e (x++y) then _ else _)=_
  cases hc:gm e (x++y) with
  | false=>simp
  | true =>
   rw [hc] at hs
   rw [aa',abb (show s.length+1<=5864062014805 from hs)];rfl
 ·intro s f
  unfold qW
  dsimp only
  rw [lF_,aa_]
theorem Jv {left:Bool} (ha:ym 12 a) (hb:ym 12 b) (he:gY fuel e):Cs a b e left=some ⟨a.kinds++b.kinds,aI (uA e left b.kinds.length a.rows b.rows)⟩:=by
 have h1:=ha.len;have h2:=hb.len;have h3:=ha.kinds;have h4:=hb.kinds;have h5:=ha.pos;have h6:=hb.pos
 have hjl:=Ca e left b.kinds.length h1 h2
 unfold Cs
 rw [eu (l:=a.rows) (uU e left b.kinds.length b.rows) 5864062014805 ?_ ?_ (by unfold fuel;omega) [] (by unfold uA at hjl;simp only [abF];omega)]
 ·rw [aa8,abd]
  unfold xz
  dsimp only
  rw [abb (show a.kinds.length<=17592186044416 by omega),aa',abb (show a.kinds.length+b.kinds.length<=17592186044416 by omega),aa']
  rw [M9 (by rw [abg];omega) (by unfold uA at hjl;omega) (fun r hr=>?_)]
  ·rfl
  ·have:=Bn e left b.kinds.length (k:=a.kinds.length) ha.row hb.row r hr
   exact ⟨fun h0=>by rw [h0] at this;simp at this;omega,by omega⟩
 ·intro s i x hx hs
  have hi:=(aa9.1 hx).1
  have hxk:=ha.row x (abe hx)
  unfold xD
  dsimp only
  rw [aY hx,aa',gn_ hx,aa8]
  have hsl:s.length+(jm e b.rows x).length<=5864062014805:=by unfold uU at hs;rw [abg] at hs;omega
  rw [Lv he (by omega) (by omega) hb s true hsl,aa8]
  unfold xx
  dsimp only
  rw [OX h6 h4,aa8,Da (by rw [List.length_replicate];omega) (by rw [List.length_replicate];omega),aa8,wrapN (by omega)]
  unfold uU at hs ⊢
  cases hh:(jm e b.rows x).isEmpty with
  | false=>rw [aa_,aa_];simp
  | true =>
   rw [aa',aa']
   cases left with
   | false=>simp
   | true =>
    rw [hh] at hs
    have hs2:(s++jm e b.rows x).length+1<=5864062014805:=by rw [abg] at hs ⊢;simp at hs;omega
    rw [aa',abb hs2,aa']
    simp
 ·intro s
  unfold xD
  dsimp only
  rw [lF_,aa_]
theorem K4 (he:gY fuel e) {x:List Val} {i:Nat} (hxi:a.rows[i]?=some x) (hx:x.length<=48) (hb:ym 12 b) (s:List (List Val)) (f:Bool) (hs:s.length+(jm e b.rows x).length<=5864062014805):ax (o5 a b e (i:Int)) fuel (s,f,(0:Int))=some (.inl (s++jm e b.rows x,(bif (jm e b.rows x).isEmpty then f else true),((b.rows.length:Nat):Int))):=by
 have hbl:=hb.len
 rw [Jt (l:=b.rows) (fun y=>bif gm e (x++y) then [x++y] else []) true 5864062014805 ?_ ?_ (by unfold fuel;omega) s f (by unfold jm at hs;exact hs)]
 ·rfl
 ·intro s f k y hy hs
  have hi:=(aa9.1 hy).1
  have hyk:=hb.row y (abe hy)
  have:=hb.kinds
  unfold o5
  dsimp only
  rw [aY hy,aa',gn_ hxi,aa8,gn_ hy,aa8,Dw (by omega),aa8,z_ he,aa8,wrapN (by omega)]
  show (bif gm e (x++y) then _ else _)=_
  cases hc:gm e (x++y) with
  | false=>simp
  | true =>
   rw [hc] at hs
   rw [aa',abb (show s.length+1<=5864062014805 from hs)];rfl
 ·intro s f
  unfold o5
  dsimp only
  rw [lF_,aa_]
theorem Ew {left:Bool} (ha:ym 12 a) (hb:ym 12 b) (he:gY fuel e):xQ a b e left=some ⟨a.kinds++b.kinds,aI (uA e left b.kinds.length a.rows b.rows)⟩:=by
 have h1:=ha.len;have h2:=hb.len;have h3:=ha.kinds;have h4:=hb.kinds;have h5:=ha.pos;have h6:=hb.pos
 have hjl:=Ca e left b.kinds.length h1 h2
 unfold xQ
 rw [Pi (by omega),aa8,eu (l:=a.rows) (uU e left b.kinds.length b.rows) 5864062014805 ?_ ?_ (by unfold fuel;omega) [] (by unfold uA at hjl;simp only [abF];omega)]
 ·rw [aa8,abd]
  unfold sO
  dsimp only
  rw [fO _ (by unfold uA at hjl;omega) (fun r hr=>?_)]
  ·rfl
  ·have:=Bn e left b.kinds.length (k:=a.kinds.length) ha.row hb.row r hr
   omega
 ·intro s i x hx hs
  have hi:=(aa9.1 hx).1
  have hxk:=ha.row x (abe hx)
  unfold si
  dsimp only
  rw [aY hx,aa']
  have hsl:s.length+(jm e b.rows x).length<=5864062014805:=by unfold uU at hs;rw [abg] at hs;omega
  rw [K4 he hx (by omega) hb s false hsl,aa8]
  unfold sV
  dsimp only
  rw [gn_ hx,aa8,OG h4,aa8,Dw (by rw [List.length_replicate];omega),aa8,wrapN (by omega)]
  unfold uU at hs ⊢
  cases left with
  | false=>simp
  | true =>
   cases hh:(jm e b.rows x).isEmpty with
   | false=>simp
   | true =>
    rw [hh] at hs
    have hs2:(s++jm e b.rows x).length+1<=5864062014805:=by rw [abg] at hs ⊢;simp at hs;omega
    simp only [aa',aa_,Bool.not_false,abI]
    rw [abb hs2,aa',abB]
 ·intro s
  unfold si
  dsimp only
  rw [lF_,aa_]
end
theorem EK (a b:Bag) (e:Ex):wW a b e=some true:=by
 unfold wW
 obtain ⟨c,hc,hc2⟩:=jK a 12 (by omega)
 rw [show (12:Int)=((12:Nat):Int) from rfl,hc,aa8]
 cases c with
 | false=>rfl
 | true =>
  have ha:=hc2 rfl
  rw [Bool.not_true,aa_]
  obtain ⟨c,hc,hc2⟩:=jK b 12 (by omega)
  rw [hc,aa8]
  cases c with
  | false=>rfl
  | true =>
   have hb:=hc2 rfl
   rw [Bool.not_true,aa_]
   obtain ⟨c,hc,hc2⟩:=pM [e]
   rw [hc,aa8]
   cases c with
   | false=>rfl
   | true =>
    have he:=(hc2 rfl).2 e (by simp)
    rw [Bool.not_true,aa_]
    have h1:=ha.kinds;have h2:=hb.kinds;have h3:=ha.pos
    rw [abb (show a.kinds.length<=17592186044416 by omega),aa',abb (show a.kinds.length+b.kinds.length<=17592186044416 by omega),aa']
    cases decide ((48:Int)<IntKind.i64.wrap (((a.kinds.length:Nat):Int)+((b.kinds.length:Nat):Int))) with
    | true=>rfl
    | false =>
     rw [aa_]
     obtain ⟨n,hn⟩:=yD (a.kinds++b.kinds) he
     rw [hn,aa8]
     cases decide (n≠0) with
     | true=>rfl
     | false =>
      have key : ∀ left,gExactly ⟨a.kinds++b.kinds,aI (uA e left b.kinds.length a.rows b.rows)⟩ ⟨a.kinds++b.kinds,aI (uA e left b.kinds.length a.rows b.rows)⟩=some true:=fun left=>by
       have hjl:=Ca e left b.kinds.length ha.len hb.len
       refine yl _ (by show (a.kinds++b.kinds).length<=_;rw [abg];omega) (by show (aI _).length<=_;rw [(bn _).length_eq];omega) (fun r hr=>?_)
       have:=Bn e left b.kinds.length (k:=a.kinds.length) ha.row hb.row r ((bn _).mem_iff.1 hr)
       omega
      rw [aa_,Jv ha hb he,aa8,Ew ha hb he,aa8,key,aa8,aa',Jv ha hb he,aa8,Ew ha hb he,aa8,key];rfl
theorem yB {a:Bag} {b:Bag} {e:Ex} (q0:okBag a) (q1:okBag b) (q2:okEx e):Pure Tryz.prog 9 [.agg (cBag a), .agg (cBag b), .agg (tE e)] (.val (.one (.bool true))):=JV (EK a b e)
end Go.Proofs.YtfpbmfalamappaaGreatDoor
