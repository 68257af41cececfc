/- Parts. No condition. -/
import Derived.Shelf.SlGeneric
import Derived.Shelf.SlicesG.Cmp
import Derived.Ground.SlsfProg
import Derived.Ground.SlgcProg
import Derived.Test.YtlcceppoloaecaaGreatDoorXAG
import Derived.WalkSpells
import Derived.WalkLawsBesides
import Derived.Deep.QuietTactic
import Derived.Deep.RegionHeld3
set_option maxHeartbeats 8000000
set_option maxRecDepth 100000
set_option linter.unusedSimpArgs false
set_option linter.unusedVariables false
namespace Go.Proofs
open Go.Shelf
def Tryz.sortInt_ren:Go.Shelf.Ren:=⟨fun|6=>39|15=>81|14=>80|28=>129|29=>130|20=>121|21=>122|22=>123|23=>124|24=>125|25=>126|26=>127|27=>128|46=>191|47=>192|48=>193|49=>194|50=>195|57=>233|n=>n,fun|22=>29|24=>3|25=>65|3=>3|39=>103|0=>0|53=>143|55=>145|4=>4|46=>137|45=>136|50=>106|5=>5|9=>9|66=>179|70=>183|76=>218|77=>188|n=>n,fun|n=>n⟩
theorem Tryz.sortInt:Go.Proofs.SlLaysF.n6 Tryz.prog Tryz.sortInt_ren :={
 mixed:=k7
 f6:=⟨Tryz.f39.name,by decide,Tryz.func39.trans (congrArg some k7)⟩
 f14:=⟨Tryz.f80.name,by decide,Tryz.func80.trans (congrArg some k7)⟩
 f15:=Tryz.func81.trans (congrArg some k7)
 f20:=⟨Tryz.f121.name,by decide,Tryz.func121.trans (congrArg some k7)⟩
 f21:=⟨Tryz.f122.name,by decide,Tryz.func122.trans (congrArg some k7)⟩
 f22:=⟨Tryz.f123.name,by decide,Tryz.func123.trans (congrArg some k7)⟩
 f23:=⟨Tryz.f124.name,by decide,Tryz.func124.trans (congrArg some k7)⟩
 f24:=⟨Tryz.f125.name,by decide,Tryz.func125.trans (congrArg some k7)⟩
 f25:=⟨Tryz.f126.name,by decide,Tryz.func126.trans (congrArg some k7)⟩
 f26:=⟨Tryz.f127.name,by decide,Tryz.func127.trans (congrArg some k7)⟩
 f27:=⟨Tryz.f128.name,by decide,Tryz.func128.trans (congrArg some k7)⟩
 f28:=Tryz.func129.trans (congrArg some k7)
 f29:=Tryz.func130.trans (congrArg some k7)
 f46:=⟨Tryz.f191.name,by decide,Tryz.func191.trans (congrArg some k7)⟩
 f47:=Tryz.func192.trans (congrArg some k7)
 f48:=Tryz.func193.trans (congrArg some k7)
 f49:=⟨Tryz.f194.name,by decide,Tryz.func194.trans (congrArg some k7)⟩
 f50:=⟨Tryz.f195.name,by decide,Tryz.func195.trans (congrArg some k7)⟩
 f57:=⟨Tryz.f233.name,by decide,Tryz.func233.trans (congrArg some k7)⟩
 t0:=Tryz.underlying0
 a0:=Tryz.isAgg0
 z0:=Tryz.sizeOf0
 v0:=Tryz.zeroValue0
 t3:=Tryz.underlying3
 a3:=Tryz.isAgg3
 z3:=Tryz.sizeOf3
 v3:=Tryz.zeroValue3
 t4:=Tryz.underlying4
 a4:=Tryz.isAgg4
 z4:=Tryz.sizeOf4
 v4:=Tryz.zeroValue4
 t5:=Tryz.underlying5
 a5:=Tryz.isAgg5
 z5:=Tryz.sizeOf5
 v5:=Tryz.zeroValue5
 t9:=Tryz.underlying9
 a9:=Tryz.isAgg9
 z9:=Tryz.sizeOf9
 v9:=Tryz.zeroValue9
 t22:=Tryz.underlying29
 a22:=Tryz.isAgg29
 z22:=Tryz.sizeOf29
 v22:=Tryz.zeroValue29
 a24:=Tryz.isAgg3
 z24:=Tryz.sizeOf3
 t25:=Tryz.underlying65
 a25:=Tryz.isAgg65
 z25:=Tryz.sizeOf65
 v25:=Tryz.zeroValue65
 t39:=Tryz.underlying103
 a39:=Tryz.isAgg103
 z39:=Tryz.sizeOf103
 v39:=Tryz.zeroValue103
 t45:=Tryz.underlying136
 a45:=Tryz.isAgg136
 z45:=Tryz.sizeOf136
 v45:=Tryz.zeroValue136
 t46:=Tryz.underlying137
 a46:=Tryz.isAgg137
 z46:=Tryz.sizeOf137
 v46:=Tryz.zeroValue137
 t50:=Tryz.underlying106
 a50:=Tryz.isAgg106
 z50:=Tryz.sizeOf106
 v50:=Tryz.zeroValue106
 t53:=Tryz.underlying143
 a53:=Tryz.isAgg143
 z53:=Tryz.sizeOf143
 v53:=Tryz.zeroValue143
 t55:=Tryz.underlying145
 a55:=Tryz.isAgg145
 z55:=Tryz.sizeOf145
 v55:=Tryz.zeroValue145
 t66:=Tryz.underlying179
 a66:=Tryz.isAgg179
 z66:=Tryz.sizeOf179
 v66:=Tryz.zeroValue179
 t70:=Tryz.underlying183
 a70:=Tryz.isAgg183
 z70:=Tryz.sizeOf183
 v70:=Tryz.zeroValue183
 t76:=Tryz.underlying218
 a76:=Tryz.isAgg218
 z76:=Tryz.sizeOf218
 v76:=Tryz.zeroValue218
 t77:=Tryz.underlying188
 a77:=Tryz.isAgg188
 z77:=Tryz.sizeOf188
 v77:=Tryz.zeroValue188 }
def Tryz.sortPair_ren:Go.Shelf.Ren:=⟨fun|6=>42|15=>81|14=>83|28=>129|29=>130|20=>131|21=>132|22=>133|23=>134|24=>135|25=>136|26=>137|27=>138|46=>196|47=>192|48=>193|49=>197|50=>198|57=>234|n=>n,fun|22=>25|24=>63|25=>67|3=>3|39=>103|0=>0|53=>143|55=>145|4=>4|46=>137|45=>136|50=>106|5=>5|9=>9|66=>179|70=>183|76=>218|77=>188|n=>n,fun|n=>n⟩
theorem Tryz.sortPair:Go.Proofs.SlLaysF0.n6 Tryz.prog Tryz.sortPair_ren :={
 mixed:=k7
 f6:=⟨Tryz.f42.name,by decide,Tryz.func42.trans (congrArg some k7)⟩
 f14:=⟨Tryz.f83.name,by decide,Tryz.func83.trans (congrArg some k7)⟩
 f15:=Tryz.func81.trans (congrArg some k7)
 f20:=⟨Tryz.f131.name,by decide,Tryz.func131.trans (congrArg some k7)⟩
 f21:=⟨Tryz.f132.name,by decide,Tryz.func132.trans (congrArg some k7)⟩
 f22:=⟨Tryz.f133.name,by decide,Tryz.func133.trans (congrArg some k7)⟩
 f23:=⟨Tryz.f134.name,by decide,Tryz.func134.trans (congrArg some k7)⟩
 f24:=⟨Tryz.f135.name,by decide,Tryz.func135.trans (congrArg some k7)⟩
 f25:=⟨Tryz.f136.name,by decide,Tryz.func136.trans (congrArg some k7)⟩
 f26:=⟨Tryz.f137.name,by decide,Tryz.func137.trans (congrArg some k7)⟩
 f27:=⟨Tryz.f138.name,by decide,Tryz.func138.trans (congrArg some k7)⟩
 f28:=Tryz.func129.trans (congrArg some k7)
 f29:=Tryz.func130.trans (congrArg some k7)
 f46:=⟨Tryz.f196.name,by decide,Tryz.func196.trans (congrArg some k7)⟩
 f47:=Tryz.func192.trans (congrArg some k7)
 f48:=Tryz.func193.trans (congrArg some k7)
 f49:=⟨Tryz.f197.name,by decide,Tryz.func197.trans (congrArg some k7)⟩
 f50:=⟨Tryz.f198.name,by decide,Tryz.func198.trans (congrArg some k7)⟩
 f57:=⟨Tryz.f234.name,by decide,Tryz.func234.trans (congrArg some k7)⟩
 t0:=Tryz.underlying0
 a0:=Tryz.isAgg0
 z0:=Tryz.sizeOf0
 v0:=Tryz.zeroValue0
 t3:=Tryz.underlying3
 a3:=Tryz.isAgg3
 z3:=Tryz.sizeOf3
 v3:=Tryz.zeroValue3
 t4:=Tryz.underlying4
 a4:=Tryz.isAgg4
 z4:=Tryz.sizeOf4
 v4:=Tryz.zeroValue4
 t5:=Tryz.underlying5
 a5:=Tryz.isAgg5
 z5:=Tryz.sizeOf5
 v5:=Tryz.zeroValue5
 t9:=Tryz.underlying9
 a9:=Tryz.isAgg9
 z9:=Tryz.sizeOf9
 v9:=Tryz.zeroValue9
 t22:=Tryz.underlying25
 a22:=Tryz.isAgg25
 z22:=Tryz.sizeOf25
 v22:=Tryz.zeroValue25
 t25:=Tryz.underlying67
 a25:=Tryz.isAgg67
 z25:=Tryz.sizeOf67
 v25:=Tryz.zeroValue67
 t39:=Tryz.underlying103
 a39:=Tryz.isAgg103
 z39:=Tryz.sizeOf103
 v39:=Tryz.zeroValue103
 t45:=Tryz.underlying136
 a45:=Tryz.isAgg136
 z45:=Tryz.sizeOf136
 v45:=Tryz.zeroValue136
 t46:=Tryz.underlying137
 a46:=Tryz.isAgg137
 z46:=Tryz.sizeOf137
 v46:=Tryz.zeroValue137
 t50:=Tryz.underlying106
 a50:=Tryz.isAgg106
 z50:=Tryz.sizeOf106
 v50:=Tryz.zeroValue106
 t53:=Tryz.underlying143
 a53:=Tryz.isAgg143
 z53:=Tryz.sizeOf143
 v53:=Tryz.zeroValue143
 t55:=Tryz.underlying145
 a55:=Tryz.isAgg145
 z55:=Tryz.sizeOf145
 v55:=Tryz.zeroValue145
 t66:=Tryz.underlying179
 a66:=Tryz.isAgg179
 z66:=Tryz.sizeOf179
 v66:=Tryz.zeroValue179
 t70:=Tryz.underlying183
 a70:=Tryz.isAgg183
 z70:=Tryz.sizeOf183
 v70:=Tryz.zeroValue183
 t76:=Tryz.underlying218
 a76:=Tryz.isAgg218
 z76:=Tryz.sizeOf218
 v76:=Tryz.zeroValue218
 t77:=Tryz.underlying188
 a77:=Tryz.isAgg188
 z77:=Tryz.sizeOf188
 v77:=Tryz.zeroValue188 }
def Tryz.sortEdge_ren:Go.Shelf.Ren:=⟨fun|6=>212|15=>81|14=>246|28=>129|29=>130|20=>265|21=>266|22=>267|23=>268|24=>269|25=>270|26=>271|27=>272|46=>289|47=>192|48=>193|49=>290|50=>291|57=>300|n=>n,fun|22=>159|24=>162|25=>211|3=>3|39=>103|0=>0|53=>143|55=>145|4=>4|46=>137|45=>136|50=>106|5=>5|9=>9|66=>179|70=>183|76=>218|77=>188|n=>n,fun|n=>n⟩
theorem Tryz.sortEdge:Go.Proofs.SlLaysF0.n6 Tryz.prog Tryz.sortEdge_ren :={
 mixed:=k7
 f6:=⟨Tryz.f212.name,by decide,Tryz.func212.trans (congrArg some k7)⟩
 f14:=⟨Tryz.f246.name,by decide,Tryz.func246.trans (congrArg some k7)⟩
 f15:=Tryz.func81.trans (congrArg some k7)
 f20:=⟨Tryz.f265.name,by decide,Tryz.func265.trans (congrArg some k7)⟩
 f21:=⟨Tryz.f266.name,by decide,Tryz.func266.trans (congrArg some k7)⟩
 f22:=⟨Tryz.f267.name,by decide,Tryz.func267.trans (congrArg some k7)⟩
 f23:=⟨Tryz.f268.name,by decide,Tryz.func268.trans (congrArg some k7)⟩
 f24:=⟨Tryz.f269.name,by decide,Tryz.func269.trans (congrArg some k7)⟩
 f25:=⟨Tryz.f270.name,by decide,Tryz.func270.trans (congrArg some k7)⟩
 f26:=⟨Tryz.f271.name,by decide,Tryz.func271.trans (congrArg some k7)⟩
 f27:=⟨Tryz.f272.name,by decide,Tryz.func272.trans (congrArg some k7)⟩
 f28:=Tryz.func129.trans (congrArg some k7)
 f29:=Tryz.func130.trans (congrArg some k7)
 f46:=⟨Tryz.f289.name,by decide,Tryz.func289.trans (congrArg some k7)⟩
 f47:=Tryz.func192.trans (congrArg some k7)
 f48:=Tryz.func193.trans (congrArg some k7)
 f49:=⟨Tryz.f290.name,by decide,Tryz.func290.trans (congrArg some k7)⟩
 f50:=⟨Tryz.f291.name,by decide,Tryz.func291.trans (congrArg some k7)⟩
 f57:=⟨Tryz.f300.name,by decide,Tryz.func300.trans (congrArg some k7)⟩
 t0:=Tryz.underlying0
 a0:=Tryz.isAgg0
 z0:=Tryz.sizeOf0
 v0:=Tryz.zeroValue0
 t3:=Tryz.underlying3
 a3:=Tryz.isAgg3
 z3:=Tryz.sizeOf3
 v3:=Tryz.zeroValue3
 t4:=Tryz.underlying4
 a4:=Tryz.isAgg4
 z4:=Tryz.sizeOf4
 v4:=Tryz.zeroValue4
 t5:=Tryz.underlying5
 a5:=Tryz.isAgg5
 z5:=Tryz.sizeOf5
 v5:=Tryz.zeroValue5
 t9:=Tryz.underlying9
 a9:=Tryz.isAgg9
 z9:=Tryz.sizeOf9
 v9:=Tryz.zeroValue9
 t22:=Tryz.underlying159
 a22:=Tryz.isAgg159
 z22:=Tryz.sizeOf159
 v22:=Tryz.zeroValue159
 t25:=Tryz.underlying211
 a25:=Tryz.isAgg211
 z25:=Tryz.sizeOf211
 v25:=Tryz.zeroValue211
 t39:=Tryz.underlying103
 a39:=Tryz.isAgg103
 z39:=Tryz.sizeOf103
 v39:=Tryz.zeroValue103
 t45:=Tryz.underlying136
 a45:=Tryz.isAgg136
 z45:=Tryz.sizeOf136
 v45:=Tryz.zeroValue136
 t46:=Tryz.underlying137
 a46:=Tryz.isAgg137
 z46:=Tryz.sizeOf137
 v46:=Tryz.zeroValue137
 t50:=Tryz.underlying106
 a50:=Tryz.isAgg106
 z50:=Tryz.sizeOf106
 v50:=Tryz.zeroValue106
 t53:=Tryz.underlying143
 a53:=Tryz.isAgg143
 z53:=Tryz.sizeOf143
 v53:=Tryz.zeroValue143
 t55:=Tryz.underlying145
 a55:=Tryz.isAgg145
 z55:=Tryz.sizeOf145
 v55:=Tryz.zeroValue145
 t66:=Tryz.underlying179
 a66:=Tryz.isAgg179
 z66:=Tryz.sizeOf179
 v66:=Tryz.zeroValue179
 t70:=Tryz.underlying183
 a70:=Tryz.isAgg183
 z70:=Tryz.sizeOf183
 v70:=Tryz.zeroValue183
 t76:=Tryz.underlying218
 a76:=Tryz.isAgg218
 z76:=Tryz.sizeOf218
 v76:=Tryz.zeroValue218
 t77:=Tryz.underlying188
 a77:=Tryz.isAgg188
 z77:=Tryz.sizeOf188
 v77:=Tryz.zeroValue188 }
def Tryz.cmpInt_ren:Go.Shelf.Ren:=⟨fun|5=>41|7=>82|n=>n,fun|22=>3|3=>3|4=>4|n=>n,fun|n=>n⟩
theorem Tryz.cmpInt:Go.Proofs.SlLaysC2.n5 Tryz.prog Tryz.cmpInt_ren :={
 mixed:=k7
 f5:=⟨Tryz.f41.name,by decide,Tryz.func41.trans (congrArg some k7)⟩
 f7:=⟨Tryz.f82.name,by decide,Tryz.func82.trans (congrArg some k7)⟩
 t3:=Tryz.underlying3
 a3:=Tryz.isAgg3
 z3:=Tryz.sizeOf3
 v3:=Tryz.zeroValue3
 t4:=Tryz.underlying4
 a4:=Tryz.isAgg4
 z4:=Tryz.sizeOf4
 v4:=Tryz.zeroValue4
 t22:=Tryz.underlying3
 a22:=Tryz.isAgg3
 z22:=Tryz.sizeOf3
 v22:=Tryz.zeroValue3 }
end Go.Proofs
namespace Go.Proofs.YtlcceppoloaecaaGreatDoor
open _root_.ByteArray (empty)
open IntKind (i64)
open Go.RowKit Go.Shelf Go.Lib Go.Sort
theorem ltC {α:Type}(f:α->Int)(x y:α):ltOf (fun x y=>Lib.compareInt (f x) (f y)) x y=decide (f x<f y):=by
 unfold ltOf Lib.compareInt;by_cases h1:f x<f y
 ·simp[h1]
 ·by_cases h2:f y<f x<;>simp[h1,h2]
theorem ao8 {α:Type}(f:α->Int):SWO (ltOf fun x y=>Lib.compareInt (f x) (f y)) where
 irrefl x:=by rw[ltC];simp
 trans x y z h1 h2:=by rw[ltC]at *;simp at *;omega
 ntrans x y z h1 h2:=by rw[ltC]at *;simp at *;omega
def anK:Flat cA:=⟨2,fun p=>[p.a,p.b],fun _=>rfl,m0⟩
theorem ahs {cb:Array Value}(h:cb.size=([]:List AC).length):cb=#[]:=by
 apply Array.eq_empty_of_size_eq_zero;simpa using h
theorem ajn:Ot Tryz.prog anK 43 [] (fun x => .agg (anK.enc x).toArray) (fun x y=>Lib.compareInt x.b y.b):=by
 intro R W cb _ hs _ x y;obtain rfl:=ahs hs;show Calls Tryz.prog 43 #[.agg #[.int .i64 x.a,.int .i64 x.b],.agg #[.int .i64 y.a,.int .i64 y.b]] W fun e w'=>e = .returned (.int .i64 (Lib.compareInt x.b y.b)) /\ ∃ q Xn,w'=grow (W.drewN q) Xn
 have Rm:=fun W=>AnyG.cmp_Compare_int Tryz.cmpInt x.b y.b W
 change ∀ W,Calls Tryz.prog 41 _ _ _ at Rm;generalize Lib.compareInt x.b y.b=r at Rm ⊢
 go_enter Tryz.func43,Tryz.ntmps43
 go_wp2_with (go_at_call 41;refine(Rm _).mono ?_;rintro e w' ⟨rfl,rfl⟩)
 go_ret
 exact⟨rfl,0,_,by rw[alloc_eq_grow,alloc_eq_grow,grow_grow];rfl⟩
def afg (n:Nat):Type :={ x:Int // 0<=x/\(x<(n:Int)\/x=0) }
instance (n : Nat) : Inhabited (afg n) := ⟨⟨0, Int.le_refl _, .inr rfl⟩⟩
def ama (n:Nat):Flat (afg n):=⟨1,fun x=>[x.1],fun _=>rfl,m0⟩
def pF (b:List ap)(k:Int):Int:=match b[k.toNat]? with
 |some y=>y.valid.lo
 |none=>0
theorem amZ {cb:Array Value}{x:AC}(h:cb.size=[x].length):∃ v,cb=#[v]:=by
 obtain⟨l⟩:=cb
 match l,h with
 |[v],_=>exact⟨v,rfl⟩
theorem abV (W:World)(b0 o0 b1 o1 n c i j:Nat)(p q:Int)(hi:i<n)(hj:j<n)(hn:n<=1000)(h0:W.cell? ⟨b0,o0,none⟩=some (.slice (some ⟨b1,o1,none⟩) n c))(h1:W.cell? ⟨b1,o1+i*3+1,none⟩=some (.int .i64 p))(h2:W.cell? ⟨b1,o1+j*3+1,none⟩=some (.int .i64 q)) :
  Calls Tryz.prog 40 #[.int .i64 (i:Int),.int .i64 (j:Int),.pointer (some ⟨b0,o0,none⟩)] W fun e w'=>e = .returned (.int .i64 (Lib.compareInt p q)) /\ ∃ q Xn,w'=grow (W.drewN q) Xn:=by
 have Rm:=fun W=>AnyG.cmp_Compare_int Tryz.cmpInt p q W
 change ∀ W,Calls Tryz.prog 41 _ _ _ at Rm;generalize Lib.compareInt p q=r at Rm ⊢
 go_enter Tryz.func40,Tryz.ntmps40
 go_wp2_with fail
 go_region_held3 (fun w'=>w'.cell? ⟨b0,o0,none⟩=some (.slice (some ⟨b1,o1,none⟩) n c)/\w'.cell? ⟨b1,o1+i*3+1,none⟩=some (.int .i64 p)/\w'.cell? ⟨b1,o1+j*3+1,none⟩=some (.int .i64 q))
  (first|go_keep)
  (first|(go_at_call 41;((with_reducible refine(Rm _).mono ?_);rintro e w' ⟨rfl,rfl⟩)))
 go_wp2_with fail
 go_ret
 exact⟨rfl,1,#[],by rw[grow_empty];rfl⟩
theorem ae9 {b:List ap}(h0:0<b.length)(hb:b.length<=1000):Ot Tryz.prog (ama b.length) 40 [.ref [.lst (b.map aH)]] (ama b.length).one (fun x y=>Lib.compareInt (pF b x.1) (pF b y.1)):=by
 intro R W cb hR hs hc x y;obtain⟨v,rfl⟩:=amZ hs;have hv:=hc 0 v _ rfl rfl;obtain⟨x,O0,P2⟩:=x;obtain⟨y,hy1,XY⟩:=y;obtain⟨i,rfl⟩:=Int.eq_ofNat_of_zero_le O0;obtain⟨j,rfl⟩:=Int.eq_ofNat_of_zero_le hy1;have Xl:i<b.length:=m0
 have hyl:j<b.length:=m0
 cases hv with
 |ref b0 o0 _ cv hr he =>
  have TJ:=hR _ _ _ (hr 0 m5);rw[Nat.add_zero]at TJ;have hp:=he 0 _ rfl;generalize cv 0=sv at TJ hp
  cases hp with
  |lst a n c _ k cw b1 o1 hn Wv hk ha SL he2 =>
   have U9:k=3:=by
    have:=hk (aH b[i]) (arK.2 ⟨_,List.getElem_mem Xl,rfl⟩);rw[<- this];rfl
   subst U9;have P5:b.length=n:=by simpa using hn
   subst P5;obtain rfl:=ha h0;have cell:∀ (i:Nat) (hi:i<b.length),W.cell? ⟨b1,o1+i*3+1,none⟩=some (.int .i64 b[i].valid.lo):=fun i hi=>by
    have h1:=hR _ _ _ (SL (i*3+1) m0);have h2:=he2 i (aH b[i]) 1 (.int .i64 b[i].valid.lo) (by rw[arw,arf hi];rfl) rfl
    cases h3:cw (i*3+1)<;>rw[h3]at h2 h1<;>cases h2;rw[Nat.add_assoc];exact h1
   have cx:=cell i Xl;have cy:=cell j hyl;have lx:pF b (i:Int)=b[i].valid.lo:=by unfold pF;rw[Int.toNat_natCast,arf Xl]
   have ly:pF b (j:Int)=b[j].valid.lo:=by unfold pF;rw[Int.toNat_natCast,arf hyl]
   show Calls Tryz.prog 40 #[.int .i64 (i:Int),.int .i64 (j:Int),.pointer (some ⟨b0,o0,none⟩)] W fun e w'=>e = .returned (.int .i64 (Lib.compareInt (pF b (i:Int)) (pF b (j:Int)))) /\ ∃ q Xn,w'=grow (W.drewN q) Xn
   rw[lx,ly];exact abV W b0 o0 b1 o1 b.length c i j _ _ Xl hyl hb TJ cx cy
open Go.RowKit Go.MapKept
def aoG (f:FuncId):Bool:=Nat.beq f 248||Nat.beq f 250||Nat.beq f 252||Nat.beq f 253||Nat.beq f 274||Nat.beq f 293||Nat.beq f 292||Nat.beq f 179||Nat.beq f 244||Nat.beq f 238||Nat.beq f 254||Nat.beq f 204||Nat.beq f 242||Nat.beq f 193||Nat.beq f 276||Nat.beq f 277||Nat.beq f 295||Nat.beq f 305||Nat.beq f 241||Nat.beq f 256||Nat.beq f 257||Nat.beq f 258||Nat.beq f 259||Nat.beq f 260||Nat.beq f 261||Nat.beq f 262||Nat.beq f 263||Nat.beq f 278||Nat.beq f 279||Nat.beq f 280||Nat.beq f 264||Nat.beq f 281||Nat.beq f 282||Nat.beq f 283||Nat.beq f 284||Nat.beq f 285||Nat.beq f 286||Nat.beq f 287||Nat.beq f 288||Nat.beq f 297||Nat.beq f 298||Nat.beq f 299||Nat.beq f 92||Nat.beq f 145||Nat.beq f 54||Nat.beq f 18||Nat.beq f 52||Nat.beq f 53||Nat.beq f 99||Nat.beq f 62||Nat.beq f 58||Nat.beq f 156||Nat.beq f 39||Nat.beq f 42||Nat.beq f 212||Nat.beq f 80||Nat.beq f 121||Nat.beq f 122||Nat.beq f 123||Nat.beq f 124||Nat.beq f 125||Nat.beq f 126||Nat.beq f 127||Nat.beq f 128||Nat.beq f 191||Nat.beq f 194||Nat.beq f 195||Nat.beq f 83||Nat.beq f 131||Nat.beq f 132||Nat.beq f 133||Nat.beq f 134||Nat.beq f 135||Nat.beq f 136||Nat.beq f 137||Nat.beq f 138||Nat.beq f 196||Nat.beq f 197||Nat.beq f 198||Nat.beq f 246||Nat.beq f 265||Nat.beq f 266||Nat.beq f 267||Nat.beq f 268||Nat.beq f 269||Nat.beq f 270||Nat.beq f 271||Nat.beq f 272||Nat.beq f 289||Nat.beq f 290||Nat.beq f 291
def ap8 (f:FuncId)(d:Nat):Bool:=Nat.beq f 74||Nat.beq f 207||Nat.beq f 237||Nat.beq f 250||Nat.beq f 252||Nat.beq f 100||Nat.beq f 60||Nat.beq f 12||Nat.beq f 156||Nat.beq f 62||(Nat.beq f 202&&Nat.beq d 41)||(Nat.beq f 202&&Nat.beq d 42)
def aqh (f:FuncId)(id:Nat):List Nat :=
 if (Nat.beq f 12&&Nat.beq id 8)=true then [3]else
 if (Nat.beq f 35&&Nat.beq id 1)=true then [3]else
 if (Nat.beq f 74&&Nat.beq id 18)=true then [5]else
 if (Nat.beq f 52&&Nat.beq id 4)=true then [4,5,9]else
 []
def aqC (f:FuncId)(id:Nat):Bool×Bool :=
 (false,true)
def fzT (f:FuncId)(id:Nat):List Nat :=
 if (Nat.beq f 52&&Nat.beq id 4)=true then [4,5,9]else
 []
def swT (f:FuncId)(id:Nat):Option (Nat×List Nat) :=
 if (Nat.beq f 52&&Nat.beq id 4)=true then some (12,[10,11])else
 none
def aqt (f:FuncId):Bool:=Nat.beq f 183||Nat.beq f 4||Nat.beq f 6||Nat.beq f 9
def acO:TI :={ tab with owns:=aoG }
theorem am:TIok Tryz.prog acO:=⟨tab_ok.size,tab_ok.agg,tab_ok.elem,tab_ok.field,tab_ok.zero,tab_ok.bytes,tab_ok.kind,tab_ok.struct,tab_ok.zok,tab_ok.eqs⟩
def aqL:FuncId->List PV->Option CV:=fun _ _=>none
noncomputable def cx:Cx :={ P:=Tryz.prog,ti:=acO,xs:=⟨293,292⟩,row:=ap8,frz:=aqh,flg:=aqC,orc:=aqL,bad:=aqt,fz:=fzT,sw:=swT }
inductive Step (σ ρ:Type) where
 |next (s:σ)
 |exit (s:σ)
 |ret (r:ρ)
def ao {σ ρ:Type}(body:σ->Option (Step σ ρ)):Nat->σ->Option (Sum σ ρ)
 |0,_=>none
 |n+1,s=>match body s with
  |none=>none
  |some (.next s')=>ao body n s'
  |some (.exit s')=>some (.inl s')
  |some (.ret r)=>some (.inr r)
def fuel:Nat:=4611686018427387904
def aF {α:Type}(l:List α)(i:Int):Option α:=if 0<=i then l[i.toNat]? else none
def gq {α:Type}(l:List α)(a b:Int):Option (List α):=if 0<=a/\a<=b/\b<=(l.length:Nat)then some ((l.take b.toNat).drop a.toNat)else none
theorem bd_ {α β:Type}{x:Option α}{f:α->Option β}{r:β}(h:x.bind f=some r):∃ a,x=some a/\f a=some r:=by
 cases x with
 |none=>cases h
 |some a=>exact⟨a,rfl,h⟩
theorem gu {α:Type}{l:List α}{i:Int}{x:α}(h:aF l i=some x):0<=i/\l[i.toNat]?=some x:=by
 unfold aF at h;by_cases h0:0<=i
 ·rw[if_pos h0]at h;exact⟨h0,h⟩
 ·rw[if_neg h0]at h;cases h
theorem cX {α:Type}{l r:List α}{a b:Int}(h:gq l a b=some r):(0<=a/\a<=b/\b<=(l.length:Nat))/\r=(l.take b.toNat).drop a.toNat:=by
 unfold gq at h;by_cases h0:0<=a/\a<=b/\b<=(l.length:Nat)
 ·rw[if_pos h0]at h;exact⟨h0,(arH h).symm⟩
 ·rw[if_neg h0]at h;cases h
theorem gR {c:Bool}{β:Type}{x:Option β}{r:β}(h:(bif c then x else none)=some r):c=true/\x=some r:=by
 cases c with
 |true=>exact⟨rfl,h⟩
 |false=>cases h
theorem aj0 {α:Type}{l:List α}{f:α->List AC}{i:Int}{x:α}(h:l[i.toNat]?=some x):(l.map f)[i.toNat]?=some (f x):=by rw[arw,h];rfl
theorem wideI {α:Type}{f:α->List AC}{k:Nat}(hf:∀ x,(f x).length=k)(l:List α):∀ e∈l.map f,e.length=k:=by
 intro e he;simp only[arK]at he;obtain⟨x,_,rfl⟩:=he;exact hf x
section
variable {P:Program} {ti:TI} {N n0:Nat} {Q:AX->Tm->List Ob->Prop} {T:Tm} {L:List Ob}
@[reducible] def After {σ ρ γ:Type}(K:Sum σ ρ->Option γ)(r:γ):Step σ ρ->Prop
 |.next _=>True
 |.exit s=>K (.inl s)=some r
 |.ret q=>K (.inr q)=some r
theorem alM_ {σ ρ γ:Type}{c:Code}{body:σ->Option (Step σ ρ)}{K:Sum σ ρ->Option γ}{r:γ}{s0:σ}(TT:σ->Tm)(LL:σ->List Ob)(h:(ao body fuel s0).bind K=some r)(RA:∀ s,n0<=(LL s).length)(hf:Fits T L (TT s0) (LL s0))
  (round:∀ s st,body s=some st->After K r st->Aw P N n0 c (AX.then (fun T' L' =>∃ s',st = .next s'/\Fits T' L' (TT s') (LL s')) Q) (TT s) (LL s)):Aw P N n0 (.loop c) Q T L:=by
 refine cz (fun s:Nat×σ=>TT s.2) (fun s=>LL s.2) (fun s=>(ao body s.1 s.2).bind K=some r) (fun s=>s.1) (fuel,s0) h (fun s _=>RA s.2) hf ?_;rintro⟨n,s⟩ Qg;dsimp only at Qg ⊢
 cases n with
 |zero=>cases Qg
 |succ n =>
  rw[ao]at Qg
  cases hb:body s with
  |none=>rw[hb]at Qg;cases Qg
  |some st =>
   rw[hb]at Qg;refine Aw.mono (round s st hb ?_) ?_
   ·cases st with
    |next s'=>trivial
    |exit s'=>exact Qg
    |ret q=>exact Qg
   ·intro x T' L' hq
    cases x with
    |normal =>
     obtain⟨s',rfl,RP⟩:=hq;exact⟨(n,s'),Qg,Nat.lt_succ_self n,RP⟩
    |exit id=>exact hq
    |ret=>exact hq
end
def mnI (a b:Int):Int:=if b<a then b else a
def zL (a b:Int):Int:=if b>a then b else a
theorem mn_norm (a b:Int):(if false=true then(if b>a then b else a)else(if b<a then b else a))=mnI a b:=rfl
theorem mx_norm (a b:Int):(if true=true then(if b>a then b else a)else(if b<a then b else a))=zL a b:=rfl
theorem wS {α:Type}{f:α->List AC}{l r:List α}{a b:Int}(h:r=(l.take b.toNat).drop a.toNat):((l.map f).take b.toNat).drop a.toNat=r.map f:=by rw[h,<- List.map_take,<- List.map_drop]
def aiZ (n:Nat):SV->Bool
 |.c _=>true
 |.emp=>true
 |.own _ t=>Nat.blt t n
 |.ptr id _=>Nat.blt id n
 |_=>false
def acz (n:Nat):List SV->Bool
 |[]=>true
 |x::l=>and (aiZ n x) (acz n l)
theorem af_ {n:Nat}{x:SV}(h:aiZ n x=true):x.below n:=by
 cases x with
 |c _=>trivial
 |emp=>trivial
 |own _ t=>exact arh h
 |ptr id _=>exact arh h
 |sl=>cases h
 |ep=>cases h
 |mp=>cases h
 |clo=>cases h
theorem gX {n:Nat}:∀ {cs:List SV},acz n cs=true->(Ob.box cs).below n
 |[],_=>fun x hx=>by cases hx
 |c::cs,h=>fun x hx=>by
  rw[acz,arq]at h;rcases arp.1 hx with rfl|hx
  ·exact af_ h.1
  ·exact gX h.2 x hx
section
variable {P:Program} {ti:TI} {N n0:Nat} {ds:List (Option Tmp)} {K:Tm->List Ob->Prop} {rest:List Oper} {o:Oper} {T:Tm} {L:List Ob}
theorem jC {b:Bool}(h:b=true):(b==true)=true:=by rw[h];rfl
theorem jw {b:Bool}(h:b=false):(b==false)=true:=by rw[h];rfl
theorem ahb {b:Bool}(h:b=false):(b==true)=false:=by rw[h];rfl
theorem ahm {b:Bool}(h:b=true):(b==false)=false:=by rw[h];rfl
theorem kw {e:Bool}(h:e=false):(!e)=true:=by rw[h];rfl
theorem kj {e:Bool}(h:e=true):(!e)=false:=by rw[h];rfl
def amW:Op->Bool
 |.pick _ _ _=>true
 |_=>false
theorem p_ {v:AV}{φ:Prop}{d:Nat}(_:amW o.op=false)(hd:o.dst=some d)(hN:Nat.blt d N=true){g0:Bool}(hg:ge ds T o.guard=some g0)(hp:pop ti (look T) L o.op=some (v,φ))(h:aI P ti N ds K rest ((d,v)::T) L)
  (hφ:φ:=by repeat' (first|exact t7|rfl|exact arh rfl|omega|assumption|exact wideI (by intro _;rfl) _|exact wideI J0 _|(intro e he;simp at he;subst he;rfl)|(simp only[arj];omega)|apply And.intro)) (Q8:g0=true:=by first|rfl|exact jC (by first|assumption|exact kw (by assumption))|exact jw (by first|assumption|exact kj (by assumption))):aI P ti N ds K (o::rest) T L:=st_pop hd hN (Q8▸hg) hp hφ h
theorem l_ {v:AV}{L':List Ob}{φ:Prop}{d:Nat}(hd:o.dst=some d)(hN:Nat.blt d N=true){g0:Bool}(hg:ge ds T o.guard=some g0)(hp:AH ti (look T) L o.op=some (v,L',φ))(h:aI P ti N ds K rest ((d,v)::T) L')
  (hφ:φ:=by repeat' (first|exact t7|rfl|exact arh rfl|omega|exact wideI (by intro _;rfl) _|exact wideI J0 _|(intro e he;simp at he;subst he;rfl)|exact arj _|(simp only[arj,ard,arv,arE,arS]<;>omega)|apply And.intro)) (Q8:g0=true:=by first|rfl|exact jC (by first|assumption|exact kw (by assumption))|exact jw (by first|assumption|exact kj (by assumption))):aI P ti N ds K (o::rest) T L:=st_lop hd hN (Q8▸hg) hp hφ h
theorem s_ {v:AV}{L':List Ob}{φ:Prop}(hd:o.dst=none){g0:Bool}(hg:ge ds T o.guard=some g0)(hp:AH ti (look T) L o.op=some (v,L',φ))(h:aI P ti N ds K rest T L')(hφ:φ:=by repeat' (first|exact t7|rfl|exact arh rfl|omega|apply And.intro))(Q8:g0=true:=by first|rfl|exact jC (by first|assumption|exact kw (by assumption))|exact jw (by first|assumption|exact kj (by assumption))):aI P ti N ds K (o::rest) T L:=sS_ hd (Q8▸hg) hp hφ h
theorem t_ {v:AV}{φ:Prop}{d:Nat}(hd:o.dst=some d)(hN:Nat.blt d N=true){g0:Bool}(hg:ge ds T o.guard=some g0)(hp:uN ti (look T) o.op=some (v,φ))(h:aI P ti N ds K rest ((d,v)::T) L)
  (hφ:φ:=by repeat' (first|exact t7|rfl|exact arh rfl|omega|(intro e he;simp at he;subst he;rfl)|(intro e he;simp at he;rcases he with rfl|rfl<;>rfl)|(intro e he;simp at he;rcases he with rfl|rfl|rfl<;>rfl)|(intro e he;simp at he;rcases he with rfl|rfl|rfl|rfl<;>rfl)|apply And.intro)) (Q8:g0=true:=by first|rfl|exact jC (by first|assumption|exact kw (by assumption))|exact jw (by first|assumption|exact kj (by assumption))):aI P ti N ds K (o::rest) T L:=st_lit hd hN (Q8▸hg) hp hφ h
theorem c_ {g:FuncId}{ps:List PV}{r:CV}{d:Nat}{v:AV}(hd:o.dst=some d)(hN:Nat.blt d N=true){g0:Bool}(hg:ge ds T o.guard=some g0)(hp:qF (look T) o.op=some (g,ps))(h:aI P ti N ds K rest ((d,v)::T) L)(hc:Pure P g ps r:=by assumption)(hv:r.av=v:=by rfl)(Q8:g0=true:=by first|rfl|exact jC (by first|assumption|exact kw (by assumption))|exact jw (by first|assumption|exact kj (by assumption))):aI P ti N ds K (o::rest) T L:=aN hd hN (Q8▸hg) hp hc hv h
theorem x_ {t:TypeId}{x ix:Operand}{vx:AV}{es:List (List AC)}{k0:IntKind}{i:Int}{k d:Nat}{e:List AC}(hd:o.dst=some d)(hN:Nat.blt d N=true){g0:Bool}(hg:ge ds T o.guard=some g0)(ho:o.op = .indexAddr t x ix)(hx:look T x=some vx)(hl:dD vx=some es)(hi:look T ix=some (.one (.c (.int k0 i))))
  (hk:(ti.elem t).bind ti.size=some k) (h:aI P ti N ds K rest ((d,.one (.c (.ref e)))::T) L) (he:es[i.toNat]?=some e:=by assumption) (h0:0<=i:=by assumption) (Xe:e.length=k:=by rfl) (Q8:g0=true:=by first|rfl|exact jC (by first|assumption|exact kw (by assumption))|exact jw (by first|assumption|exact kj (by assumption))):aI P ti N ds K (o::rest) T L:=bB hd hN (Q8▸hg) ho hx hl hi hk he ⟨h0,Xe⟩ h
theorem pick_t {c a b:Operand}{e:Bool}{va vb:AV}{d:Nat}(hd:o.dst=some d)(hN:Nat.blt d N=true){g0:Bool}(hg:ge ds T o.guard=some g0)(ho:o.op = .pick c a b)(hc:look T c=some (.one (.c (.bool e))))(ha:look T a=some va)(hb:look T b=some vb)(h:aI P ti N ds K rest ((d,va)::T) L)
  (he:e=true:=by first|rfl|assumption|exact kw (by assumption)) (Q8:g0=true:=by first|rfl|exact jC (by first|assumption|exact kw (by assumption))|exact jw (by first|assumption|exact kj (by assumption))):aI P ti N ds K (o::rest) T L:=st_pop hd hN (Q8▸hg) (by rw[ho];simp only[pop,hc,ha,hb];rw[if_pos he]) trivial h
theorem pick_f {c a b:Operand}{e:Bool}{va vb:AV}{d:Nat}(hd:o.dst=some d)(hN:Nat.blt d N=true){g0:Bool}(hg:ge ds T o.guard=some g0)(ho:o.op = .pick c a b)(hc:look T c=some (.one (.c (.bool e))))(ha:look T a=some va)(hb:look T b=some vb)(h:aI P ti N ds K rest ((d,vb)::T) L)
  (he:e=false:=by first|rfl|assumption|exact kj (by assumption)) (Q8:g0=true:=by first|rfl|exact jC (by first|assumption|exact kw (by assumption))|exact jw (by first|assumption|exact kj (by assumption))):aI P ti N ds K (o::rest) T L:=st_pop hd hN (Q8▸hg) (by rw[ho];simp only[pop,hc,ha,hb];rw[if_neg (by rw[he];decide)]) trivial h
theorem k_ {d:Nat}{g0:Bool}(hd:o.dst=some d)(hN:Nat.blt d N=true)(hg:ge ds T o.guard=some g0)(h:aI P ti N ds K rest ((d,.undef)::T) L)(Q8:g0=false:=by first|rfl|exact ahb (by first|assumption|exact kj (by assumption))|exact ahm (by first|assumption|exact kw (by assumption))):aI P ti N ds K (o::rest) T L:=st_skip hd hN (Q8▸hg) h
theorem k0_ {g0:Bool}(hd:o.dst=none)(hg:ge ds T o.guard=some g0)(h:aI P ti N ds K rest T L)(Q8:g0=false:=by first|rfl|exact ahb (by first|assumption|exact kj (by assumption))|exact ahm (by first|assumption|exact kw (by assumption))):aI P ti N ds K (o::rest) T L:=sk0_ hd (Q8▸hg) h
theorem aw_condT {Q:AX->Tm->List Ob->Prop}{c:Operand}{x y:Code}{b:Bool}(hc:look T c=some (.one (.c (.bool b))))(h:Aw P N n0 x Q T L)(hb:b=true:=by first|rfl|assumption|exact kw (by assumption)):Aw P N n0 (.cond c x y) Q T L:=aw_cond hc (fun _=>h) (fun e=>by rw[hb]at e;cases e)
theorem aw_condF {Q:AX->Tm->List Ob->Prop}{c:Operand}{x y:Code}{b:Bool}(hc:look T c=some (.one (.c (.bool b))))(h:Aw P N n0 y Q T L)(hb:b=false:=by first|rfl|assumption|exact kj (by assumption)):Aw P N n0 (.cond c x y) Q T L:=aw_cond hc (fun e=>by rw[hb]at e;cases e) (fun _=>h)
end
theorem sp {p:Prop}(h:p:=by
 repeat' (first
  |refine p_ rfl rfl rfl rfl rfl ?_|refine st_nil ?_|refine x_ rfl rfl rfl rfl rfl rfl rfl rfl ?_|refine l_ rfl rfl rfl rfl ?_|refine s_ rfl rfl rfl ?_|refine t_ rfl rfl rfl rfl ?_|refine k_ rfl rfl rfl ?_|refine k0_ rfl rfl ?_|refine c_ rfl rfl rfl rfl ?_|refine pick_t rfl rfl rfl rfl rfl rfl rfl ?_|refine pick_f rfl rfl rfl rfl rfl rfl rfl ?_|refine aw_seq ?_|refine aw_region tab_ok _ rfl ?_|refine aw_drawn2 tabS_ok _ rfl mixed (by decide +kernel) ?_|refine aw_condT rfl ?_|refine aw_condF rfl ?_|refine aw_block ?_|refine aw_exit ?_|refine aw_ret ?_|refine aw_skip ?_|rw[arj]|rw[mn_norm]|rw[mx_norm])
 refine a6 (bj rfl ?_ ?_)
 ·repeat' (first|exact t7|rfl|exact arh rfl|omega|apply And.intro)
 ·first|rfl|(simp only[ark,ari,arn,ara]<;>rfl)):p:=h
structure Bx (q:Prop):Prop where
 out:q
theorem gs_ {p q:Prop}(k:q)(h:Bx q->p:=by
 intro hq
 first|refine p_ rfl rfl rfl rfl rfl ?_|refine st_nil ?_|refine x_ rfl rfl rfl rfl rfl rfl rfl rfl ?_|refine l_ rfl rfl rfl rfl ?_|refine s_ rfl rfl rfl ?_|refine t_ rfl rfl rfl rfl ?_|refine k_ rfl rfl rfl ?_|refine k0_ rfl rfl ?_|refine c_ rfl rfl rfl rfl ?_|refine pick_t rfl rfl rfl rfl rfl rfl rfl ?_|refine pick_f rfl rfl rfl rfl rfl rfl rfl ?_|refine aw_seq ?_|refine aw_region tab_ok _ rfl ?_|refine aw_drawn2 tabS_ok _ rfl mixed (by decide +kernel) ?_|refine aw_condT rfl ?_|refine aw_condF rfl ?_|refine aw_block ?_|refine aw_exit ?_|refine aw_ret ?_|refine aw_skip ?_|rw[arj]|rw[mn_norm]|rw[mx_norm]
 exact hq.out):p:=h ⟨k⟩
theorem gs0_ {p q:Prop}(k:q)(h:Bx q->p:=by
 intro hq
 first|refine p_ rfl rfl rfl rfl rfl ?_|refine st_nil ?_|refine x_ rfl rfl rfl rfl rfl rfl rfl rfl ?_|refine l_ rfl rfl rfl rfl ?_|refine s_ rfl rfl rfl ?_|refine t_ rfl rfl rfl rfl ?_|refine k_ rfl rfl rfl ?_|refine k0_ rfl rfl ?_|refine c_ rfl rfl rfl rfl ?_|refine pick_t rfl rfl rfl rfl rfl rfl rfl ?_|refine pick_f rfl rfl rfl rfl rfl rfl rfl ?_|refine aw_seq ?_|refine aw_condT rfl ?_|refine aw_condF rfl ?_|refine aw_block ?_|refine aw_exit ?_|refine aw_ret ?_|refine aw_skip ?_|rw[arj]|rw[mn_norm]|rw[mx_norm]
 exact hq.out):p:=h ⟨k⟩
theorem aY {p q:Prop}(k:q)(h:Bx q->p:=by
 intro hq
 repeat' (first
  |refine gs_ ?_)
 exact hq.out):p:=h ⟨k⟩
theorem aj {β:Type}{c:Bool}{x y:Option β}{r:β}(H:(bif c then x else y)=some r):(c=true/\x=some r)\/(c=false/\y=some r):=by
 cases c with
 |true=>exact .inl ⟨rfl,H⟩
 |false=>exact .inr ⟨rfl,H⟩
theorem aK {p:Prop}[Decidable p]{β:Type}{x:Option β}{r:β}(H:(bif decide p then x else none)=some r):p/\x=some r:=by
 obtain⟨h,k⟩:=gR H;exact⟨arC h,k⟩
theorem bu {α β:Type}{l:List α}{f:α->List AC}{i:Int}{k:α->Option β}{r:β}(H:(aF l i).bind k=some r):∃ x,0<=i/\l[i.toNat]?=some x/\(l.map f)[i.toNat]?=some (f x)/\k x=some r:=by
 obtain⟨x,h,K⟩:=bd_ H;obtain⟨h0,h1⟩:=gu h;exact⟨x,h0,h1,aj0 h1,K⟩
theorem lt_ {a b:Nat}(h:Nat.blt a b=true:=by rfl):a<b:=arh h
theorem bG {p:Prop}(h:p:=by repeat' (first|refine⟨?_,?_⟩|exact t7|rfl)):p:=h
theorem rB {p:Prop}(h:p:=by repeat' (first|refine⟨?_,?_⟩|exact t7|rfl|(simp only[ark,ari,arn,ara]<;>rfl))):p:=h
theorem a8 {p:Prop}(h:p:=by repeat' (first|refine⟨?_,?_⟩|exact t7|exact lt_|omega)):p:=h
theorem cm {p:Prop}(h:p:=by repeat' (first|refine⟨?_,?_⟩|exact t7|exact gX r5|exact clo_below (arh rfl))):p:=h
theorem nN {p:Prop}(h:p:=by simp only[ard,arv,arE,arS,ark,ari,arn]<;>rfl):p:=h
class EncC (α:Type) (f:outParam (α->List AC)):Prop where
 ok:True
class OkC (p:Prop) (q:outParam Prop):Prop where
 ok:p->q
instance {p q : Prop} : CoeFun (OkC p q) (fun _ => p -> q) := ⟨fun h => h.ok⟩
instance : EncC Int (fun x => [AC.int .i64 x]) := ⟨t7⟩
instance {α : Type} {f : α -> List AC} [EncC α f] : EncC (List α) (fun x => [AC.lst (x.map f)]) := ⟨t7⟩
instance : EncC Val cV := ⟨t7⟩
instance : EncC ax aO := ⟨t7⟩
instance : EncC ap aH := ⟨t7⟩
instance : EncC Ex tE := ⟨t7⟩
instance : EncC cA iq := ⟨t7⟩
instance : EncC Stp li := ⟨t7⟩
instance : EncC yV F_ := ⟨t7⟩
instance : EncC ac af := ⟨t7⟩
instance : EncC F2 Aq := ⟨t7⟩
theorem acF {α β:Type}{l:List α}{f:α->List AC}[EncC α f]{i:Int}{k:α->Option β}{r:β}(H:(aF l i).bind k=some r):∃ x,0<=i/\l[i.toNat]?=some x/\(l.map f)[i.toNat]?=some (f x)/\k x=some r:=bu H
theorem az {α:Type}{x:Option α}{r:α}{p:Prop}(H:x=some r)(h:x=some r->p:=by
 intro H
 try dsimp only at H ⊢
 repeat' (first
  |(obtain⟨_,_,_,i,H⟩:=acF H;try simp only[ark,ari,arn,ara,ay]at i)
  |(obtain⟨_,c,H⟩:=bd_ H;replace c:=OkC.ok c;try simp only[ark,ari,arn,ara,ay]at c)
  |(obtain⟨_,H⟩:=aK H)
  |(rcases aj H with⟨_,H⟩|⟨_,H⟩))
 all_goals cases H
 all_goals (first|exact sp|(refine aY ?_;exact⟨_,rfl,fm_ rB [] nN a8 cm⟩))):p:=h H
theorem bA {α:Type}{x:Option α}{r:α}{p:Prop}{A0:Prop}(H:x=some r)(k0:A0)(h:x=some r->A0->p:=by
 intro H k0
 try dsimp only at H ⊢
 repeat' (first
  |(obtain⟨_,_,_,i,H⟩:=acF H;try simp only[ark,ari,arn,ara,ay]at i)
  |(obtain⟨_,c,H⟩:=bd_ H;replace c:=OkC.ok c;try simp only[ark,ari,arn,ara,ay]at c)
  |(obtain⟨_,H⟩:=aK H)
  |(rcases aj H with⟨_,H⟩|⟨_,H⟩))
 all_goals cases H
 all_goals first
  |(have H:_=some _:=k0
    try dsimp only at H
    repeat' (first
     |(obtain⟨_,_,_,i,H⟩:=acF H;try simp only[ark,ari,arn,ara,ay]at i)
     |(obtain⟨_,c,H⟩:=bd_ H;replace c:=OkC.ok c;try simp only[ark,ari,arn,ara,ay]at c)
     |(obtain⟨_,H⟩:=aK H)
     |(rcases aj H with⟨_,H⟩|⟨_,H⟩))
    all_goals cases H
    all_goals (first|exact sp|(refine aY ?_;exact⟨_,rfl,fm_ rB [] nN a8 cm⟩)))
  |(refine aY ?_;exact⟨_,rfl,fm_ rB [] nN a8 cm⟩)):p:=h H k0
theorem po_ {P : Program} {ti : TI} {N : Nat} {f : FuncId} {fn : Func} {c : Code} {args : List PV} {r : CV} (hf : P.funcs[f]? = some fn) (hN : fn.ntmps = N) {T : Tm} (h : Aw P N 0 c (fun x T L => (x = .normal \/ x = .ret) /\ Res ti fn.results.toList T L r) T []) (O2 : TIok P ti := by exact tab_ok) (hb : fn.body = some c := by rfl) (PP : (fn.name == "runtime.NumGoroutine") = false := by rfl) (hlen : args.length <= N := by simp) (hT : argT 0 args = T := by simp only [argT, PV.av, ari, arn] <;> rfl) : Pure P f args r := pa_ O2 hf hb PP hN hlen (hT ▸ h)
theorem qp_ {p:Prop}(h:p:=by repeat' (first|exact t7|rfl|exact arh rfl|omega|decide|exact arj .. |(simp only[arv,arE];omega)|exact wideI (by intro _;rfl) _|(intro e he;simp at he;subst he;rfl)|(intro e he;obtain⟨q,_,rfl⟩:=arK.1 he;rfl)|(simp only[arj];omega)|(simp only[arj,ard,arv,arE];omega)|(intro e he;simp at he;rcases he with rfl|rfl<;>rfl)|refine asa.2 ⟨?_,?_⟩|exact fun _ h=>nomatch h|(intro e he;obtain⟨q,_,rfl⟩:=arK.1 (asf he);rfl)|(simp only[arj,ar3];omega)|(simp only[arj,ard,ar3,arv,arE];omega)|(simp only[arv,arE,arS];decide)|(show _<_+1;omega)|apply And.intro)):p:=h
theorem gw_ {A B p q:Prop}(a:A)(b:B)(k:q)(h:Bx q->A->B->p:=by
 intro hq ha hb0
 first|refine st_nil ?_|refine st_pop rfl rfl rfl rfl qp_ ?_|refine st_lop rfl rfl rfl rfl qp_ ?_|refine sS_ rfl rfl rfl qp_ ?_|refine st_lit rfl rfl rfl rfl qp_ ?_|refine st_skip rfl rfl rfl ?_|refine sk0_ rfl rfl ?_|(refine st_if rfl (fun hb=>?_) (fun hb=>?_)<;>(first|exact(fx_ hb).elim|rw[hb]))|refine aw_seq ?_|refine aw_region ha _ rfl ?_|refine aw_drawn2 hb0 _ rfl mixed (by decide +kernel) ?_|(refine aw_cond rfl (fun hb=>?_) (fun hb=>?_)<;>(try exact(fx_ hb).elim))|refine aw_block ?_|refine aw_exit ?_|refine aw_ret ?_|refine aw_skip ?_
 exact hq.out):p:=h ⟨k⟩ a b
theorem gi_ {p q1 q2 c1 c2:Prop}(k1:c1->q1)(k2:c2->q2)(h:Bx (c1->q1)->Bx (c2->q2)->p:=by
 intro h1 h2
 first|(refine st_if rfl (fun hb=>?_) (fun hb=>?_);· (rw[hb];exact h1.out hb);· (rw[hb];exact h2.out hb))|exact aw_cond rfl h1.out h2.out):p:=h ⟨k1⟩ ⟨k2⟩
def cB {α σ ρ:Type}(f:σ->α->Option (Sum σ ρ)):σ->List α->Option (Sum σ ρ)
 |s,[]=>some (.inl s)
 |s,x::l=>match f s x with
  |none=>none
  |some (.inl s')=>cB f s' l
  |some (.inr r)=>some (.inr r)
section
variable {α σ ρ S:Type} {l:List α} {body:S->Option (Step S ρ)}
def ET (mk:σ->Int->S)(n:Nat):Option (Sum σ ρ)->Option (Sum S ρ)
 |none=>none
 |some (.inl s')=>some (.inl (mk s' n))
 |some (.inr r)=>some (.inr r)
def oL (mk:σ->Int->S)(i:Nat):Option (Sum σ ρ)->Option (Step S ρ)
 |none=>none
 |some (.inl s')=>some (.next (mk s' (i:Nat)))
 |some (.inr r)=>some (.ret r)
theorem J7 (mk:σ->Int->S)(f:σ->α->Option (Sum σ ρ))(h1:∀ (s:σ) (i:Nat) x,l[i]?=some x->body (mk s i)=oL mk (i+1) (f s x))(h2:∀ s,body (mk s l.length)=some (.exit (mk s l.length))) :
  ∀ (n i:Nat) (s:σ),i<=l.length->l.length-i<n->ao body n (mk s i)=ET mk l.length (cB f s (l.drop i))
 |0,i,s,_,h=>by omega
 |n+1,i,s,hi,hn=>by
  rw[ao];by_cases OZ:i<l.length
  ·obtain⟨x,hx⟩:=gol_ OZ
   have e1:=(aq6.1 hx).2;rw[h1 s i x hx,arG OZ,e1,cB]
   cases hf:f s x with
   |none=>rfl
   |some st=>cases st with
    |inl s'=>exact J7 mk f h1 h2 n (i+1) s' m0 m0
    |inr r=>rfl
  ·have:i=l.length:=m0
   subst this;rw[h2,asb];rfl
theorem b6 (mk:σ->Int->S)(f:σ->α->Option (Sum σ ρ))(h1:∀ (s:σ) (i:Nat) x,l[i]?=some x->body (mk s i)=oL mk (i+1) (f s x))(h2:∀ s,body (mk s l.length)=some (.exit (mk s l.length)))(hl:l.length<fuel)(s:σ) :
  ao body fuel (mk s 0)=ET mk l.length (cB f s l):=J7 mk f h1 h2 fuel 0 s (aru _) m0
end
theorem gn_ {α:Type}{l:List α}{i:Nat}{x:α}(h:l[i]?=some x):aF l (i:Int)=some x:=by
 unfold aF;rw[if_pos m0];exact h
theorem aL {α:Type}{l:List α}{i:Nat}{x:α}(h:l[i]?=some x):decide ((i:Int)<(l.length:Nat))=true:=by
 have:=(aq6.1 h).1;simp;exact this
theorem lF_ (n:Nat):decide ((n:Int)<(n:Nat))=false:=by simp
theorem wrapN {i:Nat}(h:i<=4611686018427387904):i64.wrap ((i:Int)+1)=((i+1:Nat):Int):=a7 m0 m0
def iD (x y:Int):Int:=if x<y then -1 else if y<x then 1 else 0
def rK (v w:Val):Int:=if iD v.kind w.kind≠0 then iD v.kind w.kind else if iD v.int w.int≠0 then iD v.int w.int else ql v.text w.text
def bL:List Val->List Val->Int
 |[],[]=>0
 |[],_::_ => -1
 |_::_,[]=>1
 |a::xs,b::ys=>if rK a b≠0 then rK a b else bL xs ys
def cl (l:List Val):AC := .lst (l.map cV)
def aoM (l:List Int):AC := .lst (l.map fun x=>[.int .i64 x])
theorem OG (a b:ByteArray):PTz 273 [.one (.str a),.one (.str b)] (.val (.one (.int .i64 (ql a b)))):=by
 refine pa_ am Tryz.func273 rfl rfl Tryz.ntmps273 m5 ?_;simp only[argT,PV.av,ari,arn]
 repeat' (first|(refine ci rfl rfl rfl rfl rfl (D_ rfl rfl Tryz.func292 k7 k7 k7 k7) ?_)|refine gw_ am tabS_ok ?_|refine gi_ (fun hb=>?_) (fun hb=>?_)|fail)
 exact⟨.inr rfl,bj rfl (by repeat' (first|exact t7|rfl|exact arh rfl|omega|apply And.intro)) rfl⟩
theorem agt (a b:ByteArray):PTz 249 [.one (.str a),.one (.str b)] (.val (.one (.int .i64 (ql a b)))):=by
 have c:=OG a b;refine po_ Tryz.func249 Tryz.ntmps249 ?_;exact sp
def C4 (a_x:Int):Option (Bool):=some (decide (a_x≠a_x))
instance gIsNaN_ok {a_x : Int} {r : Bool} : OkC (C4 a_x = some r) (PTz 82 [.one (.int .i64 a_x)] (.val (.one (.bool r)))) := .mk fun H => by
 unfold C4 at H;refine po_ Tryz.func82 Tryz.ntmps82 ?_;exact az H
def Ho (a_x:Int)(UE:Int):Option (Int):=(C4 a_x).bind fun Pg=>(C4 UE).bind fun QN=>bif Pg then bif QN then some (0:Int)else
 some (-1:Int)else
 bif QN then some (1:Int)else
 bif (decide (a_x<UE))then some (-1:Int)else
 bif (decide (UE<a_x))then some (1:Int)else
 some (0:Int)
instance gICmp_ok {a_x : Int} {UE : Int} {r : Int} : OkC (Ho a_x UE = some r) (PTz 41 [.one (.int .i64 a_x), .one (.int .i64 UE)] (.val (.one (.int .i64 r)))) := .mk fun H => by
 unfold Ho at H;refine po_ Tryz.func41 Tryz.ntmps41 ?_;exact az H
def KB (Qu:(List Int)):(Int)->Option (Step (Int) (Int)):=fun s=>match s with
 |v_1=>bif (decide (v_1<((Qu.length:Nat):Int)))then(aF Qu v_1).bind fun R_=>bif (decide (R_≠(0:Int)))then some (.ret R_)else
 some (.next (i64.wrap (v_1+(1:Int))))else
 some (.exit v_1)
def Fz:Sum (Int) (Int)->Option ((Int))
 |.inl v_1=>some (0:Int)
 |.inr q=>some q
def gOr (Qu:(List Int)):Option (Int):=(ao (KB Qu) fuel (0:Int)).bind (Fz)
instance gOr_ok {Qu : (List Int)} {r : Int} : OkC (gOr Qu = some r) (PTz 206 [.one (.lst (Qu.map (fun x => [AC.int .i64 x])))] (.val (.one (.int .i64 r)))) := .mk fun H => by
 unfold gOr at H;refine po_ Tryz.func206 Tryz.ntmps206 ?_;refine aY ?_;refine alM_ (fun s:Int=>match s with|v_1=>[(3,.one (.c (.int .i64 (0:Int)))),(6,.one (.c (.lst (Qu.map (fun x=>[AC.int .i64 x]))))),(7,.one (.c (.int .i64 ((Qu.length:Nat):Int)))),(8,.one (.c (.int .i64 v_1)))]) (fun s=>match s with|v_1=>[]) H (fun _=>aru _)
  (fm_ bG [] rfl a8 trivial) ?_
 rintro v_1 st1 OU PM;unfold KB at OU;dsimp only at OU ⊢;rcases aj OU with⟨QG,OU⟩|⟨QG,OU⟩
 ·obtain⟨R_,SN,i1,RL,OU⟩:=bu (f:=(fun x=>[AC.int .i64 x])) OU
  rcases aj OU with⟨Qk,OU⟩|⟨Qk,OU⟩
  ·exact bA OU PM
  cases OU;refine aY ?_;exact⟨_,rfl,fm_ bG [] rfl a8 trivial⟩
 exact bA OU PM
def r8 (OW:Val)(OX:Val):Option (Int):=(Ho OW.kind OX.kind).bind fun Pg=>(Ho OW.int OX.int).bind fun QN=>(gOr [Pg,QN,(ql OW.text OX.text)]).bind fun RN=>some RN
instance gVCmp_ok {OW : Val} {OX : Val} {r : Int} : OkC (r8 OW OX = some r) (PTz 232 [.agg (cV OW), .agg (cV OX)] (.val (.one (.int .i64 r)))) := .mk fun H => by
 unfold r8 at H;refine po_ Tryz.func232 Tryz.ntmps232 ?_;obtain⟨Pg,c1,H⟩:=bd_ H;replace c1:=gICmp_ok c1;obtain⟨QN,c2,H⟩:=bd_ H;replace c2:=gICmp_ok c2;have Xr:=agt OW.text OX.text
 try simp only[ark,ari,arn,ara,ay]at Xr
 exact az H
def jA (Ro:(List Val))(RV:(List Val))(a_cmp:Val->Val->Option (Int)):(Int)->Option (Step (Int) (Int)):=fun s=>match s with
 |v_1=>bif (decide (v_1<((Ro.length:Nat):Int)))then(aF Ro v_1).bind fun R_=>bif (decide (((RV.length:Nat):Int)<=v_1))then some (.ret (1:Int))else
 (aF RV v_1).bind fun Qv=>(a_cmp R_ Qv).bind fun QK=>bif (decide (QK≠(0:Int)))then some (.ret QK)else
 some (.next (i64.wrap (v_1+(1:Int))))else
 some (.exit v_1)
def o6 (Ro:(List Val))(RV:(List Val)):Sum (Int) (Int)->Option ((Int))
 |.inl v_1=>bif (decide (((Ro.length:Nat):Int)<((RV.length:Nat):Int)))then some (-1:Int)else
 some (0:Int)
 |.inr q=>some q
def JQ (Ro:(List Val))(RV:(List Val))(a_cmp:Val->Val->Option (Int)):Option (Int):=(ao (jA Ro RV a_cmp) fuel (0:Int)).bind (o6 Ro RV)
theorem afm {Ro:(List Val)}{RV:(List Val)}{a_cmp:Val->Val->Option (Int)}{r:Int}{zr:FuncId}{zc:List AC}(zj:∀ (y0:Val) (y1:Val) (r:Int),a_cmp y0 y1=some r->PTz zr ([.agg (cV y0),.agg (cV y1)]++zc.map .one) (.val (.one (.int .i64 r))))(H:JQ Ro RV a_cmp=some r):PTz 255 [.one (.lst (Ro.map cV)),.one (.lst (RV.map cV)),.one (.fn zr zc)] (.val (.one (.int .i64 r))):=by
 unfold JQ at H;refine po_ Tryz.func255 Tryz.ntmps255 ?_;refine aY ?_;refine alM_ (fun s:Int=>match s with|v_1=>[(0,.one (.c (.lst (Ro.map cV)))),(1,.one (.c (.lst (RV.map cV)))),(2,.one (.c (.fn zr zc))),(11,.one (.c (.lst (Ro.map cV)))),(12,.one (.c (.int .i64 ((Ro.length:Nat):Int)))),(13,.one (.c (.int .i64 v_1)))]) (fun s=>match s with|v_1=>[]) H (fun _=>aru _)
  (fm_ bG [] rfl a8 trivial) ?_
 rintro v_1 st1 OU PM;unfold jA at OU;dsimp only at OU ⊢;rcases aj OU with⟨QG,OU⟩|⟨QG,OU⟩
 ·obtain⟨R_,SN,i1,RL,OU⟩:=bu (f:=cV) OU
  rcases aj OU with⟨Qk,OU⟩|⟨Qk,OU⟩
  ·exact bA OU PM
  obtain⟨Qv,Z9,i2,Z_,OU⟩:=bu (f:=cV) OU;obtain⟨QK,c3,OU⟩:=bd_ OU;replace c3:=zj _ _ _ c3
  try simp only[ark,ari,arn,ara,ay]at c3
  rcases aj OU with⟨SO,OU⟩|⟨SO,OU⟩
  ·exact bA OU PM
  cases OU;refine aY ?_;exact⟨_,rfl,fm_ bG [_,_] rfl a8 trivial⟩
 exact bA OU PM
def M7 (OW:(List Val))(OX:(List Val)):Option (Int):=(JQ OW OX (fun x0 x1=>r8 x0 x1)).bind fun Pg=>some Pg
instance gTCmp_ok {OW : (List Val)} {OX : (List Val)} {r : Int} : OkC (M7 OW OX = some r) (PTz 240 [.one (.lst (OW.map cV)), .one (.lst (OX.map cV))] (.val (.one (.int .i64 r)))) := .mk fun H => by
 unfold M7 at H;refine po_ Tryz.func240 Tryz.ntmps240 ?_;obtain⟨Pg,c1,H⟩:=bd_ H;replace c1:=afm (zr:=232) (zc:=[]) (fun x0 x1 r h=>gVCmp_ok h) c1
 try simp only[ark,ari,arn,ara,ay]at c1
 exact az H
def afP (s:ByteArray)(i:Int):Option UInt8:=if 0<=i then s[i.toNat]? else none
theorem Ie {s:ByteArray}{i:Int}{x:UInt8}(h:afP s i=some x):0<=i/\s[i.toNat]?=some x:=by
 unfold afP at h;by_cases h0:0<=i
 ·rw[if_pos h0]at h;exact⟨h0,h⟩
 ·rw[if_neg h0]at h;cases h
section
variable {P:Program} {ti:TI} {N n0:Nat} {ds:List (Option Tmp)} {K:Tm->List Ob->Prop} {rest:List Oper} {o:Oper} {T:Tm} {L:List Ob}
theorem b_ {t:TypeId}{x ix:Operand}{s:ByteArray}{k0:IntKind}{i:Int}{b:UInt8}{d:Nat}(hd:o.dst=some d)(hN:Nat.blt d N=true){g0:Bool}(hg:ge ds T o.guard=some g0)(ho:o.op = .index t x ix)(hx:look T x=some (.one (.c (.str s))))(hi:look T ix=some (.one (.c (.int k0 i))))
  (hk:ti.kind t=some .string) (h:aI P ti N ds K rest ((d,.one (.c (.int .u8 ((b.toNat:Nat):Int))))::T) L) (hb:s[i.toNat]?=some b:=by assumption) (h0:0<=i:=by assumption) (Q8:g0=true:=by first|rfl|exact jC (by first|assumption|exact kw (by assumption))|exact jw (by first|assumption|exact kj (by assumption))):aI P ti N ds K (o::rest) T L :=
 st_pop (φ:=0<=i/\ti.kind t=some .string) hd hN (Q8▸hg) (by rw[ho];simp only[pop,hx,hi,lO,hb]) ⟨h0,hk⟩ h
theorem t5_ {v:AV}{φ:Prop}{d:Nat}(hd:o.dst=some d)(hN:Nat.blt d N=true){g0:Bool}(hg:ge ds T o.guard=some g0)(hp:uN ti (look T) o.op=some (v,φ))(h:aI P ti N ds K rest ((d,v)::T) L)
  (hφ:φ:=by repeat' (first|exact t7|rfl|exact arh rfl|omega|refine asa.2 ⟨?_,?_⟩|exact fun _ h=>nomatch h|apply And.intro)) (Q8:g0=true:=by first|rfl|exact jC (by first|assumption|exact kw (by assumption))|exact jw (by first|assumption|exact kj (by assumption))):aI P ti N ds K (o::rest) T L:=st_lit hd hN (Q8▸hg) hp hφ h
end
theorem gs5_ {p q:Prop}(k:q)(h:Bx q->p:=by
 intro hq
 first|refine p_ rfl rfl rfl rfl rfl ?_|refine st_nil ?_|refine x_ rfl rfl rfl rfl rfl rfl rfl rfl ?_|refine l_ rfl rfl rfl rfl ?_|refine s_ rfl rfl rfl ?_|refine t5_ rfl rfl rfl rfl ?_|refine k_ rfl rfl rfl ?_|refine k0_ rfl rfl ?_|refine c_ rfl rfl rfl rfl ?_|refine pick_t rfl rfl rfl rfl rfl rfl rfl ?_|refine pick_f rfl rfl rfl rfl rfl rfl rfl ?_|refine aw_seq ?_|refine aw_region tab_ok _ rfl ?_|refine aw_drawn2 tabS_ok _ rfl mixed (by decide +kernel) ?_|refine aw_condT rfl ?_|refine aw_condF rfl ?_|refine aw_block ?_|refine aw_exit ?_|refine aw_ret ?_|refine aw_skip ?_|rw[arj]|rw[mn_norm]|rw[mx_norm]
 exact hq.out):p:=h ⟨k⟩
def ko:Option (Val):=some (⟨(0:Int),(0:Int),empty⟩:Val)
instance gNull_ok {r : Val} : OkC (ko = some r) (PTz 111 [] (.val (.agg (cV r)))) := .mk fun H => by
 unfold ko at H;refine po_ Tryz.func111 Tryz.ntmps111 ?_;exact az H
def rO (Uc:ByteArray):(Int)->Option (Step (Int) (Bool)):=fun s=>match s with
 |v_1=>bif (decide (v_1<((Uc.size:Nat):Int)))then(afP Uc v_1).bind fun TK=>bif (decide (((TK.toNat:Nat):Int)<(32:Int)))then some (.ret false)else
 bif (decide ((126:Int)<((TK.toNat:Nat):Int)))then some (.ret false)else
 some (.next (i64.wrap (v_1+(1:Int))))else
 some (.exit v_1)
def dA:Sum (Int) (Bool)->Option ((Bool))
 |.inl v_1=>some true
 |.inr q=>some q
def m6 (Uc:ByteArray):Option (Bool):=(ao (rO Uc) fuel (0:Int)).bind (dA)
instance gPrintableP_ok {Uc : ByteArray} {r : Bool} : OkC (m6 Uc = some r) (PTz 227 [.one (.str Uc)] (.val (.one (.bool r)))) := .mk fun H => by
 unfold m6 at H;refine po_ Tryz.func227 Tryz.ntmps227 ?_
 repeat' (first|refine gs5_ ?_|refine b_ rfl rfl rfl rfl rfl rfl rfl ?_)
 refine alM_ (fun s:Int=>match s with|v_1=>[(0,.one (.c (.str Uc))),(5,.one (.c (.int .i64 ((Uc.size:Nat):Int)))),(6,.one (.c (.int .i64 v_1)))]) (fun s=>match s with|v_1=>[]) H (fun _=>aru _)
  (fm_ bG [] rfl a8 trivial) ?_
 rintro v_1 st1 OU PM;unfold rO at OU;dsimp only at OU ⊢;rcases aj OU with⟨QG,OU⟩|⟨QG,OU⟩
 ·obtain⟨TK,i1,OU⟩:=bd_ OU
  obtain⟨SN,i1⟩:=Ie i1;rcases aj OU with⟨Qk,OU⟩|⟨Qk,OU⟩
  ·cases OU
   have O0:dA (.inr false)=some _:=PM;unfold dA at O0;dsimp only at O0
   cases O0
   repeat' (first|refine gs5_ ?_|refine b_ rfl rfl rfl rfl rfl rfl rfl ?_)
   refine a6 (bj rfl ?_ ?_)
   ·repeat' (first|exact t7|rfl|exact arh rfl|omega|apply And.intro)
   ·first|rfl|(simp only[ark,ari,arn,ara]<;>rfl)
  rcases aj OU with⟨RD,OU⟩|⟨RD,OU⟩
  ·cases OU
   have O0:dA (.inr false)=some _:=PM;unfold dA at O0;dsimp only at O0
   cases O0
   repeat' (first|refine gs5_ ?_|refine b_ rfl rfl rfl rfl rfl rfl rfl ?_)
   refine a6 (bj rfl ?_ ?_)
   ·repeat' (first|exact t7|rfl|exact arh rfl|omega|apply And.intro)
   ·first|rfl|(simp only[ark,ari,arn,ara]<;>rfl)
  cases OU
  repeat' (first|refine gs5_ ?_|refine b_ rfl rfl rfl rfl rfl rfl rfl ?_)
  exact⟨_,rfl,fm_ bG [] rfl a8 trivial⟩
 cases OU;have O0:dA (.inl v_1)=some _:=PM;unfold dA at O0;dsimp only at O0
 cases O0
 repeat' (first|refine gs5_ ?_|refine b_ rfl rfl rfl rfl rfl rfl rfl ?_)
 refine a6 (bj rfl ?_ ?_)
 ·repeat' (first|exact t7|rfl|exact arh rfl|omega|apply And.intro)
 ·first|rfl|(simp only[ark,ari,arn,ara]<;>rfl)
def pT (QL:Val):Option (Bool):=bif (decide (QL.kind=(0:Int)))then bif (decide (QL.int=(0:Int)))then some (QL.text.toList==(⟨#[]⟩:ByteArray).toList)else
 some false else
 bif (decide (QL.kind=(1:Int)))then bif (QL.text.toList==(⟨#[]⟩:ByteArray).toList)then bif (decide ((-1125899906842624:Int)<=QL.int))then some (decide (QL.int<=(1125899906842624:Int)))else
 some false else
 some false else
 bif (decide (QL.kind=(2:Int)))then bif (decide (QL.int=(0:Int)))then bif (decide (((QL.text.size:Nat):Int)<=(200:Int)))then(m6 QL.text).bind fun SC=>some SC else
 some false else
 some false else
 bif (decide (QL.kind=(3:Int)))then bif (QL.text.toList==(⟨#[]⟩:ByteArray).toList)then bif (decide (QL.int=(0:Int)))then some true else
 some (decide (QL.int=(1:Int)))else
 some false else
 some false
instance gValidP_ok {QL : Val} {r : Bool} : OkC (pT QL = some r) (PTz 178 [.agg (cV QL)] (.val (.one (.bool r)))) := .mk fun H => by
 unfold pT at H;refine po_ Tryz.func178 Tryz.ntmps178 ?_;exact az H
def uk (QL:Val):Option (Val):=(pT QL).bind fun Pg=>bif (!Pg)then(ko ).bind fun P4=>some P4 else
 some QL
instance gOrNull_ok {QL : Val} {r : Val} : OkC (uk QL = some r) (PTz 230 [.agg (cV QL)] (.val (.agg (cV r)))) := .mk fun H => by
 unfold uk at H;refine po_ Tryz.func230 Tryz.ntmps230 ?_;exact az H
def nh (PS:Int):Option (Val):=(uk (⟨(1:Int),PS,empty⟩:Val)).bind fun Pg=>some Pg
instance gIntP_ok {PS : Int} {r : Val} : OkC (nh PS = some r) (PTz 184 [.one (.int .i64 PS)] (.val (.agg (cV r)))) := .mk fun H => by
 unfold nh at H;refine po_ Tryz.func184 Tryz.ntmps184 ?_;exact az H
def yU (Uc:ByteArray):Option (Val):=(uk (⟨(2:Int),(0:Int),Uc⟩:Val)).bind fun Pg=>some Pg
instance gTextP_ok {Uc : ByteArray} {r : Val} : OkC (yU Uc = some r) (PTz 185 [.one (.str Uc)] (.val (.agg (cV r)))) := .mk fun H => by
 unfold yU at H;refine po_ Tryz.func185 Tryz.ntmps185 ?_;exact az H
def rG (OX:Bool):Option (Val):=bif OX then some (⟨(3:Int),(1:Int),empty⟩:Val)else
 some (⟨(3:Int),(0:Int),empty⟩:Val)
instance gBoolP_ok {OX : Bool} {r : Val} : OkC (rG OX = some r) (PTz 114 [.one (.bool OX)] (.val (.agg (cV r)))) := .mk fun H => by
 unfold rG at H;refine po_ Tryz.func114 Tryz.ntmps114 ?_;exact az H
def gPV (Qb:ax):Option (Bool):=bif (decide ((0:Int)<=Qb.lo))then bif (decide (Qb.lo<Qb.hi))then some (decide (Qb.hi<=(1099511627776:Int)))else
 some false else
 some false
instance gPV_ok {Qb : ax} {r : Bool} : OkC (gPV Qb = some r) (PTz 38 [.agg (aO Qb)] (.val (.one (.bool r)))) := .mk fun H => by
 unfold gPV at H;refine po_ Tryz.func38 Tryz.ntmps38 ?_;exact az H
section
variable {P:Program} {ti:TI} {N:Nat} {ds:List (Option Tmp)} {K:Tm->List Ob->Prop} {rest:List Oper} {o:Oper} {T:Tm} {L:List Ob}
theorem aaF {a b:List SV}(h:b.length=a.length):splice a 0 b=b:=by
 unfold splice;rw[List.take_zero,ara,arS,List.drop_of_length_le m0,arJ]
theorem Bd {α:Type}{enc:α->List AC}{X:List α}{v:α}{t:TypeId}{p q:Operand}{id OY i k:Nat}(hd:o.dst=none)(hg:ge ds T o.guard=some true)(ho:o.op = .store t p q)(hp:look T p=some (.one (.ep id OY i 0)))(hL:L[id]?=some (.row OY ((X.map enc).map (List.map SV.c)) k))(hx:i<X.length)
  (hq:(look T q).bind AV.cells=some ((enc v).map SV.c)) (hk:∀ x,(enc x).length=k) (Py:ti.size t=some k) (h:aI P ti N ds K rest T (L.set id (.row OY (((X.set i v).map enc).map (List.map SV.c)) k))):aI P ti N ds K (o::rest) T L:=by
 obtain⟨x,hx⟩:=gol_ hx;have hl:((enc v).map SV.c).length=((enc x).map SV.c).length:=by rw[arj,arj,hk,hk]
 have he:((X.map enc).map (List.map SV.c))[i]?=some ((enc x).map SV.c):=by rw[arw,arw,hx];rfl
 refine nK hd hg ho hp hq hL he ⟨by rw[arS,hl];exact aro _,by rw[arj,hk];exact Py⟩ ?_ h;rw[aaF hl,List.map_set,List.map_set]
end
theorem jF {α:Type}(n v k:Nat)(enc:α->List AC)(X:List α):(Ob.row v ((X.map enc).map (List.map SV.c)) k).below n:=by
 intro e he x hx;rw[List.map_map]at he;obtain⟨y,_,rfl⟩:=arK.1 he;obtain⟨z,_,rfl⟩:=arK.1 hx;trivial
def pL (Pe:Int)(PS:Int):Option (Bool×Bool):=bif (decide (Pe=(1:Int)))then some ((decide (PS=(0:Int))),true)else
 bif (decide (Pe=(2:Int)))then some ((decide (PS=(0:Int))),true)else
 bif (decide (Pe=(4:Int)))then some ((decide (PS=(1:Int))),true)else
 bif (decide (Pe=(18:Int)))then some ((decide (PS=(1:Int))),true)else
 bif (decide (Pe=(20:Int)))then some ((decide (PS=(1:Int))),true)else
 bif (decide (Pe=(21:Int)))then some ((decide (PS=(1:Int))),true)else
 bif (decide (Pe=(7:Int)))then some ((decide (PS=(2:Int))),true)else
 bif (decide (Pe=(8:Int)))then some ((decide (PS=(2:Int))),true)else
 bif (decide (Pe=(9:Int)))then some ((decide (PS=(2:Int))),true)else
 bif (decide (Pe=(10:Int)))then some ((decide (PS=(2:Int))),true)else
 bif (decide (Pe=(11:Int)))then some ((decide (PS=(2:Int))),true)else
 bif (decide (Pe=(12:Int)))then some ((decide (PS=(2:Int))),true)else
 bif (decide (Pe=(13:Int)))then some ((decide (PS=(2:Int))),true)else
 bif (decide (Pe=(14:Int)))then some ((decide (PS=(2:Int))),true)else
 bif (decide (Pe=(15:Int)))then some ((decide (PS=(2:Int))),true)else
 bif (decide (Pe=(16:Int)))then some ((decide (PS=(2:Int))),true)else
 bif (decide (Pe=(17:Int)))then some ((decide (PS=(2:Int))),true)else
 bif (decide (Pe=(19:Int)))then some ((decide (PS=(2:Int))),true)else
 bif (decide (Pe=(5:Int)))then some ((decide ((2:Int)<=PS)),true)else
 bif (decide (Pe=(6:Int)))then some ((decide ((2:Int)<=PS)),true)else
 bif (decide (Pe=(22:Int)))then some ((decide (PS=(3:Int))),true)else
 bif (decide (Pe=(23:Int)))then some ((decide ((1:Int)<=PS)),true)else
 bif (decide (Pe=(24:Int)))then some ((decide (PS=(4:Int))),true)else
 some (false,false)
instance gCounts_ok {Pe : Int} {PS : Int} {r : Bool × Bool} : OkC (pL Pe PS = some r) (PTz 176 [.one (.int .i64 Pe), .one (.int .i64 PS)] (.tup [.one (.bool r.1), .one (.bool r.2)])) := .mk fun H => by
 unfold pL at H;refine po_ Tryz.func176 Tryz.ntmps176 ?_;rcases aj H with⟨RE,H⟩|⟨RE,H⟩
 ·exact az H
 rcases aj H with⟨QG,H⟩|⟨QG,H⟩
 ·exact az H
 refine aY ?_;rcases aj H with⟨QH,H⟩|⟨QH,H⟩
 ·exact az H
 rcases aj H with⟨Qk,H⟩|⟨Qk,H⟩
 ·exact az H
 rcases aj H with⟨RD,H⟩|⟨RD,H⟩
 ·exact az H
 refine aY ?_;rcases aj H with⟨RF,H⟩|⟨RF,H⟩
 ·exact az H
 rcases aj H with⟨SO,H⟩|⟨SO,H⟩
 ·exact az H
 rcases aj H with⟨S7,H⟩|⟨S7,H⟩
 ·exact az H
 refine aY ?_;rcases aj H with⟨U_,H⟩|⟨U_,H⟩
 ·exact az H
 rcases aj H with⟨Ql,H⟩|⟨Ql,H⟩
 ·exact az H
 rcases aj H with⟨Va,H⟩|⟨Va,H⟩
 ·exact az H
 refine aY ?_;rcases aj H with⟨RX,H⟩|⟨RX,H⟩
 ·exact az H
 rcases aj H with⟨Xt,H⟩|⟨Xt,H⟩
 ·exact az H
 rcases aj H with⟨Qh,H⟩|⟨Qh,H⟩
 ·exact az H
 refine aY ?_;rcases aj H with⟨TL,H⟩|⟨TL,H⟩
 ·exact az H
 rcases aj H with⟨Vb,H⟩|⟨Vb,H⟩
 ·exact az H
 rcases aj H with⟨Vd,H⟩|⟨Vd,H⟩
 ·exact az H
 refine aY ?_;rcases aj H with⟨Rq,H⟩|⟨Rq,H⟩
 ·exact az H
 rcases aj H with⟨q_19,H⟩|⟨q_19,H⟩
 ·exact az H
 rcases aj H with⟨TM,H⟩|⟨TM,H⟩
 ·exact az H
 refine aY ?_;exact az H
def mS (OV:Ex):Option (Bool):=(pL OV.op ((OV.args.length:Nat):Int)).bind fun Pg=>bif (!Pg.1)then some false else
 bif (!(OV.nm.toList==(⟨#[]⟩:ByteArray).toList))then some false else
 bif (decide (OV.op=(1:Int)))then bif (decide (OV.int=(0:Int)))then(pT OV.v).bind fun QK=>some QK else
 some false else
 bif (decide (OV.op=(24:Int)))then bif (decide (OV.int<(0:Int)))then some false else
 bif (decide ((13:Int)<=OV.int))then some false else
 some (b8 [.c (.int .i64 OV.v.kind),.c (.int .i64 OV.v.int),.c (.str OV.v.text)] [.c (.int .i64 (0:Int)),.c (.int .i64 (0:Int)),.c (.str empty)])else
 bif (decide (OV.op=(2:Int)))then some (b8 [.c (.int .i64 OV.v.kind),.c (.int .i64 OV.v.int),.c (.str OV.v.text)] [.c (.int .i64 (0:Int)),.c (.int .i64 (0:Int)),.c (.str empty)])else
 bif (decide (OV.int=(0:Int)))then some (b8 [.c (.int .i64 OV.v.kind),.c (.int .i64 OV.v.int),.c (.str OV.v.text)] [.c (.int .i64 (0:Int)),.c (.int .i64 (0:Int)),.c (.str empty)])else
 some false
instance gFormed_ok {OV : Ex} {r : Bool} : OkC (mS OV = some r) (PTz 110 [.agg (tE OV)] (.val (.one (.bool r)))) := .mk fun H => by
 unfold mS at H;rw[ay OV];refine po_ Tryz.func110 Tryz.ntmps110 ?_;obtain⟨Pg,c1,H⟩:=bd_ H;replace c1:=gCounts_ok c1;rcases aj H with⟨QG,H⟩|⟨QG,H⟩
 ·exact az H
 rcases aj H with⟨QH,H⟩|⟨QH,H⟩
 ·exact az H
 refine aY ?_;rcases aj H with⟨Qk,H⟩|⟨Qk,H⟩
 ·exact az H
 rcases aj H with⟨SO,H⟩|⟨SO,H⟩
 ·rcases aj H with⟨S7,H⟩|⟨S7,H⟩
  ·exact az H
  refine aY ?_;exact az H
 rcases aj H with⟨Ql,H⟩|⟨Ql,H⟩
 ·exact az H
 refine aY ?_;exact az H
def qI (OW:Val)(OX:Val)(V2:Bool):Option (Int):=bif (decide (OW.kind=(0:Int)))then some (1:Int)else
 bif (decide (OW.kind≠OX.kind))then some (1:Int)else
 bif V2 then some (2:Int)else
 some (0:Int)
instance gDecide_ok {OW : Val} {OX : Val} {V2 : Bool} {r : Int} : OkC (qI OW OX V2 = some r) (PTz 231 [.agg (cV OW), .agg (cV OX), .one (.bool V2)] (.val (.one (.int .i64 r)))) := .mk fun H => by
 unfold qI at H;refine po_ Tryz.func231 Tryz.ntmps231 ?_;exact az H
def agm (OW:Val)(OX:Val):Option (Int):=(r8 OW OX).bind fun Pg=>(qI OW OX (decide (Pg=(0:Int)))).bind fun QN=>some QN
instance gEqV_ok {OW : Val} {OX : Val} {r : Int} : OkC (agm OW OX = some r) (PTz 188 [.agg (cV OW), .agg (cV OX)] (.val (.one (.int .i64 r)))) := .mk fun H => by
 unfold agm at H;refine po_ Tryz.func188 Tryz.ntmps188 ?_;exact az H
def rW (OW:Val)(OX:Val):Option (Int):=(r8 OW OX).bind fun Pg=>(qI OW OX (decide (Pg<(0:Int)))).bind fun QN=>some QN
instance gLessV_ok {OW : Val} {OX : Val} {r : Int} : OkC (rW OW OX = some r) (PTz 189 [.agg (cV OW), .agg (cV OX)] (.val (.one (.int .i64 r)))) := .mk fun H => by
 unfold rW at H;refine po_ Tryz.func189 Tryz.ntmps189 ?_;exact az H
def nt (UF:Int):Option (Int):=bif (decide (UF≠(0:Int)))then bif (decide (UF≠(2:Int)))then some (1:Int)else
 some UF else
 some UF
instance gNormal_ok {UF : Int} {r : Int} : OkC (nt UF = some r) (PTz 187 [.one (.int .i64 UF)] (.val (.one (.int .i64 r)))) := .mk fun H => by
 unfold nt at H;refine po_ Tryz.func187 Tryz.ntmps187 ?_;exact az H
def Gp (OW:Int):Option (Int):=(nt OW).bind fun Pg=>some (i64.wrap ((2:Int)-Pg))
instance gNot_ok {OW : Int} {r : Int} : OkC (Gp OW = some r) (PTz 180 [.one (.int .i64 OW)] (.val (.one (.int .i64 r)))) := .mk fun H => by
 unfold Gp at H;refine po_ Tryz.func180 Tryz.ntmps180 ?_;exact az H
def tn (a_l:(List Int)):(Int×Int)->Option (Step (Int×Int) (Int)):=fun s=>match s with
 |(WN,PI)=>bif (decide (PI<((a_l.length:Nat):Int)))then(aF a_l PI).bind fun Qf=>(nt Qf).bind fun QR=>some (.next ((mnI WN QR),(i64.wrap (PI+(1:Int)))))else
 some (.exit (WN,PI))
def afV:Sum (Int×Int) (Int)->Option ((Int))
 |.inl (WN,PI)=>some WN
 |.inr q=>some q
def yh (a_l:(List Int)):Option (Int):=(ao (tn a_l) fuel ((2:Int),(0:Int))).bind (afV)
instance gLeast_ok {a_l : (List Int)} {r : Int} : OkC (yh a_l = some r) (PTz 229 [.one (.lst (a_l.map (fun x => [AC.int .i64 x])))] (.val (.one (.int .i64 r)))) := .mk fun H => by
 unfold yh at H;refine po_ Tryz.func229 Tryz.ntmps229 ?_;refine aY ?_;refine alM_ (fun s:Int×Int=>match s with|(WN,PI)=>[(3,.one (.c (.int .i64 WN))),(6,.one (.c (.lst (a_l.map (fun x=>[AC.int .i64 x]))))),(7,.one (.c (.int .i64 ((a_l.length:Nat):Int)))),(8,.one (.c (.int .i64 PI)))]) (fun s=>match s with|(WN,PI)=>[]) H (fun _=>aru _)
  (fm_ bG [] rfl a8 trivial) ?_
 rintro⟨WN,PI⟩ st1 OU PM;unfold tn at OU;dsimp only at OU ⊢;rcases aj OU with⟨QH,OU⟩|⟨QH,OU⟩
 ·obtain⟨Qf,SN,i1,RL,OU⟩:=bu (f:=(fun x=>[AC.int .i64 x])) OU
  obtain⟨QR,c2,OU⟩:=bd_ OU;replace c2:=gNormal_ok c2
  cases OU;refine aY ?_;exact⟨_,rfl,fm_ bG [] rfl a8 trivial⟩
 exact bA OU PM
def acw (OW:Int)(OX:Int):Option (Int):=(yh [OW,OX]).bind fun Pg=>some Pg
instance gAnd_ok {OW : Int} {OX : Int} {r : Int} : OkC (acw OW OX = some r) (PTz 181 [.one (.int .i64 OW), .one (.int .i64 OX)] (.val (.one (.int .i64 r)))) := .mk fun H => by
 unfold acw at H;refine po_ Tryz.func181 Tryz.ntmps181 ?_;exact az H
def EY (OW:Int)(OX:Int):Option (Int):=(Gp OW).bind fun Pg=>(Gp OX).bind fun QN=>(yh [Pg,QN]).bind fun P4=>(Gp P4).bind fun RN=>some RN
instance gOr3v_ok {OW : Int} {OX : Int} {r : Int} : OkC (EY OW OX = some r) (PTz 182 [.one (.int .i64 OW), .one (.int .i64 OX)] (.val (.one (.int .i64 r)))) := .mk fun H => by
 unfold EY at H;refine po_ Tryz.func182 Tryz.ntmps182 ?_;exact az H
def jL (QL:Val):Option (Int):=(rG true).bind fun Pg=>bif (b8 [.c (.int .i64 QL.kind),.c (.int .i64 QL.int),.c (.str QL.text)] [.c (.int .i64 Pg.kind),.c (.int .i64 Pg.int),.c (.str Pg.text)])then some (2:Int)else
 (rG false).bind fun P4=>bif (b8 [.c (.int .i64 QL.kind),.c (.int .i64 QL.int),.c (.str QL.text)] [.c (.int .i64 P4.kind),.c (.int .i64 P4.int),.c (.str P4.text)])then some (0:Int)else
 some (1:Int)
instance gTruthV_ok {QL : Val} {r : Int} : OkC (jL QL = some r) (PTz 143 [.agg (cV QL)] (.val (.one (.int .i64 r)))) := .mk fun H => by
 unfold jL at H;refine po_ Tryz.func143 Tryz.ntmps143 ?_;exact az H
def xt (UF:Int):Option (Val):=(nt UF).bind fun Pg=>bif (decide (Pg=(1:Int)))then(ko ).bind fun P4=>some P4 else
 (rG (decide (Pg=(2:Int)))).bind fun RN=>some RN
instance gOfV2_ok {UF : Int} {r : Val} : OkC (xt UF = some r) (PTz 118 [.one (.int .i64 UF)] (.val (.agg (cV r)))) := .mk fun H => by
 unfold xt at H;refine po_ Tryz.func118 Tryz.ntmps118 ?_;exact az H
def j8 (Pe:Int)(OW:Val)(OX:Val):Option (Int):=bif (decide (Pe=(7:Int)))then(agm OW OX).bind fun QN=>some QN else
 bif (decide (Pe=(8:Int)))then(agm OW OX).bind fun RN=>(Gp RN).bind fun QR=>some QR else
 bif (decide (Pe=(9:Int)))then(rW OW OX).bind fun Si=>some Si else
 bif (decide (Pe=(11:Int)))then(rW OX OW).bind fun SC=>some SC else
 bif (decide (Pe=(10:Int)))then(rW OX OW).bind fun QW=>(Gp QW).bind fun P7=>some P7 else
 (rW OW OX).bind fun Qc=>(Gp Qc).bind fun QO=>some QO
instance gComparison_ok {Pe : Int} {OW : Val} {OX : Val} {r : Int} : OkC (j8 Pe OW OX = some r) (PTz 119 [.one (.int .i64 Pe), .agg (cV OW), .agg (cV OX)] (.val (.one (.int .i64 r)))) := .mk fun H => by
 unfold j8 at H;refine po_ Tryz.func119 Tryz.ntmps119 ?_;rcases aj H with⟨RE,H⟩|⟨RE,H⟩
 ·exact az H
 rcases aj H with⟨QH,H⟩|⟨QH,H⟩
 ·exact az H
 refine aY ?_;exact az H
def t8 (a_l:(List Val)):(Int×ByteArray×Int)->Option (Step (Int×ByteArray×Int) (Val)):=fun s=>match s with
 |(Q_,V3,PY)=>bif (decide (PY<((a_l.length:Nat):Int)))then(aF a_l PY).bind fun Qv=>bif (decide (Qv.kind≠(2:Int)))then(ko ).bind fun Si=>some (.ret Si)else
 bif (decide (V3.size+Qv.text.size<=9223372036854775807))then(some (.next ((i64.wrap (Q_+((Qv.text.size:Nat):Int))),(V3++Qv.text),(i64.wrap (PY+(1:Int))))))else none else
 some (.exit (Q_,V3,PY))
def Hl (Pe:Int):Sum (Int×ByteArray×Int) (Val)->Option ((Val))
 |.inl (Q_,V3,PY)=>bif (decide (Pe=(20:Int)))then(nh Q_).bind fun SC=>some SC else
 (yU V3).bind fun Rr=>some Rr
 |.inr q=>some q
def su (Pe:Int)(a_l:(List Val)):Option (Val):=(ao (t8 a_l) fuel ((0:Int),(⟨#[]⟩:ByteArray),(0:Int))).bind (Hl Pe)
instance gTextE_ok {Pe : Int} {a_l : (List Val)} {r : Val} : OkC (su Pe a_l = some r) (PTz 116 [.one (.int .i64 Pe), .one (.lst (a_l.map cV))] (.val (.agg (cV r)))) := .mk fun H => by
 unfold su at H;refine po_ Tryz.func116 Tryz.ntmps116 ?_;refine aY ?_;refine alM_ (fun s:Int×ByteArray×Int=>match s with|(Q_,V3,PY)=>[(0,.one (.c (.int .i64 Pe))),(4,.one (.ptr 0 0)),(5,.one (.c (.int .i64 Q_))),(6,.one (.c (.str V3))),(9,.one (.c (.lst (a_l.map cV)))),(10,.one (.c (.int .i64 ((a_l.length:Nat):Int)))),(11,.one (.c (.int .i64 PY)))]) (fun s=>match s with|(Q_,V3,PY)=>[.box [.c (.int .i64 (0:Int)),.c (.int .i64 (0:Int)),.c (.str empty)]]) H (fun _=>aru _)
  (fm_ bG [] rfl a8 cm) ?_
 rintro⟨Q_,V3,PY⟩ st1 OU PM;unfold t8 at OU;dsimp only at OU ⊢;rcases aj OU with⟨Qk,OU⟩|⟨Qk,OU⟩
 ·obtain⟨Qv,SN,i1,RL,OU⟩:=bu (f:=cV) OU
  rcases aj OU with⟨RF,OU⟩|⟨RF,OU⟩
  ·exact bA OU PM
  obtain⟨g3,OU⟩:=aK OU
  cases OU;refine aY ?_;exact⟨_,rfl,fm_ bG [_] rfl a8 cm⟩
 exact bA OU PM
def rJ (OW:Int)(OX:Int):Option (Val):=bif (decide (OW≠(0:Int)))then bif (decide ((zL OW (i64.wrap (0-OW)))≠0))then(bif (decide ((i64.wrap ((1125899906842624:Int).tdiv (zL OW (i64.wrap (0-OW)))))<(zL OX (i64.wrap (0-OX)))))then(ko ).bind fun P4=>some P4 else
 (nh (i64.wrap (OW*OX))).bind fun RN=>some RN)else none else
 (nh (i64.wrap (OW*OX))).bind fun QR=>some QR
instance gProduct_ok {OW : Int} {OX : Int} {r : Val} : OkC (rJ OW OX = some r) (PTz 186 [.one (.int .i64 OW), .one (.int .i64 OX)] (.val (.agg (cV r)))) := .mk fun H => by
 unfold rJ at H;refine po_ Tryz.func186 Tryz.ntmps186 ?_;exact az H
def oa (a_l:(List Val)):(Int)->Option (Step (Int) (Val)):=fun s=>match s with
 |v_1=>bif (decide (v_1<((a_l.length:Nat):Int)))then(aF a_l v_1).bind fun R_=>bif (decide (R_.kind≠(1:Int)))then(ko ).bind fun QR=>some (.ret QR)else
 some (.next (i64.wrap (v_1+(1:Int))))else
 some (.exit v_1)
def tV (Pe:Int)(a_l:(List Val)):Sum (Int) (Val)->Option ((Val))
 |.inl v_1=>(aF a_l (0:Int)).bind fun Ud=>(aF a_l (i64.wrap (((a_l.length:Nat):Int)-(1:Int)))).bind fun TN=>bif (decide (Pe=(13:Int)))then(nh (i64.wrap (Ud.int+TN.int))).bind fun SC=>some SC else
 bif (decide (Pe=(14:Int)))then(nh (i64.wrap (Ud.int-TN.int))).bind fun QW=>some QW else
 bif (decide (Pe=(15:Int)))then(rJ Ud.int TN.int).bind fun Qc=>some Qc else
 bif (decide (Pe=(18:Int)))then(nh (i64.wrap (0-Ud.int))).bind fun QX=>some QX else
 bif (decide (TN.int=(0:Int)))then(ko ).bind fun Sj=>some Sj else
 bif (decide (Pe=(16:Int)))then bif (decide (TN.int≠0))then((nh (i64.wrap (Ud.int.tdiv TN.int))).bind fun Rt=>some Rt)else none else
 bif (decide (TN.int≠0))then((nh (Ud.int.tmod TN.int)).bind fun QY=>some QY)else none
 |.inr q=>some q
def kA (Pe:Int)(a_l:(List Val)):Option (Val):=(ao (oa a_l) fuel (0:Int)).bind (tV Pe a_l)
instance gArith_ok {Pe : Int} {a_l : (List Val)} {r : Val} : OkC (kA Pe a_l = some r) (PTz 117 [.one (.int .i64 Pe), .one (.lst (a_l.map cV))] (.val (.agg (cV r)))) := .mk fun H => by
 unfold kA at H;refine po_ Tryz.func117 Tryz.ntmps117 ?_;refine aY ?_;refine alM_ (fun s:Int=>match s with|v_1=>[(0,.one (.c (.int .i64 Pe))),(1,.one (.c (.lst (a_l.map cV)))),(4,.one (.ptr 0 0)),(9,.one (.c (.lst (a_l.map cV)))),(10,.one (.c (.int .i64 ((a_l.length:Nat):Int)))),(11,.one (.c (.int .i64 v_1)))]) (fun s=>match s with|v_1=>[.box [.c (.int .i64 (0:Int)),.c (.int .i64 (0:Int)),.c (.str empty)]]) H (fun _=>aru _)
  (fm_ bG [] rfl a8 cm) ?_
 rintro v_1 st1 OU PM;unfold oa at OU;dsimp only at OU ⊢;rcases aj OU with⟨QG,OU⟩|⟨QG,OU⟩
 ·obtain⟨R_,SN,i1,RL,OU⟩:=bu (f:=cV) OU
  rcases aj OU with⟨Qk,OU⟩|⟨Qk,OU⟩
  ·exact bA OU PM
  cases OU;refine aY ?_;exact⟨_,rfl,fm_ bG [_] rfl a8 cm⟩
 cases OU;have O0:tV Pe a_l (.inl v_1)=some _:=PM;unfold tV at O0;dsimp only at O0;obtain⟨Ud,i3z,i3,i3x,O0⟩:=bu (f:=cV) O0;obtain⟨TN,Yc,i4,WO,O0⟩:=bu (f:=cV) O0;rcases aj O0 with⟨S7,O0⟩|⟨S7,O0⟩
 ·exact az O0
 refine aY ?_;rcases aj O0 with⟨Ql,O0⟩|⟨Ql,O0⟩
 ·exact az O0
 rcases aj O0 with⟨RX,O0⟩|⟨RX,O0⟩
 ·exact az O0
 rcases aj O0 with⟨Qh,O0⟩|⟨Qh,O0⟩
 ·exact az O0
 refine aY ?_;exact az O0
