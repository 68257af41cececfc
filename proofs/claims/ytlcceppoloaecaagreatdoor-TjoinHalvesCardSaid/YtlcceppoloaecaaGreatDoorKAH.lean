/- Parts. No condition. -/
import Derived.Test.YtlcceppoloaecaaGreatDoorKAG
import Derived.Test.YtlcceppoloaecaaGreatDoorProg
import Derived.Shelf.SlGeneric
import Derived.Shelf.SlicesG.Cmp
import Derived.Ground.SlsfProg
import Derived.Ground.SlgcProg
import Derived.WalkSpells
import Derived.WalkLawsBesides
import Derived.Deep.QuietTactic
import Derived.Deep.RegionHeld3
set_option maxHeartbeats 8000000
set_option maxRecDepth 100000
set_option linter.unusedSimpArgs false
set_option linter.unusedVariables false
namespace Go.Proofs.YtlcceppoloaecaaGreatDoor
open Go.RowKit
def zeL:List (Nat×AV):=[(2,.one (.c (.int .i64 0))),(3,.one (.c (.int .i64 0))),(4,.one (.c (.bool false))),(5,.one (.c (.int .u8 0))),(9,.one (.c (.str ⟨#[]⟩))),(22,.one (.emp)),(25,.one (.emp)),(29,.one (.emp)),(31,.agg [.emp,.emp]),(33,.agg [.c (.int .i64 0),.c (.int .i64 0),.c (.str ⟨#[]⟩)]),(34,.one (.emp)),(36,.agg [.c (.int .i64 0),.c (.int .i64 0),.c (.int .i64 0),.c (.int .i64 0),.c (.str ⟨#[]⟩),.c (.str ⟨#[]⟩),.emp]),(41,.agg [.emp,.emp,.emp,.emp]),(42,.one (.emp)),(44,.agg [.emp,.emp]),(50,.one (.emp)),(53,.agg [.c (.int .i64 0),.c (.int .i64 0)]),(55,.agg [.emp,.c (.int .i64 0),.c (.int .i64 0)]),(63,.agg [.c (.int .i64 0),.c (.int .i64 0)]),(65,.one (.c (.nul .func))),(67,.one (.c (.nul .func))),(72,.one (.c (.int .i64 0))),(77,.one (.c (.nul .func))),(81,.one (.emp)),(83,.one (.emp)),(85,.one (.c (.nul .func))),(99,.one (.c (.nul .func))),(103,.one (.c (.int .u64 0))),(113,.one (.emp)),(115,.one (.emp)),(117,.agg [.emp,.emp]),(121,.one (.c (.nul .func))),(134,.one (.c (.nul .func))),(136,.one (.c (.int .i64 0))),(143,.one (.c (.int .u32 0))),(145,.one (.c (.int .u64 0))),(159,.one (.emp)),(162,.agg [.c (.int .i64 0),.c (.int .i64 0),.c (.int .i64 0)]),(169,.one (.emp)),(179,.one (.c (.int .u64 0))),(183,.one (.c (.nul .ptr))),(191,.one (.emp)),(194,.agg [.emp,.emp]),(195,.one (.emp)),(197,.agg [.c (.int .i64 0),.c (.int .i64 0)]),(201,.agg [.c (.int .i64 0),.c (.int .i64 0)]),(204,.one (.c (.nul .func))),(205,.one (.emp)),(207,.agg [.c (.int .i64 0),.c (.int .i64 0),.c (.int .i64 0)]),(211,.one (.c (.nul .func))),(222,.one (.c (.nul .map))),(225,.one (.c (.nul .func))),(228,.one (.c (.nul .func))),(232,.agg [.c (.int .i64 0),.c (.bool false)]),(235,.one (.c (.nul .ptr))),(236,.one (.emp)),(238,.agg [.c (.nul .ptr),.emp]),(259,.one (.c (.nul .ptr))),(271,.one (.c (.nul .ptr)))]
def kiL:List (Nat×TypeDesc):=[(2,.int .i64),(3,.int .i64),(4,.bool),(5,.int .u8),(9,.string),(22,.slice 55),(25,.slice 63),(29,.slice 3),(34,.slice 36),(42,.slice 50),(50,.slice 33),(72,.int .i64),(81,.slice 83),(83,.slice 53),(103,.int .u64),(113,.slice 117),(115,.slice 201),(136,.int .i64),(143,.int .u32),(145,.int .u64),(159,.slice 162),(169,.slice 232),(179,.int .u64),(183,.pointer 3),(191,.slice 194),(195,.slice 197),(205,.slice 207),(222,.map 9 3),(235,.pointer 238),(236,.slice 5),(259,.pointer 5),(271,.unsafePointer)]
def eqL:List (Nat×List Sc):=[(33,[.int .i64,.int .i64,.str]),(53,[.int .i64,.int .i64]),(63,[.int .i64,.int .i64]),(162,[.int .i64,.int .i64,.int .i64]),(197,[.int .i64,.int .i64]),(201,[.int .i64,.int .i64]),(232,[.int .i64,.bool])]
def tab:TI:=TI.of [(2,1),(3,1),(4,1),(5,1),(9,1),(22,1),(25,1),(29,1),(31,2),(33,3),(34,1),(36,7),(41,4),(42,1),(44,2),(50,1),(53,2),(55,3),(63,2),(65,1),(67,1),(72,1),(77,1),(81,1),(83,1),(85,1),(99,1),(103,1),(113,1),(115,1),(117,2),(121,1),(134,1),(136,1),(143,1),(145,1),(159,1),(162,3),(169,1),(179,1),(183,1),(191,1),(194,2),(195,1),(197,2),(201,2),(204,1),(205,1),(207,3),(211,1),(222,1),(225,1),(228,1),(232,2),(235,1),(236,1),(238,2),(259,1),(271,1)] [(2,false),(3,false),(4,false),(5,false),(9,false),(22,false),(25,false),(29,false),(31,true),(33,true),(34,false),(36,true),(41,true),(42,false),(44,true),(50,false),(53,true),(55,true),(63,true),(65,false),(67,false),(72,false),(77,false),(81,false),(83,false),(85,false),(99,false),(103,false),(113,false),(115,false),(117,true),(121,false),(134,false),(136,false),(143,false),(145,false),(159,false),(162,true),(169,false),(179,false),(183,false),(191,false),(194,true),(195,false),(197,true),(201,true),(204,false),(205,false),(207,true),(211,false),(222,false),(225,false),(228,false),(232,true),(235,false),(236,false),(238,true),(259,false),(271,false)] [(22,55),(25,63),(29,3),(34,36),(42,50),(50,33),(81,83),(83,53),(113,117),(115,201),(159,162),(169,232),(191,194),(195,197),(205,207),(236,5)] [(31,[(0,29),(1,22)]),(33,[(0,3),(1,3),(2,9)]),(36,[(0,3),(1,3),(2,33),(5,9),(6,34)]),(41,[(0,31),(2,31)]),(44,[(0,29),(1,42)]),(53,[(0,3),(1,3)]),(55,[(0,50),(1,53)]),(63,[(0,3),(1,3)]),(117,[(0,50),(1,115)]),(162,[(0,3),(1,3),(2,3)]),(194,[(0,50),(1,83)]),(197,[(0,3),(1,3)]),(201,[(0,3),(1,3)]),(207,[(0,53),(2,3)]),(232,[(0,3),(1,4)]),(238,[(0,235),(1,236)])] zeL [(2,8),(3,8),(4,1),(5,1),(9,16),(22,24),(25,24),(29,24),(31,48),(33,32),(34,24),(36,88),(41,96),(42,24),(44,48),(50,24),(53,16),(55,40),(63,16),(65,8),(67,8),(72,8),(77,8),(81,24),(83,24),(85,8),(99,8),(103,8),(113,24),(115,24),(117,48),(121,8),(134,8),(136,8),(143,4),(145,8),(159,24),(162,24),(169,24),(179,8),(183,8),(191,24),(194,48),(195,24),(197,16),(201,16),(204,8),(205,24),(207,24),(211,8),(222,8),(225,8),(228,8),(232,16),(235,8),(236,24),(238,32),(259,8),(271,8)] kiL [31,33,36,41,44,53,55,63,117,162,194,197,201,207,232,238] [2,3,4,5,9,22,25,29,31,33,34,36,41,42,44,50,53,55,63,65,67,72,77,81,83,85,99,103,113,115,117,121,134,136,143,145,159,162,169,179,183,191,194,195,197,201,204,205,207,211,222,225,228,232,235,236,238,259,271] eqL [0]
theorem tab_ok:TIok Tryz.prog tab:=by
 refine TI.of_ok k7 k7 k7 k7 ?_ k7 ?_ k7 k7 ?_
 ·intro p hp
  simp only[zeL,aqp,List.not_mem_nil,or_false]at hp;rcases hp with rfl|rfl|rfl|rfl|rfl|rfl|rfl|rfl|rfl|rfl|rfl|rfl|rfl|rfl|rfl|rfl|rfl|rfl|rfl|rfl|rfl|rfl|rfl|rfl|rfl|rfl|rfl|rfl|rfl|rfl|rfl|rfl|rfl|rfl|rfl|rfl|rfl|rfl|rfl|rfl|rfl|rfl|rfl|rfl|rfl|rfl|rfl|rfl|rfl|rfl|rfl|rfl|rfl|rfl|rfl|rfl|rfl|rfl|rfl<;>kernel_rfl
 ·intro p hp
  simp only[kiL,aqp,List.not_mem_nil,or_false]at hp;rcases hp with rfl|rfl|rfl|rfl|rfl|rfl|rfl|rfl|rfl|rfl|rfl|rfl|rfl|rfl|rfl|rfl|rfl|rfl|rfl|rfl|rfl|rfl|rfl|rfl|rfl|rfl|rfl|rfl|rfl|rfl|rfl|rfl<;>kernel_rfl
 ·intro p hp
  simp only[eqL,aqp,List.not_mem_nil,or_false]at hp;rcases hp with rfl|rfl|rfl|rfl|rfl|rfl|rfl<;>exact ae7 k7
def apy:TI :={ tab with soft:=true }
theorem tabS_ok:TIok Tryz.prog apy:=⟨tab_ok.size,tab_ok.agg,tab_ok.elem,tab_ok.field,tab_ok.zero,tab_ok.bytes,tab_ok.kind,tab_ok.struct,tab_ok.zok,tab_ok.eqs⟩
theorem mixed:Tryz.prog.follows .mixedOrders=true:=k7
open Go.RowKit Go.MapKept
structure Val where
 kind:Int
 int:Int
 text:ByteArray
def cV (x:Val):List AC:=[.int .i64 x.kind,.int .i64 x.int,.str x.text]
structure ax where
 lo:Int
 hi:Int
def aN (x:ax):List AC:=[.int .i64 x.lo,.int .i64 x.hi]
structure ap where
 row:(List Val)
 valid:ax
def aG (x:ap):List AC:=[.lst (x.row.map cV),.int .i64 x.valid.lo,.int .i64 x.valid.hi]
structure a6 where
 kinds:(List Int)
 facts:(List ap)
def aU (x:a6):List AC:=[.lst (x.kinds.map (fun x=>[AC.int .i64 x])),.lst (x.facts.map aG)]
inductive Ex where
 |mk (op:Int) (int:Int) (v:Val) (nm:ByteArray) (args:(List Ex))
mutual
def tE:Ex->List AC
 |.mk op int v nm args=>[.int .i64 op,.int .i64 int,.int .i64 v.kind,.int .i64 v.int,.str v.text,.str nm,.lst (tEs args)]
def tEs:List Ex->List (List AC)
 |[]=>[]
 |e::l=>tE e::tEs l
end
theorem acp:∀ (l:List Ex),tEs l=l.map tE
 |[]=>by simp[tEs]
 |e::l=>by simp[tEs,acp l]
def Ex.op:Ex->Int |.mk a _ _ _ _=>a
def Ex.int:Ex->Int |.mk _ a _ _ _=>a
def Ex.v:Ex->Val |.mk _ _ a _ _=>a
def Ex.nm:Ex->ByteArray |.mk _ _ _ a _=>a
def Ex.args:Ex->(List Ex) |.mk _ _ _ _ a=>a
theorem aC (e:Ex):tE e=[.int .i64 e.op,.int .i64 e.int,.int .i64 e.v.kind,.int .i64 e.v.int,.str e.v.text,.str e.nm,.lst (e.args.map tE)]:=by
 obtain⟨_,_,_,_,_⟩:=e;rw[tE,acp];rfl
theorem I2 (e:Ex):(tE e).length=7:=by rw[aC];rfl
structure cz where
 a:Int
 b:Int
def g9 (x:cz):List AC:=[.int .i64 x.a,.int .i64 x.b]
structure Stp where
 lo:Int
 n:Int
def kJ (x:Stp):List AC:=[.int .i64 x.lo,.int .i64 x.n]
structure bQ where
 row:(List Val)
 steps:(List Stp)
def ju (x:bQ):List AC:=[.lst (x.row.map cV),.lst (x.steps.map kJ)]
structure ac where
 row:(List Val)
 periods:(List ax)
def af (x:ac):List AC:=[.lst (x.row.map cV),.lst (x.periods.map aN)]
structure yD where
 period:ax
 n:Int
def Fh (x:yD):List AC:=[.int .i64 x.period.lo,.int .i64 x.period.hi,.int .i64 x.n]
structure Fb where
 column:Int
 desc:Bool
def zY (x:Fb):List AC:=[.int .i64 x.column,.bool x.desc]
end Go.Proofs.YtlcceppoloaecaaGreatDoor
namespace Go.Proofs
open Go.Shelf
def Tryz.sortInt_ren:Go.Shelf.Ren:=⟨fun|6=>39|15=>81|14=>80|28=>129|29=>130|20=>121|21=>122|22=>123|23=>124|24=>125|25=>126|26=>127|27=>128|46=>191|47=>192|48=>193|49=>194|50=>195|57=>233|n=>n,fun|22=>29|24=>3|25=>65|3=>3|39=>103|0=>0|53=>143|55=>145|4=>4|46=>137|45=>136|50=>106|5=>5|9=>9|66=>179|70=>183|76=>218|77=>188|n=>n,fun|n=>n⟩
theorem Tryz.sortInt:Go.Proofs.SlLaysF.n6 Tryz.prog Tryz.sortInt_ren :={
 mixed:=k7
 f6:=⟨Tryz.f39.name,by decide,Tryz.func39.trans (congrArg some k7)⟩
 f14:=⟨Tryz.f80.name,by decide,Tryz.func80.trans (congrArg some k7)⟩
 f15:=Tryz.func81.trans (congrArg some k7)
 f20:=⟨Tryz.f121.name,by decide,Tryz.func121.trans (congrArg some k7)⟩
 f21:=⟨Tryz.f122.name,by decide,Tryz.func122.trans (congrArg some k7)⟩
 f22:=⟨Tryz.f123.name,by decide,Tryz.func123.trans (congrArg some k7)⟩
 f23:=⟨Tryz.f124.name,by decide,Tryz.func124.trans (congrArg some k7)⟩
 f24:=⟨Tryz.f125.name,by decide,Tryz.func125.trans (congrArg some k7)⟩
 f25:=⟨Tryz.f126.name,by decide,Tryz.func126.trans (congrArg some k7)⟩
 f26:=⟨Tryz.f127.name,by decide,Tryz.func127.trans (congrArg some k7)⟩
 f27:=⟨Tryz.f128.name,by decide,Tryz.func128.trans (congrArg some k7)⟩
 f28:=Tryz.func129.trans (congrArg some k7)
 f29:=Tryz.func130.trans (congrArg some k7)
 f46:=⟨Tryz.f191.name,by decide,Tryz.func191.trans (congrArg some k7)⟩
 f47:=Tryz.func192.trans (congrArg some k7)
 f48:=Tryz.func193.trans (congrArg some k7)
 f49:=⟨Tryz.f194.name,by decide,Tryz.func194.trans (congrArg some k7)⟩
 f50:=⟨Tryz.f195.name,by decide,Tryz.func195.trans (congrArg some k7)⟩
 f57:=⟨Tryz.f233.name,by decide,Tryz.func233.trans (congrArg some k7)⟩
 t0:=Tryz.underlying0
 a0:=Tryz.isAgg0
 z0:=Tryz.sizeOf0
 v0:=Tryz.zeroValue0
 t3:=Tryz.underlying3
 a3:=Tryz.isAgg3
 z3:=Tryz.sizeOf3
 v3:=Tryz.zeroValue3
 t4:=Tryz.underlying4
 a4:=Tryz.isAgg4
 z4:=Tryz.sizeOf4
 v4:=Tryz.zeroValue4
 t5:=Tryz.underlying5
 a5:=Tryz.isAgg5
 z5:=Tryz.sizeOf5
 v5:=Tryz.zeroValue5
 t9:=Tryz.underlying9
 a9:=Tryz.isAgg9
 z9:=Tryz.sizeOf9
 v9:=Tryz.zeroValue9
 t22:=Tryz.underlying29
 a22:=Tryz.isAgg29
 z22:=Tryz.sizeOf29
 v22:=Tryz.zeroValue29
 a24:=Tryz.isAgg3
 z24:=Tryz.sizeOf3
 t25:=Tryz.underlying65
 a25:=Tryz.isAgg65
 z25:=Tryz.sizeOf65
 v25:=Tryz.zeroValue65
 t39:=Tryz.underlying103
 a39:=Tryz.isAgg103
 z39:=Tryz.sizeOf103
 v39:=Tryz.zeroValue103
 t45:=Tryz.underlying136
 a45:=Tryz.isAgg136
 z45:=Tryz.sizeOf136
 v45:=Tryz.zeroValue136
 t46:=Tryz.underlying137
 a46:=Tryz.isAgg137
 z46:=Tryz.sizeOf137
 v46:=Tryz.zeroValue137
 t50:=Tryz.underlying106
 a50:=Tryz.isAgg106
 z50:=Tryz.sizeOf106
 v50:=Tryz.zeroValue106
 t53:=Tryz.underlying143
 a53:=Tryz.isAgg143
 z53:=Tryz.sizeOf143
 v53:=Tryz.zeroValue143
 t55:=Tryz.underlying145
 a55:=Tryz.isAgg145
 z55:=Tryz.sizeOf145
 v55:=Tryz.zeroValue145
 t66:=Tryz.underlying179
 a66:=Tryz.isAgg179
 z66:=Tryz.sizeOf179
 v66:=Tryz.zeroValue179
 t70:=Tryz.underlying183
 a70:=Tryz.isAgg183
 z70:=Tryz.sizeOf183
 v70:=Tryz.zeroValue183
 t76:=Tryz.underlying218
 a76:=Tryz.isAgg218
 z76:=Tryz.sizeOf218
 v76:=Tryz.zeroValue218
 t77:=Tryz.underlying188
 a77:=Tryz.isAgg188
 z77:=Tryz.sizeOf188
 v77:=Tryz.zeroValue188 }
def Tryz.sortPair_ren:Go.Shelf.Ren:=⟨fun|6=>42|15=>81|14=>83|28=>129|29=>130|20=>131|21=>132|22=>133|23=>134|24=>135|25=>136|26=>137|27=>138|46=>196|47=>192|48=>193|49=>197|50=>198|57=>234|n=>n,fun|22=>25|24=>63|25=>67|3=>3|39=>103|0=>0|53=>143|55=>145|4=>4|46=>137|45=>136|50=>106|5=>5|9=>9|66=>179|70=>183|76=>218|77=>188|n=>n,fun|n=>n⟩
theorem Tryz.sortPair:Go.Proofs.SlLaysF0.n6 Tryz.prog Tryz.sortPair_ren :={
 mixed:=k7
 f6:=⟨Tryz.f42.name,by decide,Tryz.func42.trans (congrArg some k7)⟩
 f14:=⟨Tryz.f83.name,by decide,Tryz.func83.trans (congrArg some k7)⟩
 f15:=Tryz.func81.trans (congrArg some k7)
 f20:=⟨Tryz.f131.name,by decide,Tryz.func131.trans (congrArg some k7)⟩
 f21:=⟨Tryz.f132.name,by decide,Tryz.func132.trans (congrArg some k7)⟩
 f22:=⟨Tryz.f133.name,by decide,Tryz.func133.trans (congrArg some k7)⟩
 f23:=⟨Tryz.f134.name,by decide,Tryz.func134.trans (congrArg some k7)⟩
 f24:=⟨Tryz.f135.name,by decide,Tryz.func135.trans (congrArg some k7)⟩
 f25:=⟨Tryz.f136.name,by decide,Tryz.func136.trans (congrArg some k7)⟩
 f26:=⟨Tryz.f137.name,by decide,Tryz.func137.trans (congrArg some k7)⟩
 f27:=⟨Tryz.f138.name,by decide,Tryz.func138.trans (congrArg some k7)⟩
 f28:=Tryz.func129.trans (congrArg some k7)
 f29:=Tryz.func130.trans (congrArg some k7)
 f46:=⟨Tryz.f196.name,by decide,Tryz.func196.trans (congrArg some k7)⟩
 f47:=Tryz.func192.trans (congrArg some k7)
 f48:=Tryz.func193.trans (congrArg some k7)
 f49:=⟨Tryz.f197.name,by decide,Tryz.func197.trans (congrArg some k7)⟩
 f50:=⟨Tryz.f198.name,by decide,Tryz.func198.trans (congrArg some k7)⟩
 f57:=⟨Tryz.f234.name,by decide,Tryz.func234.trans (congrArg some k7)⟩
 t0:=Tryz.underlying0
 a0:=Tryz.isAgg0
 z0:=Tryz.sizeOf0
 v0:=Tryz.zeroValue0
 t3:=Tryz.underlying3
 a3:=Tryz.isAgg3
 z3:=Tryz.sizeOf3
 v3:=Tryz.zeroValue3
 t4:=Tryz.underlying4
 a4:=Tryz.isAgg4
 z4:=Tryz.sizeOf4
 v4:=Tryz.zeroValue4
 t5:=Tryz.underlying5
 a5:=Tryz.isAgg5
 z5:=Tryz.sizeOf5
 v5:=Tryz.zeroValue5
 t9:=Tryz.underlying9
 a9:=Tryz.isAgg9
 z9:=Tryz.sizeOf9
 v9:=Tryz.zeroValue9
 t22:=Tryz.underlying25
 a22:=Tryz.isAgg25
 z22:=Tryz.sizeOf25
 v22:=Tryz.zeroValue25
 t25:=Tryz.underlying67
 a25:=Tryz.isAgg67
 z25:=Tryz.sizeOf67
 v25:=Tryz.zeroValue67
 t39:=Tryz.underlying103
 a39:=Tryz.isAgg103
 z39:=Tryz.sizeOf103
 v39:=Tryz.zeroValue103
 t45:=Tryz.underlying136
 a45:=Tryz.isAgg136
 z45:=Tryz.sizeOf136
 v45:=Tryz.zeroValue136
 t46:=Tryz.underlying137
 a46:=Tryz.isAgg137
 z46:=Tryz.sizeOf137
 v46:=Tryz.zeroValue137
 t50:=Tryz.underlying106
 a50:=Tryz.isAgg106
 z50:=Tryz.sizeOf106
 v50:=Tryz.zeroValue106
 t53:=Tryz.underlying143
 a53:=Tryz.isAgg143
 z53:=Tryz.sizeOf143
 v53:=Tryz.zeroValue143
 t55:=Tryz.underlying145
 a55:=Tryz.isAgg145
 z55:=Tryz.sizeOf145
 v55:=Tryz.zeroValue145
 t66:=Tryz.underlying179
 a66:=Tryz.isAgg179
 z66:=Tryz.sizeOf179
 v66:=Tryz.zeroValue179
 t70:=Tryz.underlying183
 a70:=Tryz.isAgg183
 z70:=Tryz.sizeOf183
 v70:=Tryz.zeroValue183
 t76:=Tryz.underlying218
 a76:=Tryz.isAgg218
 z76:=Tryz.sizeOf218
 v76:=Tryz.zeroValue218
 t77:=Tryz.underlying188
 a77:=Tryz.isAgg188
 z77:=Tryz.sizeOf188
 v77:=Tryz.zeroValue188 }
def Tryz.sortEdge_ren:Go.Shelf.Ren:=⟨fun|6=>212|15=>81|14=>246|28=>129|29=>130|20=>265|21=>266|22=>267|23=>268|24=>269|25=>270|26=>271|27=>272|46=>289|47=>192|48=>193|49=>290|50=>291|57=>300|n=>n,fun|22=>159|24=>162|25=>211|3=>3|39=>103|0=>0|53=>143|55=>145|4=>4|46=>137|45=>136|50=>106|5=>5|9=>9|66=>179|70=>183|76=>218|77=>188|n=>n,fun|n=>n⟩
theorem Tryz.sortEdge:Go.Proofs.SlLaysF0.n6 Tryz.prog Tryz.sortEdge_ren :={
 mixed:=k7
 f6:=⟨Tryz.f212.name,by decide,Tryz.func212.trans (congrArg some k7)⟩
 f14:=⟨Tryz.f246.name,by decide,Tryz.func246.trans (congrArg some k7)⟩
 f15:=Tryz.func81.trans (congrArg some k7)
 f20:=⟨Tryz.f265.name,by decide,Tryz.func265.trans (congrArg some k7)⟩
 f21:=⟨Tryz.f266.name,by decide,Tryz.func266.trans (congrArg some k7)⟩
 f22:=⟨Tryz.f267.name,by decide,Tryz.func267.trans (congrArg some k7)⟩
 f23:=⟨Tryz.f268.name,by decide,Tryz.func268.trans (congrArg some k7)⟩
 f24:=⟨Tryz.f269.name,by decide,Tryz.func269.trans (congrArg some k7)⟩
 f25:=⟨Tryz.f270.name,by decide,Tryz.func270.trans (congrArg some k7)⟩
 f26:=⟨Tryz.f271.name,by decide,Tryz.func271.trans (congrArg some k7)⟩
 f27:=⟨Tryz.f272.name,by decide,Tryz.func272.trans (congrArg some k7)⟩
 f28:=Tryz.func129.trans (congrArg some k7)
 f29:=Tryz.func130.trans (congrArg some k7)
 f46:=⟨Tryz.f289.name,by decide,Tryz.func289.trans (congrArg some k7)⟩
 f47:=Tryz.func192.trans (congrArg some k7)
 f48:=Tryz.func193.trans (congrArg some k7)
 f49:=⟨Tryz.f290.name,by decide,Tryz.func290.trans (congrArg some k7)⟩
 f50:=⟨Tryz.f291.name,by decide,Tryz.func291.trans (congrArg some k7)⟩
 f57:=⟨Tryz.f300.name,by decide,Tryz.func300.trans (congrArg some k7)⟩
 t0:=Tryz.underlying0
 a0:=Tryz.isAgg0
 z0:=Tryz.sizeOf0
 v0:=Tryz.zeroValue0
 t3:=Tryz.underlying3
 a3:=Tryz.isAgg3
 z3:=Tryz.sizeOf3
 v3:=Tryz.zeroValue3
 t4:=Tryz.underlying4
 a4:=Tryz.isAgg4
 z4:=Tryz.sizeOf4
 v4:=Tryz.zeroValue4
 t5:=Tryz.underlying5
 a5:=Tryz.isAgg5
 z5:=Tryz.sizeOf5
 v5:=Tryz.zeroValue5
 t9:=Tryz.underlying9
 a9:=Tryz.isAgg9
 z9:=Tryz.sizeOf9
 v9:=Tryz.zeroValue9
 t22:=Tryz.underlying159
 a22:=Tryz.isAgg159
 z22:=Tryz.sizeOf159
 v22:=Tryz.zeroValue159
 t25:=Tryz.underlying211
 a25:=Tryz.isAgg211
 z25:=Tryz.sizeOf211
 v25:=Tryz.zeroValue211
 t39:=Tryz.underlying103
 a39:=Tryz.isAgg103
 z39:=Tryz.sizeOf103
 v39:=Tryz.zeroValue103
 t45:=Tryz.underlying136
 a45:=Tryz.isAgg136
 z45:=Tryz.sizeOf136
 v45:=Tryz.zeroValue136
 t46:=Tryz.underlying137
 a46:=Tryz.isAgg137
 z46:=Tryz.sizeOf137
 v46:=Tryz.zeroValue137
 t50:=Tryz.underlying106
 a50:=Tryz.isAgg106
 z50:=Tryz.sizeOf106
 v50:=Tryz.zeroValue106
 t53:=Tryz.underlying143
 a53:=Tryz.isAgg143
 z53:=Tryz.sizeOf143
 v53:=Tryz.zeroValue143
 t55:=Tryz.underlying145
 a55:=Tryz.isAgg145
 z55:=Tryz.sizeOf145
 v55:=Tryz.zeroValue145
 t66:=Tryz.underlying179
 a66:=Tryz.isAgg179
 z66:=Tryz.sizeOf179
 v66:=Tryz.zeroValue179
 t70:=Tryz.underlying183
 a70:=Tryz.isAgg183
 z70:=Tryz.sizeOf183
 v70:=Tryz.zeroValue183
 t76:=Tryz.underlying218
 a76:=Tryz.isAgg218
 z76:=Tryz.sizeOf218
 v76:=Tryz.zeroValue218
 t77:=Tryz.underlying188
 a77:=Tryz.isAgg188
 z77:=Tryz.sizeOf188
 v77:=Tryz.zeroValue188 }
def Tryz.cmpInt_ren:Go.Shelf.Ren:=⟨fun|5=>41|7=>82|n=>n,fun|22=>3|3=>3|4=>4|n=>n,fun|n=>n⟩
theorem Tryz.cmpInt:Go.Proofs.SlLaysC2.n5 Tryz.prog Tryz.cmpInt_ren :={
 mixed:=k7
 f5:=⟨Tryz.f41.name,by decide,Tryz.func41.trans (congrArg some k7)⟩
 f7:=⟨Tryz.f82.name,by decide,Tryz.func82.trans (congrArg some k7)⟩
 t3:=Tryz.underlying3
 a3:=Tryz.isAgg3
 z3:=Tryz.sizeOf3
 v3:=Tryz.zeroValue3
 t4:=Tryz.underlying4
 a4:=Tryz.isAgg4
 z4:=Tryz.sizeOf4
 v4:=Tryz.zeroValue4
 t22:=Tryz.underlying3
 a22:=Tryz.isAgg3
 z22:=Tryz.sizeOf3
 v22:=Tryz.zeroValue3 }
end Go.Proofs
namespace Go.Proofs.YtlcceppoloaecaaGreatDoor
open Go.RowKit Go.Shelf Go.Lib Go.Sort
theorem ltC {α:Type}(f:α->Int)(x y:α):ltOf (fun x y=>Lib.compareInt (f x) (f y)) x y=decide (f x<f y):=by
 unfold ltOf Lib.compareInt;by_cases h1:f x<f y
 ·simp[h1]
 ·by_cases h2:f y<f x<;>simp[h1,h2]
theorem aot {α:Type}(f:α->Int):SWO (ltOf fun x y=>Lib.compareInt (f x) (f y)) where
 irrefl x:=by rw[ltC];simp
 trans x y z h1 h2:=by rw[ltC]at *;simp at *;omega
 ntrans x y z h1 h2:=by rw[ltC]at *;simp at *;omega
def al3:Flat cz:=⟨2,fun p=>[p.a,p.b],fun _=>rfl,m0⟩
theorem agr {cb:Array Value}(h:cb.size=([]:List AC).length):cb=#[]:=by
 apply Array.eq_empty_of_size_eq_zero;simpa using h
theorem agv:NC Tryz.prog al3 43 [] (fun x => .agg (al3.enc x).toArray) (fun x y=>Lib.compareInt x.b y.b):=by
 intro R W cb _ hs _ x y;obtain rfl:=agr hs;show Calls Tryz.prog 43 #[.agg #[.int .i64 x.a,.int .i64 x.b],.agg #[.int .i64 y.a,.int .i64 y.b]] W fun e w'=>e = .returned (.int .i64 (Lib.compareInt x.b y.b)) /\ ∃ q XG,w'=grow (W.drewN q) XG
 have RA:=fun W=>AnyG.cmp_Compare_int Tryz.cmpInt x.b y.b W
 change ∀ W,Calls Tryz.prog 41 _ _ _ at RA;generalize Lib.compareInt x.b y.b=r at RA ⊢
 go_enter Tryz.func43,Tryz.ntmps43
 go_wp2_with (go_at_call 41;refine(RA _).mono ?_;rintro e w' ⟨rfl,rfl⟩)
 go_ret
 exact⟨rfl,0,_,by rw[alloc_eq_grow,alloc_eq_grow,grow_grow];rfl⟩
def afe (n:Nat):Type :={ x:Int // 0<=x/\(x<(n:Int)\/x=0) }
instance (n : Nat) : Inhabited (afe n) := ⟨⟨0, Int.le_refl _, .inr rfl⟩⟩
def akW (n:Nat):Flat (afe n):=⟨1,fun x=>[x.1],fun _=>rfl,m0⟩
def ot (b:List ap)(k:Int):Int:=match b[k.toNat]? with
 |some y=>y.valid.lo
 |none=>0
theorem amL {cb:Array Value}{x:AC}(h:cb.size=[x].length):∃ v,cb=#[v]:=by
 obtain⟨l⟩:=cb
 match l,h with
 |[v],_=>exact⟨v,rfl⟩
theorem abR (W:World)(b0 o0 b1 o1 n c i j:Nat)(p q:Int)(hi:i<n)(hj:j<n)(hn:n<=1000)(h0:W.cell? ⟨b0,o0,none⟩=some (.slice (some ⟨b1,o1,none⟩) n c))(h1:W.cell? ⟨b1,o1+i*3+1,none⟩=some (.int .i64 p))(h2:W.cell? ⟨b1,o1+j*3+1,none⟩=some (.int .i64 q)) :
  Calls Tryz.prog 40 #[.int .i64 (i:Int),.int .i64 (j:Int),.pointer (some ⟨b0,o0,none⟩)] W fun e w'=>e = .returned (.int .i64 (Lib.compareInt p q)) /\ ∃ q XG,w'=grow (W.drewN q) XG:=by
 have RA:=fun W=>AnyG.cmp_Compare_int Tryz.cmpInt p q W
 change ∀ W,Calls Tryz.prog 41 _ _ _ at RA;generalize Lib.compareInt p q=r at RA ⊢
 go_enter Tryz.func40,Tryz.ntmps40
 go_wp2_with fail
 go_region_held3 (fun w'=>w'.cell? ⟨b0,o0,none⟩=some (.slice (some ⟨b1,o1,none⟩) n c)/\w'.cell? ⟨b1,o1+i*3+1,none⟩=some (.int .i64 p)/\w'.cell? ⟨b1,o1+j*3+1,none⟩=some (.int .i64 q))
  (first|go_keep)
  (first|(go_at_call 41;((with_reducible refine(RA _).mono ?_);rintro e w' ⟨rfl,rfl⟩)))
 go_wp2_with fail
 go_ret
 exact⟨rfl,1,#[],by rw[grow_empty];rfl⟩
theorem afM {b:List ap}(h0:0<b.length)(hb:b.length<=1000):NC Tryz.prog (akW b.length) 40 [.ref [.lst (b.map aG)]] (akW b.length).one (fun x y=>Lib.compareInt (ot b x.1) (ot b y.1)):=by
 intro R W cb hR hs hc x y;obtain⟨v,rfl⟩:=amL hs;have hv:=hc 0 v _ rfl rfl;obtain⟨x,O3,QP⟩:=x;obtain⟨y,hy1,Yf⟩:=y;obtain⟨i,rfl⟩:=Int.eq_ofNat_of_zero_le O3;obtain⟨j,rfl⟩:=Int.eq_ofNat_of_zero_le hy1;have XE:i<b.length:=m0
 have hyl:j<b.length:=m0
 cases hv with
 |ref b0 o0 _ cv hr he =>
  have Ua:=hR _ _ _ (hr 0 m5);rw[Nat.add_zero]at Ua;have hp:=he 0 _ rfl;generalize cv 0=sv at Ua hp
  cases hp with
  |lst a n c _ k cw b1 o1 hn WU hk ha SE he2 =>
   have TS:k=3:=by
    have:=hk (aG b[i]) (aqJ.2 ⟨_,List.getElem_mem XE,rfl⟩);rw[<- this];rfl
   subst TS;have Qj:b.length=n:=by simpa using hn
   subst Qj;obtain rfl:=ha h0;have cell:∀ (i:Nat) (hi:i<b.length),W.cell? ⟨b1,o1+i*3+1,none⟩=some (.int .i64 b[i].valid.lo):=fun i hi=>by
    have h1:=hR _ _ _ (SE (i*3+1) m0);have h2:=he2 i (aG b[i]) 1 (.int .i64 b[i].valid.lo) (by rw[aqw,aqh hi];rfl) rfl
    cases h3:cw (i*3+1)<;>rw[h3]at h2 h1<;>cases h2;rw[Nat.add_assoc];exact h1
   have cx:=cell i XE;have cy:=cell j hyl;have lx:ot b (i:Int)=b[i].valid.lo:=by unfold ot;rw[Int.toNat_natCast,aqh XE]
   have ly:ot b (j:Int)=b[j].valid.lo:=by unfold ot;rw[Int.toNat_natCast,aqh hyl]
   show Calls Tryz.prog 40 #[.int .i64 (i:Int),.int .i64 (j:Int),.pointer (some ⟨b0,o0,none⟩)] W fun e w'=>e = .returned (.int .i64 (Lib.compareInt (ot b (i:Int)) (ot b (j:Int)))) /\ ∃ q XG,w'=grow (W.drewN q) XG
   rw[lx,ly];exact abR W b0 o0 b1 o1 b.length c i j _ _ XE hyl hb Ua cx cy
open Go.RowKit Go.MapKept
def aoA (f:FuncId):Bool:=Nat.beq f 248||Nat.beq f 250||Nat.beq f 252||Nat.beq f 253||Nat.beq f 274||Nat.beq f 293||Nat.beq f 292||Nat.beq f 179||Nat.beq f 244||Nat.beq f 238||Nat.beq f 254||Nat.beq f 204||Nat.beq f 242||Nat.beq f 193||Nat.beq f 276||Nat.beq f 277||Nat.beq f 295||Nat.beq f 305||Nat.beq f 241||Nat.beq f 256||Nat.beq f 257||Nat.beq f 258||Nat.beq f 259||Nat.beq f 260||Nat.beq f 261||Nat.beq f 262||Nat.beq f 263||Nat.beq f 278||Nat.beq f 279||Nat.beq f 280||Nat.beq f 264||Nat.beq f 281||Nat.beq f 282||Nat.beq f 283||Nat.beq f 284||Nat.beq f 285||Nat.beq f 286||Nat.beq f 287||Nat.beq f 288||Nat.beq f 297||Nat.beq f 298||Nat.beq f 299||Nat.beq f 92||Nat.beq f 145||Nat.beq f 54||Nat.beq f 18||Nat.beq f 52||Nat.beq f 53||Nat.beq f 99||Nat.beq f 62||Nat.beq f 58||Nat.beq f 156||Nat.beq f 39||Nat.beq f 42||Nat.beq f 212||Nat.beq f 80||Nat.beq f 121||Nat.beq f 122||Nat.beq f 123||Nat.beq f 124||Nat.beq f 125||Nat.beq f 126||Nat.beq f 127||Nat.beq f 128||Nat.beq f 191||Nat.beq f 194||Nat.beq f 195||Nat.beq f 83||Nat.beq f 131||Nat.beq f 132||Nat.beq f 133||Nat.beq f 134||Nat.beq f 135||Nat.beq f 136||Nat.beq f 137||Nat.beq f 138||Nat.beq f 196||Nat.beq f 197||Nat.beq f 198||Nat.beq f 246||Nat.beq f 265||Nat.beq f 266||Nat.beq f 267||Nat.beq f 268||Nat.beq f 269||Nat.beq f 270||Nat.beq f 271||Nat.beq f 272||Nat.beq f 289||Nat.beq f 290||Nat.beq f 291
def apw (f:FuncId)(d:Nat):Bool:=Nat.beq f 74||Nat.beq f 207||Nat.beq f 237||Nat.beq f 250||Nat.beq f 252||Nat.beq f 100||Nat.beq f 60||Nat.beq f 12||Nat.beq f 156||Nat.beq f 62||(Nat.beq f 202&&Nat.beq d 41)||(Nat.beq f 202&&Nat.beq d 42)
def apo (f:FuncId)(id:Nat):List Nat :=
 if (Nat.beq f 12&&Nat.beq id 8)=true then [3]else
 if (Nat.beq f 35&&Nat.beq id 1)=true then [3]else
 if (Nat.beq f 74&&Nat.beq id 18)=true then [5]else
 if (Nat.beq f 52&&Nat.beq id 4)=true then [4,5,9]else
 []
def apx (f:FuncId)(id:Nat):Bool×Bool :=
 (false,true)
def fzT (f:FuncId)(id:Nat):List Nat :=
 if (Nat.beq f 52&&Nat.beq id 4)=true then [4,5,9]else
 []
def swT (f:FuncId)(id:Nat):Option (Nat×List Nat) :=
 if (Nat.beq f 52&&Nat.beq id 4)=true then some (12,[10,11])else
 none
def ape (f:FuncId):Bool:=Nat.beq f 183||Nat.beq f 4||Nat.beq f 6||Nat.beq f 9
def aa2:TI :={ tab with owns:=aoA }
theorem am:TIok Tryz.prog aa2:=⟨tab_ok.size,tab_ok.agg,tab_ok.elem,tab_ok.field,tab_ok.zero,tab_ok.bytes,tab_ok.kind,tab_ok.struct,tab_ok.zok,tab_ok.eqs⟩
def apN:FuncId->List PV->Option CV:=fun _ _=>none
noncomputable def cx:Cx :={ P:=Tryz.prog,ti:=aa2,xs:=⟨293,292⟩,row:=apw,frz:=apo,flg:=apx,orc:=apN,bad:=ape,fz:=fzT,sw:=swT }
open Go.RowKit Go.MapKept
inductive Step (σ ρ:Type) where
 |next (s:σ)
 |exit (s:σ)
 |ret (r:ρ)
def ao {σ ρ:Type}(body:σ->Option (Step σ ρ)):Nat->σ->Option (Sum σ ρ)
 |0,_=>none
 |n+1,s=>match body s with
  |none=>none
  |some (.next s')=>ao body n s'
  |some (.exit s')=>some (.inl s')
  |some (.ret r)=>some (.inr r)
def fuel:Nat:=4611686018427387904
def aF {α:Type}(l:List α)(i:Int):Option α:=if 0<=i then l[i.toNat]? else none
def ga {α:Type}(l:List α)(a b:Int):Option (List α):=if 0<=a/\a<=b/\b<=(l.length:Nat)then some ((l.take b.toNat).drop a.toNat)else none
theorem bd_ {α β:Type}{x:Option α}{f:α->Option β}{r:β}(h:x.bind f=some r):∃ a,x=some a/\f a=some r:=by
 cases x with
 |none=>cases h
 |some a=>exact⟨a,rfl,h⟩
theorem iZ {α:Type}{l:List α}{i:Int}{x:α}(h:aF l i=some x):0<=i/\l[i.toNat]?=some x:=by
 unfold aF at h;by_cases h0:0<=i
 ·rw[if_pos h0]at h;exact⟨h0,h⟩
 ·rw[if_neg h0]at h;cases h
theorem cR {α:Type}{l r:List α}{a b:Int}(h:ga l a b=some r):(0<=a/\a<=b/\b<=(l.length:Nat))/\r=(l.take b.toNat).drop a.toNat:=by
 unfold ga at h;by_cases h0:0<=a/\a<=b/\b<=(l.length:Nat)
 ·rw[if_pos h0]at h;exact⟨h0,(aqG h).symm⟩
 ·rw[if_neg h0]at h;cases h
theorem gK {c:Bool}{β:Type}{x:Option β}{r:β}(h:(bif c then x else none)=some r):c=true/\x=some r:=by
 cases c with
 |true=>exact⟨rfl,h⟩
 |false=>cases h
theorem ak9 {α:Type}{l:List α}{f:α->List AC}{i:Int}{x:α}(h:l[i.toNat]?=some x):(l.map f)[i.toNat]?=some (f x):=by rw[aqw,h];rfl
theorem wideI {α:Type}{f:α->List AC}{k:Nat}(hf:∀ x,(f x).length=k)(l:List α):∀ e∈l.map f,e.length=k:=by
 intro e he;simp only[aqJ]at he;obtain⟨x,_,rfl⟩:=he;exact hf x
section
variable {P:Program} {ti:TI} {N n0:Nat} {Q:AX->Tm->List Ob->Prop} {T:Tm} {L:List Ob}
@[reducible] def After {σ ρ γ:Type}(K:Sum σ ρ->Option γ)(r:γ):Step σ ρ->Prop
 |.next _=>True
 |.exit s=>K (.inl s)=some r
 |.ret q=>K (.inr q)=some r
theorem alM_ {σ ρ γ:Type}{c:Code}{body:σ->Option (Step σ ρ)}{K:Sum σ ρ->Option γ}{r:γ}{s0:σ}(TT:σ->Tm)(LL:σ->List Ob)(h:(ao body fuel s0).bind K=some r)(RU:∀ s,n0<=(LL s).length)(hf:Fits T L (TT s0) (LL s0))
  (round:∀ s st,body s=some st->After K r st->Aw P N n0 c (AX.then (fun T' L' =>∃ s',st = .next s'/\Fits T' L' (TT s') (LL s')) Q) (TT s) (LL s)):Aw P N n0 (.loop c) Q T L:=by
 refine cA (fun s:Nat×σ=>TT s.2) (fun s=>LL s.2) (fun s=>(ao body s.1 s.2).bind K=some r) (fun s=>s.1) (fuel,s0) h (fun s _=>RU s.2) hf ?_;rintro⟨n,s⟩ Qu;dsimp only at Qu ⊢
 cases n with
 |zero=>cases Qu
 |succ n =>
  rw[ao]at Qu
  cases hb:body s with
  |none=>rw[hb]at Qu;cases Qu
  |some st =>
   rw[hb]at Qu;refine Aw.mono (round s st hb ?_) ?_
   ·cases st with
    |next s'=>trivial
    |exit s'=>exact Qu
    |ret q=>exact Qu
   ·intro x T' L' hq
    cases x with
    |normal =>
     obtain⟨s',rfl,Rh⟩:=hq;exact⟨(n,s'),Qu,Nat.lt_succ_self n,Rh⟩
    |exit id=>exact hq
    |ret=>exact hq
end
def mnI (a b:Int):Int:=if b<a then b else a
def zb (a b:Int):Int:=if b>a then b else a
theorem mn_norm (a b:Int):(if false=true then(if b>a then b else a)else(if b<a then b else a))=mnI a b:=rfl
theorem mx_norm (a b:Int):(if true=true then(if b>a then b else a)else(if b<a then b else a))=zb a b:=rfl
theorem wo {α:Type}{f:α->List AC}{l r:List α}{a b:Int}(h:r=(l.take b.toNat).drop a.toNat):((l.map f).take b.toNat).drop a.toNat=r.map f:=by rw[h,<- List.map_take,<- List.map_drop]
def ahi (n:Nat):SV->Bool
 |.c _=>true
 |.emp=>true
 |.own _ t=>Nat.blt t n
 |.ptr id _=>Nat.blt id n
 |_=>false
def aaJ (n:Nat):List SV->Bool
 |[]=>true
 |x::l=>and (ahi n x) (aaJ n l)
theorem afK {n:Nat}{x:SV}(h:ahi n x=true):x.below n:=by
 cases x with
 |c _=>trivial
 |emp=>trivial
 |own _ t=>exact aqi h
 |ptr id _=>exact aqi h
 |sl=>cases h
 |ep=>cases h
 |mp=>cases h
 |clo=>cases h
theorem gH {n:Nat}:∀ {cs:List SV},aaJ n cs=true->(Ob.box cs).below n
 |[],_=>fun x hx=>by cases hx
 |c::cs,h=>fun x hx=>by
  rw[aaJ,aqr]at h;rcases aqp.1 hx with rfl|hx
  ·exact afK h.1
  ·exact gH h.2 x hx
section
variable {P:Program} {ti:TI} {N n0:Nat} {ds:List (Option Tmp)} {K:Tm->List Ob->Prop} {rest:List Oper} {o:Oper} {T:Tm} {L:List Ob}
theorem jj {b:Bool}(h:b=true):(b==true)=true:=by rw[h];rfl
theorem jc {b:Bool}(h:b=false):(b==false)=true:=by rw[h];rfl
theorem aiT {b:Bool}(h:b=false):(b==true)=false:=by rw[h];rfl
theorem ahk {b:Bool}(h:b=true):(b==false)=false:=by rw[h];rfl
theorem jH {e:Bool}(h:e=false):(!e)=true:=by rw[h];rfl
theorem jZ {e:Bool}(h:e=true):(!e)=false:=by rw[h];rfl
def amR:Op->Bool
 |.pick _ _ _=>true
 |_=>false
theorem p_ {v:AV}{φ:Prop}{d:Nat}(_:amR o.op=false)(hd:o.dst=some d)(hN:Nat.blt d N=true){g0:Bool}(hg:fR ds T o.guard=some g0)(hp:pop ti (look T) L o.op=some (v,φ))(h:aI P ti N ds K rest ((d,v)::T) L)
  (hφ:φ:=by repeat' (first|exact t7|rfl|exact aqi rfl|omega|assumption|exact wideI (by intro _;rfl) _|exact wideI I2 _|(intro e he;simp at he;subst he;rfl)|(simp only[aqk];omega)|apply And.intro)) (Rk:g0=true:=by first|rfl|exact jj (by first|assumption|exact jH (by assumption))|exact jc (by first|assumption|exact jZ (by assumption))):aI P ti N ds K (o::rest) T L:=st_pop hd hN (Rk▸hg) hp hφ h
theorem l_ {v:AV}{L':List Ob}{φ:Prop}{d:Nat}(hd:o.dst=some d)(hN:Nat.blt d N=true){g0:Bool}(hg:fR ds T o.guard=some g0)(hp:zM ti (look T) L o.op=some (v,L',φ))(h:aI P ti N ds K rest ((d,v)::T) L')
  (hφ:φ:=by repeat' (first|exact t7|rfl|exact aqi rfl|omega|exact wideI (by intro _;rfl) _|exact wideI I2 _|(intro e he;simp at he;subst he;rfl)|exact aqk _|(simp only[aqk,aqg,aqv,aqE,aqR]<;>omega)|apply And.intro)) (Rk:g0=true:=by first|rfl|exact jj (by first|assumption|exact jH (by assumption))|exact jc (by first|assumption|exact jZ (by assumption))):aI P ti N ds K (o::rest) T L:=st_lop hd hN (Rk▸hg) hp hφ h
theorem s_ {v:AV}{L':List Ob}{φ:Prop}(hd:o.dst=none){g0:Bool}(hg:fR ds T o.guard=some g0)(hp:zM ti (look T) L o.op=some (v,L',φ))(h:aI P ti N ds K rest T L')(hφ:φ:=by repeat' (first|exact t7|rfl|exact aqi rfl|omega|apply And.intro))(Rk:g0=true:=by first|rfl|exact jj (by first|assumption|exact jH (by assumption))|exact jc (by first|assumption|exact jZ (by assumption))):aI P ti N ds K (o::rest) T L:=sS_ hd (Rk▸hg) hp hφ h
theorem t_ {v:AV}{φ:Prop}{d:Nat}(hd:o.dst=some d)(hN:Nat.blt d N=true){g0:Bool}(hg:fR ds T o.guard=some g0)(hp:tV ti (look T) o.op=some (v,φ))(h:aI P ti N ds K rest ((d,v)::T) L)
  (hφ:φ:=by repeat' (first|exact t7|rfl|exact aqi rfl|omega|(intro e he;simp at he;subst he;rfl)|(intro e he;simp at he;rcases he with rfl|rfl<;>rfl)|(intro e he;simp at he;rcases he with rfl|rfl|rfl<;>rfl)|(intro e he;simp at he;rcases he with rfl|rfl|rfl|rfl<;>rfl)|apply And.intro)) (Rk:g0=true:=by first|rfl|exact jj (by first|assumption|exact jH (by assumption))|exact jc (by first|assumption|exact jZ (by assumption))):aI P ti N ds K (o::rest) T L:=st_lit hd hN (Rk▸hg) hp hφ h
theorem c_ {g:FuncId}{ps:List PV}{r:CV}{d:Nat}{v:AV}(hd:o.dst=some d)(hN:Nat.blt d N=true){g0:Bool}(hg:fR ds T o.guard=some g0)(hp:pM (look T) o.op=some (g,ps))(h:aI P ti N ds K rest ((d,v)::T) L)(hc:Pure P g ps r:=by assumption)(hv:r.av=v:=by rfl)(Rk:g0=true:=by first|rfl|exact jj (by first|assumption|exact jH (by assumption))|exact jc (by first|assumption|exact jZ (by assumption))):aI P ti N ds K (o::rest) T L:=aM hd hN (Rk▸hg) hp hc hv h
theorem x_ {t:TypeId}{x ix:Operand}{vx:AV}{es:List (List AC)}{k0:IntKind}{i:Int}{k d:Nat}{e:List AC}(hd:o.dst=some d)(hN:Nat.blt d N=true){g0:Bool}(hg:fR ds T o.guard=some g0)(ho:o.op = .indexAddr t x ix)(hx:look T x=some vx)(hl:dx vx=some es)(hi:look T ix=some (.one (.c (.int k0 i))))
  (hk:(ti.elem t).bind ti.size=some k) (h:aI P ti N ds K rest ((d,.one (.c (.ref e)))::T) L) (he:es[i.toNat]?=some e:=by assumption) (h0:0<=i:=by assumption) (UG:e.length=k:=by rfl) (Rk:g0=true:=by first|rfl|exact jj (by first|assumption|exact jH (by assumption))|exact jc (by first|assumption|exact jZ (by assumption))):aI P ti N ds K (o::rest) T L:=bB hd hN (Rk▸hg) ho hx hl hi hk he ⟨h0,UG⟩ h
theorem pick_t {c a b:Operand}{e:Bool}{va vb:AV}{d:Nat}(hd:o.dst=some d)(hN:Nat.blt d N=true){g0:Bool}(hg:fR ds T o.guard=some g0)(ho:o.op = .pick c a b)(hc:look T c=some (.one (.c (.bool e))))(ha:look T a=some va)(hb:look T b=some vb)(h:aI P ti N ds K rest ((d,va)::T) L)
  (he:e=true:=by first|rfl|assumption|exact jH (by assumption)) (Rk:g0=true:=by first|rfl|exact jj (by first|assumption|exact jH (by assumption))|exact jc (by first|assumption|exact jZ (by assumption))):aI P ti N ds K (o::rest) T L:=st_pop hd hN (Rk▸hg) (by rw[ho];simp only[pop,hc,ha,hb];rw[if_pos he]) trivial h
theorem pick_f {c a b:Operand}{e:Bool}{va vb:AV}{d:Nat}(hd:o.dst=some d)(hN:Nat.blt d N=true){g0:Bool}(hg:fR ds T o.guard=some g0)(ho:o.op = .pick c a b)(hc:look T c=some (.one (.c (.bool e))))(ha:look T a=some va)(hb:look T b=some vb)(h:aI P ti N ds K rest ((d,vb)::T) L)
  (he:e=false:=by first|rfl|assumption|exact jZ (by assumption)) (Rk:g0=true:=by first|rfl|exact jj (by first|assumption|exact jH (by assumption))|exact jc (by first|assumption|exact jZ (by assumption))):aI P ti N ds K (o::rest) T L:=st_pop hd hN (Rk▸hg) (by rw[ho];simp only[pop,hc,ha,hb];rw[if_neg (by rw[he];decide)]) trivial h
theorem k_ {d:Nat}{g0:Bool}(hd:o.dst=some d)(hN:Nat.blt d N=true)(hg:fR ds T o.guard=some g0)(h:aI P ti N ds K rest ((d,.undef)::T) L)(Rk:g0=false:=by first|rfl|exact aiT (by first|assumption|exact jZ (by assumption))|exact ahk (by first|assumption|exact jH (by assumption))):aI P ti N ds K (o::rest) T L:=st_skip hd hN (Rk▸hg) h
theorem k0_ {g0:Bool}(hd:o.dst=none)(hg:fR ds T o.guard=some g0)(h:aI P ti N ds K rest T L)(Rk:g0=false:=by first|rfl|exact aiT (by first|assumption|exact jZ (by assumption))|exact ahk (by first|assumption|exact jH (by assumption))):aI P ti N ds K (o::rest) T L:=sk0_ hd (Rk▸hg) h
theorem aw_condT {Q:AX->Tm->List Ob->Prop}{c:Operand}{x y:Code}{b:Bool}(hc:look T c=some (.one (.c (.bool b))))(h:Aw P N n0 x Q T L)(hb:b=true:=by first|rfl|assumption|exact jH (by assumption)):Aw P N n0 (.cond c x y) Q T L:=aw_cond hc (fun _=>h) (fun e=>by rw[hb]at e;cases e)
theorem aw_condF {Q:AX->Tm->List Ob->Prop}{c:Operand}{x y:Code}{b:Bool}(hc:look T c=some (.one (.c (.bool b))))(h:Aw P N n0 y Q T L)(hb:b=false:=by first|rfl|assumption|exact jZ (by assumption)):Aw P N n0 (.cond c x y) Q T L:=aw_cond hc (fun e=>by rw[hb]at e;cases e) (fun _=>h)
end
theorem Fa {p:Prop}(h:p:=by
 repeat' (first
  |refine p_ rfl rfl rfl rfl rfl ?_|refine st_nil ?_|refine x_ rfl rfl rfl rfl rfl rfl rfl rfl ?_|refine l_ rfl rfl rfl rfl ?_|refine s_ rfl rfl rfl ?_|refine t_ rfl rfl rfl rfl ?_|refine k_ rfl rfl rfl ?_|refine k0_ rfl rfl ?_|refine c_ rfl rfl rfl rfl ?_|refine pick_t rfl rfl rfl rfl rfl rfl rfl ?_|refine pick_f rfl rfl rfl rfl rfl rfl rfl ?_|refine aw_seq ?_|refine aw_region tab_ok _ rfl ?_|refine aw_drawn2 tabS_ok _ rfl mixed (by decide +kernel) ?_|refine aw_condT rfl ?_|refine aw_condF rfl ?_|refine aw_block ?_|refine aw_exit ?_|refine aw_ret ?_|refine aw_skip ?_|rw[aqk]|rw[mn_norm]|rw[mx_norm])
 refine aZ (bg rfl ?_ ?_)
 ·repeat' (first|exact t7|rfl|exact aqi rfl|omega|apply And.intro)
 ·first|rfl|(simp only[aql,aqj,aqn,aqd]<;>rfl)):p:=h
structure Bx (q:Prop):Prop where
 out:q
theorem gs_ {p q:Prop}(k:q)(h:Bx q->p:=by
 intro hq
 first|refine p_ rfl rfl rfl rfl rfl ?_|refine st_nil ?_|refine x_ rfl rfl rfl rfl rfl rfl rfl rfl ?_|refine l_ rfl rfl rfl rfl ?_|refine s_ rfl rfl rfl ?_|refine t_ rfl rfl rfl rfl ?_|refine k_ rfl rfl rfl ?_|refine k0_ rfl rfl ?_|refine c_ rfl rfl rfl rfl ?_|refine pick_t rfl rfl rfl rfl rfl rfl rfl ?_|refine pick_f rfl rfl rfl rfl rfl rfl rfl ?_|refine aw_seq ?_|refine aw_region tab_ok _ rfl ?_|refine aw_drawn2 tabS_ok _ rfl mixed (by decide +kernel) ?_|refine aw_condT rfl ?_|refine aw_condF rfl ?_|refine aw_block ?_|refine aw_exit ?_|refine aw_ret ?_|refine aw_skip ?_|rw[aqk]|rw[mn_norm]|rw[mx_norm]
 exact hq.out):p:=h ⟨k⟩
theorem gs0_ {p q:Prop}(k:q)(h:Bx q->p:=by
 intro hq
 first|refine p_ rfl rfl rfl rfl rfl ?_|refine st_nil ?_|refine x_ rfl rfl rfl rfl rfl rfl rfl rfl ?_|refine l_ rfl rfl rfl rfl ?_|refine s_ rfl rfl rfl ?_|refine t_ rfl rfl rfl rfl ?_|refine k_ rfl rfl rfl ?_|refine k0_ rfl rfl ?_|refine c_ rfl rfl rfl rfl ?_|refine pick_t rfl rfl rfl rfl rfl rfl rfl ?_|refine pick_f rfl rfl rfl rfl rfl rfl rfl ?_|refine aw_seq ?_|refine aw_condT rfl ?_|refine aw_condF rfl ?_|refine aw_block ?_|refine aw_exit ?_|refine aw_ret ?_|refine aw_skip ?_|rw[aqk]|rw[mn_norm]|rw[mx_norm]
 exact hq.out):p:=h ⟨k⟩
theorem aY {p q:Prop}(k:q)(h:Bx q->p:=by
 intro hq
 repeat' (first
  |refine gs_ ?_)
 exact hq.out):p:=h ⟨k⟩
theorem aj {β:Type}{c:Bool}{x y:Option β}{r:β}(H:(bif c then x else y)=some r):(c=true/\x=some r)\/(c=false/\y=some r):=by
 cases c with
 |true=>exact .inl ⟨rfl,H⟩
 |false=>exact .inr ⟨rfl,H⟩
theorem aK {p:Prop}[Decidable p]{β:Type}{x:Option β}{r:β}(H:(bif decide p then x else none)=some r):p/\x=some r:=by
 obtain⟨h,k⟩:=gK H;exact⟨aqC h,k⟩
theorem bw {α β:Type}{l:List α}{f:α->List AC}{i:Int}{k:α->Option β}{r:β}(H:(aF l i).bind k=some r):∃ x,0<=i/\l[i.toNat]?=some x/\(l.map f)[i.toNat]?=some (f x)/\k x=some r:=by
 obtain⟨x,h,K⟩:=bd_ H;obtain⟨h0,h1⟩:=iZ h;exact⟨x,h0,h1,ak9 h1,K⟩
theorem lt_ {a b:Nat}(h:Nat.blt a b=true:=by rfl):a<b:=aqi h
theorem bF {p:Prop}(h:p:=by repeat' (first|refine⟨?_,?_⟩|exact t7|rfl)):p:=h
theorem qI {p:Prop}(h:p:=by repeat' (first|refine⟨?_,?_⟩|exact t7|rfl|(simp only[aql,aqj,aqn,aqd]<;>rfl))):p:=h
theorem bn {p:Prop}(h:p:=by repeat' (first|refine⟨?_,?_⟩|exact t7|exact lt_|omega)):p:=h
theorem cm {p:Prop}(h:p:=by repeat' (first|refine⟨?_,?_⟩|exact t7|exact gH r5|exact clo_below (aqi rfl))):p:=h
theorem oO {p:Prop}(h:p:=by simp only[aqg,aqv,aqE,aqR,aql,aqj,aqn]<;>rfl):p:=h
class EncC (α:Type) (f:outParam (α->List AC)):Prop where
 ok:True
class OkC (p:Prop) (q:outParam Prop):Prop where
 ok:p->q
instance {p q : Prop} : CoeFun (OkC p q) (fun _ => p -> q) := ⟨fun h => h.ok⟩
instance : EncC Int (fun x => [AC.int .i64 x]) := ⟨t7⟩
instance {α : Type} {f : α -> List AC} [EncC α f] : EncC (List α) (fun x => [AC.lst (x.map f)]) := ⟨t7⟩
instance : EncC Val cV := ⟨t7⟩
instance : EncC ax aN := ⟨t7⟩
instance : EncC ap aG := ⟨t7⟩
instance : EncC Ex tE := ⟨t7⟩
instance : EncC cz g9 := ⟨t7⟩
instance : EncC Stp kJ := ⟨t7⟩
instance : EncC yD Fh := ⟨t7⟩
instance : EncC ac af := ⟨t7⟩
instance : EncC Fb zY := ⟨t7⟩
theorem aa6 {α β:Type}{l:List α}{f:α->List AC}[EncC α f]{i:Int}{k:α->Option β}{r:β}(H:(aF l i).bind k=some r):∃ x,0<=i/\l[i.toNat]?=some x/\(l.map f)[i.toNat]?=some (f x)/\k x=some r:=bw H
theorem ay {α:Type}{x:Option α}{r:α}{p:Prop}(H:x=some r)(h:x=some r->p:=by
 intro H
 try dsimp only at H ⊢
 repeat' (first
  |(obtain⟨_,_,_,i,H⟩:=aa6 H;try simp only[aql,aqj,aqn,aqd,aC]at i)
  |(obtain⟨_,c,H⟩:=bd_ H;replace c:=OkC.ok c;try simp only[aql,aqj,aqn,aqd,aC]at c)
  |(obtain⟨_,H⟩:=aK H)
  |(rcases aj H with⟨_,H⟩|⟨_,H⟩))
 all_goals cases H
 all_goals (first|exact Fa|(refine aY ?_;exact⟨_,rfl,fm_ qI [] oO bn cm⟩))):p:=h H
theorem ahl {α:Type}{x:Option α}{r:α}{p:Prop}(H:x=some r)(h:x=some r->p:=by
 intro H
 try dsimp only at H ⊢
 repeat' (first
  |(obtain⟨_,_,_,i,H⟩:=aa6 H;try simp only[aql,aqj,aqn,aqd,aC]at i)
  |(obtain⟨_,c,H⟩:=bd_ H;replace c:=OkC.ok c;try simp only[aql,aqj,aqn,aqd,aC]at c)
  |(obtain⟨_,H⟩:=aK H)
  |(rcases aj H with⟨_,H⟩|⟨_,H⟩))
 all_goals cases H
 all_goals (refine aY ?_;exact⟨_,rfl,fm_ qI [] oO bn cm⟩)):p:=h H
theorem br {α:Type}{x:Option α}{r:α}{p:Prop}{A0:Prop}(H:x=some r)(k0:A0)(h:x=some r->A0->p:=by
 intro H k0
 try dsimp only at H ⊢
 repeat' (first
  |(obtain⟨_,_,_,i,H⟩:=aa6 H;try simp only[aql,aqj,aqn,aqd,aC]at i)
  |(obtain⟨_,c,H⟩:=bd_ H;replace c:=OkC.ok c;try simp only[aql,aqj,aqn,aqd,aC]at c)
  |(obtain⟨_,H⟩:=aK H)
  |(rcases aj H with⟨_,H⟩|⟨_,H⟩))
 all_goals cases H
 all_goals first
  |(have H:_=some _:=k0
    try dsimp only at H
    repeat' (first
     |(obtain⟨_,_,_,i,H⟩:=aa6 H;try simp only[aql,aqj,aqn,aqd,aC]at i)
     |(obtain⟨_,c,H⟩:=bd_ H;replace c:=OkC.ok c;try simp only[aql,aqj,aqn,aqd,aC]at c)
     |(obtain⟨_,H⟩:=aK H)
     |(rcases aj H with⟨_,H⟩|⟨_,H⟩))
    all_goals cases H
    all_goals (first|exact Fa|(refine aY ?_;exact⟨_,rfl,fm_ qI [] oO bn cm⟩)))
  |(refine aY ?_;exact⟨_,rfl,fm_ qI [] oO bn cm⟩)):p:=h H k0
theorem po_ {P : Program} {ti : TI} {N : Nat} {f : FuncId} {fn : Func} {c : Code} {args : List PV} {r : CV} (hf : P.funcs[f]? = some fn) (hN : fn.ntmps = N) {T : Tm} (h : Aw P N 0 c (fun x T L => (x = .normal \/ x = .ret) /\ Res ti fn.results.toList T L r) T []) (O6 : TIok P ti := by exact tab_ok) (hb : fn.body = some c := by rfl) (PW : (fn.name == "runtime.NumGoroutine") = false := by rfl) (hlen : args.length <= N := by simp) (hT : argT 0 args = T := by simp only [argT, PV.av, aqj, aqn] <;> rfl) : Pure P f args r := pa_ O6 hf hb PW hN hlen (hT ▸ h)
theorem qp_ {p:Prop}(h:p:=by repeat' (first|exact t7|rfl|exact aqi rfl|omega|decide|exact aqk .. |(simp only[aqv,aqE];omega)|exact wideI (by intro _;rfl) _|(intro e he;simp at he;subst he;rfl)|(intro e he;obtain⟨q,_,rfl⟩:=aqJ.1 he;rfl)|(simp only[aqk];omega)|(simp only[aqk,aqg,aqv,aqE];omega)|(intro e he;simp at he;rcases he with rfl|rfl<;>rfl)|refine aq3.2 ⟨?_,?_⟩|exact fun _ h=>nomatch h|(intro e he;obtain⟨q,_,rfl⟩:=aqJ.1 (aq6 he);rfl)|(simp only[aqk,aq0];omega)|(simp only[aqk,aqg,aq0,aqv,aqE];omega)|(simp only[aqv,aqE,aqR];decide)|(show _<_+1;omega)|apply And.intro)):p:=h
theorem gw_ {A B p q:Prop}(a:A)(b:B)(k:q)(h:Bx q->A->B->p:=by
 intro hq ha hb0
 first|refine st_nil ?_|refine st_pop rfl rfl rfl rfl qp_ ?_|refine st_lop rfl rfl rfl rfl qp_ ?_|refine sS_ rfl rfl rfl qp_ ?_|refine st_lit rfl rfl rfl rfl qp_ ?_|refine st_skip rfl rfl rfl ?_|refine sk0_ rfl rfl ?_|(refine st_if rfl (fun hb=>?_) (fun hb=>?_)<;>(first|exact(fx_ hb).elim|rw[hb]))|refine aw_seq ?_|refine aw_region ha _ rfl ?_|refine aw_drawn2 hb0 _ rfl mixed (by decide +kernel) ?_|(refine aw_cond rfl (fun hb=>?_) (fun hb=>?_)<;>(try exact(fx_ hb).elim))|refine aw_block ?_|refine aw_exit ?_|refine aw_ret ?_|refine aw_skip ?_
 exact hq.out):p:=h ⟨k⟩ a b
theorem gi_ {p q1 q2 c1 c2:Prop}(k1:c1->q1)(k2:c2->q2)(h:Bx (c1->q1)->Bx (c2->q2)->p:=by
 intro h1 h2
 first|(refine st_if rfl (fun hb=>?_) (fun hb=>?_);· (rw[hb];exact h1.out hb);· (rw[hb];exact h2.out hb))|exact aw_cond rfl h1.out h2.out):p:=h ⟨k1⟩ ⟨k2⟩
open Go.RowKit Go.MapKept
def cn {α σ ρ:Type}(f:σ->α->Option (Sum σ ρ)):σ->List α->Option (Sum σ ρ)
 |s,[]=>some (.inl s)
 |s,x::l=>match f s x with
  |none=>none
  |some (.inl s')=>cn f s' l
  |some (.inr r)=>some (.inr r)
section
variable {α σ ρ S:Type} {l:List α} {body:S->Option (Step S ρ)}
def A_ (mk:σ->Int->S)(n:Nat):Option (Sum σ ρ)->Option (Sum S ρ)
 |none=>none
 |some (.inl s')=>some (.inl (mk s' n))
 |some (.inr r)=>some (.inr r)
def nT (mk:σ->Int->S)(i:Nat):Option (Sum σ ρ)->Option (Step S ρ)
 |none=>none
 |some (.inl s')=>some (.next (mk s' (i:Nat)))
 |some (.inr r)=>some (.ret r)
theorem JH (mk:σ->Int->S)(f:σ->α->Option (Sum σ ρ))(h1:∀ (s:σ) (i:Nat) x,l[i]?=some x->body (mk s i)=nT mk (i+1) (f s x))(h2:∀ s,body (mk s l.length)=some (.exit (mk s l.length))) :
  ∀ (n i:Nat) (s:σ),i<=l.length->l.length-i<n->ao body n (mk s i)=A_ mk l.length (cn f s (l.drop i))
 |0,i,s,_,h=>by omega
 |n+1,i,s,hi,hn=>by
  rw[ao];by_cases O0:i<l.length
  ·obtain⟨x,hx⟩:=gol_ O0
   have e1:=(ap_.1 hx).2;rw[h1 s i x hx,aqF O0,e1,cn]
   cases hf:f s x with
   |none=>rfl
   |some st=>cases st with
    |inl s'=>exact JH mk f h1 h2 n (i+1) s' m0 m0
    |inr r=>rfl
  ·have:i=l.length:=m0
   subst this;rw[h2,aq4];rfl
theorem bX (mk:σ->Int->S)(f:σ->α->Option (Sum σ ρ))(h1:∀ (s:σ) (i:Nat) x,l[i]?=some x->body (mk s i)=nT mk (i+1) (f s x))(h2:∀ s,body (mk s l.length)=some (.exit (mk s l.length)))(hl:l.length<fuel)(s:σ) :
  ao body fuel (mk s 0)=A_ mk l.length (cn f s l):=JH mk f h1 h2 fuel 0 s (aqu _) m0
end
theorem gn_ {α:Type}{l:List α}{i:Nat}{x:α}(h:l[i]?=some x):aF l (i:Int)=some x:=by
 unfold aF;rw[if_pos m0];exact h
theorem aO {α:Type}{l:List α}{i:Nat}{x:α}(h:l[i]?=some x):decide ((i:Int)<(l.length:Nat))=true:=by
 have:=(ap_.1 h).1;simp;exact this
theorem lF_ (n:Nat):decide ((n:Int)<(n:Nat))=false:=by simp
theorem wrapN {i:Nat}(h:i<=4611686018427387904):IntKind.i64.wrap ((i:Int)+1)=((i+1:Nat):Int):=a7 m0 m0
abbrev PTz:=Pure Tryz.prog
abbrev RTz:=Run Tryz.prog
theorem sl9:(∀(h:Decidable False),@decide False h=false)/\(∀(h:Decidable True),@decide True h=true)/\(∀{α:Type}(a b:α),(bif true then a else b)=a)/\(∀{α:Type}(a b:α),(bif false then a else b)=b):=⟨fun h=>decide_false h,fun h=>decide_true h,fun _ _=>rfl,fun _ _=>rfl⟩
