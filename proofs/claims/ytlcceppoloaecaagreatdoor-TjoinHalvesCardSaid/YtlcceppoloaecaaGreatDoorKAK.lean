/- Parts. No condition. -/
import Derived.Test.YtlcceppoloaecaaGreatDoorKAJ
set_option maxHeartbeats 8000000
set_option maxRecDepth 100000
set_option linter.unusedSimpArgs false
set_option linter.unusedVariables false
namespace Go.Proofs.YtlcceppoloaecaaGreatDoor
open Go.RowKit Go.MapKept
def qo (O1:Int)(PQ:Int):Option (Bool×Bool):=bif (decide (O1=(1:Int)))then some ((decide (PQ=(0:Int))),true)else
 bif (decide (O1=(2:Int)))then some ((decide (PQ=(0:Int))),true)else
 bif (decide (O1=(4:Int)))then some ((decide (PQ=(1:Int))),true)else
 bif (decide (O1=(18:Int)))then some ((decide (PQ=(1:Int))),true)else
 bif (decide (O1=(20:Int)))then some ((decide (PQ=(1:Int))),true)else
 bif (decide (O1=(21:Int)))then some ((decide (PQ=(1:Int))),true)else
 bif (decide (O1=(7:Int)))then some ((decide (PQ=(2:Int))),true)else
 bif (decide (O1=(8:Int)))then some ((decide (PQ=(2:Int))),true)else
 bif (decide (O1=(9:Int)))then some ((decide (PQ=(2:Int))),true)else
 bif (decide (O1=(10:Int)))then some ((decide (PQ=(2:Int))),true)else
 bif (decide (O1=(11:Int)))then some ((decide (PQ=(2:Int))),true)else
 bif (decide (O1=(12:Int)))then some ((decide (PQ=(2:Int))),true)else
 bif (decide (O1=(13:Int)))then some ((decide (PQ=(2:Int))),true)else
 bif (decide (O1=(14:Int)))then some ((decide (PQ=(2:Int))),true)else
 bif (decide (O1=(15:Int)))then some ((decide (PQ=(2:Int))),true)else
 bif (decide (O1=(16:Int)))then some ((decide (PQ=(2:Int))),true)else
 bif (decide (O1=(17:Int)))then some ((decide (PQ=(2:Int))),true)else
 bif (decide (O1=(19:Int)))then some ((decide (PQ=(2:Int))),true)else
 bif (decide (O1=(5:Int)))then some ((decide ((2:Int)<=PQ)),true)else
 bif (decide (O1=(6:Int)))then some ((decide ((2:Int)<=PQ)),true)else
 bif (decide (O1=(22:Int)))then some ((decide (PQ=(3:Int))),true)else
 bif (decide (O1=(23:Int)))then some ((decide ((1:Int)<=PQ)),true)else
 bif (decide (O1=(24:Int)))then some ((decide (PQ=(4:Int))),true)else
 some (false,false)
instance gCounts_ok {O1 : Int} {PQ : Int} {r : Bool × Bool} : OkC (qo O1 PQ = some r) (PTz 176 [.one (.int .i64 O1), .one (.int .i64 PQ)] (.tup [.one (.bool r.1), .one (.bool r.2)])) := .mk fun H => by
 unfold qo at H;refine po_ Tryz.func176 Tryz.ntmps176 ?_;rcases aj H with⟨Qv,H⟩|⟨Qv,H⟩
 ·exact ay H
 rcases aj H with⟨Qq,H⟩|⟨Qq,H⟩
 ·exact ay H
 refine aY ?_;rcases aj H with⟨Qf,H⟩|⟨Qf,H⟩
 ·exact ay H
 rcases aj H with⟨P9,H⟩|⟨P9,H⟩
 ·exact ay H
 rcases aj H with⟨Q6,H⟩|⟨Q6,H⟩
 ·exact ay H
 refine aY ?_;rcases aj H with⟨QT,H⟩|⟨QT,H⟩
 ·exact ay H
 rcases aj H with⟨SH,H⟩|⟨SH,H⟩
 ·exact ay H
 rcases aj H with⟨RX,H⟩|⟨RX,H⟩
 ·exact ay H
 refine aY ?_;rcases aj H with⟨S_,H⟩|⟨S_,H⟩
 ·exact ay H
 rcases aj H with⟨P_,H⟩|⟨P_,H⟩
 ·exact ay H
 rcases aj H with⟨Ta,H⟩|⟨Ta,H⟩
 ·exact ay H
 refine aY ?_;rcases aj H with⟨RD,H⟩|⟨RD,H⟩
 ·exact ay H
 rcases aj H with⟨Si,H⟩|⟨Si,H⟩
 ·exact ay H
 rcases aj H with⟨Qk,H⟩|⟨Qk,H⟩
 ·exact ay H
 refine aY ?_;rcases aj H with⟨Q7,H⟩|⟨Q7,H⟩
 ·exact ay H
 rcases aj H with⟨Uc,H⟩|⟨Uc,H⟩
 ·exact ay H
 rcases aj H with⟨Td,H⟩|⟨Td,H⟩
 ·exact ay H
 refine aY ?_;rcases aj H with⟨QU,H⟩|⟨QU,H⟩
 ·exact ay H
 rcases aj H with⟨Vy,H⟩|⟨Vy,H⟩
 ·exact ay H
 rcases aj H with⟨Tf,H⟩|⟨Tf,H⟩
 ·exact ay H
 refine aY ?_;exact ay H
def mP (OX:Ex):Option (Bool):=(qo OX.op ((OX.args.length:Nat):Int)).bind fun O7=>bif (!O7.1)then some false else
 bif (!(OX.nm.toList==(⟨#[]⟩:ByteArray).toList))then some false else
 bif (decide (OX.op=(1:Int)))then bif (decide (OX.int=(0:Int)))then(pV OX.v).bind fun Qc=>some Qc else
 some false else
 bif (decide (OX.op=(24:Int)))then bif (decide (OX.int<(0:Int)))then some false else
 bif (decide ((13:Int)<=OX.int))then some false else
 some (cg [.c (.int .i64 OX.v.kind),.c (.int .i64 OX.v.int),.c (.str OX.v.text)] [.c (.int .i64 (0:Int)),.c (.int .i64 (0:Int)),.c (.str ByteArray.empty)])else
 bif (decide (OX.op=(2:Int)))then some (cg [.c (.int .i64 OX.v.kind),.c (.int .i64 OX.v.int),.c (.str OX.v.text)] [.c (.int .i64 (0:Int)),.c (.int .i64 (0:Int)),.c (.str ByteArray.empty)])else
 bif (decide (OX.int=(0:Int)))then some (cg [.c (.int .i64 OX.v.kind),.c (.int .i64 OX.v.int),.c (.str OX.v.text)] [.c (.int .i64 (0:Int)),.c (.int .i64 (0:Int)),.c (.str ByteArray.empty)])else
 some false
instance gFormed_ok {OX : Ex} {r : Bool} : OkC (mP OX = some r) (PTz 110 [.agg (tE OX)] (.val (.one (.bool r)))) := .mk fun H => by
 unfold mP at H;rw[aC OX];refine po_ Tryz.func110 Tryz.ntmps110 ?_;obtain⟨O7,c1,H⟩:=bd_ H;replace c1:=gCounts_ok c1;rcases aj H with⟨Qq,H⟩|⟨Qq,H⟩
 ·exact ay H
 rcases aj H with⟨Qf,H⟩|⟨Qf,H⟩
 ·exact ay H
 refine aY ?_;rcases aj H with⟨P9,H⟩|⟨P9,H⟩
 ·exact ay H
 rcases aj H with⟨SH,H⟩|⟨SH,H⟩
 ·rcases aj H with⟨RX,H⟩|⟨RX,H⟩
  ·exact ay H
  refine aY ?_;exact ay H
 rcases aj H with⟨P_,H⟩|⟨P_,H⟩
 ·exact ay H
 refine aY ?_;exact ay H
