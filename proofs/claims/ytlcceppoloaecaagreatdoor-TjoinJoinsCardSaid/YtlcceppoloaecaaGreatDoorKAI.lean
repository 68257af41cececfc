/- Parts. No condition. -/
import Derived.Test.YtlcceppoloaecaaGreatDoorKAH
set_option maxHeartbeats 8000000
set_option maxRecDepth 100000
set_option linter.unusedSimpArgs false
set_option linter.unusedVariables false
namespace Go.Proofs.YtlcceppoloaecaaGreatDoor
open Go.RowKit Go.MapKept
def pc (O5:Int)(PI:Int):Option (Bool×Bool):=bif O5=(1:Int)then some ((decide (PI=(0:Int))),true)else
 bif O5=(2:Int)then some ((decide (PI=(0:Int))),true)else
 bif O5=(4:Int)then some ((decide (PI=(1:Int))),true)else
 bif O5=(18:Int)then some ((decide (PI=(1:Int))),true)else
 bif O5=(20:Int)then some ((decide (PI=(1:Int))),true)else
 bif O5=(21:Int)then some ((decide (PI=(1:Int))),true)else
 bif O5=(7:Int)then some ((decide (PI=(2:Int))),true)else
 bif O5=(8:Int)then some ((decide (PI=(2:Int))),true)else
 bif O5=(9:Int)then some ((decide (PI=(2:Int))),true)else
 bif O5=(10:Int)then some ((decide (PI=(2:Int))),true)else
 bif O5=(11:Int)then some ((decide (PI=(2:Int))),true)else
 bif O5=(12:Int)then some ((decide (PI=(2:Int))),true)else
 bif O5=(13:Int)then some ((decide (PI=(2:Int))),true)else
 bif O5=(14:Int)then some ((decide (PI=(2:Int))),true)else
 bif O5=(15:Int)then some ((decide (PI=(2:Int))),true)else
 bif O5=(16:Int)then some ((decide (PI=(2:Int))),true)else
 bif O5=(17:Int)then some ((decide (PI=(2:Int))),true)else
 bif O5=(19:Int)then some ((decide (PI=(2:Int))),true)else
 bif O5=(5:Int)then some ((decide ((2:Int)<=PI)),true)else
 bif O5=(6:Int)then some ((decide ((2:Int)<=PI)),true)else
 bif O5=(22:Int)then some ((decide (PI=(3:Int))),true)else
 bif O5=(23:Int)then some ((decide ((1:Int)<=PI)),true)else
 bif O5=(24:Int)then some ((decide (PI=(4:Int))),true)else
 some (false,false)
instance gCounts_ok {O5 : Int} {PI : Int} {r : Bool × Bool} : OkC (pc O5 PI = some r) (PTz 176 [.one (.int .i64 O5), .one (.int .i64 PI)] (.tup [.one (.bool r.1), .one (.bool r.2)])) := .mk λH => by
 unfold pc at H;refine po_ Tryz.func176 Tryz.ntmps176 ?_;obtain⟨QM,H⟩|⟨QM,H⟩:=aj H
 ·exact ay H
 obtain⟨Qr,H⟩|⟨Qr,H⟩:=aj H
 ·exact ay H
 refine a6 ?_;obtain⟨P9,H⟩|⟨P9,H⟩:=aj H
 ·exact ay H
 obtain⟨Qf,H⟩|⟨Qf,H⟩:=aj H
 ·exact ay H
 obtain⟨Q6,H⟩|⟨Q6,H⟩:=aj H
 ·exact ay H
 refine a6 ?_;obtain⟨QG,H⟩|⟨QG,H⟩:=aj H
 ·exact ay H
 obtain⟨R_,H⟩|⟨R_,H⟩:=aj H
 ·exact ay H
 obtain⟨Si,H⟩|⟨Si,H⟩:=aj H
 ·exact ay H
 refine a6 ?_;obtain⟨S8,H⟩|⟨S8,H⟩:=aj H
 ·exact ay H
 obtain⟨Qn,H⟩|⟨Qn,H⟩:=aj H
 ·exact ay H
 obtain⟨QN,H⟩|⟨QN,H⟩:=aj H
 ·exact ay H
 refine a6 ?_;obtain⟨Rj,H⟩|⟨Rj,H⟩:=aj H
 ·exact ay H
 obtain⟨Q1,H⟩|⟨Q1,H⟩:=aj H
 ·exact ay H
 obtain⟨QA,H⟩|⟨QA,H⟩:=aj H
 ·exact ay H
 refine a6 ?_;obtain⟨Rk,H⟩|⟨Rk,H⟩:=aj H
 ·exact ay H
 obtain⟨TO,H⟩|⟨TO,H⟩:=aj H
 ·exact ay H
 obtain⟨SS,H⟩|⟨SS,H⟩:=aj H
 ·exact ay H
 refine a6 ?_;obtain⟨Rl,H⟩|⟨Rl,H⟩:=aj H
 ·exact ay H
 obtain⟨TP,H⟩|⟨TP,H⟩:=aj H
 ·exact ay H
 obtain⟨SU,H⟩|⟨SU,H⟩:=aj H
 ·exact ay H
 refine a6 ?_;exact ay H
def mG (OW:Ex):Option (Bool):=(pc OW.op (OW.args.length:Int)).bind λO7=>bif (!O7.1)then some false else
 bif (!(OW.nm.toList==(⟨#[]⟩:ByteArray).toList))then some false else
 bif OW.op=(1:Int)then bif OW.int=(0:Int)then(pF OW.v).bind λP1=>some P1 else
 some false else
 bif OW.op=(24:Int)then bif OW.int<(0:Int)then some false else
 bif (13:Int)<=OW.int then some false else
 some (cl [.c (.int .i64 OW.v.kind),.c (.int .i64 OW.v.int),.c (.str OW.v.text)] [.c (.int .i64 (0:Int)),.c (.int .i64 (0:Int)),.c (.str ByteArray.empty)])else
 bif OW.op=(2:Int)then some (cl [.c (.int .i64 OW.v.kind),.c (.int .i64 OW.v.int),.c (.str OW.v.text)] [.c (.int .i64 (0:Int)),.c (.int .i64 (0:Int)),.c (.str ByteArray.empty)])else
 bif OW.int=(0:Int)then some (cl [.c (.int .i64 OW.v.kind),.c (.int .i64 OW.v.int),.c (.str OW.v.text)] [.c (.int .i64 (0:Int)),.c (.int .i64 (0:Int)),.c (.str ByteArray.empty)])else
 some false
instance gFormed_ok {OW : Ex} {r : Bool} : OkC (mG OW = some r) (PTz 110 [.agg (tE OW)] (.val (.one (.bool r)))) := .mk λH => by
 unfold mG at H;rw[aC OW];refine po_ Tryz.func110 Tryz.ntmps110 ?_;obtain⟨O7,c1,H⟩:=bd_ H;replace c1:=gCounts_ok c1;obtain⟨Qr,H⟩|⟨Qr,H⟩:=aj H
 ·exact ay H
 obtain⟨P9,H⟩|⟨P9,H⟩:=aj H
 ·exact ay H
 refine a6 ?_;obtain⟨Qf,H⟩|⟨Qf,H⟩:=aj H
 ·exact ay H
 obtain⟨R_,H⟩|⟨R_,H⟩:=aj H
 ·obtain⟨Si,H⟩|⟨Si,H⟩:=aj H
  ·exact ay H
  refine a6 ?_;exact ay H
 obtain⟨Qn,H⟩|⟨Qn,H⟩:=aj H
 ·exact ay H
 refine a6 ?_;exact ay H
