/- Parts. No condition. -/
import Derived.Test.YtnbnpnmkgemdeaaGreatDoorKAH
set_option maxHeartbeats 8000000
set_option maxRecDepth 100000
set_option linter.unusedSimpArgs false
set_option linter.unusedVariables false
namespace Go.Proofs.YtnbnpnmkgemdeaaGreatDoor
open Go.RowKit Go.MapKept Tryz
def nO (O_:Int)(QC:Int):Option (Bool×Bool):=bif O_=(1:Int)then some ((decide (QC=(0:Int))),true)else
 bif O_=(2:Int)then some ((decide (QC=(0:Int))),true)else
 bif O_=(4:Int)then some ((decide (QC=(1:Int))),true)else
 bif O_=(18:Int)then some ((decide (QC=(1:Int))),true)else
 bif O_=(20:Int)then some ((decide (QC=(1:Int))),true)else
 bif O_=(21:Int)then some ((decide (QC=(1:Int))),true)else
 bif O_=(7:Int)then some ((decide (QC=(2:Int))),true)else
 bif O_=(8:Int)then some ((decide (QC=(2:Int))),true)else
 bif O_=(9:Int)then some ((decide (QC=(2:Int))),true)else
 bif O_=(10:Int)then some ((decide (QC=(2:Int))),true)else
 bif O_=(11:Int)then some ((decide (QC=(2:Int))),true)else
 bif O_=(12:Int)then some ((decide (QC=(2:Int))),true)else
 bif O_=(13:Int)then some ((decide (QC=(2:Int))),true)else
 bif O_=(14:Int)then some ((decide (QC=(2:Int))),true)else
 bif O_=(15:Int)then some ((decide (QC=(2:Int))),true)else
 bif O_=(16:Int)then some ((decide (QC=(2:Int))),true)else
 bif O_=(17:Int)then some ((decide (QC=(2:Int))),true)else
 bif O_=(19:Int)then some ((decide (QC=(2:Int))),true)else
 bif O_=(5:Int)then some ((decide ((2:Int)<=QC)),true)else
 bif O_=(6:Int)then some ((decide ((2:Int)<=QC)),true)else
 bif O_=(22:Int)then some ((decide (QC=(3:Int))),true)else
 bif O_=(23:Int)then some ((decide ((1:Int)<=QC)),true)else
 bif O_=(24:Int)then some ((decide (QC=(4:Int))),true)else
 some (false,false)
theorem yz {O_:Int}{QC:Int}{r:Bool×Bool}(H:nO O_ QC=some r):PTz 249 [.one (.int .i64 O_),.one (.int .i64 QC)] (.tup [.one (.bool r.1),.one (.bool r.2)]):=by
 unfold nO at H;refine po_ func249 ntmps249 ?_;obtain⟨PT,H⟩|⟨PT,H⟩:=ae H
 .cases H
  exact ao
 obtain⟨PP,H⟩|⟨PP,H⟩:=ae H
 .cases H
  exact ao
 refine aS ?_;obtain⟨PG,H⟩|⟨PG,H⟩:=ae H
 .cases H
  exact ao
 obtain⟨P1,H⟩|⟨P1,H⟩:=ae H
 .cases H
  exact ao
 obtain⟨Qu,H⟩|⟨Qu,H⟩:=ae H
 .cases H
  exact ao
 refine aS ?_;obtain⟨Qb,H⟩|⟨Qb,H⟩:=ae H
 .cases H
  exact ao
 obtain⟨QX,H⟩|⟨QX,H⟩:=ae H
 .cases H
  exact ao
 obtain⟨Qw,H⟩|⟨Qw,H⟩:=ae H
 .cases H
  exact ao
 refine aS ?_;obtain⟨Q5,H⟩|⟨Q5,H⟩:=ae H
 .cases H
  exact ao
 obtain⟨P6,H⟩|⟨P6,H⟩:=ae H
 .cases H
  exact ao
 obtain⟨Qo,H⟩|⟨Qo,H⟩:=ae H
 .cases H
  exact ao
 refine aS ?_;obtain⟨Qj,H⟩|⟨Qj,H⟩:=ae H
 .cases H
  exact ao
 obtain⟨P2,H⟩|⟨P2,H⟩:=ae H
 .cases H
  exact ao
 obtain⟨P9,H⟩|⟨P9,H⟩:=ae H
 .cases H
  exact ao
 refine aS ?_;obtain⟨QJ,H⟩|⟨QJ,H⟩:=ae H
 .cases H
  exact ao
 obtain⟨Rq,H⟩|⟨Rq,H⟩:=ae H
 .cases H
  exact ao
 obtain⟨RI,H⟩|⟨RI,H⟩:=ae H
 .cases H
  exact ao
 refine aS ?_;obtain⟨QT,H⟩|⟨QT,H⟩:=ae H
 .cases H
  exact ao
 obtain⟨R8,H⟩|⟨R8,H⟩:=ae H
 .cases H
  exact ao
 obtain⟨RJ,H⟩|⟨RJ,H⟩:=ae H
 .cases H
  exact ao
 refine aS ?_;obtain⟨RB,H⟩|⟨RB,H⟩:=ae H
 .cases H
  exact ao
 obtain⟨SS,H⟩|⟨SS,H⟩:=ae H
 .cases H
  exact ao
 obtain⟨SB,H⟩|⟨SB,H⟩:=ae H
 .cases H
  exact ao
 cases H;exact ao
def lC (O6:Ex):Option (Bool):=(nO O6.op (O6.args.length:Int)).bind λPh=>bif (!Ph.1)then some false else
 bif (!(O6.nm.toList==(⟨#[]⟩:ByteArray).toList))then some false else
 bif O6.op=(1:Int)then bif O6.int=(0:Int)then(jN O6.v).bind λQW=>some QW else
 some false else
 bif O6.op=(24:Int)then bif O6.int<(0:Int)then some false else
 bif (13:Int)<=O6.int then some false else
 some (cF [.c (.int .i64 O6.v.kind),.c (.int .i64 O6.v.int),.c (.str O6.v.text)] [.c (.int .i64 (0:Int)),.c (.int .i64 (0:Int)),.c (.str ByteArray.empty)])else
 bif O6.op=(2:Int)then some (cF [.c (.int .i64 O6.v.kind),.c (.int .i64 O6.v.int),.c (.str O6.v.text)] [.c (.int .i64 (0:Int)),.c (.int .i64 (0:Int)),.c (.str ByteArray.empty)])else
 bif O6.int=(0:Int)then some (cF [.c (.int .i64 O6.v.kind),.c (.int .i64 O6.v.int),.c (.str O6.v.text)] [.c (.int .i64 (0:Int)),.c (.int .i64 (0:Int)),.c (.str ByteArray.empty)])else
 some false
theorem Ar {O6:Ex}{r:Bool}(H:lC O6=some r):PTz 207 [.agg (tE O6)] (.val (.one (.bool r))):=by
 unfold lC at H;rw[ay O6];refine po_ func207 ntmps207 ?_;obtain⟨Ph,c1,H⟩:=bd_ H;replace c1:=yz c1;obtain⟨PP,H⟩|⟨PP,H⟩:=ae H
 .cases H
  exact ao
 obtain⟨PG,H⟩|⟨PG,H⟩:=ae H
 .cases H
  exact ao
 refine aS ?_;obtain⟨P1,H⟩|⟨P1,H⟩:=ae H
 .obtain⟨Qu,H⟩|⟨Qu,H⟩:=ae H
  .obtain⟨QW,c2,H⟩:=bd_ H
   replace c2:=n_ c2
   cases H;exact ao
  cases H;exact ao
 obtain⟨QX,H⟩|⟨QX,H⟩:=ae H
 .obtain⟨Qw,H⟩|⟨Qw,H⟩:=ae H
  .cases H
   exact ao
  refine aS ?_;obtain⟨Q5,H⟩|⟨Q5,H⟩:=ae H
  .cases H
   exact ao
  cases H;exact ao
 obtain⟨P6,H⟩|⟨P6,H⟩:=ae H
 .cases H
  exact ao
 refine aS ?_;obtain⟨Qo,H⟩|⟨Qo,H⟩:=ae H
 .cases H
  exact ao
 cases H;exact ao
