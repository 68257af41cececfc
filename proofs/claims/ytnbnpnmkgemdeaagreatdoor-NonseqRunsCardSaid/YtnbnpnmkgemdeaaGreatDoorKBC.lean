/- Parts. No condition. -/
import Derived.Test.YtnbnpnmkgemdeaaGreatDoorKBA
set_option maxHeartbeats 8000000
set_option maxRecDepth 100000
set_option linter.unusedSimpArgs false
set_option linter.unusedVariables false
namespace Go.Proofs.YtnbnpnmkgemdeaaGreatDoor
open Go.RowKit Go.MapKept Tryz
def qN (O_:Int):Option (Int×Int):=bif O_=(1:Int)then some ((0:Int),(0:Int))else
 bif O_=(2:Int)then some ((0:Int),(0:Int))else
 bif O_=(4:Int)then some ((1:Int),(1:Int))else
 bif O_=(18:Int)then some ((1:Int),(1:Int))else
 bif O_=(20:Int)then some ((1:Int),(1:Int))else
 bif O_=(21:Int)then some ((1:Int),(1:Int))else
 bif O_=(5:Int)then some ((2:Int),(1099511627776:Int))else
 bif O_=(6:Int)then some ((2:Int),(1099511627776:Int))else
 bif O_=(7:Int)then some ((2:Int),(2:Int))else
 bif O_=(8:Int)then some ((2:Int),(2:Int))else
 bif O_=(9:Int)then some ((2:Int),(2:Int))else
 bif O_=(10:Int)then some ((2:Int),(2:Int))else
 bif O_=(11:Int)then some ((2:Int),(2:Int))else
 bif O_=(12:Int)then some ((2:Int),(2:Int))else
 bif O_=(13:Int)then some ((2:Int),(2:Int))else
 bif O_=(14:Int)then some ((2:Int),(2:Int))else
 bif O_=(15:Int)then some ((2:Int),(2:Int))else
 bif O_=(16:Int)then some ((2:Int),(2:Int))else
 bif O_=(17:Int)then some ((2:Int),(2:Int))else
 bif O_=(19:Int)then some ((2:Int),(2:Int))else
 bif O_=(22:Int)then some ((3:Int),(3:Int))else
 bif O_=(23:Int)then some ((1:Int),(1099511627776:Int))else
 bif O_=(24:Int)then some ((4:Int),(4:Int))else
 some ((-1:Int),(0:Int))
theorem C6 {O_:Int}{r:Int×Int}(H:qN O_=some r):PTz 286 [.one (.int .i64 O_)] (.tup [.one (.int .i64 r.1),.one (.int .i64 r.2)]):=by
 unfold qN at H;refine po_ func286 ntmps286 ?_;obtain⟨PT,H⟩|⟨PT,H⟩:=ae H
 .cases H
  exact ao
 obtain⟨PP,H⟩|⟨PP,H⟩:=ae H
 .cases H
  exact ao
 refine aS ?_;obtain⟨PG,H⟩|⟨PG,H⟩:=ae H
 .cases H
  exact ao
 obtain⟨P1,H⟩|⟨P1,H⟩:=ae H
 .cases H
  exact ao
 obtain⟨Qu,H⟩|⟨Qu,H⟩:=ae H
 .cases H
  exact ao
 refine aS ?_;obtain⟨Qb,H⟩|⟨Qb,H⟩:=ae H
 .cases H
  exact ao
 obtain⟨QX,H⟩|⟨QX,H⟩:=ae H
 .cases H
  exact ao
 obtain⟨Qw,H⟩|⟨Qw,H⟩:=ae H
 .cases H
  exact ao
 refine aS ?_;obtain⟨Q5,H⟩|⟨Q5,H⟩:=ae H
 .cases H
  exact ao
 obtain⟨P6,H⟩|⟨P6,H⟩:=ae H
 .cases H
  exact ao
 obtain⟨Qo,H⟩|⟨Qo,H⟩:=ae H
 .cases H
  exact ao
 refine aS ?_;obtain⟨Qj,H⟩|⟨Qj,H⟩:=ae H
 .cases H
  exact ao
 obtain⟨P2,H⟩|⟨P2,H⟩:=ae H
 .cases H
  exact ao
 obtain⟨P9,H⟩|⟨P9,H⟩:=ae H
 .cases H
  exact ao
 refine aS ?_;obtain⟨QJ,H⟩|⟨QJ,H⟩:=ae H
 .cases H
  exact ao
 obtain⟨Rq,H⟩|⟨Rq,H⟩:=ae H
 .cases H
  exact ao
 obtain⟨RI,H⟩|⟨RI,H⟩:=ae H
 .cases H
  exact ao
 refine aS ?_;obtain⟨QT,H⟩|⟨QT,H⟩:=ae H
 .cases H
  exact ao
 obtain⟨R8,H⟩|⟨R8,H⟩:=ae H
 .cases H
  exact ao
 obtain⟨RJ,H⟩|⟨RJ,H⟩:=ae H
 .cases H
  exact ao
 refine aS ?_;obtain⟨RB,H⟩|⟨RB,H⟩:=ae H
 .cases H
  exact ao
 obtain⟨SS,H⟩|⟨SS,H⟩:=ae H
 .cases H
  exact ao
 obtain⟨SB,H⟩|⟨SB,H⟩:=ae H
 .cases H
  exact ao
 cases H;exact ao
def ir (O6:Ex):Option (Bool):=(qN O6.op).bind λPh=>bif Ph.1<(0:Int)then some false else
 bif (O6.args.length:Int)<Ph.1 then some false else
 bif Ph.2<(O6.args.length:Int)then some false else
 bif (!(O6.nm.toList==(⟨#[]⟩:ByteArray).toList))then some false else
 bif O6.op=(1:Int)then bif O6.int=(0:Int)then(cJ O6.v).bind λQN=>some QN else
 some false else
 bif O6.op=(2:Int)then(cq ).bind λPR=>some (cF [.c (.int .i64 O6.v.kind),.c (.int .i64 O6.v.int),.c (.str O6.v.text)] [.c (.int .i64 PR.kind),.c (.int .i64 PR.int),.c (.str PR.text)])else
 bif O6.op=(24:Int)then(cq ).bind λQq=>bif (cF [.c (.int .i64 O6.v.kind),.c (.int .i64 O6.v.int),.c (.str O6.v.text)] [.c (.int .i64 Qq.kind),.c (.int .i64 Qq.int),.c (.str Qq.text)])then bif (0:Int)<=O6.int then some (decide (O6.int<(13:Int)))else
 some false else
 some false else
 bif O6.int=(0:Int)then(cq ).bind λRL=>some (cF [.c (.int .i64 O6.v.kind),.c (.int .i64 O6.v.int),.c (.str O6.v.text)] [.c (.int .i64 RL.kind),.c (.int .i64 RL.int),.c (.str RL.text)])else
 some false
theorem xF {O6:Ex}{r:Bool}(H:ir O6=some r):PTz 261 [.agg (tE O6)] (.val (.one (.bool r))):=by
 unfold ir at H;rw[ay O6];refine po_ func261 ntmps261 ?_;obtain⟨Ph,c1,H⟩:=bd_ H;replace c1:=C6 c1;obtain⟨PP,H⟩|⟨PP,H⟩:=ae H
 .cases H
  exact ao
 obtain⟨PG,H⟩|⟨PG,H⟩:=ae H
 .cases H
  exact ao
 refine aS ?_;obtain⟨P1,H⟩|⟨P1,H⟩:=ae H
 .cases H
  exact ao
 obtain⟨Qu,H⟩|⟨Qu,H⟩:=ae H
 .cases H
  exact ao
 obtain⟨Qb,H⟩|⟨Qb,H⟩:=ae H
 .refine aS ?_
  obtain⟨QX,H⟩|⟨QX,H⟩:=ae H
  .obtain⟨QN,c2,H⟩:=bd_ H
   replace c2:=kN c2
   cases H;exact ao
  cases H;exact ao
 refine aS ?_;obtain⟨Q5,H⟩|⟨Q5,H⟩:=ae H
 .obtain⟨PR,c3,H⟩:=bd_ H
  replace c3:=bI c3
  cases H;exact ao
 obtain⟨Qo,H⟩|⟨Qo,H⟩:=ae H
 .obtain⟨Qq,c4,H⟩:=bd_ H
  replace c4:=bI c4;obtain⟨P2,H⟩|⟨P2,H⟩:=ae H
  .refine aS ?_
   obtain⟨P9,H⟩|⟨P9,H⟩:=ae H
   .cases H
    exact ao
   cases H;exact ao
  cases H;exact ao
 obtain⟨QJ,H⟩|⟨QJ,H⟩:=ae H
 .obtain⟨RL,c5,H⟩:=bd_ H
  replace c5:=bI c5
  cases H;exact ao
 cases H;exact ao
