/- Parts. No condition. -/
import Derived.Test.YtnbnpnmkgemdeaaGreatDoorKAU
import Derived.Test.YtnbnpnmkgemdeaaGreatDoorKAR
set_option maxHeartbeats 8000000
set_option maxRecDepth 100000
set_option linter.unusedSimpArgs false
set_option linter.unusedVariables false
namespace Go.Proofs.YtnbnpnmkgemdeaaGreatDoor
open Go.RowKit Go.MapKept Tryz
def AN (S0:ByteArray):Option (Val):=(nQ (⟨(2:Int),(0:Int),S0⟩:Val)).bind λPh=>some Ph
theorem Oa {S0:ByteArray}{r:Val}(H:AN S0=some r):PTz 291 [.one (.str S0)] (.val (.agg (cV r))):=by
 unfold AN at H;refine po_ func291 ntmps291 ?_;obtain⟨Ph,c1,H⟩:=bd_ H;replace c1:=zR c1
 cases H;exact ao
def oF (O4:Bool):Option (Val):=bif O4 then some (⟨(3:Int),(1:Int),ByteArray.empty⟩:Val)else
 some (⟨(3:Int),(0:Int),ByteArray.empty⟩:Val)
theorem kn {O4:Bool}{r:Val}(H:oF O4=some r):PTz 260 [.one (.bool O4)] (.val (.agg (cV r))):=by
 unfold oF at H;refine po_ func260 ntmps260 ?_;obtain⟨PT,H⟩|⟨PT,H⟩:=ae H
 .cases H
  exact ao
 cases H;exact ao
def rK (O7:Val)(O4:Val)(UH:Bool):Option (Int):=bif O7.kind=(0:Int)then some (1:Int)else
 bif O7.kind≠O4.kind then some (1:Int)else
 bif UH then some (2:Int)else
 some (0:Int)
theorem AZ {O7:Val}{O4:Val}{UH:Bool}{r:Int}(H:rK O7 O4 UH=some r):PTz 303 [.agg (cV O7),.agg (cV O4),.one (.bool UH)] (.val (.one (.int .i64 r))):=by
 unfold rK at H;refine po_ func303 ntmps303 ?_;obtain⟨PT,H⟩|⟨PT,H⟩:=ae H
 .cases H
  exact ao
 obtain⟨PP,H⟩|⟨PP,H⟩:=ae H
 .cases H
  exact ao
 obtain⟨PG,H⟩|⟨PG,H⟩:=ae H
 .cases H
  exact ao
 cases H;exact ao
def Nq (O7:Val)(O4:Val):Option (Int):=(vA O7 O4).bind λPh=>(rK O7 O4 (decide (Ph=(0:Int)))).bind λPW=>some PW
theorem K5 {O7:Val}{O4:Val}{r:Int}(H:Nq O7 O4=some r):PTz 289 [.agg (cV O7),.agg (cV O4)] (.val (.one (.int .i64 r))):=by
 unfold Nq at H;refine po_ func289 ntmps289 ?_;obtain⟨Ph,c1,H⟩:=bd_ H;replace c1:=qa c1;obtain⟨PW,c2,H⟩:=bd_ H;replace c2:=AZ c2
 cases H;exact ao
def qK (O7:Val)(O4:Val):Option (Int):=(vA O7 O4).bind λPh=>(rK O7 O4 (decide (Ph<(0:Int)))).bind λPW=>some PW
theorem rx {O7:Val}{O4:Val}{r:Int}(H:qK O7 O4=some r):PTz 290 [.agg (cV O7),.agg (cV O4)] (.val (.one (.int .i64 r))):=by
 unfold qK at H;refine po_ func290 ntmps290 ?_;obtain⟨Ph,c1,H⟩:=bd_ H;replace c1:=qa c1;obtain⟨PW,c2,H⟩:=bd_ H;replace c2:=AZ c2
 cases H;exact ao
def Ap (O7:Int):Option (Int):=bif O7=(2:Int)then some (0:Int)else
 bif O7=(0:Int)then some (2:Int)else
 some (1:Int)
theorem uc {O7:Int}{r:Int}(H:Ap O7=some r):PTz 264 [.one (.int .i64 O7)] (.val (.one (.int .i64 r))):=by
 unfold Ap at H;refine po_ func264 ntmps264 ?_;obtain⟨PT,H⟩|⟨PT,H⟩:=ae H
 .cases H
  exact ao
 obtain⟨PP,H⟩|⟨PP,H⟩:=ae H
 .cases H
  exact ao
 cases H;exact ao
def AD (O7:Int)(O4:Int):Option (Int):=bif O7=(0:Int)then some (0:Int)else
 bif O4=(0:Int)then some (0:Int)else
 bif O7=(2:Int)then bif O4=(2:Int)then some (2:Int)else
 some (1:Int)else
 some (1:Int)
theorem aak {O7:Int}{O4:Int}{r:Int}(H:AD O7 O4=some r):PTz 287 [.one (.int .i64 O7),.one (.int .i64 O4)] (.val (.one (.int .i64 r))):=by
 unfold AD at H;refine po_ func287 ntmps287 ?_;obtain⟨PT,H⟩|⟨PT,H⟩:=ae H
 .cases H
  exact ao
 obtain⟨PP,H⟩|⟨PP,H⟩:=ae H
 .cases H
  exact ao
 obtain⟨PG,H⟩|⟨PG,H⟩:=ae H
 .obtain⟨P1,H⟩|⟨P1,H⟩:=ae H
  .cases H
   exact ao
  cases H;exact ao
 cases H;exact ao
def I2 (O7:Int)(O4:Int):Option (Int):=bif O7=(2:Int)then some (2:Int)else
 bif O4=(2:Int)then some (2:Int)else
 bif O7=(0:Int)then bif O4=(0:Int)then some (0:Int)else
 some (1:Int)else
 some (1:Int)
theorem acV {O7:Int}{O4:Int}{r:Int}(H:I2 O7 O4=some r):PTz 288 [.one (.int .i64 O7),.one (.int .i64 O4)] (.val (.one (.int .i64 r))):=by
 unfold I2 at H;refine po_ func288 ntmps288 ?_;obtain⟨PT,H⟩|⟨PT,H⟩:=ae H
 .cases H
  exact ao
 obtain⟨PP,H⟩|⟨PP,H⟩:=ae H
 .cases H
  exact ao
 obtain⟨PG,H⟩|⟨PG,H⟩:=ae H
 .obtain⟨P1,H⟩|⟨P1,H⟩:=ae H
  .cases H
   exact ao
  cases H;exact ao
 cases H;exact ao
def eV (P3:Val):Option (Int):=(oF true).bind λPh=>bif (cF [.c (.int .i64 P3.kind),.c (.int .i64 P3.int),.c (.str P3.text)] [.c (.int .i64 Ph.kind),.c (.int .i64 Ph.int),.c (.str Ph.text)])then some (2:Int)else
 (oF false).bind λQm=>bif (cF [.c (.int .i64 P3.kind),.c (.int .i64 P3.int),.c (.str P3.text)] [.c (.int .i64 Qm.kind),.c (.int .i64 Qm.int),.c (.str Qm.text)])then some (0:Int)else
 some (1:Int)
theorem iN {P3:Val}{r:Int}(H:eV P3=some r):PTz 223 [.agg (cV P3)] (.val (.one (.int .i64 r))):=by
 unfold eV at H;refine po_ func223 ntmps223 ?_;obtain⟨Ph,c1,H⟩:=bd_ H;replace c1:=kn c1;obtain⟨PP,H⟩|⟨PP,H⟩:=ae H
 .cases H
  exact ao
 obtain⟨Qm,c2,H⟩:=bd_ H;replace c2:=kn c2;obtain⟨P1,H⟩|⟨P1,H⟩:=ae H
 .cases H
  exact ao
 cases H;exact ao
def xN (Ut:Int):Option (Val):=bif Ut=(2:Int)then(oF (decide (Ut=(2:Int)))).bind λPW=>some PW else
 bif Ut=(0:Int)then(oF (decide (Ut=(2:Int)))).bind λQQ=>some QQ else
 (cq ).bind λPM=>some PM
theorem lH {Ut:Int}{r:Val}(H:xN Ut=some r):PTz 263 [.one (.int .i64 Ut)] (.val (.agg (cV r))):=by
 unfold xN at H;refine po_ func263 ntmps263 ?_;obtain⟨PT,H⟩|⟨PT,H⟩:=ae H
 .obtain⟨PW,c1,H⟩:=bd_ H
  replace c1:=kn c1
  cases H;exact ao
 obtain⟨PG,H⟩|⟨PG,H⟩:=ae H
 .obtain⟨QQ,c2,H⟩:=bd_ H
  replace c2:=kn c2
  cases H;exact ao
 obtain⟨PM,c3,H⟩:=bd_ H;replace c3:=bI c3
 cases H;exact ao
