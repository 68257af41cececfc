/- Parts of the proof, joined. No condition. -/
import Derived.Test.YtfpbmfalamappaaGreatDoorKAA
import Derived.Test.YtfpbmfalamappaaGreatDoorKAH
set_option linter.unusedSimpArgs false
set_option linter.unusedVariables false
namespace Go.Proofs.YtfpbmfalamappaaGreatDoor
open Go.RowKit Go.MapKept
def aaE (f:FuncId):Bool:=Nat.beq f 88||Nat.beq f 90||Nat.beq f 91||Nat.beq f 127||Nat.beq f 168||Nat.beq f 197||Nat.beq f 102||Nat.beq f 55||Nat.beq f 47||Nat.beq f 173||Nat.beq f 198||Nat.beq f 208||Nat.beq f 209||Nat.beq f 215||Nat.beq f 216
def aae (f:FuncId) (d:Nat):Bool:=Nat.beq f 133||Nat.beq f 54||Nat.beq f 88||Nat.beq f 90||(Nat.beq f 18&&Nat.beq d 27)||(Nat.beq f 18&&Nat.beq d 28)||(Nat.beq f 18&&Nat.beq d 55)||(Nat.beq f 18&&Nat.beq d 56)
def aaS (f:FuncId) (id:Nat):List Nat :=
 []
def aaZ (f:FuncId) (id:Nat):Bool × Bool :=
 (false,true)
def aav (f:FuncId):Bool:=Nat.beq f 157
def TV:TI := { tab with owns:=aaE }
theorem au:TIok Tryz.prog TV:=⟨tab_ok.size,tab_ok.agg,tab_ok.elem,tab_ok.field,tab_ok.zero,tab_ok.bytes,tab_ok.kind,tab_ok.struct,tab_ok.zok,tab_ok.eqs⟩
def aas:FuncId->List PV->Option CV:=fun _ _=>none
noncomputable def cx:Cx := { P:=Tryz.prog,ti:=TV,xs:=⟨168,197⟩,row:=aae,frz:=aaS,flg:=aaZ,orc:=aas,bad:=aav }
theorem Zp:W_ Tryz.prog 168:=⟨_,Tryz.func168,by kernel_rfl,by kernel_rfl,by kernel_rfl,by kernel_rfl⟩
theorem Zr:ZG Tryz.prog 197:=⟨_,Tryz.func197,by kernel_rfl,by kernel_rfl,by kernel_rfl,by kernel_rfl⟩
theorem Ta:B_ Tryz.prog.funcs.toList=true:=by kernel_rfl
theorem Tg:Cc cx Tryz.prog.funcs.toList 0=true:=by kernel_rfl
theorem WQ:JW cx:=JW.of au ⟨Zp,Zr⟩ mixed Ta Tg (fun g ps r h=>by cases h)
theorem RZ:(XI cx 64).1 11 []=some (.val (.one (.bool true))):=by kernel_rfl
theorem awake_pure:Pure Tryz.prog 11 [] (.val (.one (.bool true))):=(Cn WQ 64).1 _ _ _ RZ
end Go.Proofs.YtfpbmfalamappaaGreatDoor
