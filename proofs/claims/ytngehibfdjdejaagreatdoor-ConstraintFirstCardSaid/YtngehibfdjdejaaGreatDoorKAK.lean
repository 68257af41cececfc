/- Parts of the proof, joined. No condition. -/
import Derived.Test.YtngehibfdjdejaaGreatDoorKAH
set_option linter.unusedSimpArgs false
set_option linter.unusedVariables false
namespace Go.Proofs.YtngehibfdjdejaaGreatDoor
open Go.RowKit Go.MapKept
def ownL (f:FuncId):Bool:=Nat.beq f 39||Nat.beq f 41||Nat.beq f 42||Nat.beq f 54||Nat.beq f 80||Nat.beq f 169||Nat.beq f 43||Nat.beq f 50||Nat.beq f 75||Nat.beq f 110||Nat.beq f 125||Nat.beq f 48||Nat.beq f 131||Nat.beq f 134||Nat.beq f 135||Nat.beq f 153||Nat.beq f 168||Nat.beq f 150||Nat.beq f 160||Nat.beq f 161||Nat.beq f 162||Nat.beq f 163||Nat.beq f 164||Nat.beq f 165||Nat.beq f 166||Nat.beq f 167||Nat.beq f 171||Nat.beq f 172||Nat.beq f 173||Nat.beq f 72||Nat.beq f 100||Nat.beq f 101||Nat.beq f 102||Nat.beq f 103||Nat.beq f 104||Nat.beq f 105||Nat.beq f 106||Nat.beq f 107||Nat.beq f 129||Nat.beq f 132||Nat.beq f 133||Nat.beq f 71||Nat.beq f 21||Nat.beq f 35||Nat.beq f 53||Nat.beq f 78||Nat.beq f 32||Nat.beq f 19||Nat.beq f 31||Nat.beq f 18||Nat.beq f 25||Nat.beq f 20||Nat.beq f 113||Nat.beq f 137||Nat.beq f 138||Nat.beq f 139||Nat.beq f 140||Nat.beq f 141||Nat.beq f 142||Nat.beq f 143||Nat.beq f 144||Nat.beq f 155||Nat.beq f 156||Nat.beq f 157||Nat.beq f 12
def rowL (f:FuncId) (d:Nat):Bool:=Nat.beq f 45||Nat.beq f 34||Nat.beq f 74||Nat.beq f 39||Nat.beq f 41||Nat.beq f 37||Nat.beq f 53||Nat.beq f 23||(Nat.beq f 51&&Nat.beq d 41)||(Nat.beq f 51&&Nat.beq d 42)||(Nat.beq f 7&&Nat.beq d 14)
def frzT (f:FuncId) (id:Nat):List Nat :=
 if (Nat.beq f 12&&Nat.beq id 6)=true then [6] else
 if (Nat.beq f 14&&Nat.beq id 5)=true then [7] else
 if (Nat.beq f 19&&Nat.beq id 1)=true then [3,5] else
 if (Nat.beq f 20&&Nat.beq id 2)=true then [2,5] else
 if (Nat.beq f 47&&Nat.beq id 8)=true then [4,9] else
 if (Nat.beq f 95&&Nat.beq id 1)=true then [2] else
 if (Nat.beq f 45&&Nat.beq id 18)=true then [5] else
 if (Nat.beq f 7&&Nat.beq id 4)=true then [14] else
 if (Nat.beq f 8&&Nat.beq id 1)=true then [2] else
 if (Nat.beq f 31&&Nat.beq id 4)=true then [6] else
 []
def flgT (f:FuncId) (id:Nat):Bool × Bool :=
 (false,true)
def fzT (f:FuncId) (id:Nat):List Nat :=
 if (Nat.beq f 8&&Nat.beq id 1)=true then [2] else
 if (Nat.beq f 31&&Nat.beq id 4)=true then [6] else
 []
def badL (f:FuncId):Bool:=Nat.beq f 87||Nat.beq f 28||Nat.beq f 69
def tabX:TI := { tab with owns:=ownL }
theorem tabX_ok:TIok Tryz.prog tabX:=⟨tab_ok.size,tab_ok.agg,tab_ok.elem,tab_ok.field,tab_ok.zero,tab_ok.bytes,tab_ok.kind,tab_ok.struct,tab_ok.zok,tab_ok.eqs⟩
def orcT:FuncId→List PV→Option CV:=fun _ _=>none
noncomputable def cx:Cx := { P:=Tryz.prog,ti:=tabX,xs:=⟨80,169⟩,row:=rowL,frz:=frzT,flg:=flgT,orc:=orcT,bad:=badL,fz:=fzT }
theorem ne_ok:NoEsc Tryz.prog 80:=⟨_,Tryz.func80,by kernel_rfl,by kernel_rfl,by kernel_rfl,by kernel_rfl⟩
theorem cs_ok:CmpS Tryz.prog 169:=⟨_,Tryz.func169,by kernel_rfl,by kernel_rfl,by kernel_rfl,by kernel_rfl⟩
theorem names_ok:namesB Tryz.prog.funcs.toList=true:=by kernel_rfl
theorem codes_ok:codesB cx Tryz.prog.funcs.toList 0=true:=by kernel_rfl
theorem cx_ok:CxOK cx:=CxOK.of tabX_ok ⟨ne_ok,cs_ok⟩ mixed names_ok codes_ok (fun g ps r h=>by cases h)
end Go.Proofs.YtngehibfdjdejaaGreatDoor
