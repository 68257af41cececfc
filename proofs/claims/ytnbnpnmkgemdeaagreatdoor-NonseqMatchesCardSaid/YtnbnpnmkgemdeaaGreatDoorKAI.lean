/- Parts of the proof, joined. No condition. -/
import Derived.Test.YtnbnpnmkgemdeaaGreatDoorKAA
import Derived.Test.YtnbnpnmkgemdeaaGreatDoorKAH
set_option linter.unusedSimpArgs false
set_option linter.unusedVariables false
namespace Go.Proofs.YtnbnpnmkgemdeaaGreatDoor
open Go.RowKit Go.MapKept
def XE (f:FuncId):Bool:=Nat.beq f 184||Nat.beq f 186||Nat.beq f 187||Nat.beq f 228||Nat.beq f 274||Nat.beq f 246||Nat.beq f 219||Nat.beq f 165||Nat.beq f 147||Nat.beq f 117||Nat.beq f 106||Nat.beq f 150||Nat.beq f 140||Nat.beq f 188||Nat.beq f 98||Nat.beq f 145||Nat.beq f 234||Nat.beq f 201||Nat.beq f 202||Nat.beq f 245||Nat.beq f 281||Nat.beq f 230||Nat.beq f 231||Nat.beq f 276||Nat.beq f 299||Nat.beq f 142||Nat.beq f 189||Nat.beq f 190||Nat.beq f 191||Nat.beq f 192||Nat.beq f 193||Nat.beq f 194||Nat.beq f 195||Nat.beq f 196||Nat.beq f 232||Nat.beq f 235||Nat.beq f 236||Nat.beq f 199||Nat.beq f 237||Nat.beq f 238||Nat.beq f 239||Nat.beq f 240||Nat.beq f 241||Nat.beq f 242||Nat.beq f 243||Nat.beq f 244||Nat.beq f 278||Nat.beq f 279||Nat.beq f 280
def Yr (f:FuncId) (d:Nat):Bool:=Nat.beq f 102||Nat.beq f 97||Nat.beq f 80||Nat.beq f 164||Nat.beq f 139||Nat.beq f 184||Nat.beq f 186||(Nat.beq f 124&&Nat.beq d 27)||(Nat.beq f 124&&Nat.beq d 28)||(Nat.beq f 124&&Nat.beq d 55)||(Nat.beq f 124&&Nat.beq d 56)||(Nat.beq f 96&&Nat.beq d 41)||(Nat.beq f 96&&Nat.beq d 42)
def Xw (f:FuncId) (id:Nat):List Nat :=
 if (Nat.beq f 42&&Nat.beq id 5)=true then [1] else
 if (Nat.beq f 42&&Nat.beq id 7)=true then [1] else
 if (Nat.beq f 42&&Nat.beq id 9)=true then [1] else
 if (Nat.beq f 90&&Nat.beq id 4)=true then [3] else
 []
def Xx (f:FuncId) (id:Nat):Bool × Bool :=
 (false,true)
def XW (f:FuncId):Bool:=Nat.beq f 253
def Qj:TI := { tab with owns:=XE }
theorem af:TIok Tryz.prog Qj:=⟨tab_ok.size,tab_ok.agg,tab_ok.elem,tab_ok.field,tab_ok.zero,tab_ok.bytes,tab_ok.kind,tab_ok.struct,tab_ok.zok,tab_ok.eqs⟩
def X6:FuncId->List PV->Option CV:=fun _ _=>none
noncomputable def cx:Cx := { P:=Tryz.prog,ti:=Qj,xs:=⟨274,246⟩,row:=Yr,frz:=Xw,flg:=Xx,orc:=X6,bad:=XW }
theorem V_:TJ Tryz.prog 274:=⟨_,Tryz.func274,by kernel_rfl,by kernel_rfl,by kernel_rfl,by kernel_rfl⟩
theorem VF:VI Tryz.prog 246:=⟨_,Tryz.func246,by kernel_rfl,by kernel_rfl,by kernel_rfl,by kernel_rfl⟩
theorem Q5:yV Tryz.prog.funcs.toList=true:=by kernel_rfl
theorem Qb:zH cx Tryz.prog.funcs.toList 0=true:=by kernel_rfl
theorem Rf:G_ cx:=G_.of af ⟨V_,VF⟩ mixed Q5 Qb (fun g ps r h=>by cases h)
theorem OD:(U6 cx 64).1 11 []=some (.val (.one (.bool true))):=by kernel_rfl
theorem eD:Pure Tryz.prog 11 [] (.val (.one (.bool true))):=(v_ Rf 64).1 _ _ _ OD
end Go.Proofs.YtnbnpnmkgemdeaaGreatDoor
