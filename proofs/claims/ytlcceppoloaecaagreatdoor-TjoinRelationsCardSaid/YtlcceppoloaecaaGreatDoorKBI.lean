/- Parts of the proof, joined. No condition. -/
import Derived.Test.YtlcceppoloaecaaGreatDoorKAA
import Derived.Test.YtlcceppoloaecaaGreatDoorKBF
set_option linter.unusedSimpArgs false
set_option linter.unusedVariables false
namespace Go.Proofs.YtlcceppoloaecaaGreatDoor
open Go.RowKit Go.Shelf Go.Lib Go.Sort
set_option maxHeartbeats 2000000
instance : Inhabited bA := ⟨⟨0, 0⟩⟩
def gI (k:Int):List SV:=[.c (.int .i64 k)]
def Eo (p:bA):List SV:=[.c (.int .i64 p.a), .c (.int .i64 p.b)]
theorem Ay {n:Nat} : ∀ {o:List Int}, (∀ k∈o,0<=k/\k<(n:Int)) -> ∃ d:List (Jk n),d.map (·.1)=o
 | [],_=>⟨[],rfl⟩
 | k::o,h=>by
  obtain ⟨d,e⟩:=Ay (o:=o) fun t ht=>h t (VA _ ht)
  have hk:=h k (VU ..)
  exact ⟨⟨k,hk.1, .inl hk.2⟩::d,congrArg (k :: ·) e⟩
theorem zD {n:Nat} (d:List (Jk n)):d.map (Og n).tr=(d.map (·.1)).map gI:=by
 rw [List.map_map];rfl
theorem DX {b:List aV} (hb:b.length<=1000) {o:List Int} (hr : ∀ k∈o,0<=k/\k<(b.length:Int)) (v m:Nat) (hm:o.length=m) (hm2:m<=1000000) :
  ∃ o':List Int,o'.Perm o/\o'.Pairwise (fun x y => ¬ kL b y<kL b x)/\Run Tryz.prog 39 [.row v (o.map gI) 1] [.one (.sl 0 v 0 m), .one (.c (.fn 40 [.ref [.lst (b.map a_)]]))] [.row v (o'.map gI) 1] (.tup []):=by
 obtain ⟨d,rfl⟩:=Ay hr
 have hO:=R3 (α:=Jk b.length) fun x=>kL b x.1
 have hd:d≠[]->0<b.length:=fun h=>by
  cases d with
  | nil=>exact absurd rfl h
  | cons x d=>have:=hr x.1 (by simp);omega
 have hrun:=JK (P:=Tryz.prog) (F:=Og b.length) rfl Tryz.sortInt (fun x y=>Lib.compareInt (kL b x.1) (kL b y.1)) hO 40 [.ref [.lst (b.map a_)]] (pre:=[]) (d:=d) (post:=[])
  (enters_of Tryz.func40 (by kernel_rfl) rfl) (fun h=>Jb (hd h) hb) ⟨_,Tryz.func39,by kernel_rfl,by kernel_rfl⟩ v 0 m rfl (by rw [<- hm];simp) (by omega)
 refine ⟨(aM (fun x y=>Lib.compareInt (kL b x.1) (kL b y.1)) d).map (·.1),(mh hO d).map _,?_,?_⟩
 ·rw [List.pairwise_map]
  refine (uE hO d).imp fun {x y} h hlt=>h ?_
  have:=RF (fun z:Jk b.length=>kL b z.1) y x
  unfold ltOf at this
  rw [decide_eq_decide] at this
  exact this.2 hlt
 ·simp only [Vh,VJ] at hrun
  rw [zD,zD] at hrun
  exact hrun
theorem Fg (pre d:List bA) (v lo n:Nat) (hlo:pre.length=lo) (hn:d.length=n) (hsz:n<=1000000) :
  ∃ d':List bA,d'.Perm d/\d'.Pairwise (fun x y => ¬ y.b<x.b)/\Run Tryz.prog 42 [.row v ((pre++d).map Eo) 2] [.one (.sl 0 v lo n), .one (.c (.fn 43 []))] [.row v ((pre++d').map Eo) 2] (.tup []):=by
 have hO:=R3 (α:=bA) fun x=>x.b
 have hrun:=JJ (P:=Tryz.prog) (F:=Qe) Tryz.sortPair Tryz.isAgg63 Tryz.sizeOf63 (fun x y=>Lib.compareInt x.b y.b) hO 43 [] (pre:=pre) (d:=d) (post:=[])
  (enters_of Tryz.func43 (by kernel_rfl) rfl) (fun _=>LG) ⟨_,Tryz.func42,by kernel_rfl,by kernel_rfl⟩ v lo n hlo hn (by omega)
 refine ⟨aM (fun x y=>Lib.compareInt x.b y.b) d,mh hO d,?_,?_⟩
 ·refine (uE hO d).imp fun {x y} h hlt=>h ?_
  have:=RF (fun z:bA=>z.b) y x
  unfold ltOf at this
  rw [decide_eq_decide] at this
  exact this.2 hlt
 ·rw [VJ,VJ] at hrun
  exact hrun
end Go.Proofs.YtlcceppoloaecaaGreatDoor
