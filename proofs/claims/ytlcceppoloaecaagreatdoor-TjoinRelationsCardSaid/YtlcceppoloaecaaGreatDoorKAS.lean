/- Parts of the proof, joined. No condition. -/
import Derived.Test.YtlcceppoloaecaaGreatDoorKAO
set_option linter.unusedSimpArgs false
set_option linter.unusedVariables false
namespace Go.Proofs.YtlcceppoloaecaaGreatDoor.St
open Go.RowKit
theorem lq : (Tryz.prog.info? 53).map (fun i => (i.zero, i.size, i.bytes)) = some (some (.agg #[.int .i64 0, .int .i64 0]), 2, 16) := by kernel_rfl
theorem lD {w : World} {ops : Array Oper} {K : Act → World → Prop} {C : Prop} {o : Oper} {a : Act} {Q : Exit → Act → World → Prop} {cs : Array Value} (hgd : o.guard = none) (s x : Operand)
    (ho : o.op = .call { callee := .builtin .append, args := #[s, x], argTypes := #[83, 83] }) (base : Nat) (v : Value) (l : List (Int × Int)) (hs : a.eval s = v) (hown : Own e2 2 53 w base v l) (nb m c : Nat) (xs : List (Int × Int)) (hm : xs.length = m)
    (hx : a.eval x = .slice (some ⟨nb, 0, none⟩) m c) (hb : w.heap[nb]? = some (.cells cs 53 (0, 0))) (hcs : cs = (xs.flatMap e2).toArray) (hlen : l.length + m ≤ 1000000000) (hbase : base ≤ w.heap.size)
    (h : ∀ A n c w', Own e2 2 53 w' base (.slice A n c) (l ++ xs) → w.grownBy w' v.ownBlock → K (a.put o.dst (.slice A n c)) w') :
    if Region.wanted o (yielded ops a.tmps) = true then Oper.wp Tryz.prog o a w K Q else C := by
  obtain ⟨i0, hi, hz0, hz1, hz2⟩ := info_parts lq
  exact ll hgd s x 83 ho i0 _ 16 Tryz.underlying83 hi hz0 hz1 hz2 rfl (by omega) bN jW v l hs hown nb m c xs hm hx hb hcs (by omega) (by omega) hbase h

end Go.Proofs.YtlcceppoloaecaaGreatDoor.St
