/- Plain facts on the span of the instants at which a step function is at least n; no program in sight. No condition. -/
import Derived.Test.YtllenmkmompjpaaW5
namespace Go.Proofs.Ytllenmkmompjpaa
open Go.RowKit

/-- The periods on which a step function is constant, with its values. -/
def segs : List (Int × Int) → List ((Int × Int) × Int)
  | [] => []
  | [x] => [((x.1, 1099511627776), x.2)]
  | x :: y :: r => ((x.1, y.1), x.2) :: segs (y :: r)
theorem segs_len : ∀ l : List (Int × Int), (segs l).length = l.length
  | [] => rfl
  | [x] => rfl
  | x :: y :: r => by simp [segs, segs_len (y :: r)]
theorem segs_get : ∀ (l : List (Int × Int)) (i : Nat) (x : Int × Int), l[i]? = some x → (segs l)[i]? = some ((x.1, ((l[i + 1]?).map (·.1)).getD 1099511627776), x.2)
  | [], i, x, h => by simp at h
  | [a], 0, x, h => by simp at h; subst h; simp [segs]
  | [a], i + 1, x, h => by simp at h
  | a :: b :: r, 0, x, h => by simp at h; subst h; simp [segs]
  | a :: b :: r, i + 1, x, h => by
    have := segs_get (b :: r) i x (by simpa using h)
    simpa [segs] using this
/-- A period is joined to a span that it does not precede. -/
def joinP (l : List (Int × Int)) (p : Int × Int) : List (Int × Int) :=
  match l.getLast? with
  | some q => if p.1 ≤ q.2 then l.dropLast ++ [(q.1, max q.2 p.2)] else l ++ [p]
  | none => l ++ [p]
def atStep (n : Int) (out : List (Int × Int)) (g : (Int × Int) × Int) : List (Int × Int) := if n ≤ g.2 then joinP out g.1 else out
/-- The span of the instants at which the value is at least n. -/
def atl (l : List (Int × Int)) (n : Int) : List (Int × Int) := (segs l).foldl (atStep n) []
theorem joinP_len (l : List (Int × Int)) (p : Int × Int) : (joinP l p).length ≤ l.length + 1 := by
  unfold joinP
  split
  · split
    · simp
      try omega
    · simp
  · simp
theorem atStep_len (n : Int) (l : List (Int × Int)) (g : (Int × Int) × Int) : (atStep n l g).length ≤ l.length + 1 := by
  unfold atStep
  split
  · exact joinP_len _ _
  · omega
theorem atFold_len (n : Int) : ∀ (s : List ((Int × Int) × Int)) (out : List (Int × Int)), (s.foldl (atStep n) out).length ≤ out.length + s.length
  | [], out => by simp
  | g :: s, out => by
    have h1 := atFold_len n s (atStep n out g)
    have h2 := atStep_len n out g
    simp only [List.foldl_cons, List.length_cons]
    omega
end Go.Proofs.Ytllenmkmompjpaa
