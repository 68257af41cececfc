/- Plain functions on lists and integers that say what the functions of the steps layer compute; no program in sight. No condition. -/
import Derived.RowKit
namespace Go.Proofs.Ytllenmkmompjpaa

/-- A period is valid. -/
def pvalid (p : Int × Int) : Bool := decide (0 ≤ p.1) && decide (p.1 < p.2) && decide (p.2 ≤ 1099511627776)
def pcontains (p : Int × Int) (t : Int) : Bool := pvalid p && decide (p.1 ≤ t) && decide (t < p.2)
def pcovers (p q : Int × Int) : Bool := pvalid p && pvalid q && decide (p.1 ≤ q.1) && decide (q.2 ≤ p.2)
def poverlaps (p q : Int × Int) : Bool := pvalid p && pvalid q && decide (p.1 < q.2) && decide (q.1 < p.2)
def pcompare (p q : Int × Int) : Int := if p = q then 0 else if p.1 < q.1 ∨ (p.1 = q.1 ∧ p.2 < q.2) then -1 else 1

/-- Step i of a list follows step i - 1 as it must. -/
def stepOk (p q : Int × Int) : Bool := decide (p.1 < q.1) && decide (q.1 < 1099511627776) && !(q.2 == p.2)
def validFrom : Int × Int → List (Int × Int) → Bool
  | _, [] => true
  | p, q :: r => stepOk p q && validFrom q r
def svalid : List (Int × Int) → Bool
  | [] => false
  | p :: r => p.1 == 0 && validFrom p r

/-- The value at an instant, by a run over all steps. -/
def rat (l : List (Int × Int)) (t : Int) : Int := if 0 ≤ t ∧ t < 1099511627776 then l.foldl (fun n s => if s.1 ≤ t then s.2 else n) 0 else 0

/-- The greatest value. -/
def greatest : List (Int × Int) → Int
  | [] => 0
  | p :: r => r.foldl (fun n s => if n < s.2 then s.2 else n) p.2

theorem validFrom_snoc : ∀ (l : List (Int × Int)) (p q : Int × Int), validFrom p (l ++ [q]) = (validFrom p l && stepOk ((p :: l).getLast (by simp)) q)
  | [], p, q => by simp [validFrom]
  | a :: l, p, q => by
    have := validFrom_snoc l a q
    simp only [List.cons_append, validFrom, this, Bool.and_assoc]
    rfl

end Go.Proofs.Ytllenmkmompjpaa
