/- The premise of the laws on step functions: at most 24 steps, valid. No condition. -/
import Derived.Test.YtllenmkmompjpaaPlainFun
namespace Go.Proofs.Ytllenmkmompjpaa
open Go.RowKit
def fineB (n : Nat) (l : List (Int × Int)) : Bool := decide (n ≤ 24) && svalid l
theorem fineB_yes {n : Nat} {l : List (Int × Int)} (h : fineB n l = true) : n ≤ 24 ∧ svalid l = true := by unfold fineB at h; simpa using h
set_option maxHeartbeats 1000000 in
theorem fine_any (A : Option Addr) (n c : Nat) (l : List (Int × Int)) (w : World) (ha : Rd e2 2 w w.heap.size A n l) :
    Calls Try.prog 15 #[.slice A n c] w fun e w' => e = .returned (.bool (fineB n l)) ∧ Gr w w' := by
  by_cases hn : n ≤ 24
  · have hv := svalid_ref A n c l w ha (by omega)
    have HF := Lib.hid (show fineB n l = svalid l by unfold fineB; simp [hn])
    have hd : decide ((n : Int) ≤ 24) = true := by simp; omega
    generalize svalid l = b at hv HF
    generalize fineB n l = r at HF ⊢
    go_enter Try.func15, Try.ntmps15
    go_wp2_with fail
    refine hv.mono ?_
    rintro e w1 ⟨rfl, hg1⟩
    clear hv
    go_wp2_with fail
    go_ret
    exact ⟨by rw [HF.out]; rfl, hg1⟩
  · have HF := Lib.hid (show fineB n l = false by unfold fineB; simp; intro h; omega)
    have hd : decide ((n : Int) ≤ 24) = false := by simp; omega
    generalize fineB n l = r at HF ⊢
    go_enter Try.func15, Try.ntmps15
    go_wp2_with fail
    go_ret
    exact ⟨by rw [HF.out]; rfl, Gr.refl _⟩
theorem pts_len (a b : List (Int × Int)) : (pts a b).length ≤ a.length + b.length := by
  unfold pts
  have h1 := insAll_len (b.map (·.1)) (insAll [] (a.map (·.1)))
  have h2 := insAll_len (a.map (·.1)) []
  simp at h1 h2
  omega
theorem comb_len (a b : List (Int × Int)) (f : Int → Int) : (combS f (pts a b)).length ≤ a.length + b.length := by
  have h1 := combS_len f (pts a b)
  have h2 := pts_len a b
  omega
theorem ofFold_len : ∀ (l : List ((Int × Int) × Int)) (p : List Int), (l.foldl ofStep p).length ≤ p.length + 2 * l.length
  | [], p => by simp
  | c :: l, p => by
    have h1 := ofFold_len l (ofStep p c)
    have h2 := ofStep_len p c
    simp only [List.foldl_cons, List.length_cons]
    omega
theorem takeWhile_len {α : Type} (q : α → Bool) : ∀ l : List α, (l.takeWhile q).length ≤ l.length
  | [] => by simp
  | a :: l => by
    have := takeWhile_len q l
    rw [List.takeWhile_cons]
    split <;> simp <;> omega
theorem ofPts_len (l : List ((Int × Int) × Int)) : (ofPts l).length ≤ 1 + 2 * l.length := by
  have h1 := ofFold_len l [0]
  have h2 := takeWhile_len (fun p => decide (p < (1099511627776 : Int))) (ofAll l)
  rw [← ofAll_eq] at h1
  unfold ofPts
  simp at h1
  omega
theorem decide_self (X : List (Int × Int)) : decide (X = X) = true := by simp
end Go.Proofs.Ytllenmkmompjpaa
