/- EvalConstraint, the program's and the reference's: l1True, l1Eval, holds. -/
import Derived.Test.YtbpkpcfhmglddaaTot
namespace Go.Proofs.Ytbpkpcfhmglddaa
open Go.RowKit

/-- a literal under values -/
def litV (vs : List Bool) (l : Int) : Bool := vs.getD (absI l - 1).toNat false == decide (0 < l)
def sumV (vs : List Bool) (ts : List Tm) : Int := (ts.map fun t => if litV vs t.2 = true then t.1 else 0).sum
def evB (ts : List Tm) (bd : Int) (vs : List Bool) : Bool := cvB ts bd && (decide (vs.length = 12) && decide (bd ≤ sumV vs ts))
theorem sumV_snoc (vs : List Bool) (ts : List Tm) (t : Tm) : sumV vs (ts ++ [t]) = sumV vs ts + (if litV vs t.2 = true then t.1 else 0) := by simp [sumV]

theorem litV_pos (vs : List Bool) (m : Nat) (b : Bool) (h : vs[m]? = some b) : litV vs ((m : Int) + 1) = b := by
  unfold litV absI
  rw [if_neg (by omega), show ((m : Int) + 1 - 1).toNat = m from by omega, decide_eq_true (by omega : (0:Int) < (m:Int) + 1), List.getD_eq_getElem?_getD, h]
  cases b <;> rfl
theorem litV_neg (vs : List Bool) (m : Nat) (b : Bool) (h : vs[m]? = some b) : litV vs (-((m : Int) + 1)) = !b := by
  unfold litV absI
  rw [if_pos (by omega), show (- -((m : Int) + 1) - 1).toNat = m from by omega, decide_eq_false (by omega : ¬ (0:Int) < -((m:Int) + 1)), List.getD_eq_getElem?_getD, h]
  cases b <;> rfl
theorem lit_cases {l : Int} (h : litB l = true) : ∃ m : Nat, m < 12 ∧ (l = (m : Int) + 1 ∨ l = -((m : Int) + 1)) := by
  rw [litB_iff] at h
  rcases Int.lt_or_le 0 l with h0 | h0
  · exact ⟨(l - 1).toNat, by omega, .inl (by omega)⟩
  · exact ⟨(-l - 1).toNat, by omega, .inr (by omega)⟩







end Go.Proofs.Ytbpkpcfhmglddaa
