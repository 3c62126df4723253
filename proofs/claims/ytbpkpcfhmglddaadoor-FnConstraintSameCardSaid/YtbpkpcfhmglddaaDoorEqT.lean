/- Contracts of the law's own comparisons of terms and constraints: eqTerm, eqTermS, eqConstraint. -/
import Derived.Test.YtbpkpcfhmglddaaDoorMemB
import Derived.Deep.RegionHeld3
namespace Go.Proofs.YtbpkpcfhmglddaaDoor
open Go.RowKit

def tmEq (t u : Tm) : Bool := decide (t = u)

theorem dec_drop {α : Type} [DecidableEq α] (xs ys : List α) (k : Nat) (x y : α) (hx : xs[k]? = some x) (hy : ys[k]? = some y) (h : decide (xs = ys) = decide (xs.drop k = ys.drop k)) :
    (x = y → decide (xs = ys) = decide (xs.drop (k + 1) = ys.drop (k + 1))) ∧ (x ≠ y → decide (xs = ys) = false) := by
  rw [drop_of_get xs k x hx, drop_of_get ys k y hy] at h
  constructor
  · rintro rfl; rw [h]; simp
  · intro hne; rw [h]; simp [hne]

def cEq (ts us : List Tm) (b b' : Int) : Bool := decide (ts = us ∧ b = b')

theorem cEq_self (ts : List Tm) (b : Int) : cEq ts ts b b = true := by simp [cEq]

end Go.Proofs.YtbpkpcfhmglddaaDoor
