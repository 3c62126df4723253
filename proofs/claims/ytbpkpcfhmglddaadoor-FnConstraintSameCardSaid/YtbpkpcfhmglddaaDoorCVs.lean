/- The contract of the reference's ConstraintValid. -/
import Derived.Test.YtbpkpcfhmglddaaDoorCV
import Derived.IntWalk
namespace Go.Proofs.YtbpkpcfhmglddaaDoor
open Go.RowKit

/-- the variable of the last of the first k terms, 0 if there is none -/
def lastV (ts : List Tm) : Nat → Int
  | 0 => 0
  | k + 1 => match ts[k]? with
    | some t => absI t.2
    | none => 0

theorem lastV_succ (ts : List Tm) (k : Nat) (t : Tm) (h : ts[k]? = some t) : lastV ts (k + 1) = absI t.2 := by simp [lastV, h]
end Go.Proofs.YtbpkpcfhmglddaaDoor
