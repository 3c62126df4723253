/- Contracts of the law's own sizes: szTermS, szConstraint. -/
import Derived.Test.YtbpkpcfhmglddaaMemB
namespace Go.Proofs.Ytbpkpcfhmglddaa
open Go.RowKit

def szB (n left : Int) : Int := if left - n < 0 then -1 else left - n

theorem szB_le (n : Nat) (left : Int) (h : -1 ≤ left) : szB n left ≤ left := by unfold szB; split <;> omega
theorem szB_ge (n : Nat) (left : Int) (_h : -1 ≤ left) : -1 ≤ szB n left := by unfold szB; split <;> omega
theorem szB_small (n : Nat) (left : Int) (h : left ≤ 1048576) (hb : ¬ szB n left < 0) : n ≤ 1048576 := by
  unfold szB at hb
  split at hb
  · exact absurd (by omega : (-1 : Int) < 0) hb
  · omega
end Go.Proofs.Ytbpkpcfhmglddaa
