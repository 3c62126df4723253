/- SatisfiesAll, the program's and the reference's: l3All, satisfies. -/
import Derived.Test.YtbpkpcfhmglddaaProbV
import Derived.Test.YtbpkpcfhmglddaaEval
namespace Go.Proofs.Ytbpkpcfhmglddaa
open Go.RowKit

def holdC (vs : List Bool) (c : Cn) : Bool := decide (c.2 ≤ sumV vs c.1)
def saB (cs : List Cn) (vs : List Bool) : Bool := probB cs && (decide (vs.length = 12) && cs.all (holdC vs))
theorem probB_all {cs : List Cn} (h : probB cs = true) : cs.all cvC = true := by
  unfold probB at h; rw [Bool.and_eq_true] at h; exact h.2
theorem probB_le {cs : List Cn} (h : probB cs = true) : cs.length ≤ 400 := by
  unfold probB at h; rw [Bool.and_eq_true] at h; exact of_decide_eq_true h.1





end Go.Proofs.Ytbpkpcfhmglddaa
