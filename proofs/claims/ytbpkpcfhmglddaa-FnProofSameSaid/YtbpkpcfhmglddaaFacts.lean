/- Facts of the seat's whole program, each a declaration of its own: at a great seat one declaration with all of them outgrows Lean's memory. -/
import Derived.Test.YtbpkpcfhmglddaaOpen
namespace Go.Proofs.Ytbpkpcfhmglddaa
open Go.RowKit

theorem and2 {a b : Bool} (h1 : a = true) (h2 : b = true) : (a && b) = true := by rw [h1, h2]; rfl
def blankRow : OpenClaim := { program := "", sum := "", func := "", spec := "" }
theorem jEnter : Try.pinned.checked.prog.mayEnter = true := by kernel_rfl
theorem jLift : (blankRow.lifted == Try.pinned.checked.prog.liftsFinal) = true := by kernel_rfl
theorem jMake : (Try.pinned.checked.prog.make == some blankRow.make) = true := by kernel_rfl
theorem jOwn : ownKnob Try.prog.godebug = none := by kernel_rfl
theorem jLaid : laidOutB Try.prog = true := by kernel_rfl
end Go.Proofs.Ytbpkpcfhmglddaa
