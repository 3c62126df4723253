/-
  No cell of these rows narrows 'for every input' (looked for: loops, veiled, ifaces, maps, wideKeys, modest, calm, conditions, laid).
  DERIVED. THE GIVEN ROWS OF THIS SEAT. 12 by the template 'for every input the law returns true; each argument reads behind the call as it read before'; 0 by the template 'total and deterministic' (their statements: YtnadpcjioakoiaaTotals.lean).
  GIVEN WITH THE SEED: the statements are not yours to turn. If you find one false, say at which input.
  Laid BY PROGRAM, IN A SANDBOX (cutbox-rows.mjs): the forced cells as the released guide's own fill.sh prints them over the translation 53caa86c201a98d6… (all of the seat's roots in one cut). By AI agents, Wed Nov 11 2026. No macro, syntax, notation, axiom, sorry.
-/
import Derived.Test.YtnadpcjioakoiaaChecked
import GoSem.Claim
import GoSem.ClaimJoined
import GoSem.ClaimMapViews
import Derived.JoinedTies
import Derived.KernelRfl
namespace Go.Proofs.Ytnadpcjioakoiaa
/- THE CELL 'sum', in the pinned program and in every row, IS THE sha256 OF THE DUMP (.gsa) THAT YtnadpcjioakoiaaProg.lean LOADS. Nothing in Lean hashes anything: it is a label: what it is worth is what the hold of that sum in a sandbox is worth. -/
noncomputable def Try.pinned : Pinned := { name := "ytnadpcjioakoiaa", sum := "53caa86c201a98d69a018c03062ed6b4bf70dc3bde50b1b1537355aa57aae7c9", checked := Try.checked }
namespace Rows
def none {H : Type} : Left H := { results := [], args := [] }

/-- 'laws.FnExactProofSame': WHATEVER THE INPUT: true; the input reads as it did. -/
def fnExactProofSameSpec : ChangeSpec := { name := "fnExactProofSame", fn := fun _ => fun
  | [d1, d2] => { results := [.lit (.bool true)], args := [d1, d2] }
  | _ => none }
def fnExactProofSameRow : OpenClaim := { program := "ytnadpcjioakoiaa", sum := "53caa86c201a98d69a018c03062ed6b4bf70dc3bde50b1b1537355aa57aae7c9", func := "loop.example/cuttingplanes/laws.FnExactProofSame", spec := "fnExactProofSame", unfollowed := true, recurses := true, apart := false }
def FnExactProofSameSaid : Prop := fnExactProofSameRow.holds Try.pinned (OpenSpec.ofChange fnExactProofSameSpec)

/-- ITS FALSE NEIGHBOUR: 'it returns false'. Refute it at one input. -/
def fnExactProofSameWrong : ChangeSpec := { name := "fnExactProofSame", fn := fun _ => fun
  | [d1, d2] => { results := [.lit (.bool false)], args := [d1, d2] }
  | _ => none }
def FnExactProofSameWrongFalsely : Prop := fnExactProofSameRow.holds Try.pinned (OpenSpec.ofChange fnExactProofSameWrong)

/-- 'laws.FnExactNormalForm': WHATEVER THE INPUT: true; the input reads as it did. -/
def fnExactNormalFormSpec : ChangeSpec := { name := "fnExactNormalForm", fn := fun _ => fun
  | [d1, d2] => { results := [.lit (.bool true)], args := [d1, d2] }
  | _ => none }
def fnExactNormalFormRow : OpenClaim := { program := "ytnadpcjioakoiaa", sum := "53caa86c201a98d69a018c03062ed6b4bf70dc3bde50b1b1537355aa57aae7c9", func := "loop.example/cuttingplanes/laws.FnExactNormalForm", spec := "fnExactNormalForm", apart := false }
def FnExactNormalFormSaid : Prop := fnExactNormalFormRow.holds Try.pinned (OpenSpec.ofChange fnExactNormalFormSpec)

/-- ITS FALSE NEIGHBOUR: 'it returns false'. Refute it at one input. -/
def fnExactNormalFormWrong : ChangeSpec := { name := "fnExactNormalForm", fn := fun _ => fun
  | [d1, d2] => { results := [.lit (.bool false)], args := [d1, d2] }
  | _ => none }
def FnExactNormalFormWrongFalsely : Prop := fnExactNormalFormRow.holds Try.pinned (OpenSpec.ofChange fnExactNormalFormWrong)

/-- 'laws.FnExactSatisfiesAll': WHATEVER THE INPUT: true; the input reads as it did. -/
def fnExactSatisfiesAllSpec : ChangeSpec := { name := "fnExactSatisfiesAll", fn := fun _ => fun
  | [d1, d2] => { results := [.lit (.bool true)], args := [d1, d2] }
  | _ => none }
def fnExactSatisfiesAllRow : OpenClaim := { program := "ytnadpcjioakoiaa", sum := "53caa86c201a98d69a018c03062ed6b4bf70dc3bde50b1b1537355aa57aae7c9", func := "loop.example/cuttingplanes/laws.FnExactSatisfiesAll", spec := "fnExactSatisfiesAll", unfollowed := true, recurses := true, apart := false }
def FnExactSatisfiesAllSaid : Prop := fnExactSatisfiesAllRow.holds Try.pinned (OpenSpec.ofChange fnExactSatisfiesAllSpec)

/-- ITS FALSE NEIGHBOUR: 'it returns false'. Refute it at one input. -/
def fnExactSatisfiesAllWrong : ChangeSpec := { name := "fnExactSatisfiesAll", fn := fun _ => fun
  | [d1, d2] => { results := [.lit (.bool false)], args := [d1, d2] }
  | _ => none }
def FnExactSatisfiesAllWrongFalsely : Prop := fnExactSatisfiesAllRow.holds Try.pinned (OpenSpec.ofChange fnExactSatisfiesAllWrong)

/-- 'laws.FnExactModelSame': WHATEVER THE INPUT: true; the input reads as it did. -/
def fnExactModelSameSpec : ChangeSpec := { name := "fnExactModelSame", fn := fun _ => fun
  | [d1, d2] => { results := [.lit (.bool true)], args := [d1, d2] }
  | _ => none }
def fnExactModelSameRow : OpenClaim := { program := "ytnadpcjioakoiaa", sum := "53caa86c201a98d69a018c03062ed6b4bf70dc3bde50b1b1537355aa57aae7c9", func := "loop.example/cuttingplanes/laws.FnExactModelSame", spec := "fnExactModelSame", unfollowed := true, recurses := true, apart := false }
def FnExactModelSameSaid : Prop := fnExactModelSameRow.holds Try.pinned (OpenSpec.ofChange fnExactModelSameSpec)

/-- ITS FALSE NEIGHBOUR: 'it returns false'. Refute it at one input. -/
def fnExactModelSameWrong : ChangeSpec := { name := "fnExactModelSame", fn := fun _ => fun
  | [d1, d2] => { results := [.lit (.bool false)], args := [d1, d2] }
  | _ => none }
def FnExactModelSameWrongFalsely : Prop := fnExactModelSameRow.holds Try.pinned (OpenSpec.ofChange fnExactModelSameWrong)

/-- 'laws.FnExactCountSolutions': WHATEVER THE INPUT: true; the input reads as it did. -/
def fnExactCountSolutionsSpec : ChangeSpec := { name := "fnExactCountSolutions", fn := fun _ => fun
  | [d] => { results := [.lit (.bool true)], args := [d] }
  | _ => none }
def fnExactCountSolutionsRow : OpenClaim := { program := "ytnadpcjioakoiaa", sum := "53caa86c201a98d69a018c03062ed6b4bf70dc3bde50b1b1537355aa57aae7c9", func := "loop.example/cuttingplanes/laws.FnExactCountSolutions", spec := "fnExactCountSolutions", unfollowed := true, recurses := true, apart := false }
def FnExactCountSolutionsSaid : Prop := fnExactCountSolutionsRow.holds Try.pinned (OpenSpec.ofChange fnExactCountSolutionsSpec)

/-- ITS FALSE NEIGHBOUR: 'it returns false'. Refute it at one input. -/
def fnExactCountSolutionsWrong : ChangeSpec := { name := "fnExactCountSolutions", fn := fun _ => fun
  | [d] => { results := [.lit (.bool false)], args := [d] }
  | _ => none }
def FnExactCountSolutionsWrongFalsely : Prop := fnExactCountSolutionsRow.holds Try.pinned (OpenSpec.ofChange fnExactCountSolutionsWrong)

/-- 'laws.FnExactAddConstraints': WHATEVER THE INPUT: true; the input reads as it did. -/
def fnExactAddConstraintsSpec : ChangeSpec := { name := "fnExactAddConstraints", fn := fun _ => fun
  | [d1, d2] => { results := [.lit (.bool true)], args := [d1, d2] }
  | _ => none }
def fnExactAddConstraintsRow : OpenClaim := { program := "ytnadpcjioakoiaa", sum := "53caa86c201a98d69a018c03062ed6b4bf70dc3bde50b1b1537355aa57aae7c9", func := "loop.example/cuttingplanes/laws.FnExactAddConstraints", spec := "fnExactAddConstraints", apart := false }
def FnExactAddConstraintsSaid : Prop := fnExactAddConstraintsRow.holds Try.pinned (OpenSpec.ofChange fnExactAddConstraintsSpec)

/-- ITS FALSE NEIGHBOUR: 'it returns false'. Refute it at one input. -/
def fnExactAddConstraintsWrong : ChangeSpec := { name := "fnExactAddConstraints", fn := fun _ => fun
  | [d1, d2] => { results := [.lit (.bool false)], args := [d1, d2] }
  | _ => none }
def FnExactAddConstraintsWrongFalsely : Prop := fnExactAddConstraintsRow.holds Try.pinned (OpenSpec.ofChange fnExactAddConstraintsWrong)

/-- 'laws.FnExactImpliedLiterals': WHATEVER THE INPUT: true; the input reads as it did. -/
def fnExactImpliedLiteralsSpec : ChangeSpec := { name := "fnExactImpliedLiterals", fn := fun _ => fun
  | [d1, d2] => { results := [.lit (.bool true)], args := [d1, d2] }
  | _ => none }
def fnExactImpliedLiteralsRow : OpenClaim := { program := "ytnadpcjioakoiaa", sum := "53caa86c201a98d69a018c03062ed6b4bf70dc3bde50b1b1537355aa57aae7c9", func := "loop.example/cuttingplanes/laws.FnExactImpliedLiterals", spec := "fnExactImpliedLiterals", unfollowed := true, recurses := true, apart := false }
def FnExactImpliedLiteralsSaid : Prop := fnExactImpliedLiteralsRow.holds Try.pinned (OpenSpec.ofChange fnExactImpliedLiteralsSpec)

/-- ITS FALSE NEIGHBOUR: 'it returns false'. Refute it at one input. -/
def fnExactImpliedLiteralsWrong : ChangeSpec := { name := "fnExactImpliedLiterals", fn := fun _ => fun
  | [d1, d2] => { results := [.lit (.bool false)], args := [d1, d2] }
  | _ => none }
def FnExactImpliedLiteralsWrongFalsely : Prop := fnExactImpliedLiteralsRow.holds Try.pinned (OpenSpec.ofChange fnExactImpliedLiteralsWrong)

/-- 'laws.FnExactModelValid': WHATEVER THE INPUT: true; the input reads as it did. -/
def fnExactModelValidSpec : ChangeSpec := { name := "fnExactModelValid", fn := fun _ => fun
  | [d] => { results := [.lit (.bool true)], args := [d] }
  | _ => none }
def fnExactModelValidRow : OpenClaim := { program := "ytnadpcjioakoiaa", sum := "53caa86c201a98d69a018c03062ed6b4bf70dc3bde50b1b1537355aa57aae7c9", func := "loop.example/cuttingplanes/laws.FnExactModelValid", spec := "fnExactModelValid", unfollowed := true, recurses := true, apart := false }
def FnExactModelValidSaid : Prop := fnExactModelValidRow.holds Try.pinned (OpenSpec.ofChange fnExactModelValidSpec)

/-- ITS FALSE NEIGHBOUR: 'it returns false'. Refute it at one input. -/
def fnExactModelValidWrong : ChangeSpec := { name := "fnExactModelValid", fn := fun _ => fun
  | [d] => { results := [.lit (.bool false)], args := [d] }
  | _ => none }
def FnExactModelValidWrongFalsely : Prop := fnExactModelValidRow.holds Try.pinned (OpenSpec.ofChange fnExactModelValidWrong)

/-- 'laws.FnExactNextSolution': WHATEVER THE INPUT: true; the input reads as it did. -/
def fnExactNextSolutionSpec : ChangeSpec := { name := "fnExactNextSolution", fn := fun _ => fun
  | [d1, d2] => { results := [.lit (.bool true)], args := [d1, d2] }
  | _ => none }
def fnExactNextSolutionRow : OpenClaim := { program := "ytnadpcjioakoiaa", sum := "53caa86c201a98d69a018c03062ed6b4bf70dc3bde50b1b1537355aa57aae7c9", func := "loop.example/cuttingplanes/laws.FnExactNextSolution", spec := "fnExactNextSolution", unfollowed := true, recurses := true, apart := false }
def FnExactNextSolutionSaid : Prop := fnExactNextSolutionRow.holds Try.pinned (OpenSpec.ofChange fnExactNextSolutionSpec)

/-- ITS FALSE NEIGHBOUR: 'it returns false'. Refute it at one input. -/
def fnExactNextSolutionWrong : ChangeSpec := { name := "fnExactNextSolution", fn := fun _ => fun
  | [d1, d2] => { results := [.lit (.bool false)], args := [d1, d2] }
  | _ => none }
def FnExactNextSolutionWrongFalsely : Prop := fnExactNextSolutionRow.holds Try.pinned (OpenSpec.ofChange fnExactNextSolutionWrong)

/-- 'laws.FnExactRupConstraint': WHATEVER THE INPUT: true; the input reads as it did. -/
def fnExactRupConstraintSpec : ChangeSpec := { name := "fnExactRupConstraint", fn := fun _ => fun
  | [d1, d2] => { results := [.lit (.bool true)], args := [d1, d2] }
  | _ => none }
def fnExactRupConstraintRow : OpenClaim := { program := "ytnadpcjioakoiaa", sum := "53caa86c201a98d69a018c03062ed6b4bf70dc3bde50b1b1537355aa57aae7c9", func := "loop.example/cuttingplanes/laws.FnExactRupConstraint", spec := "fnExactRupConstraint", unfollowed := true, recurses := true, apart := false }
def FnExactRupConstraintSaid : Prop := fnExactRupConstraintRow.holds Try.pinned (OpenSpec.ofChange fnExactRupConstraintSpec)

/-- ITS FALSE NEIGHBOUR: 'it returns false'. Refute it at one input. -/
def fnExactRupConstraintWrong : ChangeSpec := { name := "fnExactRupConstraint", fn := fun _ => fun
  | [d1, d2] => { results := [.lit (.bool false)], args := [d1, d2] }
  | _ => none }
def FnExactRupConstraintWrongFalsely : Prop := fnExactRupConstraintRow.holds Try.pinned (OpenSpec.ofChange fnExactRupConstraintWrong)

/-- 'laws.FnExactCellsValid': WHATEVER THE INPUT: true; the input reads as it did. -/
def fnExactCellsValidSpec : ChangeSpec := { name := "fnExactCellsValid", fn := fun _ => fun
  | [d1, d2] => { results := [.lit (.bool true)], args := [d1, d2] }
  | _ => none }
def fnExactCellsValidRow : OpenClaim := { program := "ytnadpcjioakoiaa", sum := "53caa86c201a98d69a018c03062ed6b4bf70dc3bde50b1b1537355aa57aae7c9", func := "loop.example/cuttingplanes/laws.FnExactCellsValid", spec := "fnExactCellsValid", unfollowed := true, recurses := true, apart := false }
def FnExactCellsValidSaid : Prop := fnExactCellsValidRow.holds Try.pinned (OpenSpec.ofChange fnExactCellsValidSpec)

/-- ITS FALSE NEIGHBOUR: 'it returns false'. Refute it at one input. -/
def fnExactCellsValidWrong : ChangeSpec := { name := "fnExactCellsValid", fn := fun _ => fun
  | [d1, d2] => { results := [.lit (.bool false)], args := [d1, d2] }
  | _ => none }
def FnExactCellsValidWrongFalsely : Prop := fnExactCellsValidRow.holds Try.pinned (OpenSpec.ofChange fnExactCellsValidWrong)

/-- 'laws.FnExactPropagate': WHATEVER THE INPUT: true; the input reads as it did. -/
def fnExactPropagateSpec : ChangeSpec := { name := "fnExactPropagate", fn := fun _ => fun
  | [d1, d2] => { results := [.lit (.bool true)], args := [d1, d2] }
  | _ => none }
def fnExactPropagateRow : OpenClaim := { program := "ytnadpcjioakoiaa", sum := "53caa86c201a98d69a018c03062ed6b4bf70dc3bde50b1b1537355aa57aae7c9", func := "loop.example/cuttingplanes/laws.FnExactPropagate", spec := "fnExactPropagate", unfollowed := true, recurses := true, apart := false }
def FnExactPropagateSaid : Prop := fnExactPropagateRow.holds Try.pinned (OpenSpec.ofChange fnExactPropagateSpec)

/-- ITS FALSE NEIGHBOUR: 'it returns false'. Refute it at one input. -/
def fnExactPropagateWrong : ChangeSpec := { name := "fnExactPropagate", fn := fun _ => fun
  | [d1, d2] => { results := [.lit (.bool false)], args := [d1, d2] }
  | _ => none }
def FnExactPropagateWrongFalsely : Prop := fnExactPropagateRow.holds Try.pinned (OpenSpec.ofChange fnExactPropagateWrong)

/- THE SECOND FORM. 'bulk': how many values and letters a reading holds, each counted each time it is reached (what is shared counts as often as it is met; a slice's spare places count too). A statement '..UptoSaid' is the law's where the arguments, and the package variables that the reading takes, are together of bulk at most 1048576: NARROWER than '..Said'. Prove '..Said' where nothing that the law and all that it calls make is longer than what came in: it says more and counts as full. Else prove '..UptoSaid'. A law counts once. -/
mutual
def uptoBulk {H : Type} : DataW H → Nat
  | .lit (.string bytes) => bytes.length + 1
  | .lit _ => 1
  | .nil => 1
  | .ptr d => uptoBulk d + 1
  | .slice elems spare => uptoBulkAll elems + uptoBulkAll spare + 1
  | .agg parts => uptoBulkAll parts + 1
  | .iface _ d => uptoBulk d + 1
  | .map entries => uptoBulkEntries entries + 1
  | .held _ => 1
def uptoBulkAll {H : Type} : List (DataW H) → Nat
  | [] => 0
  | d :: r => uptoBulk d + uptoBulkAll r
def uptoBulkEntries {H : Type} : List (Lit × DataW H) → Nat
  | [] => 0
  | x :: r => uptoBulkEntry x + uptoBulkEntries r
def uptoBulkEntry {H : Type} : Lit × DataW H → Nat
  | (.string bytes, d) => bytes.length + uptoBulk d + 1
  | (_, d) => uptoBulk d + 1
 end
def uptoSmall : (H : Type) → List (DataW H) → Bool := fun _ ds => decide (uptoBulkAll ds ≤ 1048576)
def OpenSpec.upto (s : _root_.Go.ChangeSpec) : _root_.Go.OpenSpec := { _root_.Go.OpenSpec.ofChange s with cond := some uptoSmall }

/-- 'laws.FnExactProofSame', WHERE WHAT IT READS IS OF BULK AT MOST 1048576: true; the input reads as it did. -/
def fnExactProofSameUptoRow : OpenClaim := { program := "ytnadpcjioakoiaa", sum := "53caa86c201a98d69a018c03062ed6b4bf70dc3bde50b1b1537355aa57aae7c9", func := "loop.example/cuttingplanes/laws.FnExactProofSame", spec := "fnExactProofSame", unfollowed := true, recurses := true, apart := false, narrowed := true }
def FnExactProofSameUptoSaid : Prop := fnExactProofSameUptoRow.holds Try.pinned (OpenSpec.upto fnExactProofSameSpec)

/-- 'laws.FnExactNormalForm', WHERE WHAT IT READS IS OF BULK AT MOST 1048576: true; the input reads as it did. -/
def fnExactNormalFormUptoRow : OpenClaim := { program := "ytnadpcjioakoiaa", sum := "53caa86c201a98d69a018c03062ed6b4bf70dc3bde50b1b1537355aa57aae7c9", func := "loop.example/cuttingplanes/laws.FnExactNormalForm", spec := "fnExactNormalForm", apart := false, narrowed := true }
def FnExactNormalFormUptoSaid : Prop := fnExactNormalFormUptoRow.holds Try.pinned (OpenSpec.upto fnExactNormalFormSpec)

/-- 'laws.FnExactSatisfiesAll', WHERE WHAT IT READS IS OF BULK AT MOST 1048576: true; the input reads as it did. -/
def fnExactSatisfiesAllUptoRow : OpenClaim := { program := "ytnadpcjioakoiaa", sum := "53caa86c201a98d69a018c03062ed6b4bf70dc3bde50b1b1537355aa57aae7c9", func := "loop.example/cuttingplanes/laws.FnExactSatisfiesAll", spec := "fnExactSatisfiesAll", unfollowed := true, recurses := true, apart := false, narrowed := true }
def FnExactSatisfiesAllUptoSaid : Prop := fnExactSatisfiesAllUptoRow.holds Try.pinned (OpenSpec.upto fnExactSatisfiesAllSpec)

/-- 'laws.FnExactModelSame', WHERE WHAT IT READS IS OF BULK AT MOST 1048576: true; the input reads as it did. -/
def fnExactModelSameUptoRow : OpenClaim := { program := "ytnadpcjioakoiaa", sum := "53caa86c201a98d69a018c03062ed6b4bf70dc3bde50b1b1537355aa57aae7c9", func := "loop.example/cuttingplanes/laws.FnExactModelSame", spec := "fnExactModelSame", unfollowed := true, recurses := true, apart := false, narrowed := true }
def FnExactModelSameUptoSaid : Prop := fnExactModelSameUptoRow.holds Try.pinned (OpenSpec.upto fnExactModelSameSpec)

/-- 'laws.FnExactCountSolutions', WHERE WHAT IT READS IS OF BULK AT MOST 1048576: true; the input reads as it did. -/
def fnExactCountSolutionsUptoRow : OpenClaim := { program := "ytnadpcjioakoiaa", sum := "53caa86c201a98d69a018c03062ed6b4bf70dc3bde50b1b1537355aa57aae7c9", func := "loop.example/cuttingplanes/laws.FnExactCountSolutions", spec := "fnExactCountSolutions", unfollowed := true, recurses := true, apart := false, narrowed := true }
def FnExactCountSolutionsUptoSaid : Prop := fnExactCountSolutionsUptoRow.holds Try.pinned (OpenSpec.upto fnExactCountSolutionsSpec)

/-- 'laws.FnExactAddConstraints', WHERE WHAT IT READS IS OF BULK AT MOST 1048576: true; the input reads as it did. -/
def fnExactAddConstraintsUptoRow : OpenClaim := { program := "ytnadpcjioakoiaa", sum := "53caa86c201a98d69a018c03062ed6b4bf70dc3bde50b1b1537355aa57aae7c9", func := "loop.example/cuttingplanes/laws.FnExactAddConstraints", spec := "fnExactAddConstraints", apart := false, narrowed := true }
def FnExactAddConstraintsUptoSaid : Prop := fnExactAddConstraintsUptoRow.holds Try.pinned (OpenSpec.upto fnExactAddConstraintsSpec)

/-- 'laws.FnExactImpliedLiterals', WHERE WHAT IT READS IS OF BULK AT MOST 1048576: true; the input reads as it did. -/
def fnExactImpliedLiteralsUptoRow : OpenClaim := { program := "ytnadpcjioakoiaa", sum := "53caa86c201a98d69a018c03062ed6b4bf70dc3bde50b1b1537355aa57aae7c9", func := "loop.example/cuttingplanes/laws.FnExactImpliedLiterals", spec := "fnExactImpliedLiterals", unfollowed := true, recurses := true, apart := false, narrowed := true }
def FnExactImpliedLiteralsUptoSaid : Prop := fnExactImpliedLiteralsUptoRow.holds Try.pinned (OpenSpec.upto fnExactImpliedLiteralsSpec)

/-- 'laws.FnExactModelValid', WHERE WHAT IT READS IS OF BULK AT MOST 1048576: true; the input reads as it did. -/
def fnExactModelValidUptoRow : OpenClaim := { program := "ytnadpcjioakoiaa", sum := "53caa86c201a98d69a018c03062ed6b4bf70dc3bde50b1b1537355aa57aae7c9", func := "loop.example/cuttingplanes/laws.FnExactModelValid", spec := "fnExactModelValid", unfollowed := true, recurses := true, apart := false, narrowed := true }
def FnExactModelValidUptoSaid : Prop := fnExactModelValidUptoRow.holds Try.pinned (OpenSpec.upto fnExactModelValidSpec)

/-- 'laws.FnExactNextSolution', WHERE WHAT IT READS IS OF BULK AT MOST 1048576: true; the input reads as it did. -/
def fnExactNextSolutionUptoRow : OpenClaim := { program := "ytnadpcjioakoiaa", sum := "53caa86c201a98d69a018c03062ed6b4bf70dc3bde50b1b1537355aa57aae7c9", func := "loop.example/cuttingplanes/laws.FnExactNextSolution", spec := "fnExactNextSolution", unfollowed := true, recurses := true, apart := false, narrowed := true }
def FnExactNextSolutionUptoSaid : Prop := fnExactNextSolutionUptoRow.holds Try.pinned (OpenSpec.upto fnExactNextSolutionSpec)

/-- 'laws.FnExactRupConstraint', WHERE WHAT IT READS IS OF BULK AT MOST 1048576: true; the input reads as it did. -/
def fnExactRupConstraintUptoRow : OpenClaim := { program := "ytnadpcjioakoiaa", sum := "53caa86c201a98d69a018c03062ed6b4bf70dc3bde50b1b1537355aa57aae7c9", func := "loop.example/cuttingplanes/laws.FnExactRupConstraint", spec := "fnExactRupConstraint", unfollowed := true, recurses := true, apart := false, narrowed := true }
def FnExactRupConstraintUptoSaid : Prop := fnExactRupConstraintUptoRow.holds Try.pinned (OpenSpec.upto fnExactRupConstraintSpec)

/-- 'laws.FnExactCellsValid', WHERE WHAT IT READS IS OF BULK AT MOST 1048576: true; the input reads as it did. -/
def fnExactCellsValidUptoRow : OpenClaim := { program := "ytnadpcjioakoiaa", sum := "53caa86c201a98d69a018c03062ed6b4bf70dc3bde50b1b1537355aa57aae7c9", func := "loop.example/cuttingplanes/laws.FnExactCellsValid", spec := "fnExactCellsValid", unfollowed := true, recurses := true, apart := false, narrowed := true }
def FnExactCellsValidUptoSaid : Prop := fnExactCellsValidUptoRow.holds Try.pinned (OpenSpec.upto fnExactCellsValidSpec)

/-- 'laws.FnExactPropagate', WHERE WHAT IT READS IS OF BULK AT MOST 1048576: true; the input reads as it did. -/
def fnExactPropagateUptoRow : OpenClaim := { program := "ytnadpcjioakoiaa", sum := "53caa86c201a98d69a018c03062ed6b4bf70dc3bde50b1b1537355aa57aae7c9", func := "loop.example/cuttingplanes/laws.FnExactPropagate", spec := "fnExactPropagate", unfollowed := true, recurses := true, apart := false, narrowed := true }
def FnExactPropagateUptoSaid : Prop := fnExactPropagateUptoRow.holds Try.pinned (OpenSpec.upto fnExactPropagateSpec)

end Rows
end Go.Proofs.Ytnadpcjioakoiaa
