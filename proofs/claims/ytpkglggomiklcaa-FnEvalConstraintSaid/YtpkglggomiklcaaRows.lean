/-
  No cell of these rows narrows 'for every input' (looked for: loops, veiled, ifaces, maps, wideKeys, modest, calm, conditions, laid).
  DERIVED. THE GIVEN ROWS OF THIS SEAT. 12 by the template 'for every input the law returns true; each argument reads behind the call as it read before'; 0 by the template 'total and deterministic' (their statements: YtpkglggomiklcaaTotals.lean).
  GIVEN WITH THE SEED: the statements are not yours to turn. If you find one false, say at which input.
  Laid BY PROGRAM, IN A SANDBOX (cutbox-rows.mjs): the forced cells as the released guide's own fill.sh prints them over the translation 4af1b95c619aedde… (all of the seat's roots in one cut). By AI agents, Wed Nov 11 2026. No macro, syntax, notation, axiom, sorry.
-/
import Derived.Test.YtpkglggomiklcaaChecked
import GoSem.Claim
import GoSem.ClaimJoined
import GoSem.ClaimMapViews
import Derived.JoinedTies
import Derived.KernelRfl
namespace Go.Proofs.Ytpkglggomiklcaa
/- THE CELL 'sum', in the pinned program and in every row, IS THE sha256 OF THE DUMP (.gsa) THAT YtpkglggomiklcaaProg.lean LOADS. Nothing in Lean hashes anything: it is a label: what it is worth is what the hold of that sum in a sandbox is worth. -/
noncomputable def Try.pinned : Pinned := { name := "ytpkglggomiklcaa", sum := "4af1b95c619aedde8fd4931d5fec6d3c433eb6a979ea395e99369dfd1d5152bb", checked := Try.checked }
namespace Rows
def none {H : Type} : Left H := { results := [], args := [] }

/-- 'laws.FnExactCoversConstraint': WHATEVER THE INPUT: true; the input reads as it did. -/
def fnExactCoversConstraintSpec : ChangeSpec := { name := "fnExactCoversConstraint", fn := fun _ => fun
  | [d1, d2] => { results := [.lit (.bool true)], args := [d1, d2] }
  | _ => none }
def fnExactCoversConstraintRow : OpenClaim := { program := "ytpkglggomiklcaa", sum := "4af1b95c619aedde8fd4931d5fec6d3c433eb6a979ea395e99369dfd1d5152bb", func := "loop.example/cuttingplanes/laws.FnExactCoversConstraint", spec := "fnExactCoversConstraint", apart := false }
def FnExactCoversConstraintSaid : Prop := fnExactCoversConstraintRow.holds Try.pinned (OpenSpec.ofChange fnExactCoversConstraintSpec)

/-- ITS FALSE NEIGHBOUR: 'it returns false'. Refute it at one input. -/
def fnExactCoversConstraintWrong : ChangeSpec := { name := "fnExactCoversConstraint", fn := fun _ => fun
  | [d1, d2] => { results := [.lit (.bool false)], args := [d1, d2] }
  | _ => none }
def FnExactCoversConstraintWrongFalsely : Prop := fnExactCoversConstraintRow.holds Try.pinned (OpenSpec.ofChange fnExactCoversConstraintWrong)

/-- 'laws.FnExactEvalConstraint': WHATEVER THE INPUT: true; the input reads as it did. -/
def fnExactEvalConstraintSpec : ChangeSpec := { name := "fnExactEvalConstraint", fn := fun _ => fun
  | [d1, d2] => { results := [.lit (.bool true)], args := [d1, d2] }
  | _ => none }
def fnExactEvalConstraintRow : OpenClaim := { program := "ytpkglggomiklcaa", sum := "4af1b95c619aedde8fd4931d5fec6d3c433eb6a979ea395e99369dfd1d5152bb", func := "loop.example/cuttingplanes/laws.FnExactEvalConstraint", spec := "fnExactEvalConstraint", apart := false }
def FnExactEvalConstraintSaid : Prop := fnExactEvalConstraintRow.holds Try.pinned (OpenSpec.ofChange fnExactEvalConstraintSpec)

/-- ITS FALSE NEIGHBOUR: 'it returns false'. Refute it at one input. -/
def fnExactEvalConstraintWrong : ChangeSpec := { name := "fnExactEvalConstraint", fn := fun _ => fun
  | [d1, d2] => { results := [.lit (.bool false)], args := [d1, d2] }
  | _ => none }
def FnExactEvalConstraintWrongFalsely : Prop := fnExactEvalConstraintRow.holds Try.pinned (OpenSpec.ofChange fnExactEvalConstraintWrong)

/-- 'laws.FnExactProblemValid': WHATEVER THE INPUT: true; the input reads as it did. -/
def fnExactProblemValidSpec : ChangeSpec := { name := "fnExactProblemValid", fn := fun _ => fun
  | [d] => { results := [.lit (.bool true)], args := [d] }
  | _ => none }
def fnExactProblemValidRow : OpenClaim := { program := "ytpkglggomiklcaa", sum := "4af1b95c619aedde8fd4931d5fec6d3c433eb6a979ea395e99369dfd1d5152bb", func := "loop.example/cuttingplanes/laws.FnExactProblemValid", spec := "fnExactProblemValid", unfollowed := true, recurses := true, apart := false }
def FnExactProblemValidSaid : Prop := fnExactProblemValidRow.holds Try.pinned (OpenSpec.ofChange fnExactProblemValidSpec)

/-- ITS FALSE NEIGHBOUR: 'it returns false'. Refute it at one input. -/
def fnExactProblemValidWrong : ChangeSpec := { name := "fnExactProblemValid", fn := fun _ => fun
  | [d] => { results := [.lit (.bool false)], args := [d] }
  | _ => none }
def FnExactProblemValidWrongFalsely : Prop := fnExactProblemValidRow.holds Try.pinned (OpenSpec.ofChange fnExactProblemValidWrong)

/-- 'laws.FnExactClauseOf': WHATEVER THE INPUT: true; the input reads as it did. -/
def fnExactClauseOfSpec : ChangeSpec := { name := "fnExactClauseOf", fn := fun _ => fun
  | [d] => { results := [.lit (.bool true)], args := [d] }
  | _ => none }
def fnExactClauseOfRow : OpenClaim := { program := "ytpkglggomiklcaa", sum := "4af1b95c619aedde8fd4931d5fec6d3c433eb6a979ea395e99369dfd1d5152bb", func := "loop.example/cuttingplanes/laws.FnExactClauseOf", spec := "fnExactClauseOf", unfollowed := true, recurses := true, apart := false }
def FnExactClauseOfSaid : Prop := fnExactClauseOfRow.holds Try.pinned (OpenSpec.ofChange fnExactClauseOfSpec)

/-- ITS FALSE NEIGHBOUR: 'it returns false'. Refute it at one input. -/
def fnExactClauseOfWrong : ChangeSpec := { name := "fnExactClauseOf", fn := fun _ => fun
  | [d] => { results := [.lit (.bool false)], args := [d] }
  | _ => none }
def FnExactClauseOfWrongFalsely : Prop := fnExactClauseOfRow.holds Try.pinned (OpenSpec.ofChange fnExactClauseOfWrong)

/-- 'laws.FnConstraintFalse': WHATEVER THE INPUT: true; the input reads as it did. -/
def fnConstraintFalseSpec : ChangeSpec := { name := "fnConstraintFalse", fn := fun _ => fun
  | [d] => { results := [.lit (.bool true)], args := [d] }
  | _ => none }
def fnConstraintFalseRow : OpenClaim := { program := "ytpkglggomiklcaa", sum := "4af1b95c619aedde8fd4931d5fec6d3c433eb6a979ea395e99369dfd1d5152bb", func := "loop.example/cuttingplanes/laws.FnConstraintFalse", spec := "fnConstraintFalse", apart := false }
def FnConstraintFalseSaid : Prop := fnConstraintFalseRow.holds Try.pinned (OpenSpec.ofChange fnConstraintFalseSpec)

/-- ITS FALSE NEIGHBOUR: 'it returns false'. Refute it at one input. -/
def fnConstraintFalseWrong : ChangeSpec := { name := "fnConstraintFalse", fn := fun _ => fun
  | [d] => { results := [.lit (.bool false)], args := [d] }
  | _ => none }
def FnConstraintFalseWrongFalsely : Prop := fnConstraintFalseRow.holds Try.pinned (OpenSpec.ofChange fnConstraintFalseWrong)

/-- 'laws.FnEvalConstraint': WHATEVER THE INPUT: true; the input reads as it did. -/
def fnEvalConstraintSpec : ChangeSpec := { name := "fnEvalConstraint", fn := fun _ => fun
  | [d1, d2] => { results := [.lit (.bool true)], args := [d1, d2] }
  | _ => none }
def fnEvalConstraintRow : OpenClaim := { program := "ytpkglggomiklcaa", sum := "4af1b95c619aedde8fd4931d5fec6d3c433eb6a979ea395e99369dfd1d5152bb", func := "loop.example/cuttingplanes/laws.FnEvalConstraint", spec := "fnEvalConstraint", apart := false }
def FnEvalConstraintSaid : Prop := fnEvalConstraintRow.holds Try.pinned (OpenSpec.ofChange fnEvalConstraintSpec)

/-- ITS FALSE NEIGHBOUR: 'it returns false'. Refute it at one input. -/
def fnEvalConstraintWrong : ChangeSpec := { name := "fnEvalConstraint", fn := fun _ => fun
  | [d1, d2] => { results := [.lit (.bool false)], args := [d1, d2] }
  | _ => none }
def FnEvalConstraintWrongFalsely : Prop := fnEvalConstraintRow.holds Try.pinned (OpenSpec.ofChange fnEvalConstraintWrong)

/-- 'laws.FnExactSaturateConstraint': WHATEVER THE INPUT: true; the input reads as it did. -/
def fnExactSaturateConstraintSpec : ChangeSpec := { name := "fnExactSaturateConstraint", fn := fun _ => fun
  | [d] => { results := [.lit (.bool true)], args := [d] }
  | _ => none }
def fnExactSaturateConstraintRow : OpenClaim := { program := "ytpkglggomiklcaa", sum := "4af1b95c619aedde8fd4931d5fec6d3c433eb6a979ea395e99369dfd1d5152bb", func := "loop.example/cuttingplanes/laws.FnExactSaturateConstraint", spec := "fnExactSaturateConstraint", apart := false }
def FnExactSaturateConstraintSaid : Prop := fnExactSaturateConstraintRow.holds Try.pinned (OpenSpec.ofChange fnExactSaturateConstraintSpec)

/-- ITS FALSE NEIGHBOUR: 'it returns false'. Refute it at one input. -/
def fnExactSaturateConstraintWrong : ChangeSpec := { name := "fnExactSaturateConstraint", fn := fun _ => fun
  | [d] => { results := [.lit (.bool false)], args := [d] }
  | _ => none }
def FnExactSaturateConstraintWrongFalsely : Prop := fnExactSaturateConstraintRow.holds Try.pinned (OpenSpec.ofChange fnExactSaturateConstraintWrong)

/-- 'laws.FnExactWeakenConstraint': WHATEVER THE INPUT: true; the input reads as it did. -/
def fnExactWeakenConstraintSpec : ChangeSpec := { name := "fnExactWeakenConstraint", fn := fun _ => fun
  | [d1, d2] => { results := [.lit (.bool true)], args := [d1, d2] }
  | _ => none }
def fnExactWeakenConstraintRow : OpenClaim := { program := "ytpkglggomiklcaa", sum := "4af1b95c619aedde8fd4931d5fec6d3c433eb6a979ea395e99369dfd1d5152bb", func := "loop.example/cuttingplanes/laws.FnExactWeakenConstraint", spec := "fnExactWeakenConstraint", apart := false }
def FnExactWeakenConstraintSaid : Prop := fnExactWeakenConstraintRow.holds Try.pinned (OpenSpec.ofChange fnExactWeakenConstraintSpec)

/-- ITS FALSE NEIGHBOUR: 'it returns false'. Refute it at one input. -/
def fnExactWeakenConstraintWrong : ChangeSpec := { name := "fnExactWeakenConstraint", fn := fun _ => fun
  | [d1, d2] => { results := [.lit (.bool false)], args := [d1, d2] }
  | _ => none }
def FnExactWeakenConstraintWrongFalsely : Prop := fnExactWeakenConstraintRow.holds Try.pinned (OpenSpec.ofChange fnExactWeakenConstraintWrong)

/-- 'laws.FnExactNegateConstraint': WHATEVER THE INPUT: true; the input reads as it did. -/
def fnExactNegateConstraintSpec : ChangeSpec := { name := "fnExactNegateConstraint", fn := fun _ => fun
  | [d] => { results := [.lit (.bool true)], args := [d] }
  | _ => none }
def fnExactNegateConstraintRow : OpenClaim := { program := "ytpkglggomiklcaa", sum := "4af1b95c619aedde8fd4931d5fec6d3c433eb6a979ea395e99369dfd1d5152bb", func := "loop.example/cuttingplanes/laws.FnExactNegateConstraint", spec := "fnExactNegateConstraint", apart := false }
def FnExactNegateConstraintSaid : Prop := fnExactNegateConstraintRow.holds Try.pinned (OpenSpec.ofChange fnExactNegateConstraintSpec)

/-- ITS FALSE NEIGHBOUR: 'it returns false'. Refute it at one input. -/
def fnExactNegateConstraintWrong : ChangeSpec := { name := "fnExactNegateConstraint", fn := fun _ => fun
  | [d] => { results := [.lit (.bool false)], args := [d] }
  | _ => none }
def FnExactNegateConstraintWrongFalsely : Prop := fnExactNegateConstraintRow.holds Try.pinned (OpenSpec.ofChange fnExactNegateConstraintWrong)

/-- 'laws.FnNegateTwice': WHATEVER THE INPUT: true; the input reads as it did. -/
def fnNegateTwiceSpec : ChangeSpec := { name := "fnNegateTwice", fn := fun _ => fun
  | [d] => { results := [.lit (.bool true)], args := [d] }
  | _ => none }
def fnNegateTwiceRow : OpenClaim := { program := "ytpkglggomiklcaa", sum := "4af1b95c619aedde8fd4931d5fec6d3c433eb6a979ea395e99369dfd1d5152bb", func := "loop.example/cuttingplanes/laws.FnNegateTwice", spec := "fnNegateTwice", apart := false }
def FnNegateTwiceSaid : Prop := fnNegateTwiceRow.holds Try.pinned (OpenSpec.ofChange fnNegateTwiceSpec)

/-- ITS FALSE NEIGHBOUR: 'it returns false'. Refute it at one input. -/
def fnNegateTwiceWrong : ChangeSpec := { name := "fnNegateTwice", fn := fun _ => fun
  | [d] => { results := [.lit (.bool false)], args := [d] }
  | _ => none }
def FnNegateTwiceWrongFalsely : Prop := fnNegateTwiceRow.holds Try.pinned (OpenSpec.ofChange fnNegateTwiceWrong)

/-- 'laws.FnSaturateCovers': WHATEVER THE INPUT: true; the input reads as it did. -/
def fnSaturateCoversSpec : ChangeSpec := { name := "fnSaturateCovers", fn := fun _ => fun
  | [d] => { results := [.lit (.bool true)], args := [d] }
  | _ => none }
def fnSaturateCoversRow : OpenClaim := { program := "ytpkglggomiklcaa", sum := "4af1b95c619aedde8fd4931d5fec6d3c433eb6a979ea395e99369dfd1d5152bb", func := "loop.example/cuttingplanes/laws.FnSaturateCovers", spec := "fnSaturateCovers", unfollowed := true, recurses := true, apart := false }
def FnSaturateCoversSaid : Prop := fnSaturateCoversRow.holds Try.pinned (OpenSpec.ofChange fnSaturateCoversSpec)

/-- ITS FALSE NEIGHBOUR: 'it returns false'. Refute it at one input. -/
def fnSaturateCoversWrong : ChangeSpec := { name := "fnSaturateCovers", fn := fun _ => fun
  | [d] => { results := [.lit (.bool false)], args := [d] }
  | _ => none }
def FnSaturateCoversWrongFalsely : Prop := fnSaturateCoversRow.holds Try.pinned (OpenSpec.ofChange fnSaturateCoversWrong)

/-- 'laws.FnExactDivideConstraint': WHATEVER THE INPUT: true; the input reads as it did. -/
def fnExactDivideConstraintSpec : ChangeSpec := { name := "fnExactDivideConstraint", fn := fun _ => fun
  | [d1, d2] => { results := [.lit (.bool true)], args := [d1, d2] }
  | _ => none }
def fnExactDivideConstraintRow : OpenClaim := { program := "ytpkglggomiklcaa", sum := "4af1b95c619aedde8fd4931d5fec6d3c433eb6a979ea395e99369dfd1d5152bb", func := "loop.example/cuttingplanes/laws.FnExactDivideConstraint", spec := "fnExactDivideConstraint", unfollowed := true, recurses := true, apart := false }
def FnExactDivideConstraintSaid : Prop := fnExactDivideConstraintRow.holds Try.pinned (OpenSpec.ofChange fnExactDivideConstraintSpec)

/-- ITS FALSE NEIGHBOUR: 'it returns false'. Refute it at one input. -/
def fnExactDivideConstraintWrong : ChangeSpec := { name := "fnExactDivideConstraint", fn := fun _ => fun
  | [d1, d2] => { results := [.lit (.bool false)], args := [d1, d2] }
  | _ => none }
def FnExactDivideConstraintWrongFalsely : Prop := fnExactDivideConstraintRow.holds Try.pinned (OpenSpec.ofChange fnExactDivideConstraintWrong)

/- THE SECOND FORM. 'bulk': how many values and letters a reading holds, each counted each time it is reached (what is shared counts as often as it is met; a slice's spare places count too). A statement '..UptoSaid' is the law's where the arguments, and the package variables that the reading takes, are together of bulk at most 1048576: NARROWER than '..Said'. Prove '..Said' where nothing that the law and all that it calls make is longer than what came in: it says more and counts as full. Else prove '..UptoSaid'. A law counts once. -/
mutual
def uptoBulk {H : Type} : DataW H → Nat
  | .lit (.string bytes) => bytes.length + 1
  | .lit _ => 1
  | .nil => 1
  | .ptr d => uptoBulk d + 1
  | .slice elems spare => uptoBulkAll elems + uptoBulkAll spare + 1
  | .agg parts => uptoBulkAll parts + 1
  | .iface _ d => uptoBulk d + 1
  | .map entries => uptoBulkEntries entries + 1
  | .held _ => 1
def uptoBulkAll {H : Type} : List (DataW H) → Nat
  | [] => 0
  | d :: r => uptoBulk d + uptoBulkAll r
def uptoBulkEntries {H : Type} : List (Lit × DataW H) → Nat
  | [] => 0
  | x :: r => uptoBulkEntry x + uptoBulkEntries r
def uptoBulkEntry {H : Type} : Lit × DataW H → Nat
  | (.string bytes, d) => bytes.length + uptoBulk d + 1
  | (_, d) => uptoBulk d + 1
 end
def uptoSmall : (H : Type) → List (DataW H) → Bool := fun _ ds => decide (uptoBulkAll ds ≤ 1048576)
def OpenSpec.upto (s : _root_.Go.ChangeSpec) : _root_.Go.OpenSpec := { _root_.Go.OpenSpec.ofChange s with cond := some uptoSmall }

/-- 'laws.FnExactCoversConstraint', WHERE WHAT IT READS IS OF BULK AT MOST 1048576: true; the input reads as it did. -/
def fnExactCoversConstraintUptoRow : OpenClaim := { program := "ytpkglggomiklcaa", sum := "4af1b95c619aedde8fd4931d5fec6d3c433eb6a979ea395e99369dfd1d5152bb", func := "loop.example/cuttingplanes/laws.FnExactCoversConstraint", spec := "fnExactCoversConstraint", apart := false, narrowed := true }
def FnExactCoversConstraintUptoSaid : Prop := fnExactCoversConstraintUptoRow.holds Try.pinned (OpenSpec.upto fnExactCoversConstraintSpec)

/-- 'laws.FnExactEvalConstraint', WHERE WHAT IT READS IS OF BULK AT MOST 1048576: true; the input reads as it did. -/
def fnExactEvalConstraintUptoRow : OpenClaim := { program := "ytpkglggomiklcaa", sum := "4af1b95c619aedde8fd4931d5fec6d3c433eb6a979ea395e99369dfd1d5152bb", func := "loop.example/cuttingplanes/laws.FnExactEvalConstraint", spec := "fnExactEvalConstraint", apart := false, narrowed := true }
def FnExactEvalConstraintUptoSaid : Prop := fnExactEvalConstraintUptoRow.holds Try.pinned (OpenSpec.upto fnExactEvalConstraintSpec)

/-- 'laws.FnExactProblemValid', WHERE WHAT IT READS IS OF BULK AT MOST 1048576: true; the input reads as it did. -/
def fnExactProblemValidUptoRow : OpenClaim := { program := "ytpkglggomiklcaa", sum := "4af1b95c619aedde8fd4931d5fec6d3c433eb6a979ea395e99369dfd1d5152bb", func := "loop.example/cuttingplanes/laws.FnExactProblemValid", spec := "fnExactProblemValid", unfollowed := true, recurses := true, apart := false, narrowed := true }
def FnExactProblemValidUptoSaid : Prop := fnExactProblemValidUptoRow.holds Try.pinned (OpenSpec.upto fnExactProblemValidSpec)

/-- 'laws.FnExactClauseOf', WHERE WHAT IT READS IS OF BULK AT MOST 1048576: true; the input reads as it did. -/
def fnExactClauseOfUptoRow : OpenClaim := { program := "ytpkglggomiklcaa", sum := "4af1b95c619aedde8fd4931d5fec6d3c433eb6a979ea395e99369dfd1d5152bb", func := "loop.example/cuttingplanes/laws.FnExactClauseOf", spec := "fnExactClauseOf", unfollowed := true, recurses := true, apart := false, narrowed := true }
def FnExactClauseOfUptoSaid : Prop := fnExactClauseOfUptoRow.holds Try.pinned (OpenSpec.upto fnExactClauseOfSpec)

/-- 'laws.FnConstraintFalse', WHERE WHAT IT READS IS OF BULK AT MOST 1048576: true; the input reads as it did. -/
def fnConstraintFalseUptoRow : OpenClaim := { program := "ytpkglggomiklcaa", sum := "4af1b95c619aedde8fd4931d5fec6d3c433eb6a979ea395e99369dfd1d5152bb", func := "loop.example/cuttingplanes/laws.FnConstraintFalse", spec := "fnConstraintFalse", apart := false, narrowed := true }
def FnConstraintFalseUptoSaid : Prop := fnConstraintFalseUptoRow.holds Try.pinned (OpenSpec.upto fnConstraintFalseSpec)

/-- 'laws.FnEvalConstraint', WHERE WHAT IT READS IS OF BULK AT MOST 1048576: true; the input reads as it did. -/
def fnEvalConstraintUptoRow : OpenClaim := { program := "ytpkglggomiklcaa", sum := "4af1b95c619aedde8fd4931d5fec6d3c433eb6a979ea395e99369dfd1d5152bb", func := "loop.example/cuttingplanes/laws.FnEvalConstraint", spec := "fnEvalConstraint", apart := false, narrowed := true }
def FnEvalConstraintUptoSaid : Prop := fnEvalConstraintUptoRow.holds Try.pinned (OpenSpec.upto fnEvalConstraintSpec)

/-- 'laws.FnExactSaturateConstraint', WHERE WHAT IT READS IS OF BULK AT MOST 1048576: true; the input reads as it did. -/
def fnExactSaturateConstraintUptoRow : OpenClaim := { program := "ytpkglggomiklcaa", sum := "4af1b95c619aedde8fd4931d5fec6d3c433eb6a979ea395e99369dfd1d5152bb", func := "loop.example/cuttingplanes/laws.FnExactSaturateConstraint", spec := "fnExactSaturateConstraint", apart := false, narrowed := true }
def FnExactSaturateConstraintUptoSaid : Prop := fnExactSaturateConstraintUptoRow.holds Try.pinned (OpenSpec.upto fnExactSaturateConstraintSpec)

/-- 'laws.FnExactWeakenConstraint', WHERE WHAT IT READS IS OF BULK AT MOST 1048576: true; the input reads as it did. -/
def fnExactWeakenConstraintUptoRow : OpenClaim := { program := "ytpkglggomiklcaa", sum := "4af1b95c619aedde8fd4931d5fec6d3c433eb6a979ea395e99369dfd1d5152bb", func := "loop.example/cuttingplanes/laws.FnExactWeakenConstraint", spec := "fnExactWeakenConstraint", apart := false, narrowed := true }
def FnExactWeakenConstraintUptoSaid : Prop := fnExactWeakenConstraintUptoRow.holds Try.pinned (OpenSpec.upto fnExactWeakenConstraintSpec)

/-- 'laws.FnExactNegateConstraint', WHERE WHAT IT READS IS OF BULK AT MOST 1048576: true; the input reads as it did. -/
def fnExactNegateConstraintUptoRow : OpenClaim := { program := "ytpkglggomiklcaa", sum := "4af1b95c619aedde8fd4931d5fec6d3c433eb6a979ea395e99369dfd1d5152bb", func := "loop.example/cuttingplanes/laws.FnExactNegateConstraint", spec := "fnExactNegateConstraint", apart := false, narrowed := true }
def FnExactNegateConstraintUptoSaid : Prop := fnExactNegateConstraintUptoRow.holds Try.pinned (OpenSpec.upto fnExactNegateConstraintSpec)

/-- 'laws.FnNegateTwice', WHERE WHAT IT READS IS OF BULK AT MOST 1048576: true; the input reads as it did. -/
def fnNegateTwiceUptoRow : OpenClaim := { program := "ytpkglggomiklcaa", sum := "4af1b95c619aedde8fd4931d5fec6d3c433eb6a979ea395e99369dfd1d5152bb", func := "loop.example/cuttingplanes/laws.FnNegateTwice", spec := "fnNegateTwice", apart := false, narrowed := true }
def FnNegateTwiceUptoSaid : Prop := fnNegateTwiceUptoRow.holds Try.pinned (OpenSpec.upto fnNegateTwiceSpec)

/-- 'laws.FnSaturateCovers', WHERE WHAT IT READS IS OF BULK AT MOST 1048576: true; the input reads as it did. -/
def fnSaturateCoversUptoRow : OpenClaim := { program := "ytpkglggomiklcaa", sum := "4af1b95c619aedde8fd4931d5fec6d3c433eb6a979ea395e99369dfd1d5152bb", func := "loop.example/cuttingplanes/laws.FnSaturateCovers", spec := "fnSaturateCovers", unfollowed := true, recurses := true, apart := false, narrowed := true }
def FnSaturateCoversUptoSaid : Prop := fnSaturateCoversUptoRow.holds Try.pinned (OpenSpec.upto fnSaturateCoversSpec)

/-- 'laws.FnExactDivideConstraint', WHERE WHAT IT READS IS OF BULK AT MOST 1048576: true; the input reads as it did. -/
def fnExactDivideConstraintUptoRow : OpenClaim := { program := "ytpkglggomiklcaa", sum := "4af1b95c619aedde8fd4931d5fec6d3c433eb6a979ea395e99369dfd1d5152bb", func := "loop.example/cuttingplanes/laws.FnExactDivideConstraint", spec := "fnExactDivideConstraint", unfollowed := true, recurses := true, apart := false, narrowed := true }
def FnExactDivideConstraintUptoSaid : Prop := fnExactDivideConstraintUptoRow.holds Try.pinned (OpenSpec.upto fnExactDivideConstraintSpec)

end Rows
end Go.Proofs.Ytpkglggomiklcaa
