/-
  No cell of these rows narrows 'for every input' (looked for: loops, veiled, ifaces, maps, wideKeys, modest, calm, conditions, laid).
  DERIVED. THE GIVEN ROWS OF THIS SEAT. 12 by the template 'for every input the law returns true; each argument reads behind the call as it read before'; 0 by the template 'total and deterministic' (their statements: YtihmkbfobihddaaTotals.lean).
  GIVEN WITH THE SEED: the statements are not yours to turn. If you find one false, say at which input.
  Laid BY PROGRAM, IN A SANDBOX (cutbox-rows.mjs): the forced cells as the released guide's own fill.sh prints them over the translation 6f550b91dd3737ff… (all of the seat's roots in one cut). By AI agents, Wed Nov 11 2026. No macro, syntax, notation, axiom, sorry.
-/
import Derived.Test.YtihmkbfobihddaaChecked
import GoSem.Claim
import GoSem.ClaimJoined
import GoSem.ClaimMapViews
import Derived.JoinedTies
import Derived.KernelRfl
namespace Go.Proofs.Ytihmkbfobihddaa
/- THE CELL 'sum', in the pinned program and in every row, IS THE sha256 OF THE DUMP (.gsa) THAT YtihmkbfobihddaaProg.lean LOADS. Nothing in Lean hashes anything: it is a label: what it is worth is what the hold of that sum in a sandbox is worth. -/
noncomputable def Try.pinned : Pinned := { name := "ytihmkbfobihddaa", sum := "6f550b91dd3737ff6861b44591b6850bae5d6f9c5db0ed21d5add21c68c59395", checked := Try.checked }
namespace Rows
def none {H : Type} : Left H := { results := [], args := [] }

/-- 'laws.FnExtendsPartial': WHATEVER THE INPUT: true; the input reads as it did. -/
def fnExtendsPartialSpec : ChangeSpec := { name := "fnExtendsPartial", fn := fun _ => fun
  | [d1, d2] => { results := [.lit (.bool true)], args := [d1, d2] }
  | _ => none }
def fnExtendsPartialRow : OpenClaim := { program := "ytihmkbfobihddaa", sum := "6f550b91dd3737ff6861b44591b6850bae5d6f9c5db0ed21d5add21c68c59395", func := "loop.example/cuttingplanes/laws.FnExtendsPartial", spec := "fnExtendsPartial", unfollowed := true, recurses := true, apart := false }
def FnExtendsPartialSaid : Prop := fnExtendsPartialRow.holds Try.pinned (OpenSpec.ofChange fnExtendsPartialSpec)

/-- ITS FALSE NEIGHBOUR: 'it returns false'. Refute it at one input. -/
def fnExtendsPartialWrong : ChangeSpec := { name := "fnExtendsPartial", fn := fun _ => fun
  | [d1, d2] => { results := [.lit (.bool false)], args := [d1, d2] }
  | _ => none }
def FnExtendsPartialWrongFalsely : Prop := fnExtendsPartialRow.holds Try.pinned (OpenSpec.ofChange fnExtendsPartialWrong)

/-- 'laws.FnBlockingClause': WHATEVER THE INPUT: true; the input reads as it did. -/
def fnBlockingClauseSpec : ChangeSpec := { name := "fnBlockingClause", fn := fun _ => fun
  | [d1, d2] => { results := [.lit (.bool true)], args := [d1, d2] }
  | _ => none }
def fnBlockingClauseRow : OpenClaim := { program := "ytihmkbfobihddaa", sum := "6f550b91dd3737ff6861b44591b6850bae5d6f9c5db0ed21d5add21c68c59395", func := "loop.example/cuttingplanes/laws.FnBlockingClause", spec := "fnBlockingClause", apart := false }
def FnBlockingClauseSaid : Prop := fnBlockingClauseRow.holds Try.pinned (OpenSpec.ofChange fnBlockingClauseSpec)

/-- ITS FALSE NEIGHBOUR: 'it returns false'. Refute it at one input. -/
def fnBlockingClauseWrong : ChangeSpec := { name := "fnBlockingClause", fn := fun _ => fun
  | [d1, d2] => { results := [.lit (.bool false)], args := [d1, d2] }
  | _ => none }
def FnBlockingClauseWrongFalsely : Prop := fnBlockingClauseRow.holds Try.pinned (OpenSpec.ofChange fnBlockingClauseWrong)

/-- 'laws.FnExactMultiplyConstraint': WHATEVER THE INPUT: true; the input reads as it did. -/
def fnExactMultiplyConstraintSpec : ChangeSpec := { name := "fnExactMultiplyConstraint", fn := fun _ => fun
  | [d1, d2] => { results := [.lit (.bool true)], args := [d1, d2] }
  | _ => none }
def fnExactMultiplyConstraintRow : OpenClaim := { program := "ytihmkbfobihddaa", sum := "6f550b91dd3737ff6861b44591b6850bae5d6f9c5db0ed21d5add21c68c59395", func := "loop.example/cuttingplanes/laws.FnExactMultiplyConstraint", spec := "fnExactMultiplyConstraint", unfollowed := true, recurses := true, apart := false }
def FnExactMultiplyConstraintSaid : Prop := fnExactMultiplyConstraintRow.holds Try.pinned (OpenSpec.ofChange fnExactMultiplyConstraintSpec)

/-- ITS FALSE NEIGHBOUR: 'it returns false'. Refute it at one input. -/
def fnExactMultiplyConstraintWrong : ChangeSpec := { name := "fnExactMultiplyConstraint", fn := fun _ => fun
  | [d1, d2] => { results := [.lit (.bool false)], args := [d1, d2] }
  | _ => none }
def FnExactMultiplyConstraintWrongFalsely : Prop := fnExactMultiplyConstraintRow.holds Try.pinned (OpenSpec.ofChange fnExactMultiplyConstraintWrong)

/-- 'laws.FnDivideTwice': WHATEVER THE INPUT: true; the input reads as it did. -/
def fnDivideTwiceSpec : ChangeSpec := { name := "fnDivideTwice", fn := fun _ => fun
  | [d1, d2] => { results := [.lit (.bool true)], args := [d1, d2] }
  | _ => none }
def fnDivideTwiceRow : OpenClaim := { program := "ytihmkbfobihddaa", sum := "6f550b91dd3737ff6861b44591b6850bae5d6f9c5db0ed21d5add21c68c59395", func := "loop.example/cuttingplanes/laws.FnDivideTwice", spec := "fnDivideTwice", unfollowed := true, recurses := true, apart := false }
def FnDivideTwiceSaid : Prop := fnDivideTwiceRow.holds Try.pinned (OpenSpec.ofChange fnDivideTwiceSpec)

/-- ITS FALSE NEIGHBOUR: 'it returns false'. Refute it at one input. -/
def fnDivideTwiceWrong : ChangeSpec := { name := "fnDivideTwice", fn := fun _ => fun
  | [d1, d2] => { results := [.lit (.bool false)], args := [d1, d2] }
  | _ => none }
def FnDivideTwiceWrongFalsely : Prop := fnDivideTwiceRow.holds Try.pinned (OpenSpec.ofChange fnDivideTwiceWrong)

/-- 'laws.FnExactSlackOf': WHATEVER THE INPUT: true; the input reads as it did. -/
def fnExactSlackOfSpec : ChangeSpec := { name := "fnExactSlackOf", fn := fun _ => fun
  | [d1, d2] => { results := [.lit (.bool true)], args := [d1, d2] }
  | _ => none }
def fnExactSlackOfRow : OpenClaim := { program := "ytihmkbfobihddaa", sum := "6f550b91dd3737ff6861b44591b6850bae5d6f9c5db0ed21d5add21c68c59395", func := "loop.example/cuttingplanes/laws.FnExactSlackOf", spec := "fnExactSlackOf", unfollowed := true, recurses := true, apart := false }
def FnExactSlackOfSaid : Prop := fnExactSlackOfRow.holds Try.pinned (OpenSpec.ofChange fnExactSlackOfSpec)

/-- ITS FALSE NEIGHBOUR: 'it returns false'. Refute it at one input. -/
def fnExactSlackOfWrong : ChangeSpec := { name := "fnExactSlackOf", fn := fun _ => fun
  | [d1, d2] => { results := [.lit (.bool false)], args := [d1, d2] }
  | _ => none }
def FnExactSlackOfWrongFalsely : Prop := fnExactSlackOfRow.holds Try.pinned (OpenSpec.ofChange fnExactSlackOfWrong)

/-- 'laws.FnCoversWeaken': WHATEVER THE INPUT: true; the input reads as it did. -/
def fnCoversWeakenSpec : ChangeSpec := { name := "fnCoversWeaken", fn := fun _ => fun
  | [d] => { results := [.lit (.bool true)], args := [d] }
  | _ => none }
def fnCoversWeakenRow : OpenClaim := { program := "ytihmkbfobihddaa", sum := "6f550b91dd3737ff6861b44591b6850bae5d6f9c5db0ed21d5add21c68c59395", func := "loop.example/cuttingplanes/laws.FnCoversWeaken", spec := "fnCoversWeaken", apart := false }
def FnCoversWeakenSaid : Prop := fnCoversWeakenRow.holds Try.pinned (OpenSpec.ofChange fnCoversWeakenSpec)

/-- ITS FALSE NEIGHBOUR: 'it returns false'. Refute it at one input. -/
def fnCoversWeakenWrong : ChangeSpec := { name := "fnCoversWeaken", fn := fun _ => fun
  | [d] => { results := [.lit (.bool false)], args := [d] }
  | _ => none }
def FnCoversWeakenWrongFalsely : Prop := fnCoversWeakenRow.holds Try.pinned (OpenSpec.ofChange fnCoversWeakenWrong)

/-- 'laws.FnNegateConstraint': WHATEVER THE INPUT: true; the input reads as it did. -/
def fnNegateConstraintSpec : ChangeSpec := { name := "fnNegateConstraint", fn := fun _ => fun
  | [d] => { results := [.lit (.bool true)], args := [d] }
  | _ => none }
def fnNegateConstraintRow : OpenClaim := { program := "ytihmkbfobihddaa", sum := "6f550b91dd3737ff6861b44591b6850bae5d6f9c5db0ed21d5add21c68c59395", func := "loop.example/cuttingplanes/laws.FnNegateConstraint", spec := "fnNegateConstraint", apart := false }
def FnNegateConstraintSaid : Prop := fnNegateConstraintRow.holds Try.pinned (OpenSpec.ofChange fnNegateConstraintSpec)

/-- ITS FALSE NEIGHBOUR: 'it returns false'. Refute it at one input. -/
def fnNegateConstraintWrong : ChangeSpec := { name := "fnNegateConstraint", fn := fun _ => fun
  | [d] => { results := [.lit (.bool false)], args := [d] }
  | _ => none }
def FnNegateConstraintWrongFalsely : Prop := fnNegateConstraintRow.holds Try.pinned (OpenSpec.ofChange fnNegateConstraintWrong)

/-- 'laws.FnSaturateConstraint': WHATEVER THE INPUT: true; the input reads as it did. -/
def fnSaturateConstraintSpec : ChangeSpec := { name := "fnSaturateConstraint", fn := fun _ => fun
  | [d1, d2] => { results := [.lit (.bool true)], args := [d1, d2] }
  | _ => none }
def fnSaturateConstraintRow : OpenClaim := { program := "ytihmkbfobihddaa", sum := "6f550b91dd3737ff6861b44591b6850bae5d6f9c5db0ed21d5add21c68c59395", func := "loop.example/cuttingplanes/laws.FnSaturateConstraint", spec := "fnSaturateConstraint", apart := false }
def FnSaturateConstraintSaid : Prop := fnSaturateConstraintRow.holds Try.pinned (OpenSpec.ofChange fnSaturateConstraintSpec)

/-- ITS FALSE NEIGHBOUR: 'it returns false'. Refute it at one input. -/
def fnSaturateConstraintWrong : ChangeSpec := { name := "fnSaturateConstraint", fn := fun _ => fun
  | [d1, d2] => { results := [.lit (.bool false)], args := [d1, d2] }
  | _ => none }
def FnSaturateConstraintWrongFalsely : Prop := fnSaturateConstraintRow.holds Try.pinned (OpenSpec.ofChange fnSaturateConstraintWrong)

/-- 'laws.FnWeakenConstraint': WHATEVER THE INPUT: true; the input reads as it did. -/
def fnWeakenConstraintSpec : ChangeSpec := { name := "fnWeakenConstraint", fn := fun _ => fun
  | [d1, d2] => { results := [.lit (.bool true)], args := [d1, d2] }
  | _ => none }
def fnWeakenConstraintRow : OpenClaim := { program := "ytihmkbfobihddaa", sum := "6f550b91dd3737ff6861b44591b6850bae5d6f9c5db0ed21d5add21c68c59395", func := "loop.example/cuttingplanes/laws.FnWeakenConstraint", spec := "fnWeakenConstraint", apart := false }
def FnWeakenConstraintSaid : Prop := fnWeakenConstraintRow.holds Try.pinned (OpenSpec.ofChange fnWeakenConstraintSpec)

/-- ITS FALSE NEIGHBOUR: 'it returns false'. Refute it at one input. -/
def fnWeakenConstraintWrong : ChangeSpec := { name := "fnWeakenConstraint", fn := fun _ => fun
  | [d1, d2] => { results := [.lit (.bool false)], args := [d1, d2] }
  | _ => none }
def FnWeakenConstraintWrongFalsely : Prop := fnWeakenConstraintRow.holds Try.pinned (OpenSpec.ofChange fnWeakenConstraintWrong)

/-- 'laws.FnDivideConstraint': WHATEVER THE INPUT: true; the input reads as it did. -/
def fnDivideConstraintSpec : ChangeSpec := { name := "fnDivideConstraint", fn := fun _ => fun
  | [d1, d2] => { results := [.lit (.bool true)], args := [d1, d2] }
  | _ => none }
def fnDivideConstraintRow : OpenClaim := { program := "ytihmkbfobihddaa", sum := "6f550b91dd3737ff6861b44591b6850bae5d6f9c5db0ed21d5add21c68c59395", func := "loop.example/cuttingplanes/laws.FnDivideConstraint", spec := "fnDivideConstraint", unfollowed := true, recurses := true, apart := false }
def FnDivideConstraintSaid : Prop := fnDivideConstraintRow.holds Try.pinned (OpenSpec.ofChange fnDivideConstraintSpec)

/-- ITS FALSE NEIGHBOUR: 'it returns false'. Refute it at one input. -/
def fnDivideConstraintWrong : ChangeSpec := { name := "fnDivideConstraint", fn := fun _ => fun
  | [d1, d2] => { results := [.lit (.bool false)], args := [d1, d2] }
  | _ => none }
def FnDivideConstraintWrongFalsely : Prop := fnDivideConstraintRow.holds Try.pinned (OpenSpec.ofChange fnDivideConstraintWrong)

/-- 'laws.FnMultiplyConstraint': WHATEVER THE INPUT: true; the input reads as it did. -/
def fnMultiplyConstraintSpec : ChangeSpec := { name := "fnMultiplyConstraint", fn := fun _ => fun
  | [d1, d2] => { results := [.lit (.bool true)], args := [d1, d2] }
  | _ => none }
def fnMultiplyConstraintRow : OpenClaim := { program := "ytihmkbfobihddaa", sum := "6f550b91dd3737ff6861b44591b6850bae5d6f9c5db0ed21d5add21c68c59395", func := "loop.example/cuttingplanes/laws.FnMultiplyConstraint", spec := "fnMultiplyConstraint", unfollowed := true, recurses := true, apart := false }
def FnMultiplyConstraintSaid : Prop := fnMultiplyConstraintRow.holds Try.pinned (OpenSpec.ofChange fnMultiplyConstraintSpec)

/-- ITS FALSE NEIGHBOUR: 'it returns false'. Refute it at one input. -/
def fnMultiplyConstraintWrong : ChangeSpec := { name := "fnMultiplyConstraint", fn := fun _ => fun
  | [d1, d2] => { results := [.lit (.bool false)], args := [d1, d2] }
  | _ => none }
def FnMultiplyConstraintWrongFalsely : Prop := fnMultiplyConstraintRow.holds Try.pinned (OpenSpec.ofChange fnMultiplyConstraintWrong)

/-- 'laws.FnCoversConstraint': WHATEVER THE INPUT: true; the input reads as it did. -/
def fnCoversConstraintSpec : ChangeSpec := { name := "fnCoversConstraint", fn := fun _ => fun
  | [d1, d2] => { results := [.lit (.bool true)], args := [d1, d2] }
  | _ => none }
def fnCoversConstraintRow : OpenClaim := { program := "ytihmkbfobihddaa", sum := "6f550b91dd3737ff6861b44591b6850bae5d6f9c5db0ed21d5add21c68c59395", func := "loop.example/cuttingplanes/laws.FnCoversConstraint", spec := "fnCoversConstraint", apart := false }
def FnCoversConstraintSaid : Prop := fnCoversConstraintRow.holds Try.pinned (OpenSpec.ofChange fnCoversConstraintSpec)

/-- ITS FALSE NEIGHBOUR: 'it returns false'. Refute it at one input. -/
def fnCoversConstraintWrong : ChangeSpec := { name := "fnCoversConstraint", fn := fun _ => fun
  | [d1, d2] => { results := [.lit (.bool false)], args := [d1, d2] }
  | _ => none }
def FnCoversConstraintWrongFalsely : Prop := fnCoversConstraintRow.holds Try.pinned (OpenSpec.ofChange fnCoversConstraintWrong)

/- THE SECOND FORM. 'bulk': how many values and letters a reading holds, each counted each time it is reached (what is shared counts as often as it is met; a slice's spare places count too). A statement '..UptoSaid' is the law's where the arguments, and the package variables that the reading takes, are together of bulk at most 1048576: NARROWER than '..Said'. Prove '..Said' where nothing that the law and all that it calls make is longer than what came in: it says more and counts as full. Else prove '..UptoSaid'. A law counts once. -/
mutual
def uptoBulk {H : Type} : DataW H → Nat
  | .lit (.string bytes) => bytes.length + 1
  | .lit _ => 1
  | .nil => 1
  | .ptr d => uptoBulk d + 1
  | .slice elems spare => uptoBulkAll elems + uptoBulkAll spare + 1
  | .agg parts => uptoBulkAll parts + 1
  | .iface _ d => uptoBulk d + 1
  | .map entries => uptoBulkEntries entries + 1
  | .held _ => 1
def uptoBulkAll {H : Type} : List (DataW H) → Nat
  | [] => 0
  | d :: r => uptoBulk d + uptoBulkAll r
def uptoBulkEntries {H : Type} : List (Lit × DataW H) → Nat
  | [] => 0
  | x :: r => uptoBulkEntry x + uptoBulkEntries r
def uptoBulkEntry {H : Type} : Lit × DataW H → Nat
  | (.string bytes, d) => bytes.length + uptoBulk d + 1
  | (_, d) => uptoBulk d + 1
 end
def uptoSmall : (H : Type) → List (DataW H) → Bool := fun _ ds => decide (uptoBulkAll ds ≤ 1048576)
def OpenSpec.upto (s : _root_.Go.ChangeSpec) : _root_.Go.OpenSpec := { _root_.Go.OpenSpec.ofChange s with cond := some uptoSmall }

/-- 'laws.FnExtendsPartial', WHERE WHAT IT READS IS OF BULK AT MOST 1048576: true; the input reads as it did. -/
def fnExtendsPartialUptoRow : OpenClaim := { program := "ytihmkbfobihddaa", sum := "6f550b91dd3737ff6861b44591b6850bae5d6f9c5db0ed21d5add21c68c59395", func := "loop.example/cuttingplanes/laws.FnExtendsPartial", spec := "fnExtendsPartial", unfollowed := true, recurses := true, apart := false, narrowed := true }
def FnExtendsPartialUptoSaid : Prop := fnExtendsPartialUptoRow.holds Try.pinned (OpenSpec.upto fnExtendsPartialSpec)

/-- 'laws.FnBlockingClause', WHERE WHAT IT READS IS OF BULK AT MOST 1048576: true; the input reads as it did. -/
def fnBlockingClauseUptoRow : OpenClaim := { program := "ytihmkbfobihddaa", sum := "6f550b91dd3737ff6861b44591b6850bae5d6f9c5db0ed21d5add21c68c59395", func := "loop.example/cuttingplanes/laws.FnBlockingClause", spec := "fnBlockingClause", apart := false, narrowed := true }
def FnBlockingClauseUptoSaid : Prop := fnBlockingClauseUptoRow.holds Try.pinned (OpenSpec.upto fnBlockingClauseSpec)

/-- 'laws.FnExactMultiplyConstraint', WHERE WHAT IT READS IS OF BULK AT MOST 1048576: true; the input reads as it did. -/
def fnExactMultiplyConstraintUptoRow : OpenClaim := { program := "ytihmkbfobihddaa", sum := "6f550b91dd3737ff6861b44591b6850bae5d6f9c5db0ed21d5add21c68c59395", func := "loop.example/cuttingplanes/laws.FnExactMultiplyConstraint", spec := "fnExactMultiplyConstraint", unfollowed := true, recurses := true, apart := false, narrowed := true }
def FnExactMultiplyConstraintUptoSaid : Prop := fnExactMultiplyConstraintUptoRow.holds Try.pinned (OpenSpec.upto fnExactMultiplyConstraintSpec)

/-- 'laws.FnDivideTwice', WHERE WHAT IT READS IS OF BULK AT MOST 1048576: true; the input reads as it did. -/
def fnDivideTwiceUptoRow : OpenClaim := { program := "ytihmkbfobihddaa", sum := "6f550b91dd3737ff6861b44591b6850bae5d6f9c5db0ed21d5add21c68c59395", func := "loop.example/cuttingplanes/laws.FnDivideTwice", spec := "fnDivideTwice", unfollowed := true, recurses := true, apart := false, narrowed := true }
def FnDivideTwiceUptoSaid : Prop := fnDivideTwiceUptoRow.holds Try.pinned (OpenSpec.upto fnDivideTwiceSpec)

/-- 'laws.FnExactSlackOf', WHERE WHAT IT READS IS OF BULK AT MOST 1048576: true; the input reads as it did. -/
def fnExactSlackOfUptoRow : OpenClaim := { program := "ytihmkbfobihddaa", sum := "6f550b91dd3737ff6861b44591b6850bae5d6f9c5db0ed21d5add21c68c59395", func := "loop.example/cuttingplanes/laws.FnExactSlackOf", spec := "fnExactSlackOf", unfollowed := true, recurses := true, apart := false, narrowed := true }
def FnExactSlackOfUptoSaid : Prop := fnExactSlackOfUptoRow.holds Try.pinned (OpenSpec.upto fnExactSlackOfSpec)

/-- 'laws.FnCoversWeaken', WHERE WHAT IT READS IS OF BULK AT MOST 1048576: true; the input reads as it did. -/
def fnCoversWeakenUptoRow : OpenClaim := { program := "ytihmkbfobihddaa", sum := "6f550b91dd3737ff6861b44591b6850bae5d6f9c5db0ed21d5add21c68c59395", func := "loop.example/cuttingplanes/laws.FnCoversWeaken", spec := "fnCoversWeaken", apart := false, narrowed := true }
def FnCoversWeakenUptoSaid : Prop := fnCoversWeakenUptoRow.holds Try.pinned (OpenSpec.upto fnCoversWeakenSpec)

/-- 'laws.FnNegateConstraint', WHERE WHAT IT READS IS OF BULK AT MOST 1048576: true; the input reads as it did. -/
def fnNegateConstraintUptoRow : OpenClaim := { program := "ytihmkbfobihddaa", sum := "6f550b91dd3737ff6861b44591b6850bae5d6f9c5db0ed21d5add21c68c59395", func := "loop.example/cuttingplanes/laws.FnNegateConstraint", spec := "fnNegateConstraint", apart := false, narrowed := true }
def FnNegateConstraintUptoSaid : Prop := fnNegateConstraintUptoRow.holds Try.pinned (OpenSpec.upto fnNegateConstraintSpec)

/-- 'laws.FnSaturateConstraint', WHERE WHAT IT READS IS OF BULK AT MOST 1048576: true; the input reads as it did. -/
def fnSaturateConstraintUptoRow : OpenClaim := { program := "ytihmkbfobihddaa", sum := "6f550b91dd3737ff6861b44591b6850bae5d6f9c5db0ed21d5add21c68c59395", func := "loop.example/cuttingplanes/laws.FnSaturateConstraint", spec := "fnSaturateConstraint", apart := false, narrowed := true }
def FnSaturateConstraintUptoSaid : Prop := fnSaturateConstraintUptoRow.holds Try.pinned (OpenSpec.upto fnSaturateConstraintSpec)

/-- 'laws.FnWeakenConstraint', WHERE WHAT IT READS IS OF BULK AT MOST 1048576: true; the input reads as it did. -/
def fnWeakenConstraintUptoRow : OpenClaim := { program := "ytihmkbfobihddaa", sum := "6f550b91dd3737ff6861b44591b6850bae5d6f9c5db0ed21d5add21c68c59395", func := "loop.example/cuttingplanes/laws.FnWeakenConstraint", spec := "fnWeakenConstraint", apart := false, narrowed := true }
def FnWeakenConstraintUptoSaid : Prop := fnWeakenConstraintUptoRow.holds Try.pinned (OpenSpec.upto fnWeakenConstraintSpec)

/-- 'laws.FnDivideConstraint', WHERE WHAT IT READS IS OF BULK AT MOST 1048576: true; the input reads as it did. -/
def fnDivideConstraintUptoRow : OpenClaim := { program := "ytihmkbfobihddaa", sum := "6f550b91dd3737ff6861b44591b6850bae5d6f9c5db0ed21d5add21c68c59395", func := "loop.example/cuttingplanes/laws.FnDivideConstraint", spec := "fnDivideConstraint", unfollowed := true, recurses := true, apart := false, narrowed := true }
def FnDivideConstraintUptoSaid : Prop := fnDivideConstraintUptoRow.holds Try.pinned (OpenSpec.upto fnDivideConstraintSpec)

/-- 'laws.FnMultiplyConstraint', WHERE WHAT IT READS IS OF BULK AT MOST 1048576: true; the input reads as it did. -/
def fnMultiplyConstraintUptoRow : OpenClaim := { program := "ytihmkbfobihddaa", sum := "6f550b91dd3737ff6861b44591b6850bae5d6f9c5db0ed21d5add21c68c59395", func := "loop.example/cuttingplanes/laws.FnMultiplyConstraint", spec := "fnMultiplyConstraint", unfollowed := true, recurses := true, apart := false, narrowed := true }
def FnMultiplyConstraintUptoSaid : Prop := fnMultiplyConstraintUptoRow.holds Try.pinned (OpenSpec.upto fnMultiplyConstraintSpec)

/-- 'laws.FnCoversConstraint', WHERE WHAT IT READS IS OF BULK AT MOST 1048576: true; the input reads as it did. -/
def fnCoversConstraintUptoRow : OpenClaim := { program := "ytihmkbfobihddaa", sum := "6f550b91dd3737ff6861b44591b6850bae5d6f9c5db0ed21d5add21c68c59395", func := "loop.example/cuttingplanes/laws.FnCoversConstraint", spec := "fnCoversConstraint", apart := false, narrowed := true }
def FnCoversConstraintUptoSaid : Prop := fnCoversConstraintUptoRow.holds Try.pinned (OpenSpec.upto fnCoversConstraintSpec)

end Rows
end Go.Proofs.Ytihmkbfobihddaa
