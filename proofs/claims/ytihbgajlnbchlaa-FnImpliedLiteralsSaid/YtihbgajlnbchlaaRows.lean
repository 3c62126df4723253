/-
  No cell of these rows narrows 'for every input' (looked for: loops, veiled, ifaces, maps, wideKeys, modest, calm, conditions, laid).
  DERIVED. THE GIVEN ROWS OF THIS SEAT. 12 by the template 'for every input the law returns true; each argument reads behind the call as it read before'; 0 by the template 'total and deterministic' (their statements: YtihbgajlnbchlaaTotals.lean).
  GIVEN WITH THE SEED: the statements are not yours to turn. If you find one false, say at which input.
  Laid BY PROGRAM, IN A SANDBOX (cutbox-rows.mjs): the forced cells as the released guide's own fill.sh prints them over the translation df964ee98ad8bed4… (all of the seat's roots in one cut). By AI agents, Wed Nov 11 2026. No macro, syntax, notation, axiom, sorry.
-/
import Derived.Test.YtihbgajlnbchlaaChecked
import GoSem.Claim
import GoSem.ClaimJoined
import GoSem.ClaimMapViews
import Derived.JoinedTies
import Derived.KernelRfl
namespace Go.Proofs.Ytihbgajlnbchlaa
/- THE CELL 'sum', in the pinned program and in every row, IS THE sha256 OF THE DUMP (.gsa) THAT YtihbgajlnbchlaaProg.lean LOADS. Nothing in Lean hashes anything: it is a label: what it is worth is what the hold of that sum in a sandbox is worth. -/
noncomputable def Try.pinned : Pinned := { name := "ytihbgajlnbchlaa", sum := "df964ee98ad8bed4a9ff2b719bae7a32bf3ef0d1ad13b6c4c15208fef6136d35", checked := Try.checked }
namespace Rows
def none {H : Type} : Left H := { results := [], args := [] }

/-- 'laws.FnSlackOf': WHATEVER THE INPUT: true; the input reads as it did. -/
def fnSlackOfSpec : ChangeSpec := { name := "fnSlackOf", fn := fun _ => fun
  | [d1, d2] => { results := [.lit (.bool true)], args := [d1, d2] }
  | _ => none }
def fnSlackOfRow : OpenClaim := { program := "ytihbgajlnbchlaa", sum := "df964ee98ad8bed4a9ff2b719bae7a32bf3ef0d1ad13b6c4c15208fef6136d35", func := "loop.example/cuttingplanes/laws.FnSlackOf", spec := "fnSlackOf", unfollowed := true, recurses := true, apart := false }
def FnSlackOfSaid : Prop := fnSlackOfRow.holds Try.pinned (OpenSpec.ofChange fnSlackOfSpec)

/-- ITS FALSE NEIGHBOUR: 'it returns false'. Refute it at one input. -/
def fnSlackOfWrong : ChangeSpec := { name := "fnSlackOf", fn := fun _ => fun
  | [d1, d2] => { results := [.lit (.bool false)], args := [d1, d2] }
  | _ => none }
def FnSlackOfWrongFalsely : Prop := fnSlackOfRow.holds Try.pinned (OpenSpec.ofChange fnSlackOfWrong)

/-- 'laws.FnImpliedLiterals': WHATEVER THE INPUT: true; the input reads as it did. -/
def fnImpliedLiteralsSpec : ChangeSpec := { name := "fnImpliedLiterals", fn := fun _ => fun
  | [d] => { results := [.lit (.bool true)], args := [d] }
  | _ => none }
def fnImpliedLiteralsRow : OpenClaim := { program := "ytihbgajlnbchlaa", sum := "df964ee98ad8bed4a9ff2b719bae7a32bf3ef0d1ad13b6c4c15208fef6136d35", func := "loop.example/cuttingplanes/laws.FnImpliedLiterals", spec := "fnImpliedLiterals", unfollowed := true, recurses := true, apart := false }
def FnImpliedLiteralsSaid : Prop := fnImpliedLiteralsRow.holds Try.pinned (OpenSpec.ofChange fnImpliedLiteralsSpec)

/-- ITS FALSE NEIGHBOUR: 'it returns false'. Refute it at one input. -/
def fnImpliedLiteralsWrong : ChangeSpec := { name := "fnImpliedLiterals", fn := fun _ => fun
  | [d] => { results := [.lit (.bool false)], args := [d] }
  | _ => none }
def FnImpliedLiteralsWrongFalsely : Prop := fnImpliedLiteralsRow.holds Try.pinned (OpenSpec.ofChange fnImpliedLiteralsWrong)

/-- 'laws.FnSatisfiesAll': WHATEVER THE INPUT: true; the input reads as it did. -/
def fnSatisfiesAllSpec : ChangeSpec := { name := "fnSatisfiesAll", fn := fun _ => fun
  | [d1, d2] => { results := [.lit (.bool true)], args := [d1, d2] }
  | _ => none }
def fnSatisfiesAllRow : OpenClaim := { program := "ytihbgajlnbchlaa", sum := "df964ee98ad8bed4a9ff2b719bae7a32bf3ef0d1ad13b6c4c15208fef6136d35", func := "loop.example/cuttingplanes/laws.FnSatisfiesAll", spec := "fnSatisfiesAll", unfollowed := true, recurses := true, apart := false }
def FnSatisfiesAllSaid : Prop := fnSatisfiesAllRow.holds Try.pinned (OpenSpec.ofChange fnSatisfiesAllSpec)

/-- ITS FALSE NEIGHBOUR: 'it returns false'. Refute it at one input. -/
def fnSatisfiesAllWrong : ChangeSpec := { name := "fnSatisfiesAll", fn := fun _ => fun
  | [d1, d2] => { results := [.lit (.bool false)], args := [d1, d2] }
  | _ => none }
def FnSatisfiesAllWrongFalsely : Prop := fnSatisfiesAllRow.holds Try.pinned (OpenSpec.ofChange fnSatisfiesAllWrong)

/-- 'laws.FnNormalTwice': WHATEVER THE INPUT: true; the input reads as it did. -/
def fnNormalTwiceSpec : ChangeSpec := { name := "fnNormalTwice", fn := fun _ => fun
  | [d] => { results := [.lit (.bool true)], args := [d] }
  | _ => none }
def fnNormalTwiceRow : OpenClaim := { program := "ytihbgajlnbchlaa", sum := "df964ee98ad8bed4a9ff2b719bae7a32bf3ef0d1ad13b6c4c15208fef6136d35", func := "loop.example/cuttingplanes/laws.FnNormalTwice", spec := "fnNormalTwice", apart := false }
def FnNormalTwiceSaid : Prop := fnNormalTwiceRow.holds Try.pinned (OpenSpec.ofChange fnNormalTwiceSpec)

/-- ITS FALSE NEIGHBOUR: 'it returns false'. Refute it at one input. -/
def fnNormalTwiceWrong : ChangeSpec := { name := "fnNormalTwice", fn := fun _ => fun
  | [d] => { results := [.lit (.bool false)], args := [d] }
  | _ => none }
def FnNormalTwiceWrongFalsely : Prop := fnNormalTwiceRow.holds Try.pinned (OpenSpec.ofChange fnNormalTwiceWrong)

/-- 'laws.FnLiteralAxiom': WHATEVER THE INPUT: true; the input reads as it did. -/
def fnLiteralAxiomSpec : ChangeSpec := { name := "fnLiteralAxiom", fn := fun _ => fun
  | [d1, d2] => { results := [.lit (.bool true)], args := [d1, d2] }
  | _ => none }
def fnLiteralAxiomRow : OpenClaim := { program := "ytihbgajlnbchlaa", sum := "df964ee98ad8bed4a9ff2b719bae7a32bf3ef0d1ad13b6c4c15208fef6136d35", func := "loop.example/cuttingplanes/laws.FnLiteralAxiom", spec := "fnLiteralAxiom", apart := false }
def FnLiteralAxiomSaid : Prop := fnLiteralAxiomRow.holds Try.pinned (OpenSpec.ofChange fnLiteralAxiomSpec)

/-- ITS FALSE NEIGHBOUR: 'it returns false'. Refute it at one input. -/
def fnLiteralAxiomWrong : ChangeSpec := { name := "fnLiteralAxiom", fn := fun _ => fun
  | [d1, d2] => { results := [.lit (.bool false)], args := [d1, d2] }
  | _ => none }
def FnLiteralAxiomWrongFalsely : Prop := fnLiteralAxiomRow.holds Try.pinned (OpenSpec.ofChange fnLiteralAxiomWrong)

/-- 'laws.FnNormalForm': WHATEVER THE INPUT: true; the input reads as it did. -/
def fnNormalFormSpec : ChangeSpec := { name := "fnNormalForm", fn := fun _ => fun
  | [d1, d2] => { results := [.lit (.bool true)], args := [d1, d2] }
  | _ => none }
def fnNormalFormRow : OpenClaim := { program := "ytihbgajlnbchlaa", sum := "df964ee98ad8bed4a9ff2b719bae7a32bf3ef0d1ad13b6c4c15208fef6136d35", func := "loop.example/cuttingplanes/laws.FnNormalForm", spec := "fnNormalForm", apart := false }
def FnNormalFormSaid : Prop := fnNormalFormRow.holds Try.pinned (OpenSpec.ofChange fnNormalFormSpec)

/-- ITS FALSE NEIGHBOUR: 'it returns false'. Refute it at one input. -/
def fnNormalFormWrong : ChangeSpec := { name := "fnNormalForm", fn := fun _ => fun
  | [d1, d2] => { results := [.lit (.bool false)], args := [d1, d2] }
  | _ => none }
def FnNormalFormWrongFalsely : Prop := fnNormalFormRow.holds Try.pinned (OpenSpec.ofChange fnNormalFormWrong)

/-- 'laws.FnAddConstraints': WHATEVER THE INPUT: true; the input reads as it did. -/
def fnAddConstraintsSpec : ChangeSpec := { name := "fnAddConstraints", fn := fun _ => fun
  | [d1, d2] => { results := [.lit (.bool true)], args := [d1, d2] }
  | _ => none }
def fnAddConstraintsRow : OpenClaim := { program := "ytihbgajlnbchlaa", sum := "df964ee98ad8bed4a9ff2b719bae7a32bf3ef0d1ad13b6c4c15208fef6136d35", func := "loop.example/cuttingplanes/laws.FnAddConstraints", spec := "fnAddConstraints", apart := false }
def FnAddConstraintsSaid : Prop := fnAddConstraintsRow.holds Try.pinned (OpenSpec.ofChange fnAddConstraintsSpec)

/-- ITS FALSE NEIGHBOUR: 'it returns false'. Refute it at one input. -/
def fnAddConstraintsWrong : ChangeSpec := { name := "fnAddConstraints", fn := fun _ => fun
  | [d1, d2] => { results := [.lit (.bool false)], args := [d1, d2] }
  | _ => none }
def FnAddConstraintsWrongFalsely : Prop := fnAddConstraintsRow.holds Try.pinned (OpenSpec.ofChange fnAddConstraintsWrong)

/-- 'laws.FnPropagate': WHATEVER THE INPUT: true; the input reads as it did. -/
def fnPropagateSpec : ChangeSpec := { name := "fnPropagate", fn := fun _ => fun
  | [d] => { results := [.lit (.bool true)], args := [d] }
  | _ => none }
def fnPropagateRow : OpenClaim := { program := "ytihbgajlnbchlaa", sum := "df964ee98ad8bed4a9ff2b719bae7a32bf3ef0d1ad13b6c4c15208fef6136d35", func := "loop.example/cuttingplanes/laws.FnPropagate", spec := "fnPropagate", unfollowed := true, recurses := true, apart := false }
def FnPropagateSaid : Prop := fnPropagateRow.holds Try.pinned (OpenSpec.ofChange fnPropagateSpec)

/-- ITS FALSE NEIGHBOUR: 'it returns false'. Refute it at one input. -/
def fnPropagateWrong : ChangeSpec := { name := "fnPropagate", fn := fun _ => fun
  | [d] => { results := [.lit (.bool false)], args := [d] }
  | _ => none }
def FnPropagateWrongFalsely : Prop := fnPropagateRow.holds Try.pinned (OpenSpec.ofChange fnPropagateWrong)

/-- 'laws.FnPropagateFixed': WHATEVER THE INPUT: true; the input reads as it did. -/
def fnPropagateFixedSpec : ChangeSpec := { name := "fnPropagateFixed", fn := fun _ => fun
  | [d] => { results := [.lit (.bool true)], args := [d] }
  | _ => none }
def fnPropagateFixedRow : OpenClaim := { program := "ytihbgajlnbchlaa", sum := "df964ee98ad8bed4a9ff2b719bae7a32bf3ef0d1ad13b6c4c15208fef6136d35", func := "loop.example/cuttingplanes/laws.FnPropagateFixed", spec := "fnPropagateFixed", unfollowed := true, recurses := true, apart := false }
def FnPropagateFixedSaid : Prop := fnPropagateFixedRow.holds Try.pinned (OpenSpec.ofChange fnPropagateFixedSpec)

/-- ITS FALSE NEIGHBOUR: 'it returns false'. Refute it at one input. -/
def fnPropagateFixedWrong : ChangeSpec := { name := "fnPropagateFixed", fn := fun _ => fun
  | [d] => { results := [.lit (.bool false)], args := [d] }
  | _ => none }
def FnPropagateFixedWrongFalsely : Prop := fnPropagateFixedRow.holds Try.pinned (OpenSpec.ofChange fnPropagateFixedWrong)

/-- 'laws.FnPropagateMonotone': WHATEVER THE INPUT: true; the input reads as it did. -/
def fnPropagateMonotoneSpec : ChangeSpec := { name := "fnPropagateMonotone", fn := fun _ => fun
  | [d1, d2] => { results := [.lit (.bool true)], args := [d1, d2] }
  | _ => none }
def fnPropagateMonotoneRow : OpenClaim := { program := "ytihbgajlnbchlaa", sum := "df964ee98ad8bed4a9ff2b719bae7a32bf3ef0d1ad13b6c4c15208fef6136d35", func := "loop.example/cuttingplanes/laws.FnPropagateMonotone", spec := "fnPropagateMonotone", unfollowed := true, recurses := true, apart := false }
def FnPropagateMonotoneSaid : Prop := fnPropagateMonotoneRow.holds Try.pinned (OpenSpec.ofChange fnPropagateMonotoneSpec)

/-- ITS FALSE NEIGHBOUR: 'it returns false'. Refute it at one input. -/
def fnPropagateMonotoneWrong : ChangeSpec := { name := "fnPropagateMonotone", fn := fun _ => fun
  | [d1, d2] => { results := [.lit (.bool false)], args := [d1, d2] }
  | _ => none }
def FnPropagateMonotoneWrongFalsely : Prop := fnPropagateMonotoneRow.holds Try.pinned (OpenSpec.ofChange fnPropagateMonotoneWrong)

/-- 'laws.FnPropagateUnit': WHATEVER THE INPUT: true; the input reads as it did. -/
def fnPropagateUnitSpec : ChangeSpec := { name := "fnPropagateUnit", fn := fun _ => fun
  | [d1, d2] => { results := [.lit (.bool true)], args := [d1, d2] }
  | _ => none }
def fnPropagateUnitRow : OpenClaim := { program := "ytihbgajlnbchlaa", sum := "df964ee98ad8bed4a9ff2b719bae7a32bf3ef0d1ad13b6c4c15208fef6136d35", func := "loop.example/cuttingplanes/laws.FnPropagateUnit", spec := "fnPropagateUnit", unfollowed := true, recurses := true, apart := false }
def FnPropagateUnitSaid : Prop := fnPropagateUnitRow.holds Try.pinned (OpenSpec.ofChange fnPropagateUnitSpec)

/-- ITS FALSE NEIGHBOUR: 'it returns false'. Refute it at one input. -/
def fnPropagateUnitWrong : ChangeSpec := { name := "fnPropagateUnit", fn := fun _ => fun
  | [d1, d2] => { results := [.lit (.bool false)], args := [d1, d2] }
  | _ => none }
def FnPropagateUnitWrongFalsely : Prop := fnPropagateUnitRow.holds Try.pinned (OpenSpec.ofChange fnPropagateUnitWrong)

/-- 'laws.FnRupMember': WHATEVER THE INPUT: true; the input reads as it did. -/
def fnRupMemberSpec : ChangeSpec := { name := "fnRupMember", fn := fun _ => fun
  | [d1, d2] => { results := [.lit (.bool true)], args := [d1, d2] }
  | _ => none }
def fnRupMemberRow : OpenClaim := { program := "ytihbgajlnbchlaa", sum := "df964ee98ad8bed4a9ff2b719bae7a32bf3ef0d1ad13b6c4c15208fef6136d35", func := "loop.example/cuttingplanes/laws.FnRupMember", spec := "fnRupMember", unfollowed := true, recurses := true, apart := false }
def FnRupMemberSaid : Prop := fnRupMemberRow.holds Try.pinned (OpenSpec.ofChange fnRupMemberSpec)

/-- ITS FALSE NEIGHBOUR: 'it returns false'. Refute it at one input. -/
def fnRupMemberWrong : ChangeSpec := { name := "fnRupMember", fn := fun _ => fun
  | [d1, d2] => { results := [.lit (.bool false)], args := [d1, d2] }
  | _ => none }
def FnRupMemberWrongFalsely : Prop := fnRupMemberRow.holds Try.pinned (OpenSpec.ofChange fnRupMemberWrong)

/- THE SECOND FORM. 'bulk': how many values and letters a reading holds, each counted each time it is reached (what is shared counts as often as it is met; a slice's spare places count too). A statement '..UptoSaid' is the law's where the arguments, and the package variables that the reading takes, are together of bulk at most 1048576: NARROWER than '..Said'. Prove '..Said' where nothing that the law and all that it calls make is longer than what came in: it says more and counts as full. Else prove '..UptoSaid'. A law counts once. -/
mutual
def uptoBulk {H : Type} : DataW H → Nat
  | .lit (.string bytes) => bytes.length + 1
  | .lit _ => 1
  | .nil => 1
  | .ptr d => uptoBulk d + 1
  | .slice elems spare => uptoBulkAll elems + uptoBulkAll spare + 1
  | .agg parts => uptoBulkAll parts + 1
  | .iface _ d => uptoBulk d + 1
  | .map entries => uptoBulkEntries entries + 1
  | .held _ => 1
def uptoBulkAll {H : Type} : List (DataW H) → Nat
  | [] => 0
  | d :: r => uptoBulk d + uptoBulkAll r
def uptoBulkEntries {H : Type} : List (Lit × DataW H) → Nat
  | [] => 0
  | x :: r => uptoBulkEntry x + uptoBulkEntries r
def uptoBulkEntry {H : Type} : Lit × DataW H → Nat
  | (.string bytes, d) => bytes.length + uptoBulk d + 1
  | (_, d) => uptoBulk d + 1
 end
def uptoSmall : (H : Type) → List (DataW H) → Bool := fun _ ds => decide (uptoBulkAll ds ≤ 1048576)
def OpenSpec.upto (s : _root_.Go.ChangeSpec) : _root_.Go.OpenSpec := { _root_.Go.OpenSpec.ofChange s with cond := some uptoSmall }

/-- 'laws.FnSlackOf', WHERE WHAT IT READS IS OF BULK AT MOST 1048576: true; the input reads as it did. -/
def fnSlackOfUptoRow : OpenClaim := { program := "ytihbgajlnbchlaa", sum := "df964ee98ad8bed4a9ff2b719bae7a32bf3ef0d1ad13b6c4c15208fef6136d35", func := "loop.example/cuttingplanes/laws.FnSlackOf", spec := "fnSlackOf", unfollowed := true, recurses := true, apart := false, narrowed := true }
def FnSlackOfUptoSaid : Prop := fnSlackOfUptoRow.holds Try.pinned (OpenSpec.upto fnSlackOfSpec)

/-- 'laws.FnImpliedLiterals', WHERE WHAT IT READS IS OF BULK AT MOST 1048576: true; the input reads as it did. -/
def fnImpliedLiteralsUptoRow : OpenClaim := { program := "ytihbgajlnbchlaa", sum := "df964ee98ad8bed4a9ff2b719bae7a32bf3ef0d1ad13b6c4c15208fef6136d35", func := "loop.example/cuttingplanes/laws.FnImpliedLiterals", spec := "fnImpliedLiterals", unfollowed := true, recurses := true, apart := false, narrowed := true }
def FnImpliedLiteralsUptoSaid : Prop := fnImpliedLiteralsUptoRow.holds Try.pinned (OpenSpec.upto fnImpliedLiteralsSpec)

/-- 'laws.FnSatisfiesAll', WHERE WHAT IT READS IS OF BULK AT MOST 1048576: true; the input reads as it did. -/
def fnSatisfiesAllUptoRow : OpenClaim := { program := "ytihbgajlnbchlaa", sum := "df964ee98ad8bed4a9ff2b719bae7a32bf3ef0d1ad13b6c4c15208fef6136d35", func := "loop.example/cuttingplanes/laws.FnSatisfiesAll", spec := "fnSatisfiesAll", unfollowed := true, recurses := true, apart := false, narrowed := true }
def FnSatisfiesAllUptoSaid : Prop := fnSatisfiesAllUptoRow.holds Try.pinned (OpenSpec.upto fnSatisfiesAllSpec)

/-- 'laws.FnNormalTwice', WHERE WHAT IT READS IS OF BULK AT MOST 1048576: true; the input reads as it did. -/
def fnNormalTwiceUptoRow : OpenClaim := { program := "ytihbgajlnbchlaa", sum := "df964ee98ad8bed4a9ff2b719bae7a32bf3ef0d1ad13b6c4c15208fef6136d35", func := "loop.example/cuttingplanes/laws.FnNormalTwice", spec := "fnNormalTwice", apart := false, narrowed := true }
def FnNormalTwiceUptoSaid : Prop := fnNormalTwiceUptoRow.holds Try.pinned (OpenSpec.upto fnNormalTwiceSpec)

/-- 'laws.FnLiteralAxiom', WHERE WHAT IT READS IS OF BULK AT MOST 1048576: true; the input reads as it did. -/
def fnLiteralAxiomUptoRow : OpenClaim := { program := "ytihbgajlnbchlaa", sum := "df964ee98ad8bed4a9ff2b719bae7a32bf3ef0d1ad13b6c4c15208fef6136d35", func := "loop.example/cuttingplanes/laws.FnLiteralAxiom", spec := "fnLiteralAxiom", apart := false, narrowed := true }
def FnLiteralAxiomUptoSaid : Prop := fnLiteralAxiomUptoRow.holds Try.pinned (OpenSpec.upto fnLiteralAxiomSpec)

/-- 'laws.FnNormalForm', WHERE WHAT IT READS IS OF BULK AT MOST 1048576: true; the input reads as it did. -/
def fnNormalFormUptoRow : OpenClaim := { program := "ytihbgajlnbchlaa", sum := "df964ee98ad8bed4a9ff2b719bae7a32bf3ef0d1ad13b6c4c15208fef6136d35", func := "loop.example/cuttingplanes/laws.FnNormalForm", spec := "fnNormalForm", apart := false, narrowed := true }
def FnNormalFormUptoSaid : Prop := fnNormalFormUptoRow.holds Try.pinned (OpenSpec.upto fnNormalFormSpec)

/-- 'laws.FnAddConstraints', WHERE WHAT IT READS IS OF BULK AT MOST 1048576: true; the input reads as it did. -/
def fnAddConstraintsUptoRow : OpenClaim := { program := "ytihbgajlnbchlaa", sum := "df964ee98ad8bed4a9ff2b719bae7a32bf3ef0d1ad13b6c4c15208fef6136d35", func := "loop.example/cuttingplanes/laws.FnAddConstraints", spec := "fnAddConstraints", apart := false, narrowed := true }
def FnAddConstraintsUptoSaid : Prop := fnAddConstraintsUptoRow.holds Try.pinned (OpenSpec.upto fnAddConstraintsSpec)

/-- 'laws.FnPropagate', WHERE WHAT IT READS IS OF BULK AT MOST 1048576: true; the input reads as it did. -/
def fnPropagateUptoRow : OpenClaim := { program := "ytihbgajlnbchlaa", sum := "df964ee98ad8bed4a9ff2b719bae7a32bf3ef0d1ad13b6c4c15208fef6136d35", func := "loop.example/cuttingplanes/laws.FnPropagate", spec := "fnPropagate", unfollowed := true, recurses := true, apart := false, narrowed := true }
def FnPropagateUptoSaid : Prop := fnPropagateUptoRow.holds Try.pinned (OpenSpec.upto fnPropagateSpec)

/-- 'laws.FnPropagateFixed', WHERE WHAT IT READS IS OF BULK AT MOST 1048576: true; the input reads as it did. -/
def fnPropagateFixedUptoRow : OpenClaim := { program := "ytihbgajlnbchlaa", sum := "df964ee98ad8bed4a9ff2b719bae7a32bf3ef0d1ad13b6c4c15208fef6136d35", func := "loop.example/cuttingplanes/laws.FnPropagateFixed", spec := "fnPropagateFixed", unfollowed := true, recurses := true, apart := false, narrowed := true }
def FnPropagateFixedUptoSaid : Prop := fnPropagateFixedUptoRow.holds Try.pinned (OpenSpec.upto fnPropagateFixedSpec)

/-- 'laws.FnPropagateMonotone', WHERE WHAT IT READS IS OF BULK AT MOST 1048576: true; the input reads as it did. -/
def fnPropagateMonotoneUptoRow : OpenClaim := { program := "ytihbgajlnbchlaa", sum := "df964ee98ad8bed4a9ff2b719bae7a32bf3ef0d1ad13b6c4c15208fef6136d35", func := "loop.example/cuttingplanes/laws.FnPropagateMonotone", spec := "fnPropagateMonotone", unfollowed := true, recurses := true, apart := false, narrowed := true }
def FnPropagateMonotoneUptoSaid : Prop := fnPropagateMonotoneUptoRow.holds Try.pinned (OpenSpec.upto fnPropagateMonotoneSpec)

/-- 'laws.FnPropagateUnit', WHERE WHAT IT READS IS OF BULK AT MOST 1048576: true; the input reads as it did. -/
def fnPropagateUnitUptoRow : OpenClaim := { program := "ytihbgajlnbchlaa", sum := "df964ee98ad8bed4a9ff2b719bae7a32bf3ef0d1ad13b6c4c15208fef6136d35", func := "loop.example/cuttingplanes/laws.FnPropagateUnit", spec := "fnPropagateUnit", unfollowed := true, recurses := true, apart := false, narrowed := true }
def FnPropagateUnitUptoSaid : Prop := fnPropagateUnitUptoRow.holds Try.pinned (OpenSpec.upto fnPropagateUnitSpec)

/-- 'laws.FnRupMember', WHERE WHAT IT READS IS OF BULK AT MOST 1048576: true; the input reads as it did. -/
def fnRupMemberUptoRow : OpenClaim := { program := "ytihbgajlnbchlaa", sum := "df964ee98ad8bed4a9ff2b719bae7a32bf3ef0d1ad13b6c4c15208fef6136d35", func := "loop.example/cuttingplanes/laws.FnRupMember", spec := "fnRupMember", unfollowed := true, recurses := true, apart := false, narrowed := true }
def FnRupMemberUptoSaid : Prop := fnRupMemberUptoRow.holds Try.pinned (OpenSpec.upto fnRupMemberSpec)

end Rows
end Go.Proofs.Ytihbgajlnbchlaa
