/-
  No cell of these rows narrows 'for every input' (looked for: loops, veiled, ifaces, maps, wideKeys, modest, calm, conditions, laid).
  DERIVED. THE GIVEN ROWS OF THIS SEAT. 12 by the template 'for every input the law returns true; each argument reads behind the call as it read before'; 0 by the template 'total and deterministic' (their statements: YtlpbffidonpcaaaTotals.lean).
  GIVEN WITH THE SEED: the statements are not yours to turn. If you find one false, say at which input.
  Laid BY PROGRAM, IN A SANDBOX (cutbox-rows.mjs): the forced cells as the released guide's own fill.sh prints them over the translation 76d3fd8edc919ee1… (all of the seat's roots in one cut). By AI agents, Wed Nov 11 2026. No macro, syntax, notation, axiom, sorry.
-/
import Derived.Test.YtlpbffidonpcaaaChecked
import GoSem.Claim
import GoSem.ClaimJoined
import GoSem.ClaimMapViews
import Derived.JoinedTies
import Derived.KernelRfl
namespace Go.Proofs.Ytlpbffidonpcaaa
/- THE CELL 'sum', in the pinned program and in every row, IS THE sha256 OF THE DUMP (.gsa) THAT YtlpbffidonpcaaaProg.lean LOADS. Nothing in Lean hashes anything: it is a label: what it is worth is what the hold of that sum in a sandbox is worth. -/
noncomputable def Try.pinned : Pinned := { name := "ytlpbffidonpcaaa", sum := "76d3fd8edc919ee1bce48163f0fc9b680bc50d2806e525348979253b3d2ef421", checked := Try.checked }
namespace Rows
def none {H : Type} : Left H := { results := [], args := [] }

/-- 'laws.FnExactConstants': WHATEVER THE INPUT: true; the input reads as it did. -/
def fnExactConstantsSpec : ChangeSpec := { name := "fnExactConstants", fn := fun _ => fun
  | [] => { results := [.lit (.bool true)], args := [] }
  | _ => none }
def fnExactConstantsRow : OpenClaim := { program := "ytlpbffidonpcaaa", sum := "76d3fd8edc919ee1bce48163f0fc9b680bc50d2806e525348979253b3d2ef421", func := "loop.example/cuttingplanes/laws.FnExactConstants", spec := "fnExactConstants", apart := false }
def FnExactConstantsSaid : Prop := fnExactConstantsRow.holds Try.pinned (OpenSpec.ofChange fnExactConstantsSpec)

/-- ITS FALSE NEIGHBOUR: 'it returns false'. Refute it at one input. -/
def fnExactConstantsWrong : ChangeSpec := { name := "fnExactConstants", fn := fun _ => fun
  | [] => { results := [.lit (.bool false)], args := [] }
  | _ => none }
def FnExactConstantsWrongFalsely : Prop := fnExactConstantsRow.holds Try.pinned (OpenSpec.ofChange fnExactConstantsWrong)

/-- 'laws.FnExactPartialValid': WHATEVER THE INPUT: true; the input reads as it did. -/
def fnExactPartialValidSpec : ChangeSpec := { name := "fnExactPartialValid", fn := fun _ => fun
  | [d] => { results := [.lit (.bool true)], args := [d] }
  | _ => none }
def fnExactPartialValidRow : OpenClaim := { program := "ytlpbffidonpcaaa", sum := "76d3fd8edc919ee1bce48163f0fc9b680bc50d2806e525348979253b3d2ef421", func := "loop.example/cuttingplanes/laws.FnExactPartialValid", spec := "fnExactPartialValid", unfollowed := true, recurses := true, apart := false }
def FnExactPartialValidSaid : Prop := fnExactPartialValidRow.holds Try.pinned (OpenSpec.ofChange fnExactPartialValidSpec)

/-- ITS FALSE NEIGHBOUR: 'it returns false'. Refute it at one input. -/
def fnExactPartialValidWrong : ChangeSpec := { name := "fnExactPartialValid", fn := fun _ => fun
  | [d] => { results := [.lit (.bool false)], args := [d] }
  | _ => none }
def FnExactPartialValidWrongFalsely : Prop := fnExactPartialValidRow.holds Try.pinned (OpenSpec.ofChange fnExactPartialValidWrong)

/-- 'laws.FnExactLiteralAxiom': WHATEVER THE INPUT: true; the input reads as it did. -/
def fnExactLiteralAxiomSpec : ChangeSpec := { name := "fnExactLiteralAxiom", fn := fun _ => fun
  | [d] => { results := [.lit (.bool true)], args := [d] }
  | _ => none }
def fnExactLiteralAxiomRow : OpenClaim := { program := "ytlpbffidonpcaaa", sum := "76d3fd8edc919ee1bce48163f0fc9b680bc50d2806e525348979253b3d2ef421", func := "loop.example/cuttingplanes/laws.FnExactLiteralAxiom", spec := "fnExactLiteralAxiom", apart := false }
def FnExactLiteralAxiomSaid : Prop := fnExactLiteralAxiomRow.holds Try.pinned (OpenSpec.ofChange fnExactLiteralAxiomSpec)

/-- ITS FALSE NEIGHBOUR: 'it returns false'. Refute it at one input. -/
def fnExactLiteralAxiomWrong : ChangeSpec := { name := "fnExactLiteralAxiom", fn := fun _ => fun
  | [d] => { results := [.lit (.bool false)], args := [d] }
  | _ => none }
def FnExactLiteralAxiomWrongFalsely : Prop := fnExactLiteralAxiomRow.holds Try.pinned (OpenSpec.ofChange fnExactLiteralAxiomWrong)

/-- 'laws.FnExactExtendsPartial': WHATEVER THE INPUT: true; the input reads as it did. -/
def fnExactExtendsPartialSpec : ChangeSpec := { name := "fnExactExtendsPartial", fn := fun _ => fun
  | [d1, d2] => { results := [.lit (.bool true)], args := [d1, d2] }
  | _ => none }
def fnExactExtendsPartialRow : OpenClaim := { program := "ytlpbffidonpcaaa", sum := "76d3fd8edc919ee1bce48163f0fc9b680bc50d2806e525348979253b3d2ef421", func := "loop.example/cuttingplanes/laws.FnExactExtendsPartial", spec := "fnExactExtendsPartial", unfollowed := true, recurses := true, apart := false }
def FnExactExtendsPartialSaid : Prop := fnExactExtendsPartialRow.holds Try.pinned (OpenSpec.ofChange fnExactExtendsPartialSpec)

/-- ITS FALSE NEIGHBOUR: 'it returns false'. Refute it at one input. -/
def fnExactExtendsPartialWrong : ChangeSpec := { name := "fnExactExtendsPartial", fn := fun _ => fun
  | [d1, d2] => { results := [.lit (.bool false)], args := [d1, d2] }
  | _ => none }
def FnExactExtendsPartialWrongFalsely : Prop := fnExactExtendsPartialRow.holds Try.pinned (OpenSpec.ofChange fnExactExtendsPartialWrong)

/-- 'laws.FnExactConstraintSame': WHATEVER THE INPUT: true; the input reads as it did. -/
def fnExactConstraintSameSpec : ChangeSpec := { name := "fnExactConstraintSame", fn := fun _ => fun
  | [d1, d2] => { results := [.lit (.bool true)], args := [d1, d2] }
  | _ => none }
def fnExactConstraintSameRow : OpenClaim := { program := "ytlpbffidonpcaaa", sum := "76d3fd8edc919ee1bce48163f0fc9b680bc50d2806e525348979253b3d2ef421", func := "loop.example/cuttingplanes/laws.FnExactConstraintSame", spec := "fnExactConstraintSame", apart := false }
def FnExactConstraintSameSaid : Prop := fnExactConstraintSameRow.holds Try.pinned (OpenSpec.ofChange fnExactConstraintSameSpec)

/-- ITS FALSE NEIGHBOUR: 'it returns false'. Refute it at one input. -/
def fnExactConstraintSameWrong : ChangeSpec := { name := "fnExactConstraintSame", fn := fun _ => fun
  | [d1, d2] => { results := [.lit (.bool false)], args := [d1, d2] }
  | _ => none }
def FnExactConstraintSameWrongFalsely : Prop := fnExactConstraintSameRow.holds Try.pinned (OpenSpec.ofChange fnExactConstraintSameWrong)

/-- 'laws.FnExactConstraintValid': WHATEVER THE INPUT: true; the input reads as it did. -/
def fnExactConstraintValidSpec : ChangeSpec := { name := "fnExactConstraintValid", fn := fun _ => fun
  | [d] => { results := [.lit (.bool true)], args := [d] }
  | _ => none }
def fnExactConstraintValidRow : OpenClaim := { program := "ytlpbffidonpcaaa", sum := "76d3fd8edc919ee1bce48163f0fc9b680bc50d2806e525348979253b3d2ef421", func := "loop.example/cuttingplanes/laws.FnExactConstraintValid", spec := "fnExactConstraintValid", apart := false }
def FnExactConstraintValidSaid : Prop := fnExactConstraintValidRow.holds Try.pinned (OpenSpec.ofChange fnExactConstraintValidSpec)

/-- ITS FALSE NEIGHBOUR: 'it returns false'. Refute it at one input. -/
def fnExactConstraintValidWrong : ChangeSpec := { name := "fnExactConstraintValid", fn := fun _ => fun
  | [d] => { results := [.lit (.bool false)], args := [d] }
  | _ => none }
def FnExactConstraintValidWrongFalsely : Prop := fnExactConstraintValidRow.holds Try.pinned (OpenSpec.ofChange fnExactConstraintValidWrong)

/-- 'laws.FnExtendsPartial': WHATEVER THE INPUT: true; the input reads as it did. -/
def fnExtendsPartialSpec : ChangeSpec := { name := "fnExtendsPartial", fn := fun _ => fun
  | [d1, d2] => { results := [.lit (.bool true)], args := [d1, d2] }
  | _ => none }
def fnExtendsPartialRow : OpenClaim := { program := "ytlpbffidonpcaaa", sum := "76d3fd8edc919ee1bce48163f0fc9b680bc50d2806e525348979253b3d2ef421", func := "loop.example/cuttingplanes/laws.FnExtendsPartial", spec := "fnExtendsPartial", unfollowed := true, recurses := true, apart := false }
def FnExtendsPartialSaid : Prop := fnExtendsPartialRow.holds Try.pinned (OpenSpec.ofChange fnExtendsPartialSpec)

/-- ITS FALSE NEIGHBOUR: 'it returns false'. Refute it at one input. -/
def fnExtendsPartialWrong : ChangeSpec := { name := "fnExtendsPartial", fn := fun _ => fun
  | [d1, d2] => { results := [.lit (.bool false)], args := [d1, d2] }
  | _ => none }
def FnExtendsPartialWrongFalsely : Prop := fnExtendsPartialRow.holds Try.pinned (OpenSpec.ofChange fnExtendsPartialWrong)

/-- 'laws.FnProofSame': WHATEVER THE INPUT: true; the input reads as it did. -/
def fnProofSameSpec : ChangeSpec := { name := "fnProofSame", fn := fun _ => fun
  | [d] => { results := [.lit (.bool true)], args := [d] }
  | _ => none }
def fnProofSameRow : OpenClaim := { program := "ytlpbffidonpcaaa", sum := "76d3fd8edc919ee1bce48163f0fc9b680bc50d2806e525348979253b3d2ef421", func := "loop.example/cuttingplanes/laws.FnProofSame", spec := "fnProofSame", unfollowed := true, recurses := true, apart := false }
def FnProofSameSaid : Prop := fnProofSameRow.holds Try.pinned (OpenSpec.ofChange fnProofSameSpec)

/-- ITS FALSE NEIGHBOUR: 'it returns false'. Refute it at one input. -/
def fnProofSameWrong : ChangeSpec := { name := "fnProofSame", fn := fun _ => fun
  | [d] => { results := [.lit (.bool false)], args := [d] }
  | _ => none }
def FnProofSameWrongFalsely : Prop := fnProofSameRow.holds Try.pinned (OpenSpec.ofChange fnProofSameWrong)

/-- 'laws.FnExactConstraintFalse': WHATEVER THE INPUT: true; the input reads as it did. -/
def fnExactConstraintFalseSpec : ChangeSpec := { name := "fnExactConstraintFalse", fn := fun _ => fun
  | [d] => { results := [.lit (.bool true)], args := [d] }
  | _ => none }
def fnExactConstraintFalseRow : OpenClaim := { program := "ytlpbffidonpcaaa", sum := "76d3fd8edc919ee1bce48163f0fc9b680bc50d2806e525348979253b3d2ef421", func := "loop.example/cuttingplanes/laws.FnExactConstraintFalse", spec := "fnExactConstraintFalse", apart := false }
def FnExactConstraintFalseSaid : Prop := fnExactConstraintFalseRow.holds Try.pinned (OpenSpec.ofChange fnExactConstraintFalseSpec)

/-- ITS FALSE NEIGHBOUR: 'it returns false'. Refute it at one input. -/
def fnExactConstraintFalseWrong : ChangeSpec := { name := "fnExactConstraintFalse", fn := fun _ => fun
  | [d] => { results := [.lit (.bool false)], args := [d] }
  | _ => none }
def FnExactConstraintFalseWrongFalsely : Prop := fnExactConstraintFalseRow.holds Try.pinned (OpenSpec.ofChange fnExactConstraintFalseWrong)

/-- 'laws.FnBlockingClause': WHATEVER THE INPUT: true; the input reads as it did. -/
def fnBlockingClauseSpec : ChangeSpec := { name := "fnBlockingClause", fn := fun _ => fun
  | [d1, d2] => { results := [.lit (.bool true)], args := [d1, d2] }
  | _ => none }
def fnBlockingClauseRow : OpenClaim := { program := "ytlpbffidonpcaaa", sum := "76d3fd8edc919ee1bce48163f0fc9b680bc50d2806e525348979253b3d2ef421", func := "loop.example/cuttingplanes/laws.FnBlockingClause", spec := "fnBlockingClause", apart := false }
def FnBlockingClauseSaid : Prop := fnBlockingClauseRow.holds Try.pinned (OpenSpec.ofChange fnBlockingClauseSpec)

/-- ITS FALSE NEIGHBOUR: 'it returns false'. Refute it at one input. -/
def fnBlockingClauseWrong : ChangeSpec := { name := "fnBlockingClause", fn := fun _ => fun
  | [d1, d2] => { results := [.lit (.bool false)], args := [d1, d2] }
  | _ => none }
def FnBlockingClauseWrongFalsely : Prop := fnBlockingClauseRow.holds Try.pinned (OpenSpec.ofChange fnBlockingClauseWrong)

/-- 'laws.FnExactBlockingClause': WHATEVER THE INPUT: true; the input reads as it did. -/
def fnExactBlockingClauseSpec : ChangeSpec := { name := "fnExactBlockingClause", fn := fun _ => fun
  | [d] => { results := [.lit (.bool true)], args := [d] }
  | _ => none }
def fnExactBlockingClauseRow : OpenClaim := { program := "ytlpbffidonpcaaa", sum := "76d3fd8edc919ee1bce48163f0fc9b680bc50d2806e525348979253b3d2ef421", func := "loop.example/cuttingplanes/laws.FnExactBlockingClause", spec := "fnExactBlockingClause", apart := false }
def FnExactBlockingClauseSaid : Prop := fnExactBlockingClauseRow.holds Try.pinned (OpenSpec.ofChange fnExactBlockingClauseSpec)

/-- ITS FALSE NEIGHBOUR: 'it returns false'. Refute it at one input. -/
def fnExactBlockingClauseWrong : ChangeSpec := { name := "fnExactBlockingClause", fn := fun _ => fun
  | [d] => { results := [.lit (.bool false)], args := [d] }
  | _ => none }
def FnExactBlockingClauseWrongFalsely : Prop := fnExactBlockingClauseRow.holds Try.pinned (OpenSpec.ofChange fnExactBlockingClauseWrong)

/-- 'laws.FnExactTotalCoef': WHATEVER THE INPUT: true; the input reads as it did. -/
def fnExactTotalCoefSpec : ChangeSpec := { name := "fnExactTotalCoef", fn := fun _ => fun
  | [d] => { results := [.lit (.bool true)], args := [d] }
  | _ => none }
def fnExactTotalCoefRow : OpenClaim := { program := "ytlpbffidonpcaaa", sum := "76d3fd8edc919ee1bce48163f0fc9b680bc50d2806e525348979253b3d2ef421", func := "loop.example/cuttingplanes/laws.FnExactTotalCoef", spec := "fnExactTotalCoef", apart := false }
def FnExactTotalCoefSaid : Prop := fnExactTotalCoefRow.holds Try.pinned (OpenSpec.ofChange fnExactTotalCoefSpec)

/-- ITS FALSE NEIGHBOUR: 'it returns false'. Refute it at one input. -/
def fnExactTotalCoefWrong : ChangeSpec := { name := "fnExactTotalCoef", fn := fun _ => fun
  | [d] => { results := [.lit (.bool false)], args := [d] }
  | _ => none }
def FnExactTotalCoefWrongFalsely : Prop := fnExactTotalCoefRow.holds Try.pinned (OpenSpec.ofChange fnExactTotalCoefWrong)

/- THE SECOND FORM. 'bulk': how many values and letters a reading holds, each counted each time it is reached (what is shared counts as often as it is met; a slice's spare places count too). A statement '..UptoSaid' is the law's where the arguments, and the package variables that the reading takes, are together of bulk at most 1048576: NARROWER than '..Said'. Prove '..Said' where nothing that the law and all that it calls make is longer than what came in: it says more and counts as full. Else prove '..UptoSaid'. A law counts once. -/
mutual
def uptoBulk {H : Type} : DataW H → Nat
  | .lit (.string bytes) => bytes.length + 1
  | .lit _ => 1
  | .nil => 1
  | .ptr d => uptoBulk d + 1
  | .slice elems spare => uptoBulkAll elems + uptoBulkAll spare + 1
  | .agg parts => uptoBulkAll parts + 1
  | .iface _ d => uptoBulk d + 1
  | .map entries => uptoBulkEntries entries + 1
  | .held _ => 1
def uptoBulkAll {H : Type} : List (DataW H) → Nat
  | [] => 0
  | d :: r => uptoBulk d + uptoBulkAll r
def uptoBulkEntries {H : Type} : List (Lit × DataW H) → Nat
  | [] => 0
  | x :: r => uptoBulkEntry x + uptoBulkEntries r
def uptoBulkEntry {H : Type} : Lit × DataW H → Nat
  | (.string bytes, d) => bytes.length + uptoBulk d + 1
  | (_, d) => uptoBulk d + 1
 end
def uptoSmall : (H : Type) → List (DataW H) → Bool := fun _ ds => decide (uptoBulkAll ds ≤ 1048576)
def OpenSpec.upto (s : _root_.Go.ChangeSpec) : _root_.Go.OpenSpec := { _root_.Go.OpenSpec.ofChange s with cond := some uptoSmall }

/-- 'laws.FnExactConstants', WHERE WHAT IT READS IS OF BULK AT MOST 1048576: true; the input reads as it did. -/
def fnExactConstantsUptoRow : OpenClaim := { program := "ytlpbffidonpcaaa", sum := "76d3fd8edc919ee1bce48163f0fc9b680bc50d2806e525348979253b3d2ef421", func := "loop.example/cuttingplanes/laws.FnExactConstants", spec := "fnExactConstants", apart := false, narrowed := true }
def FnExactConstantsUptoSaid : Prop := fnExactConstantsUptoRow.holds Try.pinned (OpenSpec.upto fnExactConstantsSpec)

/-- 'laws.FnExactPartialValid', WHERE WHAT IT READS IS OF BULK AT MOST 1048576: true; the input reads as it did. -/
def fnExactPartialValidUptoRow : OpenClaim := { program := "ytlpbffidonpcaaa", sum := "76d3fd8edc919ee1bce48163f0fc9b680bc50d2806e525348979253b3d2ef421", func := "loop.example/cuttingplanes/laws.FnExactPartialValid", spec := "fnExactPartialValid", unfollowed := true, recurses := true, apart := false, narrowed := true }
def FnExactPartialValidUptoSaid : Prop := fnExactPartialValidUptoRow.holds Try.pinned (OpenSpec.upto fnExactPartialValidSpec)

/-- 'laws.FnExactLiteralAxiom', WHERE WHAT IT READS IS OF BULK AT MOST 1048576: true; the input reads as it did. -/
def fnExactLiteralAxiomUptoRow : OpenClaim := { program := "ytlpbffidonpcaaa", sum := "76d3fd8edc919ee1bce48163f0fc9b680bc50d2806e525348979253b3d2ef421", func := "loop.example/cuttingplanes/laws.FnExactLiteralAxiom", spec := "fnExactLiteralAxiom", apart := false, narrowed := true }
def FnExactLiteralAxiomUptoSaid : Prop := fnExactLiteralAxiomUptoRow.holds Try.pinned (OpenSpec.upto fnExactLiteralAxiomSpec)

/-- 'laws.FnExactExtendsPartial', WHERE WHAT IT READS IS OF BULK AT MOST 1048576: true; the input reads as it did. -/
def fnExactExtendsPartialUptoRow : OpenClaim := { program := "ytlpbffidonpcaaa", sum := "76d3fd8edc919ee1bce48163f0fc9b680bc50d2806e525348979253b3d2ef421", func := "loop.example/cuttingplanes/laws.FnExactExtendsPartial", spec := "fnExactExtendsPartial", unfollowed := true, recurses := true, apart := false, narrowed := true }
def FnExactExtendsPartialUptoSaid : Prop := fnExactExtendsPartialUptoRow.holds Try.pinned (OpenSpec.upto fnExactExtendsPartialSpec)

/-- 'laws.FnExactConstraintSame', WHERE WHAT IT READS IS OF BULK AT MOST 1048576: true; the input reads as it did. -/
def fnExactConstraintSameUptoRow : OpenClaim := { program := "ytlpbffidonpcaaa", sum := "76d3fd8edc919ee1bce48163f0fc9b680bc50d2806e525348979253b3d2ef421", func := "loop.example/cuttingplanes/laws.FnExactConstraintSame", spec := "fnExactConstraintSame", apart := false, narrowed := true }
def FnExactConstraintSameUptoSaid : Prop := fnExactConstraintSameUptoRow.holds Try.pinned (OpenSpec.upto fnExactConstraintSameSpec)

/-- 'laws.FnExactConstraintValid', WHERE WHAT IT READS IS OF BULK AT MOST 1048576: true; the input reads as it did. -/
def fnExactConstraintValidUptoRow : OpenClaim := { program := "ytlpbffidonpcaaa", sum := "76d3fd8edc919ee1bce48163f0fc9b680bc50d2806e525348979253b3d2ef421", func := "loop.example/cuttingplanes/laws.FnExactConstraintValid", spec := "fnExactConstraintValid", apart := false, narrowed := true }
def FnExactConstraintValidUptoSaid : Prop := fnExactConstraintValidUptoRow.holds Try.pinned (OpenSpec.upto fnExactConstraintValidSpec)

/-- 'laws.FnExtendsPartial', WHERE WHAT IT READS IS OF BULK AT MOST 1048576: true; the input reads as it did. -/
def fnExtendsPartialUptoRow : OpenClaim := { program := "ytlpbffidonpcaaa", sum := "76d3fd8edc919ee1bce48163f0fc9b680bc50d2806e525348979253b3d2ef421", func := "loop.example/cuttingplanes/laws.FnExtendsPartial", spec := "fnExtendsPartial", unfollowed := true, recurses := true, apart := false, narrowed := true }
def FnExtendsPartialUptoSaid : Prop := fnExtendsPartialUptoRow.holds Try.pinned (OpenSpec.upto fnExtendsPartialSpec)

/-- 'laws.FnProofSame', WHERE WHAT IT READS IS OF BULK AT MOST 1048576: true; the input reads as it did. -/
def fnProofSameUptoRow : OpenClaim := { program := "ytlpbffidonpcaaa", sum := "76d3fd8edc919ee1bce48163f0fc9b680bc50d2806e525348979253b3d2ef421", func := "loop.example/cuttingplanes/laws.FnProofSame", spec := "fnProofSame", unfollowed := true, recurses := true, apart := false, narrowed := true }
def FnProofSameUptoSaid : Prop := fnProofSameUptoRow.holds Try.pinned (OpenSpec.upto fnProofSameSpec)

/-- 'laws.FnExactConstraintFalse', WHERE WHAT IT READS IS OF BULK AT MOST 1048576: true; the input reads as it did. -/
def fnExactConstraintFalseUptoRow : OpenClaim := { program := "ytlpbffidonpcaaa", sum := "76d3fd8edc919ee1bce48163f0fc9b680bc50d2806e525348979253b3d2ef421", func := "loop.example/cuttingplanes/laws.FnExactConstraintFalse", spec := "fnExactConstraintFalse", apart := false, narrowed := true }
def FnExactConstraintFalseUptoSaid : Prop := fnExactConstraintFalseUptoRow.holds Try.pinned (OpenSpec.upto fnExactConstraintFalseSpec)

/-- 'laws.FnBlockingClause', WHERE WHAT IT READS IS OF BULK AT MOST 1048576: true; the input reads as it did. -/
def fnBlockingClauseUptoRow : OpenClaim := { program := "ytlpbffidonpcaaa", sum := "76d3fd8edc919ee1bce48163f0fc9b680bc50d2806e525348979253b3d2ef421", func := "loop.example/cuttingplanes/laws.FnBlockingClause", spec := "fnBlockingClause", apart := false, narrowed := true }
def FnBlockingClauseUptoSaid : Prop := fnBlockingClauseUptoRow.holds Try.pinned (OpenSpec.upto fnBlockingClauseSpec)

/-- 'laws.FnExactBlockingClause', WHERE WHAT IT READS IS OF BULK AT MOST 1048576: true; the input reads as it did. -/
def fnExactBlockingClauseUptoRow : OpenClaim := { program := "ytlpbffidonpcaaa", sum := "76d3fd8edc919ee1bce48163f0fc9b680bc50d2806e525348979253b3d2ef421", func := "loop.example/cuttingplanes/laws.FnExactBlockingClause", spec := "fnExactBlockingClause", apart := false, narrowed := true }
def FnExactBlockingClauseUptoSaid : Prop := fnExactBlockingClauseUptoRow.holds Try.pinned (OpenSpec.upto fnExactBlockingClauseSpec)

/-- 'laws.FnExactTotalCoef', WHERE WHAT IT READS IS OF BULK AT MOST 1048576: true; the input reads as it did. -/
def fnExactTotalCoefUptoRow : OpenClaim := { program := "ytlpbffidonpcaaa", sum := "76d3fd8edc919ee1bce48163f0fc9b680bc50d2806e525348979253b3d2ef421", func := "loop.example/cuttingplanes/laws.FnExactTotalCoef", spec := "fnExactTotalCoef", apart := false, narrowed := true }
def FnExactTotalCoefUptoSaid : Prop := fnExactTotalCoefUptoRow.holds Try.pinned (OpenSpec.upto fnExactTotalCoefSpec)

end Rows
end Go.Proofs.Ytlpbffidonpcaaa
