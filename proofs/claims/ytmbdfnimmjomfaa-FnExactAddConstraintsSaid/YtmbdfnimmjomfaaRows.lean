/-
  No cell of these rows narrows 'for every input' (looked for: loops, veiled, ifaces, maps, wideKeys, modest, calm, conditions, laid).
  DERIVED. THE GIVEN ROWS OF THIS SEAT. 5 by the template 'for every input the law returns true; each argument reads behind the call as it read before'; 0 by the template 'total and deterministic' (their statements: YtmbdfnimmjomfaaTotals.lean).
  GIVEN WITH THE SEED: the statements are not yours to turn. If you find one false, say at which input.
  Laid BY PROGRAM, IN A SANDBOX (cutbox-rows.mjs): the forced cells as the released guide's own fill.sh prints them over the translation 910ccbb81734adc7… (all of the seat's roots in one cut). By AI agents, Wed Nov 11 2026. No macro, syntax, notation, axiom, sorry.
-/
import Derived.Test.YtmbdfnimmjomfaaChecked
import GoSem.Claim
import GoSem.ClaimJoined
import GoSem.ClaimMapViews
import Derived.JoinedTies
import Derived.KernelRfl
namespace Go.Proofs.Ytmbdfnimmjomfaa
/- THE CELL 'sum', in the pinned program and in every row, IS THE sha256 OF THE DUMP (.gsa) THAT YtmbdfnimmjomfaaProg.lean LOADS. Nothing in Lean hashes anything: it is a label: what it is worth is what the hold of that sum in a sandbox is worth. -/
noncomputable def Try.pinned : Pinned := { name := "ytmbdfnimmjomfaa", sum := "910ccbb81734adc72fffc67cf09924287d810ceeb79685947a46cbf783c617f0", checked := Try.checked }
namespace Rows
def none {H : Type} : Left H := { results := [], args := [] }

/-- 'laws.FnExactNormalForm': WHATEVER THE INPUT: true; the input reads as it did. -/
def fnExactNormalFormSpec : ChangeSpec := { name := "fnExactNormalForm", fn := fun _ => fun
  | [d1, d2] => { results := [.lit (.bool true)], args := [d1, d2] }
  | _ => none }
def fnExactNormalFormRow : OpenClaim := { program := "ytmbdfnimmjomfaa", sum := "910ccbb81734adc72fffc67cf09924287d810ceeb79685947a46cbf783c617f0", func := "loop.example/cuttingplanes/laws.FnExactNormalForm", spec := "fnExactNormalForm", apart := false }
def FnExactNormalFormSaid : Prop := fnExactNormalFormRow.holds Try.pinned (OpenSpec.ofChange fnExactNormalFormSpec)

/-- ITS FALSE NEIGHBOUR: 'it returns false'. Refute it at one input. -/
def fnExactNormalFormWrong : ChangeSpec := { name := "fnExactNormalForm", fn := fun _ => fun
  | [d1, d2] => { results := [.lit (.bool false)], args := [d1, d2] }
  | _ => none }
def FnExactNormalFormWrongFalsely : Prop := fnExactNormalFormRow.holds Try.pinned (OpenSpec.ofChange fnExactNormalFormWrong)

/-- 'laws.FnExactAddConstraints': WHATEVER THE INPUT: true; the input reads as it did. -/
def fnExactAddConstraintsSpec : ChangeSpec := { name := "fnExactAddConstraints", fn := fun _ => fun
  | [d1, d2] => { results := [.lit (.bool true)], args := [d1, d2] }
  | _ => none }
def fnExactAddConstraintsRow : OpenClaim := { program := "ytmbdfnimmjomfaa", sum := "910ccbb81734adc72fffc67cf09924287d810ceeb79685947a46cbf783c617f0", func := "loop.example/cuttingplanes/laws.FnExactAddConstraints", spec := "fnExactAddConstraints", apart := false }
def FnExactAddConstraintsSaid : Prop := fnExactAddConstraintsRow.holds Try.pinned (OpenSpec.ofChange fnExactAddConstraintsSpec)

/-- ITS FALSE NEIGHBOUR: 'it returns false'. Refute it at one input. -/
def fnExactAddConstraintsWrong : ChangeSpec := { name := "fnExactAddConstraints", fn := fun _ => fun
  | [d1, d2] => { results := [.lit (.bool false)], args := [d1, d2] }
  | _ => none }
def FnExactAddConstraintsWrongFalsely : Prop := fnExactAddConstraintsRow.holds Try.pinned (OpenSpec.ofChange fnExactAddConstraintsWrong)

/-- 'laws.FnCountSplit': WHATEVER THE INPUT: true; the input reads as it did. -/
def fnCountSplitSpec : ChangeSpec := { name := "fnCountSplit", fn := fun _ => fun
  | [d1, d2] => { results := [.lit (.bool true)], args := [d1, d2] }
  | _ => none }
def fnCountSplitRow : OpenClaim := { program := "ytmbdfnimmjomfaa", sum := "910ccbb81734adc72fffc67cf09924287d810ceeb79685947a46cbf783c617f0", func := "loop.example/cuttingplanes/laws.FnCountSplit", spec := "fnCountSplit", unfollowed := true, recurses := true, apart := false }
def FnCountSplitSaid : Prop := fnCountSplitRow.holds Try.pinned (OpenSpec.ofChange fnCountSplitSpec)

/-- ITS FALSE NEIGHBOUR: 'it returns false'. Refute it at one input. -/
def fnCountSplitWrong : ChangeSpec := { name := "fnCountSplit", fn := fun _ => fun
  | [d1, d2] => { results := [.lit (.bool false)], args := [d1, d2] }
  | _ => none }
def FnCountSplitWrongFalsely : Prop := fnCountSplitRow.holds Try.pinned (OpenSpec.ofChange fnCountSplitWrong)

/-- 'laws.FnCountBlock': WHATEVER THE INPUT: true; the input reads as it did. -/
def fnCountBlockSpec : ChangeSpec := { name := "fnCountBlock", fn := fun _ => fun
  | [d] => { results := [.lit (.bool true)], args := [d] }
  | _ => none }
def fnCountBlockRow : OpenClaim := { program := "ytmbdfnimmjomfaa", sum := "910ccbb81734adc72fffc67cf09924287d810ceeb79685947a46cbf783c617f0", func := "loop.example/cuttingplanes/laws.FnCountBlock", spec := "fnCountBlock", unfollowed := true, recurses := true, apart := false }
def FnCountBlockSaid : Prop := fnCountBlockRow.holds Try.pinned (OpenSpec.ofChange fnCountBlockSpec)

/-- ITS FALSE NEIGHBOUR: 'it returns false'. Refute it at one input. -/
def fnCountBlockWrong : ChangeSpec := { name := "fnCountBlock", fn := fun _ => fun
  | [d] => { results := [.lit (.bool false)], args := [d] }
  | _ => none }
def FnCountBlockWrongFalsely : Prop := fnCountBlockRow.holds Try.pinned (OpenSpec.ofChange fnCountBlockWrong)

/-- 'laws.FnNextSolution': WHATEVER THE INPUT: true; the input reads as it did. -/
def fnNextSolutionSpec : ChangeSpec := { name := "fnNextSolution", fn := fun _ => fun
  | [d] => { results := [.lit (.bool true)], args := [d] }
  | _ => none }
def fnNextSolutionRow : OpenClaim := { program := "ytmbdfnimmjomfaa", sum := "910ccbb81734adc72fffc67cf09924287d810ceeb79685947a46cbf783c617f0", func := "loop.example/cuttingplanes/laws.FnNextSolution", spec := "fnNextSolution", unfollowed := true, recurses := true, apart := false }
def FnNextSolutionSaid : Prop := fnNextSolutionRow.holds Try.pinned (OpenSpec.ofChange fnNextSolutionSpec)

/-- ITS FALSE NEIGHBOUR: 'it returns false'. Refute it at one input. -/
def fnNextSolutionWrong : ChangeSpec := { name := "fnNextSolution", fn := fun _ => fun
  | [d] => { results := [.lit (.bool false)], args := [d] }
  | _ => none }
def FnNextSolutionWrongFalsely : Prop := fnNextSolutionRow.holds Try.pinned (OpenSpec.ofChange fnNextSolutionWrong)

/- THE SECOND FORM. 'bulk': how many values and letters a reading holds, each counted each time it is reached (what is shared counts as often as it is met; a slice's spare places count too). A statement '..UptoSaid' is the law's where the arguments, and the package variables that the reading takes, are together of bulk at most 1048576: NARROWER than '..Said'. Prove '..Said' where nothing that the law and all that it calls make is longer than what came in: it says more and counts as full. Else prove '..UptoSaid'. A law counts once. -/
mutual
def uptoBulk {H : Type} : DataW H → Nat
  | .lit (.string bytes) => bytes.length + 1
  | .lit _ => 1
  | .nil => 1
  | .ptr d => uptoBulk d + 1
  | .slice elems spare => uptoBulkAll elems + uptoBulkAll spare + 1
  | .agg parts => uptoBulkAll parts + 1
  | .iface _ d => uptoBulk d + 1
  | .map entries => uptoBulkEntries entries + 1
  | .held _ => 1
def uptoBulkAll {H : Type} : List (DataW H) → Nat
  | [] => 0
  | d :: r => uptoBulk d + uptoBulkAll r
def uptoBulkEntries {H : Type} : List (Lit × DataW H) → Nat
  | [] => 0
  | x :: r => uptoBulkEntry x + uptoBulkEntries r
def uptoBulkEntry {H : Type} : Lit × DataW H → Nat
  | (.string bytes, d) => bytes.length + uptoBulk d + 1
  | (_, d) => uptoBulk d + 1
 end
def uptoSmall : (H : Type) → List (DataW H) → Bool := fun _ ds => decide (uptoBulkAll ds ≤ 1048576)
def OpenSpec.upto (s : _root_.Go.ChangeSpec) : _root_.Go.OpenSpec := { _root_.Go.OpenSpec.ofChange s with cond := some uptoSmall }

/-- 'laws.FnExactNormalForm', WHERE WHAT IT READS IS OF BULK AT MOST 1048576: true; the input reads as it did. -/
def fnExactNormalFormUptoRow : OpenClaim := { program := "ytmbdfnimmjomfaa", sum := "910ccbb81734adc72fffc67cf09924287d810ceeb79685947a46cbf783c617f0", func := "loop.example/cuttingplanes/laws.FnExactNormalForm", spec := "fnExactNormalForm", apart := false, narrowed := true }
def FnExactNormalFormUptoSaid : Prop := fnExactNormalFormUptoRow.holds Try.pinned (OpenSpec.upto fnExactNormalFormSpec)

/-- 'laws.FnExactAddConstraints', WHERE WHAT IT READS IS OF BULK AT MOST 1048576: true; the input reads as it did. -/
def fnExactAddConstraintsUptoRow : OpenClaim := { program := "ytmbdfnimmjomfaa", sum := "910ccbb81734adc72fffc67cf09924287d810ceeb79685947a46cbf783c617f0", func := "loop.example/cuttingplanes/laws.FnExactAddConstraints", spec := "fnExactAddConstraints", apart := false, narrowed := true }
def FnExactAddConstraintsUptoSaid : Prop := fnExactAddConstraintsUptoRow.holds Try.pinned (OpenSpec.upto fnExactAddConstraintsSpec)

/-- 'laws.FnCountSplit', WHERE WHAT IT READS IS OF BULK AT MOST 1048576: true; the input reads as it did. -/
def fnCountSplitUptoRow : OpenClaim := { program := "ytmbdfnimmjomfaa", sum := "910ccbb81734adc72fffc67cf09924287d810ceeb79685947a46cbf783c617f0", func := "loop.example/cuttingplanes/laws.FnCountSplit", spec := "fnCountSplit", unfollowed := true, recurses := true, apart := false, narrowed := true }
def FnCountSplitUptoSaid : Prop := fnCountSplitUptoRow.holds Try.pinned (OpenSpec.upto fnCountSplitSpec)

/-- 'laws.FnCountBlock', WHERE WHAT IT READS IS OF BULK AT MOST 1048576: true; the input reads as it did. -/
def fnCountBlockUptoRow : OpenClaim := { program := "ytmbdfnimmjomfaa", sum := "910ccbb81734adc72fffc67cf09924287d810ceeb79685947a46cbf783c617f0", func := "loop.example/cuttingplanes/laws.FnCountBlock", spec := "fnCountBlock", unfollowed := true, recurses := true, apart := false, narrowed := true }
def FnCountBlockUptoSaid : Prop := fnCountBlockUptoRow.holds Try.pinned (OpenSpec.upto fnCountBlockSpec)

/-- 'laws.FnNextSolution', WHERE WHAT IT READS IS OF BULK AT MOST 1048576: true; the input reads as it did. -/
def fnNextSolutionUptoRow : OpenClaim := { program := "ytmbdfnimmjomfaa", sum := "910ccbb81734adc72fffc67cf09924287d810ceeb79685947a46cbf783c617f0", func := "loop.example/cuttingplanes/laws.FnNextSolution", spec := "fnNextSolution", unfollowed := true, recurses := true, apart := false, narrowed := true }
def FnNextSolutionUptoSaid : Prop := fnNextSolutionUptoRow.holds Try.pinned (OpenSpec.upto fnNextSolutionSpec)

end Rows
end Go.Proofs.Ytmbdfnimmjomfaa
