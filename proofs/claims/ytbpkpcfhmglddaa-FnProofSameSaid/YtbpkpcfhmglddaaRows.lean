/-
  No cell of these rows narrows 'for every input' (looked for: loops, veiled, ifaces, maps, wideKeys, modest, calm, conditions, laid).
  DERIVED. THE GIVEN ROWS OF THIS SEAT. 3 by the template 'for every input the law returns true; each argument reads behind the call as it read before'; 0 by the template 'total and deterministic' (their statements: YtbpkpcfhmglddaaTotals.lean).
  GIVEN WITH THE SEED: the statements are not yours to turn. If you find one false, say at which input.
  Laid BY PROGRAM, IN A SANDBOX (cutbox-rows.mjs): the forced cells as the released guide's own fill.sh prints them over the translation 4358379b61628064… (all of the seat's roots in one cut). By AI agents, Wed Nov 11 2026. No macro, syntax, notation, axiom, sorry.
-/
import Derived.Test.YtbpkpcfhmglddaaChecked
import GoSem.Claim
import GoSem.ClaimJoined
import GoSem.ClaimMapViews
import Derived.JoinedTies
import Derived.KernelRfl
namespace Go.Proofs.Ytbpkpcfhmglddaa
/- THE CELL 'sum', in the pinned program and in every row, IS THE sha256 OF THE DUMP (.gsa) THAT YtbpkpcfhmglddaaProg.lean LOADS. Nothing in Lean hashes anything: it is a label: what it is worth is what the hold of that sum in a sandbox is worth. -/
noncomputable def Try.pinned : Pinned := { name := "ytbpkpcfhmglddaa", sum := "4358379b61628064204701b5dcf4809b5630873c14c1e8ca22325c0e0c402ea6", checked := Try.checked }
namespace Rows
def none {H : Type} : Left H := { results := [], args := [] }

/-- 'laws.FnExactClauseOf': WHATEVER THE INPUT: true; the input reads as it did. -/
def fnExactClauseOfSpec : ChangeSpec := { name := "fnExactClauseOf", fn := fun _ => fun
  | [d] => { results := [.lit (.bool true)], args := [d] }
  | _ => none }
def fnExactClauseOfRow : OpenClaim := { program := "ytbpkpcfhmglddaa", sum := "4358379b61628064204701b5dcf4809b5630873c14c1e8ca22325c0e0c402ea6", func := "loop.example/cuttingplanes/laws.FnExactClauseOf", spec := "fnExactClauseOf", unfollowed := true, recurses := true, apart := false }
def FnExactClauseOfSaid : Prop := fnExactClauseOfRow.holds Try.pinned (OpenSpec.ofChange fnExactClauseOfSpec)

/-- ITS FALSE NEIGHBOUR: 'it returns false'. Refute it at one input. -/
def fnExactClauseOfWrong : ChangeSpec := { name := "fnExactClauseOf", fn := fun _ => fun
  | [d] => { results := [.lit (.bool false)], args := [d] }
  | _ => none }
def FnExactClauseOfWrongFalsely : Prop := fnExactClauseOfRow.holds Try.pinned (OpenSpec.ofChange fnExactClauseOfWrong)

/-- 'laws.FnSaturateCovers': WHATEVER THE INPUT: true; the input reads as it did. -/
def fnSaturateCoversSpec : ChangeSpec := { name := "fnSaturateCovers", fn := fun _ => fun
  | [d] => { results := [.lit (.bool true)], args := [d] }
  | _ => none }
def fnSaturateCoversRow : OpenClaim := { program := "ytbpkpcfhmglddaa", sum := "4358379b61628064204701b5dcf4809b5630873c14c1e8ca22325c0e0c402ea6", func := "loop.example/cuttingplanes/laws.FnSaturateCovers", spec := "fnSaturateCovers", unfollowed := true, recurses := true, apart := false }
def FnSaturateCoversSaid : Prop := fnSaturateCoversRow.holds Try.pinned (OpenSpec.ofChange fnSaturateCoversSpec)

/-- ITS FALSE NEIGHBOUR: 'it returns false'. Refute it at one input. -/
def fnSaturateCoversWrong : ChangeSpec := { name := "fnSaturateCovers", fn := fun _ => fun
  | [d] => { results := [.lit (.bool false)], args := [d] }
  | _ => none }
def FnSaturateCoversWrongFalsely : Prop := fnSaturateCoversRow.holds Try.pinned (OpenSpec.ofChange fnSaturateCoversWrong)

/-- 'laws.FnProofSame': WHATEVER THE INPUT: true; the input reads as it did. -/
def fnProofSameSpec : ChangeSpec := { name := "fnProofSame", fn := fun _ => fun
  | [d] => { results := [.lit (.bool true)], args := [d] }
  | _ => none }
def fnProofSameRow : OpenClaim := { program := "ytbpkpcfhmglddaa", sum := "4358379b61628064204701b5dcf4809b5630873c14c1e8ca22325c0e0c402ea6", func := "loop.example/cuttingplanes/laws.FnProofSame", spec := "fnProofSame", unfollowed := true, recurses := true, apart := false }
def FnProofSameSaid : Prop := fnProofSameRow.holds Try.pinned (OpenSpec.ofChange fnProofSameSpec)

/-- ITS FALSE NEIGHBOUR: 'it returns false'. Refute it at one input. -/
def fnProofSameWrong : ChangeSpec := { name := "fnProofSame", fn := fun _ => fun
  | [d] => { results := [.lit (.bool false)], args := [d] }
  | _ => none }
def FnProofSameWrongFalsely : Prop := fnProofSameRow.holds Try.pinned (OpenSpec.ofChange fnProofSameWrong)

/- THE SECOND FORM. 'bulk': how many values and letters a reading holds, each counted each time it is reached (what is shared counts as often as it is met; a slice's spare places count too). A statement '..UptoSaid' is the law's where the arguments, and the package variables that the reading takes, are together of bulk at most 1048576: NARROWER than '..Said'. Prove '..Said' where nothing that the law and all that it calls make is longer than what came in: it says more and counts as full. Else prove '..UptoSaid'. A law counts once. -/
mutual
def uptoBulk {H : Type} : DataW H → Nat
  | .lit (.string bytes) => bytes.length + 1
  | .lit _ => 1
  | .nil => 1
  | .ptr d => uptoBulk d + 1
  | .slice elems spare => uptoBulkAll elems + uptoBulkAll spare + 1
  | .agg parts => uptoBulkAll parts + 1
  | .iface _ d => uptoBulk d + 1
  | .map entries => uptoBulkEntries entries + 1
  | .held _ => 1
def uptoBulkAll {H : Type} : List (DataW H) → Nat
  | [] => 0
  | d :: r => uptoBulk d + uptoBulkAll r
def uptoBulkEntries {H : Type} : List (Lit × DataW H) → Nat
  | [] => 0
  | x :: r => uptoBulkEntry x + uptoBulkEntries r
def uptoBulkEntry {H : Type} : Lit × DataW H → Nat
  | (.string bytes, d) => bytes.length + uptoBulk d + 1
  | (_, d) => uptoBulk d + 1
 end
def uptoSmall : (H : Type) → List (DataW H) → Bool := fun _ ds => decide (uptoBulkAll ds ≤ 1048576)
def OpenSpec.upto (s : _root_.Go.ChangeSpec) : _root_.Go.OpenSpec := { _root_.Go.OpenSpec.ofChange s with cond := some uptoSmall }

/-- 'laws.FnExactClauseOf', WHERE WHAT IT READS IS OF BULK AT MOST 1048576: true; the input reads as it did. -/
def fnExactClauseOfUptoRow : OpenClaim := { program := "ytbpkpcfhmglddaa", sum := "4358379b61628064204701b5dcf4809b5630873c14c1e8ca22325c0e0c402ea6", func := "loop.example/cuttingplanes/laws.FnExactClauseOf", spec := "fnExactClauseOf", unfollowed := true, recurses := true, apart := false, narrowed := true }
def FnExactClauseOfUptoSaid : Prop := fnExactClauseOfUptoRow.holds Try.pinned (OpenSpec.upto fnExactClauseOfSpec)

/-- 'laws.FnSaturateCovers', WHERE WHAT IT READS IS OF BULK AT MOST 1048576: true; the input reads as it did. -/
def fnSaturateCoversUptoRow : OpenClaim := { program := "ytbpkpcfhmglddaa", sum := "4358379b61628064204701b5dcf4809b5630873c14c1e8ca22325c0e0c402ea6", func := "loop.example/cuttingplanes/laws.FnSaturateCovers", spec := "fnSaturateCovers", unfollowed := true, recurses := true, apart := false, narrowed := true }
def FnSaturateCoversUptoSaid : Prop := fnSaturateCoversUptoRow.holds Try.pinned (OpenSpec.upto fnSaturateCoversSpec)

/-- 'laws.FnProofSame', WHERE WHAT IT READS IS OF BULK AT MOST 1048576: true; the input reads as it did. -/
def fnProofSameUptoRow : OpenClaim := { program := "ytbpkpcfhmglddaa", sum := "4358379b61628064204701b5dcf4809b5630873c14c1e8ca22325c0e0c402ea6", func := "loop.example/cuttingplanes/laws.FnProofSame", spec := "fnProofSame", unfollowed := true, recurses := true, apart := false, narrowed := true }
def FnProofSameUptoSaid : Prop := fnProofSameUptoRow.holds Try.pinned (OpenSpec.upto fnProofSameSpec)

end Rows
end Go.Proofs.Ytbpkpcfhmglddaa
