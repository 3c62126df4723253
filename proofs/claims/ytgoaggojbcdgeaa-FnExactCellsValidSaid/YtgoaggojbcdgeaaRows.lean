/-
  No cell of these rows narrows 'for every input' (looked for: loops, veiled, ifaces, maps, wideKeys, modest, calm, conditions, laid).
  DERIVED. THE GIVEN ROWS OF THIS SEAT. 7 by the template 'for every input the law returns true; each argument reads behind the call as it read before'; 0 by the template 'total and deterministic' (their statements: YtgoaggojbcdgeaaTotals.lean).
  GIVEN WITH THE SEED: the statements are not yours to turn. If you find one false, say at which input.
  Laid BY PROGRAM, IN A SANDBOX (cutbox-rows.mjs): the forced cells as the released guide's own fill.sh prints them over the translation 4a671927a6dfbf32… (all of the seat's roots in one cut). By AI agents, Wed Nov 11 2026. No macro, syntax, notation, axiom, sorry.
-/
import Derived.Test.YtgoaggojbcdgeaaChecked
import GoSem.Claim
import GoSem.ClaimJoined
import GoSem.ClaimMapViews
import Derived.JoinedTies
import Derived.KernelRfl
namespace Go.Proofs.Ytgoaggojbcdgeaa
/- THE CELL 'sum', in the pinned program and in every row, IS THE sha256 OF THE DUMP (.gsa) THAT YtgoaggojbcdgeaaProg.lean LOADS. Nothing in Lean hashes anything: it is a label: what it is worth is what the hold of that sum in a sandbox is worth. -/
noncomputable def Try.pinned : Pinned := { name := "ytgoaggojbcdgeaa", sum := "4a671927a6dfbf324ce65d4367cb81ae0c1863dcaee31745a7e538f9d487d916", checked := Try.checked }
namespace Rows
def none {H : Type} : Left H := { results := [], args := [] }

/-- 'laws.FnExactClauseOf': WHATEVER THE INPUT: true; the input reads as it did. -/
def fnExactClauseOfSpec : ChangeSpec := { name := "fnExactClauseOf", fn := fun _ => fun
  | [d] => { results := [.lit (.bool true)], args := [d] }
  | _ => none }
def fnExactClauseOfRow : OpenClaim := { program := "ytgoaggojbcdgeaa", sum := "4a671927a6dfbf324ce65d4367cb81ae0c1863dcaee31745a7e538f9d487d916", func := "loop.example/cuttingplanes/laws.FnExactClauseOf", spec := "fnExactClauseOf", unfollowed := true, recurses := true, apart := false }
def FnExactClauseOfSaid : Prop := fnExactClauseOfRow.holds Try.pinned (OpenSpec.ofChange fnExactClauseOfSpec)

/-- ITS FALSE NEIGHBOUR: 'it returns false'. Refute it at one input. -/
def fnExactClauseOfWrong : ChangeSpec := { name := "fnExactClauseOf", fn := fun _ => fun
  | [d] => { results := [.lit (.bool false)], args := [d] }
  | _ => none }
def FnExactClauseOfWrongFalsely : Prop := fnExactClauseOfRow.holds Try.pinned (OpenSpec.ofChange fnExactClauseOfWrong)

/-- 'laws.FnSaturateCovers': WHATEVER THE INPUT: true; the input reads as it did. -/
def fnSaturateCoversSpec : ChangeSpec := { name := "fnSaturateCovers", fn := fun _ => fun
  | [d] => { results := [.lit (.bool true)], args := [d] }
  | _ => none }
def fnSaturateCoversRow : OpenClaim := { program := "ytgoaggojbcdgeaa", sum := "4a671927a6dfbf324ce65d4367cb81ae0c1863dcaee31745a7e538f9d487d916", func := "loop.example/cuttingplanes/laws.FnSaturateCovers", spec := "fnSaturateCovers", unfollowed := true, recurses := true, apart := false }
def FnSaturateCoversSaid : Prop := fnSaturateCoversRow.holds Try.pinned (OpenSpec.ofChange fnSaturateCoversSpec)

/-- ITS FALSE NEIGHBOUR: 'it returns false'. Refute it at one input. -/
def fnSaturateCoversWrong : ChangeSpec := { name := "fnSaturateCovers", fn := fun _ => fun
  | [d] => { results := [.lit (.bool false)], args := [d] }
  | _ => none }
def FnSaturateCoversWrongFalsely : Prop := fnSaturateCoversRow.holds Try.pinned (OpenSpec.ofChange fnSaturateCoversWrong)

/-- 'laws.FnExactProofSame': WHATEVER THE INPUT: true; the input reads as it did. -/
def fnExactProofSameSpec : ChangeSpec := { name := "fnExactProofSame", fn := fun _ => fun
  | [d1, d2] => { results := [.lit (.bool true)], args := [d1, d2] }
  | _ => none }
def fnExactProofSameRow : OpenClaim := { program := "ytgoaggojbcdgeaa", sum := "4a671927a6dfbf324ce65d4367cb81ae0c1863dcaee31745a7e538f9d487d916", func := "loop.example/cuttingplanes/laws.FnExactProofSame", spec := "fnExactProofSame", unfollowed := true, recurses := true, apart := false }
def FnExactProofSameSaid : Prop := fnExactProofSameRow.holds Try.pinned (OpenSpec.ofChange fnExactProofSameSpec)

/-- ITS FALSE NEIGHBOUR: 'it returns false'. Refute it at one input. -/
def fnExactProofSameWrong : ChangeSpec := { name := "fnExactProofSame", fn := fun _ => fun
  | [d1, d2] => { results := [.lit (.bool false)], args := [d1, d2] }
  | _ => none }
def FnExactProofSameWrongFalsely : Prop := fnExactProofSameRow.holds Try.pinned (OpenSpec.ofChange fnExactProofSameWrong)

/-- 'laws.FnProofSame': WHATEVER THE INPUT: true; the input reads as it did. -/
def fnProofSameSpec : ChangeSpec := { name := "fnProofSame", fn := fun _ => fun
  | [d] => { results := [.lit (.bool true)], args := [d] }
  | _ => none }
def fnProofSameRow : OpenClaim := { program := "ytgoaggojbcdgeaa", sum := "4a671927a6dfbf324ce65d4367cb81ae0c1863dcaee31745a7e538f9d487d916", func := "loop.example/cuttingplanes/laws.FnProofSame", spec := "fnProofSame", unfollowed := true, recurses := true, apart := false }
def FnProofSameSaid : Prop := fnProofSameRow.holds Try.pinned (OpenSpec.ofChange fnProofSameSpec)

/-- ITS FALSE NEIGHBOUR: 'it returns false'. Refute it at one input. -/
def fnProofSameWrong : ChangeSpec := { name := "fnProofSame", fn := fun _ => fun
  | [d] => { results := [.lit (.bool false)], args := [d] }
  | _ => none }
def FnProofSameWrongFalsely : Prop := fnProofSameRow.holds Try.pinned (OpenSpec.ofChange fnProofSameWrong)

/-- 'laws.FnExactModelSame': WHATEVER THE INPUT: true; the input reads as it did. -/
def fnExactModelSameSpec : ChangeSpec := { name := "fnExactModelSame", fn := fun _ => fun
  | [d1, d2] => { results := [.lit (.bool true)], args := [d1, d2] }
  | _ => none }
def fnExactModelSameRow : OpenClaim := { program := "ytgoaggojbcdgeaa", sum := "4a671927a6dfbf324ce65d4367cb81ae0c1863dcaee31745a7e538f9d487d916", func := "loop.example/cuttingplanes/laws.FnExactModelSame", spec := "fnExactModelSame", unfollowed := true, recurses := true, apart := false }
def FnExactModelSameSaid : Prop := fnExactModelSameRow.holds Try.pinned (OpenSpec.ofChange fnExactModelSameSpec)

/-- ITS FALSE NEIGHBOUR: 'it returns false'. Refute it at one input. -/
def fnExactModelSameWrong : ChangeSpec := { name := "fnExactModelSame", fn := fun _ => fun
  | [d1, d2] => { results := [.lit (.bool false)], args := [d1, d2] }
  | _ => none }
def FnExactModelSameWrongFalsely : Prop := fnExactModelSameRow.holds Try.pinned (OpenSpec.ofChange fnExactModelSameWrong)

/-- 'laws.FnExactModelValid': WHATEVER THE INPUT: true; the input reads as it did. -/
def fnExactModelValidSpec : ChangeSpec := { name := "fnExactModelValid", fn := fun _ => fun
  | [d] => { results := [.lit (.bool true)], args := [d] }
  | _ => none }
def fnExactModelValidRow : OpenClaim := { program := "ytgoaggojbcdgeaa", sum := "4a671927a6dfbf324ce65d4367cb81ae0c1863dcaee31745a7e538f9d487d916", func := "loop.example/cuttingplanes/laws.FnExactModelValid", spec := "fnExactModelValid", unfollowed := true, recurses := true, apart := false }
def FnExactModelValidSaid : Prop := fnExactModelValidRow.holds Try.pinned (OpenSpec.ofChange fnExactModelValidSpec)

/-- ITS FALSE NEIGHBOUR: 'it returns false'. Refute it at one input. -/
def fnExactModelValidWrong : ChangeSpec := { name := "fnExactModelValid", fn := fun _ => fun
  | [d] => { results := [.lit (.bool false)], args := [d] }
  | _ => none }
def FnExactModelValidWrongFalsely : Prop := fnExactModelValidRow.holds Try.pinned (OpenSpec.ofChange fnExactModelValidWrong)

/-- 'laws.FnExactCellsValid': WHATEVER THE INPUT: true; the input reads as it did. -/
def fnExactCellsValidSpec : ChangeSpec := { name := "fnExactCellsValid", fn := fun _ => fun
  | [d1, d2] => { results := [.lit (.bool true)], args := [d1, d2] }
  | _ => none }
def fnExactCellsValidRow : OpenClaim := { program := "ytgoaggojbcdgeaa", sum := "4a671927a6dfbf324ce65d4367cb81ae0c1863dcaee31745a7e538f9d487d916", func := "loop.example/cuttingplanes/laws.FnExactCellsValid", spec := "fnExactCellsValid", unfollowed := true, recurses := true, apart := false }
def FnExactCellsValidSaid : Prop := fnExactCellsValidRow.holds Try.pinned (OpenSpec.ofChange fnExactCellsValidSpec)

/-- ITS FALSE NEIGHBOUR: 'it returns false'. Refute it at one input. -/
def fnExactCellsValidWrong : ChangeSpec := { name := "fnExactCellsValid", fn := fun _ => fun
  | [d1, d2] => { results := [.lit (.bool false)], args := [d1, d2] }
  | _ => none }
def FnExactCellsValidWrongFalsely : Prop := fnExactCellsValidRow.holds Try.pinned (OpenSpec.ofChange fnExactCellsValidWrong)

/- THE SECOND FORM. 'bulk': how many values and letters a reading holds, each counted each time it is reached (what is shared counts as often as it is met; a slice's spare places count too). A statement '..UptoSaid' is the law's where the arguments, and the package variables that the reading takes, are together of bulk at most 1048576: NARROWER than '..Said'. Prove '..Said' where nothing that the law and all that it calls make is longer than what came in: it says more and counts as full. Else prove '..UptoSaid'. A law counts once. -/
mutual
def uptoBulk {H : Type} : DataW H → Nat
  | .lit (.string bytes) => bytes.length + 1
  | .lit _ => 1
  | .nil => 1
  | .ptr d => uptoBulk d + 1
  | .slice elems spare => uptoBulkAll elems + uptoBulkAll spare + 1
  | .agg parts => uptoBulkAll parts + 1
  | .iface _ d => uptoBulk d + 1
  | .map entries => uptoBulkEntries entries + 1
  | .held _ => 1
def uptoBulkAll {H : Type} : List (DataW H) → Nat
  | [] => 0
  | d :: r => uptoBulk d + uptoBulkAll r
def uptoBulkEntries {H : Type} : List (Lit × DataW H) → Nat
  | [] => 0
  | x :: r => uptoBulkEntry x + uptoBulkEntries r
def uptoBulkEntry {H : Type} : Lit × DataW H → Nat
  | (.string bytes, d) => bytes.length + uptoBulk d + 1
  | (_, d) => uptoBulk d + 1
 end
def uptoSmall : (H : Type) → List (DataW H) → Bool := fun _ ds => decide (uptoBulkAll ds ≤ 1048576)
def OpenSpec.upto (s : _root_.Go.ChangeSpec) : _root_.Go.OpenSpec := { _root_.Go.OpenSpec.ofChange s with cond := some uptoSmall }

/-- 'laws.FnExactClauseOf', WHERE WHAT IT READS IS OF BULK AT MOST 1048576: true; the input reads as it did. -/
def fnExactClauseOfUptoRow : OpenClaim := { program := "ytgoaggojbcdgeaa", sum := "4a671927a6dfbf324ce65d4367cb81ae0c1863dcaee31745a7e538f9d487d916", func := "loop.example/cuttingplanes/laws.FnExactClauseOf", spec := "fnExactClauseOf", unfollowed := true, recurses := true, apart := false, narrowed := true }
def FnExactClauseOfUptoSaid : Prop := fnExactClauseOfUptoRow.holds Try.pinned (OpenSpec.upto fnExactClauseOfSpec)

/-- 'laws.FnSaturateCovers', WHERE WHAT IT READS IS OF BULK AT MOST 1048576: true; the input reads as it did. -/
def fnSaturateCoversUptoRow : OpenClaim := { program := "ytgoaggojbcdgeaa", sum := "4a671927a6dfbf324ce65d4367cb81ae0c1863dcaee31745a7e538f9d487d916", func := "loop.example/cuttingplanes/laws.FnSaturateCovers", spec := "fnSaturateCovers", unfollowed := true, recurses := true, apart := false, narrowed := true }
def FnSaturateCoversUptoSaid : Prop := fnSaturateCoversUptoRow.holds Try.pinned (OpenSpec.upto fnSaturateCoversSpec)

/-- 'laws.FnExactProofSame', WHERE WHAT IT READS IS OF BULK AT MOST 1048576: true; the input reads as it did. -/
def fnExactProofSameUptoRow : OpenClaim := { program := "ytgoaggojbcdgeaa", sum := "4a671927a6dfbf324ce65d4367cb81ae0c1863dcaee31745a7e538f9d487d916", func := "loop.example/cuttingplanes/laws.FnExactProofSame", spec := "fnExactProofSame", unfollowed := true, recurses := true, apart := false, narrowed := true }
def FnExactProofSameUptoSaid : Prop := fnExactProofSameUptoRow.holds Try.pinned (OpenSpec.upto fnExactProofSameSpec)

/-- 'laws.FnProofSame', WHERE WHAT IT READS IS OF BULK AT MOST 1048576: true; the input reads as it did. -/
def fnProofSameUptoRow : OpenClaim := { program := "ytgoaggojbcdgeaa", sum := "4a671927a6dfbf324ce65d4367cb81ae0c1863dcaee31745a7e538f9d487d916", func := "loop.example/cuttingplanes/laws.FnProofSame", spec := "fnProofSame", unfollowed := true, recurses := true, apart := false, narrowed := true }
def FnProofSameUptoSaid : Prop := fnProofSameUptoRow.holds Try.pinned (OpenSpec.upto fnProofSameSpec)

/-- 'laws.FnExactModelSame', WHERE WHAT IT READS IS OF BULK AT MOST 1048576: true; the input reads as it did. -/
def fnExactModelSameUptoRow : OpenClaim := { program := "ytgoaggojbcdgeaa", sum := "4a671927a6dfbf324ce65d4367cb81ae0c1863dcaee31745a7e538f9d487d916", func := "loop.example/cuttingplanes/laws.FnExactModelSame", spec := "fnExactModelSame", unfollowed := true, recurses := true, apart := false, narrowed := true }
def FnExactModelSameUptoSaid : Prop := fnExactModelSameUptoRow.holds Try.pinned (OpenSpec.upto fnExactModelSameSpec)

/-- 'laws.FnExactModelValid', WHERE WHAT IT READS IS OF BULK AT MOST 1048576: true; the input reads as it did. -/
def fnExactModelValidUptoRow : OpenClaim := { program := "ytgoaggojbcdgeaa", sum := "4a671927a6dfbf324ce65d4367cb81ae0c1863dcaee31745a7e538f9d487d916", func := "loop.example/cuttingplanes/laws.FnExactModelValid", spec := "fnExactModelValid", unfollowed := true, recurses := true, apart := false, narrowed := true }
def FnExactModelValidUptoSaid : Prop := fnExactModelValidUptoRow.holds Try.pinned (OpenSpec.upto fnExactModelValidSpec)

/-- 'laws.FnExactCellsValid', WHERE WHAT IT READS IS OF BULK AT MOST 1048576: true; the input reads as it did. -/
def fnExactCellsValidUptoRow : OpenClaim := { program := "ytgoaggojbcdgeaa", sum := "4a671927a6dfbf324ce65d4367cb81ae0c1863dcaee31745a7e538f9d487d916", func := "loop.example/cuttingplanes/laws.FnExactCellsValid", spec := "fnExactCellsValid", unfollowed := true, recurses := true, apart := false, narrowed := true }
def FnExactCellsValidUptoSaid : Prop := fnExactCellsValidUptoRow.holds Try.pinned (OpenSpec.upto fnExactCellsValidSpec)

end Rows
end Go.Proofs.Ytgoaggojbcdgeaa
