/-
  DERIVED. GIVEN WITH THE SEED: THE CARDS: each row of YtbpkpcfhmglddaaDoorRows.lean that lists a variable, with what it lists TIED to the program's text (the seventh form; the later family's looks); each row that meets fmt, with fmt's text TOLD by the authors' own Lean function (tested against real Go, not proved from fmt's source: count such statements apart). THE CARD IS WHAT COUNTS. Prove the row's statement (the work); the ties are given (YtbpkpcfhmglddaaDoorTie.lean); close each card by the builder's one call (the guide's Derived/Test/ToyasCard.lean, 'card_holds'). Laid BY PROGRAM, IN A SANDBOX (cutbox-door.mjs). By AI agents, Wed Nov 11 2026. No macro, syntax, notation, axiom, sorry.
-/
import Derived.Test.YtbpkpcfhmglddaaDoorRows
import GoSem.ClaimSeven
namespace Go.Proofs.YtbpkpcfhmglddaaDoor
namespace Rows

/-- THE TIED CARD OF 'laws.FnConstraintSame'. -/
def fnConstraintSameCard : Claim7 := { stood := { row := fnConstraintSameRow, standIns := [], harness := (true, "8d99e9b016e7c380e58c2eb82964fac913ae2dd654816fddfbfdda7ea5ee9aea"), looks := false }, kinds := [], alts := [], laidByText := true, laidKinds := [.data, .data, .data], laidTests := true, laidLooks := .later }
def FnConstraintSameCardSaid : Prop := Claim7.holds Tryd.pinned (.plain (OpenSpec.ofChange fnConstraintSameSpec)) fnConstraintSameCard

/-- THE SECOND FORM's CARD OF 'laws.FnConstraintSame'. -/
def fnConstraintSameUptoCard : Claim7 := { stood := { row := fnConstraintSameUptoRow, standIns := [], harness := (true, "8d99e9b016e7c380e58c2eb82964fac913ae2dd654816fddfbfdda7ea5ee9aea"), looks := false }, kinds := [], alts := [], laidByText := true, laidKinds := [.data, .data, .data], laidTests := true, laidLooks := .later }
def FnConstraintSameUptoCardSaid : Prop := Claim7.holds Tryd.pinned (.plain (OpenSpec.upto fnConstraintSameSpec)) fnConstraintSameUptoCard
end Rows
end Go.Proofs.YtbpkpcfhmglddaaDoor
