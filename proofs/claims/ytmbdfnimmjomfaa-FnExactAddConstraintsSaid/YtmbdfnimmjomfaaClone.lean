/- slices.Clone over terms, integers, bools: the same elements in memory of the call's own. -/
import Derived.Test.YtmbdfnimmjomfaaMemE
import Derived.Test.YtmbdfnimmjomfaaToT
import Derived.Lib.SliceRun
namespace Go.Proofs.Ytmbdfnimmjomfaa
open Go.RowKit

theorem oneT (ts : List Tm) : ∀ u ∈ encT ts, u.oneCell' = true := by
  induction ts with
  | nil => intro u hu; cases hu
  | cons t ts ih =>
    intro u hu
    simp only [encT, List.mem_cons] at hu
    rcases hu with rfl | rfl | hu
    · rfl
    · rfl
    · exact ih u hu
theorem oneI (zs : List Int) : ∀ u ∈ encI zs, u.oneCell' = true := by
  intro u hu
  unfold encI at hu
  obtain ⟨z, _, rfl⟩ := List.mem_map.1 hu
  rfl
theorem oneB (zs : List Bool) : ∀ u ∈ encB zs, u.oneCell' = true := by
  intro u hu
  unfold encB at hu
  obtain ⟨z, _, rfl⟩ := List.mem_map.1 hu
  rfl
/-- a slice in memory of the call's own that reads as xs -/
def RetS (sz : Nat) (xs : List Value) (w : World) (e : Ending) (w' : World) : Prop :=
  ∃ A n cap, e = .returned (.slice A n cap) ∧ xs.length = n * sz ∧ Got w w' sz A n xs ∧ Ext w w'



end Go.Proofs.Ytmbdfnimmjomfaa
