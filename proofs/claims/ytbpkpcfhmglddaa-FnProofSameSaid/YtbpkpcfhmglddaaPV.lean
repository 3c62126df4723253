/- PartialValid, the program's and the reference's; slices.IndexFunc and ContainsFunc over integers. -/
import Derived.Test.YtbpkpcfhmglddaaIntS
import Derived.Test.YtbpkpcfhmglddaaInts
import Derived.Shelf.Abstract
namespace Go.Proofs.Ytbpkpcfhmglddaa
open Go.RowKit

def pvB (p : List Int) : Bool := decide (p.length = 12) && p.all fun n => inB n (-1) 1

theorem all_drop {α : Type} (f : α → Bool) (xs : List α) (k : Nat) (x : α) (hx : xs[k]? = some x) (h : xs.all f = (xs.drop k).all f) :
    (f x = true → xs.all f = (xs.drop (k + 1)).all f) ∧ (f x = false → xs.all f = false) := by
  rw [drop_of_get xs k x hx, List.all_cons] at h
  exact ⟨fun e => by rw [h, e, Bool.true_and], fun e => by rw [h, e, Bool.false_and]⟩


end Go.Proofs.Ytbpkpcfhmglddaa
