/- CoversConstraint, the program's and the reference's: l2Coef, coef, l2Covers. -/
import Derived.Test.YtbpkpcfhmglddaaTot
import Derived.IntWalk
namespace Go.Proofs.Ytbpkpcfhmglddaa
open Go.RowKit

/-- the coefficient of a literal, 0 for none -/
def coefT (l : Int) : List Tm → Int
  | [] => 0
  | t :: ts => if t.2 = l then t.1 else coefT l ts
def lossT (us : List Tm) (ts : List Tm) : Int := (ts.map fun t => if 0 < t.1 - coefT t.2 us then t.1 - coefT t.2 us else 0).sum
def coversB (ts : List Tm) (bd : Int) (us : List Tm) (bd' : Int) : Bool := cvB ts bd && (cvB us bd' && decide (bd' ≤ bd - lossT us ts))

theorem lossT_snoc (us ts : List Tm) (t : Tm) : lossT us (ts ++ [t]) = lossT us ts + (if 0 < t.1 - coefT t.2 us then t.1 - coefT t.2 us else 0) := by simp [lossT]
theorem coefT_bounds {us : List Tm} {bd : Int} (h : cvB us bd = true) (l : Int) : 0 ≤ coefT l us ∧ coefT l us ≤ 1000 := by
  have hm : ∀ t ∈ us, 1 ≤ t.1 ∧ t.1 ≤ 1000 := fun t ht => by
    unfold cvB at h
    rw [Bool.and_eq_true] at h
    exact (goodB_mem us 0 h.1 t ht).2
  clear h
  induction us with
  | nil => simp [coefT]
  | cons t us ih =>
    unfold coefT
    split
    · have := hm t (by simp); omega
    · exact ih fun t ht => hm t (by simp [ht])

theorem coef_drop (l : Int) (ts : List Tm) (k : Nat) (c z : Int) (hx : ts[k]? = some (c, z)) (h : coefT l ts = coefT l (ts.drop k)) :
    (z = l → coefT l ts = c) ∧ (z ≠ l → coefT l ts = coefT l (ts.drop (k + 1))) := by
  rw [drop_of_get ts k _ hx] at h
  simp only [coefT] at h
  exact ⟨fun e => by rw [h, if_pos e], fun e => by rw [h, if_neg e]⟩





end Go.Proofs.Ytbpkpcfhmglddaa
