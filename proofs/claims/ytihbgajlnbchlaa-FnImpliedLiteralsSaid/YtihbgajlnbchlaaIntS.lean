/- The law's own copies and comparisons of slices of integers and of bools: toIntS, toBoolS, eqIntS, eqBoolS. -/
import Derived.Test.YtihbgajlnbchlaaMemD
namespace Go.Proofs.Ytihbgajlnbchlaa
open Go.RowKit

theorem dec_drop1 {α : Type} [DecidableEq α] (xs ys : List α) (k : Nat) (x y : α) (hx : xs[k]? = some x) (hy : ys[k]? = some y) (h : decide (xs = ys) = decide (xs.drop k = ys.drop k)) :
    (x = y → decide (xs = ys) = decide (xs.drop (k + 1) = ys.drop (k + 1))) ∧ (x ≠ y → decide (xs = ys) = false) := by
  rw [drop_of_get xs k x hx, drop_of_get ys k y hy] at h
  constructor
  · rintro rfl; rw [h]; simp
  · intro hne; rw [h]; simp [hne]

def iEq (xs ys : List Int) : Bool := decide (xs = ys)

theorem iEq_self (xs : List Int) : iEq xs xs = true := by simp [iEq]

theorem Try.infoInt : (Try.prog.info? 3).map (fun i => (i.zero, i.size, i.bytes)) = some (some (.int .i64 0), 1, 8) := by kernel_rfl

theorem encI_len (xs : List Int) : (encI xs).length = xs.length := by simp [encI]

theorem encI_snoc (xs : List Int) (z : Int) : encI (xs ++ [z]) = encI xs ++ [.int .i64 z] := by simp [encI]

def RetInt (xs : List Int) (w : World) (e : Ending) (w' : World) : Prop :=
  ∃ A n cap, e = .returned (.slice A n cap) ∧ xs.length = n ∧ Got w w' 1 A n (encI xs) ∧ Ext w w'



def bEq (xs ys : List Bool) : Bool := decide (xs = ys)

theorem bEq_self (xs : List Bool) : bEq xs xs = true := by simp [bEq]

theorem Try.infoBool : (Try.prog.info? 4).map (fun i => (i.zero, i.size, i.bytes)) = some (some (.bool false), 1, 1) := by kernel_rfl

theorem encB_len (xs : List Bool) : (encB xs).length = xs.length := by simp [encB]

theorem encB_snoc (xs : List Bool) (z : Bool) : encB (xs ++ [z]) = encB xs ++ [.bool z] := by simp [encB]

def RetBool (xs : List Bool) (w : World) (e : Ending) (w' : World) : Prop :=
  ∃ A n cap, e = .returned (.slice A n cap) ∧ xs.length = n ∧ Got w w' 1 A n (encB xs) ∧ Ext w w'



end Go.Proofs.Ytihbgajlnbchlaa
