/- The law's own marks: markTermS, heldTermS, markConstraint, heldConstraint: memory of the call's own is written and read again. -/
import Derived.Test.YtbpkpcfhmglddaaDoorMemD
namespace Go.Proofs.YtbpkpcfhmglddaaDoor
open Go.RowKit

/-- the marks on n terms, from k on -/
def marksT (k : Int) : Nat → List Tm
  | 0 => []
  | n + 1 => marksT k n ++ [(k + 2 * n, k + 2 * n + 1)]

theorem marksT_len (k : Int) : ∀ n, (marksT k n).length = n := by
  intro n; induction n with
  | zero => rfl
  | succ n ih => simp [marksT, ih]

theorem marksT_get (k : Int) : ∀ n j, j < n → (marksT k n)[j]? = some (k + 2 * (j : Int), k + 2 * (j : Int) + 1) := by
  intro n; induction n with
  | zero => intro j h; omega
  | succ n ih =>
    intro j hj
    rcases Nat.lt_or_ge j n with h | h
    · rw [marksT, List.getElem?_append_left (by rw [marksT_len]; exact h)]; exact ih j h
    · obtain rfl : j = n := by omega
      rw [marksT, List.getElem?_append_right (by rw [marksT_len]; exact Nat.le_refl _), marksT_len]
      simp

theorem encT_set (a : List Tm) (t u : Tm) (b : List Tm) (j : Nat) (hj : a.length = j) :
    ((encT (a ++ t :: b)).set (j * 2) (.int .i64 u.1)).set (j * 2 + 1) (.int .i64 u.2) = encT (a ++ u :: b) := by
  subst hj
  rw [encT_append, encT_append]
  have hl := encT_length a
  rw [List.set_append_right _ _ (by omega), List.set_append_right _ _ (by omega), hl]
  simp [encT]

/-- one cell of the slice is written -/
theorem Seg.set_ {w : World} {sz n b off i : Nat} {xs : List Value} (h : Seg w sz (some ⟨b, off, none⟩) n xs) (u : Value) : Seg (w.setCell ⟨b, off + i, none⟩ u) sz (some ⟨b, off, none⟩) n (xs.set i u) := by
  refine ⟨by rw [List.length_set]; exact h.1, fun hn => ?_⟩
  obtain ⟨b', off', e, hc⟩ := h.2 hn
  injection e with e; injection e with e1 e2; subst e1; subst e2
  refine ⟨b, off, rfl, fun j v hv => ?_⟩
  rw [List.getElem?_set] at hv
  by_cases hij : i = j
  · subst hij
    rw [if_pos rfl] at hv
    split at hv
    · rename_i hlt
      injection hv with hv
      subst hv
      exact World.cell?_setCell_same w _ _ (hc i _ (List.getElem?_eq_getElem hlt))
    · cases hv
  · rw [if_neg hij] at hv
    rw [World.cell?_setCell_other w _ _ _ (by intro e; injection e with _ e; omega)]
    exact hc j v hv

theorem Free.set_ {w : World} {sz n : Nat} {A : Option Addr} (h : Free w sz A n) (p : Addr) (u : Value) : Free (w.setCell p u) sz A n := by
  intro b off e j hj
  rw [World.frozen?_setCell]
  exact h b off e j hj





end Go.Proofs.YtbpkpcfhmglddaaDoor
