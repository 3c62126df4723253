/- A store into a slice's own cell. -/
import Derived.Test.YtbpkpcfhmglddaaMemC
namespace Go.Proofs.Ytbpkpcfhmglddaa
open Go.RowKit

/-- a store into a slice's own cell -/
theorem Seg.setAt {w : World} {sz n : Nat} {b off i : Nat} {xs : List Value} (h : Seg w sz (some ⟨b, off, none⟩) n xs) (hi : i < xs.length) (u : Value) : Seg (w.setCell ⟨b, off + i, none⟩ u) sz (some ⟨b, off, none⟩) n (xs.set i u) := by
  refine ⟨by rw [List.length_set]; exact h.1, fun hn => ⟨b, off, rfl, fun j v hv => ?_⟩⟩
  obtain ⟨b', off', e, hc⟩ := h.2 hn
  injection e with e; injection e with e1 e2
  subst e1; subst e2
  by_cases hij : i = j
  · subst hij
    rw [List.getElem?_set_self hi] at hv
    injection hv with hv; subst hv
    have hg : xs[i]? = some xs[i] := List.getElem?_eq_getElem hi
    exact World.cell?_setCell_same _ _ _ (hc i _ hg)
  · rw [List.getElem?_set_ne hij] at hv
    rw [World.cell?_setCell_other _ _ _ _ (by intro e; injection e with _ e; omega)]
    exact hc j v hv
theorem Free.setCell {w : World} {sz n : Nat} {A : Option Addr} (h : Free w sz A n) (p : Addr) (u : Value) : Free (w.setCell p u) sz A n := by
  intro b off e j hj
  rw [World.frozen?_setCell]
  exact h b off e j hj
end Go.Proofs.Ytbpkpcfhmglddaa
