/- Lists of terms, ints, bools as cells; how a Seg of them is read element by element. -/
import Derived.Test.YtbpkpcfhmglddaaMem
namespace Go.Proofs.Ytbpkpcfhmglddaa
open Go.RowKit

/-- a term: (coefficient, literal) -/
abbrev Tm := Int × Int
def encT : List Tm → List Value
  | [] => []
  | t :: ts => .int .i64 t.1 :: .int .i64 t.2 :: encT ts
def encI (zs : List Int) : List Value := zs.map (Value.int .i64)
def encB (bs : List Bool) : List Value := bs.map Value.bool

theorem encT_length (ts : List Tm) : (encT ts).length = ts.length * 2 := by
  induction ts with
  | nil => rfl
  | cons t ts ih => simp only [encT, List.length_cons, ih]; omega
theorem encT_append (a b : List Tm) : encT (a ++ b) = encT a ++ encT b := by
  induction a with
  | nil => rfl
  | cons t ts ih => simp [encT, ih]
theorem encT_get (ts : List Tm) : ∀ (k : Nat) (t : Tm), ts[k]? = some t → (encT ts)[k * 2]? = some (.int .i64 t.1) ∧ (encT ts)[k * 2 + 1]? = some (.int .i64 t.2) := by
  induction ts with
  | nil => intro k t h; simp at h
  | cons x xs ih =>
    intro k t h
    cases k with
    | zero =>
      simp only [List.getElem?_cons_zero, Option.some.injEq] at h
      subst h
      exact ⟨rfl, rfl⟩
    | succ k =>
      rw [List.getElem?_cons_succ] at h
      have := ih k t h
      rw [show (k + 1) * 2 = k * 2 + 1 + 1 from by omega]
      exact this

section
variable {w w' : World} {n : Nat} {A : Option Addr}
theorem Seg.lenT {ts : List Tm} (h : Seg w 2 A n (encT ts)) : ts.length = n := by have := h.1; rw [encT_length] at this; omega
theorem Seg.lenI {zs : List Int} (h : Seg w 1 A n (encI zs)) : zs.length = n := by have := h.1; simp [encI] at this; omega
theorem Seg.lenB {zs : List Bool} (h : Seg w 1 A n (encB zs)) : zs.length = n := by have := h.1; simp [encB] at this; omega

theorem drop_of_get {α : Type} (l : List α) (k : Nat) (x : α) (h : l[k]? = some x) : l.drop k = x :: l.drop (k + 1) := by
  obtain ⟨hk, e⟩ := List.getElem?_eq_some_iff.1 h
  rw [List.drop_eq_getElem_cons hk, e]
theorem take_of_get {α : Type} (l : List α) (k : Nat) (x : α) (h : l[k]? = some x) : l.take (k + 1) = l.take k ++ [x] := by
  obtain ⟨hk, e⟩ := List.getElem?_eq_some_iff.1 h
  rw [List.take_succ_eq_append_getElem hk, e]

/-- the address of the slice, its head cell's offset -/
theorem Seg.addr {sz : Nat} {xs : List Value} (h : Seg w sz A n xs) (hn : 0 < n) : ∃ b off, A = some ⟨b, off, none⟩ := by
  obtain ⟨b, off, e, _⟩ := h.2 hn
  exact ⟨b, off, e⟩
theorem Seg.term {ts : List Tm} {k : Nat} (h : Seg w 2 A n (encT ts)) (hk : k < n) :
    ∃ b off c l, A = some ⟨b, off, none⟩ ∧ ts[k]? = some (c, l) ∧ w.cell? ⟨b, off + k * 2, none⟩ = some (.int .i64 c) ∧ w.cell? ⟨b, off + k * 2 + 1, none⟩ = some (.int .i64 l) := by
  obtain ⟨b, off, e, hc⟩ := h.2 (by omega)
  have hl : k < ts.length := by rw [h.lenT]; exact hk
  have hg : ts[k]? = some ts[k] := List.getElem?_eq_getElem hl
  have := encT_get ts k _ hg
  exact ⟨b, off, _, _, e, hg, hc _ _ this.1, hc _ _ this.2⟩
theorem Seg.int {zs : List Int} {k : Nat} (h : Seg w 1 A n (encI zs)) (hk : k < n) :
    ∃ b off z, A = some ⟨b, off, none⟩ ∧ zs[k]? = some z ∧ w.cell? ⟨b, off + k, none⟩ = some (.int .i64 z) := by
  obtain ⟨b, off, u, e, hx, hc⟩ := h.at1 hk
  obtain ⟨z, hz, rfl⟩ : ∃ z, zs[k]? = some z ∧ Value.int .i64 z = u := by simpa [encI] using hx
  exact ⟨b, off, z, e, hz, hc⟩
theorem Seg.bool {zs : List Bool} {k : Nat} (h : Seg w 1 A n (encB zs)) (hk : k < n) :
    ∃ b off z, A = some ⟨b, off, none⟩ ∧ zs[k]? = some z ∧ w.cell? ⟨b, off + k, none⟩ = some (.bool z) := by
  obtain ⟨b, off, u, e, hx, hc⟩ := h.at1 hk
  obtain ⟨z, hz, rfl⟩ : ∃ z, zs[k]? = some z ∧ Value.bool z = u := by simpa [encB] using hx
  exact ⟨b, off, z, e, hz, hc⟩
end
end Go.Proofs.Ytbpkpcfhmglddaa
