/- Lists of constraints as arguments, opened. -/
import Derived.Test.YtgoaggojbcdgeaaProb
import Derived.Test.YtgoaggojbcdgeaaOpen
namespace Go.Proofs.Ytgoaggojbcdgeaa
open Go.RowKit Go.ChangeShapes Go.WideShapes Go.Deep

theorem list_of_range {α : Type} (R : Nat → α → Prop) : ∀ n, (∀ i, i < n → ∃ a, R i a) → ∃ xs : List α, xs.length = n ∧ ∀ i x, xs[i]? = some x → R i x := by
  intro n
  induction n with
  | zero => intro _; exact ⟨[], rfl, fun i x h => by simp at h⟩
  | succ n ih =>
    intro h
    obtain ⟨xs, hl, hr⟩ := ih fun i hi => h i (by omega)
    obtain ⟨a, ha⟩ := h n (by omega)
    refine ⟨xs ++ [a], by simp [hl], fun i x hx => ?_⟩
    rcases Nat.lt_or_ge i xs.length with hlt | hge
    · rw [List.getElem?_append_left hlt] at hx
      exact hr i x hx
    · rw [List.getElem?_append_right hge] at hx
      have : i = n := by
        have := (List.getElem?_eq_some_iff.1 hx).1
        simp at this; omega
      subst this
      rw [← hl] at hx
      simp at hx; subst hx; exact ha

theorem encH_flat : ∀ (xs : List (Hd × Cn)), encH (xs.map Prod.fst) (xs.map Prod.snd) = xs.flatMap fun x => [.slice x.1.1 x.1.2.1 x.1.2.2, .int .i64 x.2.2]
  | [] => rfl
  | x :: xs => by simp [encH, encH_flat xs]

theorem flat_congr {α : Type} (f : Nat → List Value) (g : α → List Value) : ∀ (n : Nat) (xs : List α), xs.length = n → (∀ i x, xs[i]? = some x → f i = g x) → (List.range n).flatMap f = xs.flatMap g := by
  intro n
  induction n with
  | zero => intro xs hl _; rw [List.length_eq_zero_iff] at hl; subst hl; rfl
  | succ n ih =>
    intro xs hl h
    rcases List.eq_nil_or_concat xs with rfl | ⟨ys, y, rfl⟩
    · simp at hl
    · have hl' : ys.length = n := by simpa using hl
      rw [List.concat_eq_append] at h ⊢
      rw [List.range_succ, List.flatMap_append, List.flatMap_append, ih ys hl' fun i x hx => h i x (by rw [List.getElem?_append_left (List.getElem?_eq_some_iff.1 hx).1]; exact hx)]
      have := h n y (by rw [List.getElem?_append_right (by omega), hl']; simp)
      simp [this]

section
variable {H : Type} {enc : TypeId × Value → H} {P : Program} {w : World} {base : Nat} {spare : Nat → Bool} {held : Bool}

theorem trod_constrs {tt t e : TypeId} {fuel : Nat} {cs : List Value} {x : DataW H × List MemPlace} {g0 g1 f0 f1 : Field} (ht' : P.underlying tt = some (.slice t)) (ht : P.underlying t = some (.struct #[g0, g1])) (hC' : P.cellsOf t = 2)
    (p0 : g0.offset = 0) (p1 : g1.offset = 1) (d0 : P.cellsOf g0.type = 1) (d1 : P.cellsOf g1.type = 1) (hs : P.underlying g0.type = some (.slice e)) (hb : P.underlying g1.type = some (.int .i64))
    (he : P.underlying e = some (.struct #[f0, f1])) (hC : P.cellsOf e = 2)
    (o0 : f0.offset = 0) (o1 : f1.offset = 1) (c0 : P.cellsOf f0.type = 1) (c1 : P.cellsOf f1.type = 1) (i0 : P.underlying f0.type = some (.int .i64)) (i1 : P.underlying f1.type = some (.int .i64))
    (h : DataW.trod enc P w base spare held fuel tt cs = some x) : ∃ A n cap zs, cs = [.slice A n cap] ∧ n ≤ maxLen ∧ SegC w A n zs := by
  obtain ⟨A, n, cap, f, rfl, hn, _, hS, hel⟩ := open_slice_seg (by omega) ht' hC' h
  obtain ⟨xs, hl, hx⟩ := list_of_range (fun i (x : Hd × Cn) => f i = [.slice x.1.1 x.1.2.1 x.1.2.2, .int .i64 x.2.2] ∧ x.1.2.1 ≤ maxLen ∧ Seg w 2 x.1.1 x.1.2.1 (encT x.2.1)) n fun i hi => by
    obtain ⟨k, y, hy⟩ := hel i hi
    obtain ⟨B, m, q, ts, bd, e, hm, hs⟩ := trod_constr ht hC' p0 p1 d0 d1 hs hb he hC o0 o1 c0 c1 i0 i1 hy
    exact ⟨((B, m, q), (ts, bd)), e, hm, hs⟩
  refine ⟨A, n, cap, xs.map Prod.snd, rfl, hn, xs.map Prod.fst, by simp, ?_, fun i h c h1 h2 => ?_⟩
  · rw [encH_flat, ← flat_congr f _ n xs hl fun i x h => (hx i x h).1]; exact hS
  · rw [List.getElem?_map] at h1 h2
    cases hxi : xs[i]? with
    | none => rw [hxi] at h1; cases h1
    | some y =>
      rw [hxi] at h1 h2
      injection h1 with h1; injection h2 with h2
      subst h1; subst h2
      exact (hx i y hxi).2
end

section
variable {H : Type} {enc : TypeId × Value → H} {w : World} {base : Nat} {spare : Nat → Bool} {held : Bool} {r : Reach} {b0 : Nat} {v : Value} {d : DataW H} {p : List MemPlace}
end
end Go.Proofs.Ytgoaggojbcdgeaa
