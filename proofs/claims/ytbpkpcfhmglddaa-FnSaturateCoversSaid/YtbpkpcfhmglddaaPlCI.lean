/- Plain: sorted by variable and compacted, a list of literals without both signs of a variable is the reference's list. -/
import Derived.Test.YtbpkpcfhmglddaaPlCO
import Derived.Lib.SlicesCompact
namespace Go.Proofs.Ytbpkpcfhmglddaa
open Go.Sort

theorem absI_ext : ∀ (a b : List Int), a.Pairwise (fun x y => absI x < absI y) → b.Pairwise (fun x y => absI x < absI y) → (∀ x, x ∈ a ↔ x ∈ b) → a = b
  | [], [], _, _, _ => rfl
  | [], y :: b, _, _, h => by have := (h y).2 (by simp); cases this
  | x :: a, [], _, _, h => by have := (h x).1 (by simp); cases this
  | x :: a, y :: b, ha, hb, h => by
    rw [List.pairwise_cons] at ha hb
    have e : x = y := by
      have h1 := (h x).1 (by simp)
      have h2 := (h y).2 (by simp)
      rcases List.mem_cons.1 h1 with e | m1
      · exact e
      rcases List.mem_cons.1 h2 with e | m2
      · exact e.symm
      have := ha.1 y m2
      have := hb.1 x m1
      omega
    subst e
    congr 1
    refine absI_ext a b ha.2 hb.2 fun z => ⟨fun hz => ?_, fun hz => ?_⟩
    · rcases List.mem_cons.1 ((h z).1 (List.mem_cons_of_mem _ hz)) with e | m
      · subst e; have := ha.1 z hz; omega
      · exact m
    · rcases List.mem_cons.1 ((h z).2 (List.mem_cons_of_mem _ hz)) with e | m
      · subst e; have := hb.1 z hz; omega
      · exact m

theorem compactUp_inv (d : Array Int) (hne : ∀ i j, i < d.size → j < d.size → d[i]! ≠ -d[j]!) (hs : ∀ i j, i < j → j < d.size → absI d[i]! ≤ absI d[j]!) :
    ∀ m, m ≤ d.size → (∀ l, l ∈ Lib.compactUpTo d m ↔ ∃ j, j < m ∧ d[j]! = l) ∧ (Lib.compactUpTo d m).Pairwise (fun x y => absI x < absI y) := by
  intro m
  induction m with
  | zero => intro _; refine ⟨fun l => ⟨fun h => ?_, fun ⟨j, hj, _⟩ => absurd hj (by omega)⟩, ?_⟩
            · have : Lib.compactUpTo d 0 = [] := rfl
              rw [this] at h; cases h
            · exact List.Pairwise.nil
  | succ m ih =>
    intro hm
    obtain ⟨i1, i2⟩ := ih (by omega)
    rw [Lib.compactUpTo_succ]
    by_cases hk : Lib.keeps d m = true
    · rw [if_pos hk]
      have hlow : ∀ j, j < m → absI d[j]! < absI d[m]! := fun j hj => by
        have h1 := hs (m - 1) m (by omega) (by omega)
        have h2 : absI d[j]! ≤ absI d[m - 1]! := by
          by_cases e : j = m - 1
          · rw [e]; exact Int.le_refl _
          · exact hs j (m - 1) (by omega) (by omega)
        have h3 : absI d[m - 1]! ≠ absI d[m]! := fun e => by
          have hk' : m = 0 ∨ d[m]! ≠ d[m - 1]! := by simpa [Lib.keeps] using hk
          rcases absI_eq e with e | e
          · rcases hk' with h0 | h0
            · omega
            · exact h0 e.symm
          · exact hne (m - 1) m (by omega) (by omega) e
        omega
      refine ⟨fun l => ?_, ?_⟩
      · rw [List.mem_append, i1]
        constructor
        · rintro (⟨j, hj, e⟩ | h)
          · exact ⟨j, by omega, e⟩
          · exact ⟨m, by omega, by simpa [eq_comm] using h⟩
        · rintro ⟨j, hj, e⟩
          by_cases hjm : j = m
          · exact .inr (by subst hjm; simp [e])
          · exact .inl ⟨j, by omega, e⟩
      · rw [List.pairwise_append]
        refine ⟨i2, by simp, fun x hx y hy => ?_⟩
        obtain rfl : y = d[m]! := by simpa using hy
        obtain ⟨j, hj, rfl⟩ := (i1 x).1 hx
        exact hlow j hj
    · rw [if_neg hk, List.append_nil]
      have hk' : m ≠ 0 ∧ d[m]! = d[m - 1]! := by
        have : ¬ (m = 0 ∨ d[m]! ≠ d[m - 1]!) := fun h => hk (by simpa [Lib.keeps] using h)
        rw [not_or] at this
        exact ⟨this.1, Decidable.not_not.1 this.2⟩
      refine ⟨fun l => ?_, i2⟩
      rw [i1]
      constructor
      · rintro ⟨j, hj, e⟩; exact ⟨j, by omega, e⟩
      · rintro ⟨j, hj, e⟩
        by_cases hjm : j = m
        · subst hjm; exact ⟨j - 1, by omega, by rw [← hk'.2, e]⟩
        · exact ⟨j, by omega, e⟩

/-- the literals behind coUp -/
theorem coUp_inv (zs : List Int) (hok : coOk zs = true) : ∀ m, m ≤ 12 → ∃ L : List Int, coUp (seenL zs) m = L.map (fun l => ((1 : Int), l)) ∧ (∀ l, l ∈ L ↔ l ∈ zs ∧ absI l ≤ m) ∧ L.Pairwise (fun x y => absI x < absI y) := by
  have hlit := coOk_lit hok
  intro m
  induction m with
  | zero =>
    intro _
    refine ⟨[], rfl, fun l => ⟨fun h => (by cases h), fun ⟨h1, h2⟩ => ?_⟩, List.Pairwise.nil⟩
    have := absI_pos (hlit l h1).1
    omega
  | succ m ih =>
    intro hm
    obtain ⟨L, e, i1, i2⟩ := ih (by omega)
    obtain ⟨x, hx, hc⟩ := seenL_at zs (fun l hl => (hlit l hl).1) (m + 1) (by omega)
    have hgd : (seenL zs).getD (m + 1) 0 = x := by rw [List.getD_eq_getElem?_getD, hx]; rfl
    rw [coUp_succ, hgd, e]
    rcases hc with ⟨h0, h1⟩ | ⟨h0, h1⟩
    · refine ⟨L, by rw [if_pos h0, List.append_nil], fun l => ?_, i2⟩
      rw [i1]
      constructor
      · rintro ⟨a, b⟩; exact ⟨a, by omega⟩
      · rintro ⟨a, b⟩; exact ⟨a, by have := h1 l a; omega⟩
    · have hx0 : x ≠ 0 := ((litB_iff x).1 (hlit x h0).1).1
      refine ⟨L ++ [x], by rw [if_neg hx0, List.map_append]; rfl, fun l => ?_, ?_⟩
      · rw [List.mem_append, i1]
        constructor
        · rintro (⟨a, b⟩ | h)
          · exact ⟨a, by omega⟩
          · obtain rfl : l = x := by simpa using h
            exact ⟨h0, by omega⟩
        · rintro ⟨a, b⟩
          by_cases hb : absI l ≤ m
          · exact .inl ⟨a, hb⟩
          · have e2 : absI l = absI x := by omega
            rcases absI_eq e2 with e3 | e3
            · exact .inr (by simp [e3])
            · exact absurd (by rw [← e3]; exact a) (hlit x h0).2
      · rw [List.pairwise_append]
        refine ⟨i2, by simp, fun a ha y hy => ?_⟩
        obtain rfl : y = x := by simpa using hy
        have := ((i1 a).1 ha).2
        omega

theorem compact_co (zs ys : List Int) (hok : coOk zs = true) (hm : ∀ l, l ∈ ys ↔ l ∈ zs) (hs : ∀ i j, i < j → j < ys.length → absI ys.toArray[i]! ≤ absI ys.toArray[j]!) :
    (Lib.compact ys).map (fun l => ((1 : Int), l)) = coUp (seenL zs) 12 := by
  have hlit := coOk_lit hok
  obtain ⟨L, e, i1, i2⟩ := coUp_inv zs hok 12 (Nat.le_refl _)
  have hmem : ∀ j, j < ys.toArray.size → ys.toArray[j]! ∈ ys := fun j hj => by
    rw [getElem!_pos ys.toArray j hj]; simp
  obtain ⟨j1, j2⟩ := compactUp_inv ys.toArray (fun i j hi hj e => by
    have h1 := (hm _).1 (hmem i hi)
    have h2 := (hm _).1 (hmem j hj)
    rw [e] at h1
    exact (hlit _ h2).2 h1) (fun i j hij hj => hs i j hij (by simpa using hj)) ys.length (by simp)
  rw [e]
  congr 1
  refine absI_ext _ _ j2 i2 fun l => ?_
  show l ∈ Lib.compactUpTo ys.toArray ys.length ↔ _
  rw [j1, i1, ← hm]
  constructor
  · rintro ⟨j, hj, rfl⟩
    have hmj := hmem j (by simpa using hj)
    refine ⟨hmj, ?_⟩
    have := absI_pos (hlit _ ((hm _).1 hmj)).1
    omega
  · rintro ⟨h1, _⟩
    obtain ⟨j, hj, e⟩ := List.getElem_of_mem h1
    exact ⟨j, hj, by rw [getElem!_pos ys.toArray j (by simpa using hj)]; simpa using e⟩
end Go.Proofs.Ytbpkpcfhmglddaa
