/- Plain laws of partial assignments. -/
import Derived.Test.YtihbgajlnbchlaaEP
namespace Go.Proofs.Ytihbgajlnbchlaa

theorem agree_iff (p : List Int) : ∀ v : List Bool, agreeB p v = true ↔ ∀ (k : Nat) (z : Int) (b : Bool), p[k]? = some z → v[k]? = some b → z = 0 ∨ b = decide (0 < z) := by
  induction p with
  | nil => intro v; simp [agreeB]
  | cons x p ih =>
    intro v
    cases v with
    | nil => simp [agreeB]
    | cons y v =>
      simp only [agreeB, Bool.and_eq_true, Bool.or_eq_true, decide_eq_true_eq, beq_iff_eq, ih v]
      constructor
      · rintro ⟨h0, h⟩ k z b hz hb
        cases k with
        | zero =>
          simp only [List.getElem?_cons_zero, Option.some.injEq] at hz hb
          subst hz; subst hb; exact h0
        | succ k =>
          rw [List.getElem?_cons_succ] at hz hb
          exact h k z b hz hb
      · intro h
        exact ⟨h 0 x y rfl rfl, fun k z b hz hb => h (k + 1) z b (by rw [List.getElem?_cons_succ]; exact hz) (by rw [List.getElem?_cons_succ]; exact hb)⟩
theorem pvB_set {p : List Int} (h : pvB p = true) (k : Nat) {z : Int} (h1 : -1 ≤ z) (h2 : z ≤ 1) : pvB (p.set k z) = true := by
  unfold pvB at h ⊢
  rw [Bool.and_eq_true, decide_eq_true_eq] at h
  rw [Bool.and_eq_true, decide_eq_true_eq, List.length_set]
  refine ⟨h.1, List.all_eq_true.2 fun x hx => ?_⟩
  rcases List.mem_or_eq_of_mem_set hx with hx | rfl
  · exact List.all_eq_true.1 h.2 x hx
  · simp [inB]; omega
theorem epB_parts {p : List Int} {v : List Bool} (h : epB p v = true) : pvB p = true ∧ v.length = 12 ∧ agreeB p v = true := by
  unfold epB at h
  rw [Bool.and_eq_true, Bool.and_eq_true, decide_eq_true_eq] at h
  exact ⟨h.1.1, h.1.2, h.2⟩
/-- FnExtendsPartial -/
theorem ep_zero {p : List Int} {v : List Bool} (h : epB p v = true) (k : Nat) : epB (p.set k 0) v = true := by
  obtain ⟨h1, h2, h3⟩ := epB_parts h
  unfold epB
  rw [pvB_set h1 k (by omega) (by omega), h2]
  simp only [decide_true, Bool.true_and]
  rw [agree_iff] at h3 ⊢
  intro j z b hz hb
  by_cases e : k = j
  · subst e
    by_cases hk : k < p.length
    · rw [List.getElem?_set_self hk] at hz; injection hz with hz; exact .inl hz.symm
    · rw [List.getElem?_eq_none (by rw [List.length_set]; omega)] at hz; cases hz
  · rw [List.getElem?_set_ne e] at hz; exact h3 j z b hz hb
theorem ep_flip {p : List Int} {v : List Bool} (h : epB p v = true) {k : Nat} (hk : k < 12) {b : Bool} (hb : v[k]? = some b) {z : Int} (hz : z = if b = true then -1 else 1) : epB (p.set k z) v = false := by
  obtain ⟨h1, h2, h3⟩ := epB_parts h
  have hl := pvB_len h1
  cases hc : epB (p.set k z) v with
  | false => rfl
  | true =>
    obtain ⟨_, _, h6⟩ := epB_parts hc
    have := (agree_iff _ _).1 h6 k z b (by rw [List.getElem?_set_self (by omega)]) hb
    cases b
    · rw [if_neg (by simp)] at hz; subst hz; simp at this
    · rw [if_pos rfl] at hz; subst hz; simp at this
end Go.Proofs.Ytihbgajlnbchlaa
