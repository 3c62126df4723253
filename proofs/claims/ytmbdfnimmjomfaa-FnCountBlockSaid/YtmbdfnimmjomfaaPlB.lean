/- Plain laws of blocking clauses. -/
import Derived.Test.YtmbdfnimmjomfaaBC
import Derived.Test.YtmbdfnimmjomfaaPlC
import Derived.Test.YtmbdfnimmjomfaaCpB
namespace Go.Proofs.Ytmbdfnimmjomfaa

theorem bcFrom_cons (i : Int) (b : Bool) (bs : List Bool) : bcFrom i (b :: bs) = (1, if b = true then -i else i) :: bcFrom (i + 1) bs := rfl
theorem bc_good (bs : List Bool) : ∀ i : Int, 1 ≤ i → i + bs.length ≤ 13 → goodB (i - 1) (bcFrom i bs) = true := by
  induction bs with
  | nil => intro i _ _; rfl
  | cons b bs ih =>
    intro i h1 h2
    simp only [List.length_cons] at h2
    rw [bcFrom_cons, goodB_cons, Bool.and_eq_true, decide_eq_true_eq]
    have ha : absI (if b = true then -i else i) = i := by unfold absI; split <;> split <;> omega
    have hl : litB (if b = true then -i else i) = true := by rw [litB_iff]; split <;> omega
    rw [ha]
    refine ⟨⟨hl, by omega, by omega, by omega⟩, ?_⟩
    have := ih (i + 1) (by omega) (by omega)
    rwa [Int.add_sub_cancel] at this
theorem bc_valid {vs : List Bool} (h : vs.length = 12) : cvB (bcFrom 1 vs) 1 = true := by
  unfold cvB
  have := bc_good vs 1 (by omega) (by omega)
  rw [show (1 : Int) - 1 = 0 from rfl] at this
  rw [this]; rfl
theorem sumV_cons1 (vs : List Bool) (c l : Int) (ts : List Tm) : sumV vs ((c, l) :: ts) = (if litV vs l = true then c else 0) + sumV vs ts := by simp [sumV]
theorem bc_sum {us : List Bool} (hu : us.length = 12) (bs : List Bool) : ∀ i : Nat, i + bs.length = 12 → 0 ≤ sumV us (bcFrom ((i : Int) + 1) bs) ∧ (sumV us (bcFrom ((i : Int) + 1) bs) = 0 ↔ bs = us.drop i) := by
  induction bs with
  | nil =>
    intro i h
    simp only [List.length_nil] at h
    rw [List.drop_of_length_le (by omega)]
    simp [bcFrom, sumV]
  | cons b bs ih =>
    intro i h
    simp only [List.length_cons] at h
    have hi : i < us.length := by omega
    have hx : us[i]? = some us[i] := List.getElem?_eq_getElem hi
    obtain ⟨h1, h2⟩ := ih (i + 1) (by omega)
    rw [drop_of_get us i _ hx, bcFrom_cons]
    have e : ((i + 1 : Nat) : Int) + 1 = (i : Int) + 1 + 1 := by omega
    rw [e] at h1 h2
    have hs : sumV us ((1, if b = true then -((i : Int) + 1) else (i : Int) + 1) :: bcFrom ((i : Int) + 1 + 1) bs) = (if b = us[i] then 0 else 1) + sumV us (bcFrom ((i : Int) + 1 + 1) bs) := by
      rw [sumV_cons1]
      congr 1
      cases b
      · rw [show (if false = true then -((i : Int) + 1) else (i : Int) + 1) = (i : Int) + 1 from rfl, litV_pos us i _ hx]
        cases us[i] <;> rfl
      · rw [show (if true = true then -((i : Int) + 1) else (i : Int) + 1) = -((i : Int) + 1) from rfl, litV_neg us i _ hx]
        cases us[i] <;> rfl
    rw [hs]
    by_cases hb : b = us[i]
    · rw [if_pos hb]
      refine ⟨by omega, ?_⟩
      rw [Int.zero_add, h2]
      constructor
      · intro h; rw [h, ← hb]
      · intro h; injection h
    · rw [if_neg hb]
      refine ⟨by omega, ⟨fun h => by omega, fun h => ?_⟩⟩
      injection h with h; exact absurd h hb
/-- FnBlockingClause -/
theorem bc_eval {vs us : List Bool} (h : vs.length = 12) (hu : us.length = 12) : evB (bcFrom 1 vs) 1 us = !cbEq vs us := by
  obtain ⟨h1, h2⟩ := bc_sum hu vs 0 (by omega)
  rw [show ((0 : Nat) : Int) + 1 = 1 from rfl] at h1 h2
  rw [List.drop_zero] at h2
  unfold evB cbEq
  rw [bc_valid h, hu]
  by_cases he : vs = us
  · have : ¬ 1 ≤ sumV us (bcFrom 1 vs) := by rw [h2.2 he]; omega
    rw [decide_eq_false this, decide_eq_true he]; rfl
  · have : 1 ≤ sumV us (bcFrom 1 vs) := by
      have : sumV us (bcFrom 1 vs) ≠ 0 := fun e => he (h2.1 e)
      omega
    simp [he, this]
end Go.Proofs.Ytmbdfnimmjomfaa
