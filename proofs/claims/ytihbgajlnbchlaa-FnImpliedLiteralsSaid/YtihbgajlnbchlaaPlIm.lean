/- Plain laws of implied literals. No program is named here. -/
import Derived.Test.YtihbgajlnbchlaaPlG
import Derived.Test.YtihbgajlnbchlaaImpl
namespace Go.Proofs.Ytihbgajlnbchlaa

theorem slkT_congr {p q : List Int} : ∀ ts : List Tm, (∀ t ∈ ts, stI q t.2 = stI p t.2) → slkT q ts = slkT p ts := by
  intro ts
  induction ts with
  | nil => intro _; rfl
  | cons x ts ih =>
    intro h
    have h1 := ih fun t ht => h t (by simp [ht])
    have h2 := h x (by simp)
    simp only [slkT, List.map_cons, List.sum_cons] at h1 ⊢
    rw [h1, h2]
theorem litB_negI2 {l : Int} (h : litB l = true) : litB (-l) = true := by rw [litB_iff] at *; omega
theorem slk_drop {p : List Int} (hp : pvB p = true) : ∀ (ts : List Tm) (u : Int), goodB u ts = true → ∀ (c l : Int), (c, l) ∈ ts → stI p l = 0 → slkT (asg p (-l)) ts = slkT p ts - c := by
  intro ts
  induction ts with
  | nil => intro u _ c l h; cases h
  | cons x ts ih =>
    intro u hg c l hm h0
    obtain ⟨c', l'⟩ := x
    have hg0 := hg
    rw [goodB_cons, Bool.and_eq_true, decide_eq_true_eq] at hg
    have hov := goodB_over ts _ hg.2
    have hlit := goodB_mem _ _ hg0
    have hl : litB l = true := (hlit (c, l) hm).1
    have hst : ∀ k, litB k = true → k ≠ l → k ≠ -l → stI (asg p (-l)) k = stI p k := fun k hk h1 h2 => by
      rw [stI_asg hp (litB_negI2 hl) hk, if_neg h2, if_neg (by omega)]
    have hself : stI (asg p (-l)) l = -1 := by
      have hlb := hl
      rw [litB_iff] at hlb
      rw [stI_asg hp (litB_negI2 hl) hl, if_neg (by omega), if_pos (by omega)]
    rcases List.mem_cons.1 hm with e | hm
    · injection e with e1 e2
      subst e1; subst e2
      have ht : slkT (asg p (-l)) ts = slkT p ts := slkT_congr ts fun t ht => by
        have h1 := hov t ht
        refine hst t.2 (hlit t (by simp [ht])).1 ?_ ?_
        · intro e; rw [e] at h1; omega
        · intro e; rw [e, absI_neg] at h1; omega
      simp only [slkT, List.map_cons, List.sum_cons] at ht ⊢
      rw [ht, hself, h0]
      simp only [show ¬ ((0 : Int) ≤ -1) from by omega, if_false, Int.le_refl, if_true]; omega
    · have h1 := hov (c, l) hm
      simp only at h1
      have h2 := ih _ hg.2 c l hm h0
      have h3 : stI (asg p (-l)) l' = stI p l' := hst l' hg.1.1 (by rintro rfl; omega) (by rintro rfl; rw [absI_neg] at h1; omega)
      simp only [slkT, List.map_cons, List.sum_cons] at h2 ⊢
      rw [h2, h3]; omega
/-- FnImpliedLiterals -/
theorem im_free {ts : List Tm} {bd : Int} {p : List Int} (h : slB ts bd p = true) {c l : Int} (hm : (c, l) ∈ ts) (h0 : stI p l = 0) : slI ts bd (asg p (-l)) = slI ts bd p - c ∧ slB ts bd (asg p (-l)) = true := by
  have h2 := h
  unfold slB at h2
  rw [Bool.and_eq_true] at h2
  have hb : slB ts bd (asg p (-l)) = true := by unfold slB; rw [h2.1, pvB_asg h2.2]; rfl
  refine ⟨?_, hb⟩
  unfold slI
  rw [if_pos h, if_pos hb, slk_drop h2.2 ts 0 (cvB_good h2.1) c l hm h0]; omega
theorem im_mem {ts : List Tm} {bd : Int} {p : List Int} (h : slB ts bd p = true) (hz : 0 ≤ slI ts bd p) {c l : Int} (hm : (c, l) ∈ ts) : l ∈ imT ts bd p ↔ (stI p l = 0 ∧ slI ts bd p < c) := by
  have h2 := h
  unfold slB at h2
  rw [Bool.and_eq_true] at h2
  have e : slI ts bd p = slkT p ts - bd := by unfold slI; rw [if_pos h]
  rw [e] at hz ⊢
  have hi := imC_iff (q := p) (c := (ts, bd)) hz l
  have e2 : imT ts bd p = imC p (ts, bd) := by unfold imT imC slkC; rw [if_pos h]
  rw [e2, hi]
  constructor
  · rintro ⟨t, ht, h3, h4, rfl⟩
    have := goodB_inj ts 0 (cvB_good h2.1) t ht (c, t.2) hm rfl
    rw [this] at h4
    exact ⟨h3, h4⟩
  · rintro ⟨h3, h4⟩
    exact ⟨(c, l), hm, h3, h4, rfl⟩
theorem im_neg {ts : List Tm} {bd : Int} {p : List Int} (h : slB ts bd p = false ∨ slI ts bd p < 0) : imT ts bd p = [] := by
  unfold imT
  by_cases hb : slB ts bd p = true
  · rw [if_pos hb]
    rcases h with h | h
    · rw [h] at hb; cases hb
    · unfold slI at h
      rw [if_pos hb] at h
      unfold imS; rw [if_neg (by omega)]
  · rw [if_neg hb]
/-- 'some' of the first k implied literals -/
def hasL (xs : List Int) (v : Int) : Bool := xs.any fun x => x == v
theorem hasL_snoc (xs : List Int) (x v : Int) : hasL (xs ++ [x]) v = (hasL xs v || x == v) := by simp [hasL]
theorem hasL_iff (xs : List Int) (v : Int) : hasL xs v = true ↔ v ∈ xs := by simp [hasL]
theorem im_has {ts : List Tm} {bd : Int} {p : List Int} (h : slB ts bd p = true) (hz : 0 ≤ slI ts bd p) {c l : Int} (hm : (c, l) ∈ ts) : hasL (imT ts bd p) l = (decide (stI p l = 0) && decide (slI ts bd (asg p (-l)) < 0)) := by
  rw [Bool.eq_iff_iff, hasL_iff, im_mem h hz hm, Bool.and_eq_true, decide_eq_true_eq, decide_eq_true_eq]
  constructor
  · rintro ⟨h1, h2⟩
    have := (im_free h hm h1).1
    exact ⟨h1, by omega⟩
  · rintro ⟨h1, h2⟩
    have := (im_free h hm h1).1
    exact ⟨h1, by omega⟩
end Go.Proofs.Ytihbgajlnbchlaa
