/- Plain laws of evaluation: a literal made false. -/
import Derived.Test.YtbpkpcfhmglddaaPlC
namespace Go.Proofs.Ytbpkpcfhmglddaa

def worseV (vs : List Bool) (l : Int) : List Bool := vs.set (absI l - 1).toNat (decide (l < 0))
theorem worseV_len (vs : List Bool) (l : Int) : (worseV vs l).length = vs.length := by simp [worseV]
theorem worseV_pos (vs : List Bool) (m : Nat) : worseV vs ((m : Int) + 1) = vs.set m false := by
  unfold worseV absI
  rw [if_neg (by omega), show ((m : Int) + 1 - 1).toNat = m from by omega, decide_eq_false (by omega)]
theorem worseV_neg (vs : List Bool) (m : Nat) : worseV vs (-((m : Int) + 1)) = vs.set m true := by
  unfold worseV absI
  rw [if_pos (by omega), show (- -((m : Int) + 1) - 1).toNat = m from by omega, decide_eq_true (by omega)]
theorem worse_lit {vs : List Bool} (h12 : vs.length = 12) {l : Int} (hl : litB l = true) : litV (worseV vs l) l = false := by
  obtain ⟨m, hm, rfl | rfl⟩ := lit_cases hl
  · rw [worseV_pos]; exact litV_pos _ m false (by rw [List.getElem?_set_self (by omega)])
  · rw [worseV_neg]; rw [litV_neg _ m true (by rw [List.getElem?_set_self (by omega)])]; rfl
theorem worse_other {vs : List Bool} {l l' : Int} (hl : litB l = true) (hl' : litB l' = true) (h : absI l' ≠ absI l) : litV (worseV vs l) l' = litV vs l' := by
  have := absI_pos hl; have := absI_pos hl'
  unfold litV worseV
  rw [List.getD_eq_getElem?_getD, List.getD_eq_getElem?_getD, List.getElem?_set_ne (by omega)]
theorem sumV_mono {vs vs' : List Bool} (ts : List Tm) (hc : ∀ t ∈ ts, 0 ≤ t.1) (h : ∀ t ∈ ts, litV vs' t.2 = true → litV vs t.2 = true) : sumV vs' ts ≤ sumV vs ts := by
  induction ts with
  | nil => simp [sumV]
  | cons t ts ih =>
    have h1 := ih (fun s hs => hc s (by simp [hs])) fun s hs => h s (by simp [hs])
    have h2 := h t (by simp)
    have h3 := hc t (by simp)
    simp only [sumV, List.map_cons, List.sum_cons] at h1 ⊢
    by_cases e : litV vs' t.2 = true
    · rw [if_pos e, if_pos (h2 e)]; omega
    · rw [if_neg e]; split <;> omega
theorem cvB_coef {ts : List Tm} {bd : Int} (h : cvB ts bd = true) : ∀ t ∈ ts, 1 ≤ t.1 ∧ t.1 ≤ 1000 := fun t ht => (goodB_mem ts 0 (cvB_good h) t ht).2
/-- FnEvalConstraint -/
theorem worse_ev {ts : List Tm} {bd : Int} {vs : List Bool} (h : cvB ts bd = true) (h12 : vs.length = 12) (he : evB ts bd vs = false) (t : Tm) (ht : t ∈ ts) : evB ts bd (worseV vs t.2) = false := by
  have hm := sumV_mono (vs := vs) (vs' := worseV vs t.2) ts (fun s hs => by have := cvB_coef h s hs; omega) fun s hs hv => by
    by_cases e : absI s.2 = absI t.2
    · have := goodB_inj ts 0 (cvB_good h) s hs t ht e
      subst this
      rw [worse_lit h12 (cvB_lit h s hs)] at hv
      cases hv
    · rw [worse_other (cvB_lit h t ht) (cvB_lit h s hs) e] at hv; exact hv
  unfold evB at he ⊢
  rw [h, h12] at he
  rw [h, worseV_len, h12]
  simp only [Bool.true_and, decide_true, decide_eq_false_iff_not] at he ⊢
  omega
end Go.Proofs.Ytbpkpcfhmglddaa
