/- Plain laws of negation. -/
import Derived.Test.YtbpkpcfhmglddaaPlC
import Derived.Test.YtbpkpcfhmglddaaNeg
namespace Go.Proofs.Ytbpkpcfhmglddaa

theorem absI_neg (l : Int) : absI (-l) = absI l := by unfold absI; split <;> split <;> omega
theorem litB_negI (l : Int) (h : litB l = true) : litB (-l) = true := by rw [litB_iff] at h ⊢; omega
theorem goodB_negT (ts : List Tm) : ∀ u, goodB u ts = true → goodB u (negT ts) = true := by
  induction ts with
  | nil => intro u _; rfl
  | cons t ts ih =>
    intro u h
    obtain ⟨c, l⟩ := t
    rw [goodB_cons, Bool.and_eq_true, decide_eq_true_eq] at h
    show goodB u ((c, -l) :: negT ts) = true
    rw [goodB_cons, Bool.and_eq_true, decide_eq_true_eq, absI_neg]
    exact ⟨⟨litB_negI _ h.1.1, h.1.2⟩, ih _ h.2⟩
theorem sumT_negT (ts : List Tm) : sumT (negT ts) = sumT ts := by simp [sumT, negT, Function.comp_def]
theorem negT_negT (ts : List Tm) : negT (negT ts) = ts := by simp [negT, Function.comp_def]
theorem negD_bounds {ts : List Tm} {bd : Int} (h : cvB ts bd = true) : 0 ≤ negD ts bd ∧ negD ts bd ≤ 12001 := by
  have := sumT_bounds h; have := cvB_bd h
  unfold negD; omega
theorem cvB_neg {ts : List Tm} {bd : Int} (h : cvB ts bd = true) : cvB (negT ts) (negD ts bd) = true := by
  have hb := negD_bounds h
  unfold cvB
  rw [goodB_negT ts 0 (cvB_good h)]
  simp [inB]; omega
theorem negD_negD {ts : List Tm} {bd : Int} (h : cvB ts bd = true) (_h0 : bd ≠ 0) (hf : cfB ts bd = false) : negD (negT ts) (negD ts bd) = bd := by
  have hb := cvB_bd h
  unfold cfB at hf
  rw [h, Bool.true_and, decide_eq_false_iff_not] at hf
  unfold negD
  rw [sumT_negT]
  omega
theorem tcI_of {ts : List Tm} {bd : Int} (h : cvB ts bd = true) : tcI ts bd = sumT ts := by unfold tcI; rw [if_pos h]
theorem ngT_of {ts : List Tm} {bd : Int} (h : cvB ts bd = true) : ngT ts bd = negT ts := by unfold ngT; rw [if_pos h]
theorem ngD_of {ts : List Tm} {bd : Int} (h : cvB ts bd = true) : ngD ts bd = negD ts bd := by unfold ngD; rw [if_pos h]
theorem ngT_no {ts : List Tm} {bd : Int} (h : cvB ts bd = false) : ngT ts bd = [] := by unfold ngT; rw [if_neg (by rw [h]; simp)]
theorem ngD_no {ts : List Tm} {bd : Int} (h : cvB ts bd = false) : ngD ts bd = 0 := by unfold ngD; rw [if_neg (by rw [h]; simp)]

/-- the value of the negation -/
theorem litV_negI {vs : List Bool} (h12 : vs.length = 12) {l : Int} (h : litB l = true) : litV vs (-l) = !litV vs l := by
  obtain ⟨m, hm, rfl | rfl⟩ := lit_cases h
  · have hx : vs[m]? = some (vs[m]'(by omega)) := List.getElem?_eq_getElem _
    rw [litV_neg vs m _ hx, litV_pos vs m _ hx]
  · have hx : vs[m]? = some (vs[m]'(by omega)) := List.getElem?_eq_getElem _
    rw [Int.neg_neg, litV_neg vs m _ hx, litV_pos vs m _ hx]; simp
theorem sumV_neg {vs : List Bool} (h12 : vs.length = 12) (ts : List Tm) (h : ∀ t ∈ ts, litB t.2 = true) : sumV vs (negT ts) + sumV vs ts = sumT ts := by
  induction ts with
  | nil => rfl
  | cons t ts ih =>
    have h1 := ih fun s hs => h s (by simp [hs])
    have h2 := litV_negI h12 (h t (by simp))
    simp only [sumV, negT, sumT, List.map_cons, List.sum_cons] at h1 ⊢
    rw [h2]
    cases hb : litV vs t.2
    · simp only [Bool.not_false, if_true, if_false, Bool.false_eq_true]; omega
    · simp only [Bool.not_true, if_true, if_false, Bool.false_eq_true]; omega
/-- FnNegateConstraint -/
theorem neg_eval {ts : List Tm} {bd : Int} {vs : List Bool} (h : cvB ts bd = true) (h12 : vs.length = 12) : (evB (negT ts) (negD ts bd) vs != evB ts bd vs) = true := by
  have hs := sumV_neg h12 ts (cvB_lit h)
  have hb := cvB_bd h
  unfold evB
  rw [h, cvB_neg h, h12]
  have h1 : 0 ≤ sumV vs (negT ts) := by
    have hm : ∀ t ∈ negT ts, 1 ≤ t.1 := fun t ht => (goodB_mem _ 0 (goodB_negT ts 0 (cvB_good h)) t ht).2.1
    have key : ∀ us : List Tm, (∀ t ∈ us, 1 ≤ t.1) → 0 ≤ sumV vs us := by
      intro us
      induction us with
      | nil => intro _; simp [sumV]
      | cons u us ih =>
        intro hu
        have a := ih fun t ht => hu t (by simp [ht])
        have b := hu u (by simp)
        simp only [sumV, List.map_cons, List.sum_cons] at a ⊢
        split <;> omega
    exact key _ hm
  by_cases hc : bd ≤ sumV vs ts
  · have h2 : ¬ negD ts bd ≤ sumV vs (negT ts) := by unfold negD; omega
    simp [hc, h2]
  · have h2 : negD ts bd ≤ sumV vs (negT ts) := by unfold negD; omega
    simp [hc, h2]
end Go.Proofs.Ytbpkpcfhmglddaa
