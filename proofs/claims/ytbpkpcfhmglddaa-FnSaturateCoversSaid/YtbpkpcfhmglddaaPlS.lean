/- Plain laws of saturation, weakening and covering. -/
import Derived.Test.YtbpkpcfhmglddaaPlE
import Derived.Test.YtbpkpcfhmglddaaSat
import Derived.Test.YtbpkpcfhmglddaaWeak
import Derived.Test.YtbpkpcfhmglddaaCover
namespace Go.Proofs.Ytbpkpcfhmglddaa

theorem satM_bounds {c bd : Int} (hb : 1 ≤ bd) (hc : 1 ≤ c ∧ c ≤ 1000) : 1 ≤ satM c bd ∧ satM c bd ≤ 1000 ∧ satM c bd ≤ c ∧ satM c bd ≤ bd := by unfold satM; split <;> omega
theorem goodB_sat {bd : Int} (hb : 1 ≤ bd) (ts : List Tm) : ∀ v, goodB v ts = true → goodB v (satMap ts bd) = true := by
  induction ts with
  | nil => intro v _; rfl
  | cons t ts ih =>
    intro v h
    obtain ⟨c, l⟩ := t
    rw [goodB_cons, Bool.and_eq_true, decide_eq_true_eq] at h
    have h2 := satM_bounds hb h.1.2.2
    show goodB v ((satM c bd, l) :: satMap ts bd) = true
    rw [goodB_cons, Bool.and_eq_true, decide_eq_true_eq]
    exact ⟨⟨h.1.1, h.1.2.1, h2.1, h2.2.1⟩, ih _ h.2⟩
theorem cvB_sat {ts : List Tm} {bd : Int} (h : cvB ts bd = true) : cvB (saT ts bd) bd = true := by
  have hb := cvB_bd h
  unfold saT
  split
  · unfold cvB; rw [goodB_sat (by omega) ts 0 (cvB_good h)]; simp [inB]; omega
  · unfold cvB; simp [inB, goodB]; omega
theorem saT_saT (ts : List Tm) (bd : Int) : saT (saT ts bd) bd = saT ts bd := by
  unfold saT
  split
  · unfold satMap
    rw [List.map_map]
    refine List.map_congr_left fun t _ => ?_
    have : satM (satM t.1 bd) bd = satM t.1 bd := by by_cases h : bd < t.1 <;> simp [satM, h]
    simp only [Function.comp, this]
  · rfl
theorem stT_of {ts : List Tm} {bd : Int} (h : cvB ts bd = true) : stT ts bd = saT ts bd := by unfold stT; rw [if_pos h]
theorem stD_of {ts : List Tm} {bd : Int} (h : cvB ts bd = true) : stD ts bd = bd := by unfold stD; rw [if_pos h]
theorem stT_no {ts : List Tm} {bd : Int} (h : cvB ts bd = false) : stT ts bd = [] := by unfold stT; rw [if_neg (by rw [h]; simp)]
theorem stD_no {ts : List Tm} {bd : Int} (h : cvB ts bd = false) : stD ts bd = 0 := by unfold stD; rw [if_neg (by rw [h]; simp)]
theorem sumV_nonneg (vs : List Bool) (ts : List Tm) (h : ∀ t ∈ ts, 0 ≤ t.1) : 0 ≤ sumV vs ts := by
  induction ts with
  | nil => simp [sumV]
  | cons t ts ih =>
    have a := ih fun s hs => h s (by simp [hs])
    have b := h t (by simp)
    simp only [sumV, List.map_cons, List.sum_cons] at a ⊢
    split <;> omega
theorem sumV_cons (vs : List Bool) (t : Tm) (ts : List Tm) : sumV vs (t :: ts) = (if litV vs t.2 = true then t.1 else 0) + sumV vs ts := by simp [sumV]
theorem satMap_cons (t : Tm) (ts : List Tm) (bd : Int) : satMap (t :: ts) bd = (satM t.1 bd, t.2) :: satMap ts bd := rfl
theorem satM_or (c bd : Int) : (satM c bd = c ∧ c ≤ bd) ∨ (satM c bd = bd ∧ bd < c) := by unfold satM; split <;> omega
theorem sat_small {bd : Int} (vs : List Bool) (ts : List Tm) (h : ∀ t ∈ ts, 1 ≤ t.1) : sumV vs ts < bd → sumV vs (satMap ts bd) = sumV vs ts := by
  induction ts with
  | nil => intro _; rfl
  | cons t ts ih =>
    intro hlt
    have hn := sumV_nonneg vs ts fun s hs => by have := h s (by simp [hs]); omega
    have hc := h t (by simp)
    rw [satMap_cons, sumV_cons, sumV_cons] at *
    simp only
    have hm := satM_or t.1 bd
    by_cases hv : litV vs t.2 = true
    · rw [if_pos hv] at hlt
      rw [if_pos hv, if_pos hv, ih (fun s hs => h s (by simp [hs])) (by omega)]
      omega
    · rw [if_neg hv] at hlt
      rw [if_neg hv, if_neg hv, ih (fun s hs => h s (by simp [hs])) (by omega)]
theorem sat_sum {bd : Int} (hb : 1 ≤ bd) (vs : List Bool) (ts : List Tm) (h : ∀ t ∈ ts, 1 ≤ t.1) :
    0 ≤ sumV vs (satMap ts bd) ∧ sumV vs (satMap ts bd) ≤ sumV vs ts ∧ (bd ≤ sumV vs ts → bd ≤ sumV vs (satMap ts bd)) := by
  induction ts with
  | nil => simp [sumV, satMap]
  | cons t ts ih =>
    obtain ⟨h1, h2, h3⟩ := ih fun s hs => h s (by simp [hs])
    have hsm := sat_small (bd := bd) vs ts fun s hs => h s (by simp [hs])
    have hc := h t (by simp)
    have hm := satM_or t.1 bd
    rw [satMap_cons, sumV_cons, sumV_cons]
    simp only
    by_cases hv : litV vs t.2 = true
    · rw [if_pos hv, if_pos hv]
      refine ⟨by omega, by omega, fun h4 => ?_⟩
      by_cases h5 : bd ≤ sumV vs ts
      · have := h3 h5; omega
      · have := hsm (by omega); omega
    · rw [if_neg hv, if_neg hv]
      exact ⟨by omega, by omega, fun h4 => by have := h3 (by omega); omega⟩
/-- FnSaturateConstraint -/
theorem sat_eval {ts : List Tm} {bd : Int} (h : cvB ts bd = true) (vs : List Bool) : evB (saT ts bd) bd vs = evB ts bd vs := by
  have hb := cvB_bd h
  have hc := cvB_coef h
  unfold evB
  rw [h, cvB_sat h]
  have e : decide (bd ≤ sumV vs (saT ts bd)) = decide (bd ≤ sumV vs ts) := by
    rw [Bool.eq_iff_iff, decide_eq_true_eq, decide_eq_true_eq]
    unfold saT
    split
    · have := sat_sum (bd := bd) (by omega) vs ts fun t ht => (hc t ht).1
      exact ⟨fun h => by omega, this.2.2⟩
    · have := sumV_nonneg vs ts fun t ht => by have := hc t ht; omega
      simp [sumV]; unfold sumV at this; omega
  rw [e]

/-! weakening -/
theorem goodB_wk (v : Int) (ts : List Tm) : ∀ u u', u' ≤ u → goodB u ts = true → goodB u' (wkMap ts v) = true := by
  induction ts with
  | nil => intro u u' _ _; rfl
  | cons t ts ih =>
    intro u u' hu h
    obtain ⟨c, l⟩ := t
    rw [goodB_cons, Bool.and_eq_true, decide_eq_true_eq] at h
    unfold wkMap
    rw [List.filter_cons]
    split
    · show goodB u' ((c, l) :: wkMap ts v) = true
      rw [goodB_cons, Bool.and_eq_true, decide_eq_true_eq]
      exact ⟨⟨h.1.1, by omega, h.1.2.2⟩, ih _ _ (Int.le_refl _) h.2⟩
    · exact ih (absI l) u' (by omega) h.2
theorem wkSum_all {ts : List Tm} {bd : Int} (h : cvB ts bd = true) (v : Int) : 0 ≤ wkSum ts v ∧ wkSum ts v ≤ 12000 := by
  have := wkSum_bounds h ts.length v
  rwa [List.take_length] at this
theorem cvB_wk {ts : List Tm} {bd : Int} (h : cvB ts bd = true) (v : Int) : cvB (wkMap ts v) (wkD ts bd v) = true := by
  have hb := cvB_bd h
  have hs := wkSum_all h v
  unfold cvB
  rw [goodB_wk v ts 0 0 (Int.le_refl _) (cvB_good h)]
  have : 0 ≤ wkD ts bd v ∧ wkD ts bd v ≤ 20000 := by unfold wkD; omega
  simp [inB]; omega
theorem wcT_of {ts : List Tm} {bd v : Int} (h : wkB ts bd v = true) : wcT ts bd v = wkMap ts v := by unfold wcT; rw [if_pos h]
theorem wcD_of {ts : List Tm} {bd v : Int} (h : wkB ts bd v = true) : wcD ts bd v = wkD ts bd v := by unfold wcD; rw [if_pos h]
theorem wcT_no {ts : List Tm} {bd v : Int} (h : wkB ts bd v = false) : wcT ts bd v = [] := by unfold wcT; rw [if_neg (by rw [h]; simp)]
theorem wcD_no {ts : List Tm} {bd v : Int} (h : wkB ts bd v = false) : wcD ts bd v = 0 := by unfold wcD; rw [if_neg (by rw [h]; simp)]
theorem wkB_cv {ts : List Tm} {bd v : Int} (h : wkB ts bd v = true) : cvB ts bd = true := by unfold wkB at h; rw [Bool.and_eq_true] at h; exact h.1
theorem wkB_v {ts : List Tm} {bd v : Int} (h : wkB ts bd v = true) : 1 ≤ v ∧ v ≤ 12 := by unfold wkB at h; rw [Bool.and_eq_true] at h; simpa [inB] using h.2
theorem wkMap_cons (t : Tm) (ts : List Tm) (v : Int) : wkMap (t :: ts) v = if wkKeep v t = true then t :: wkMap ts v else wkMap ts v := by unfold wkMap; rw [List.filter_cons]
theorem wkSum_cons (t : Tm) (ts : List Tm) (v : Int) : wkSum (t :: ts) v = if wkKeep v t = true then wkSum ts v else t.1 + wkSum ts v := by
  unfold wkSum; rw [List.filter_cons]
  by_cases h : wkKeep v t = true
  · simp [h]
  · simp [h, sumT]
/-- what is left out is at most its coefficients -/
theorem wk_sum (vs : List Bool) (v : Int) (ts : List Tm) (h : ∀ t ∈ ts, 0 ≤ t.1) : sumV vs ts ≤ sumV vs (wkMap ts v) + wkSum ts v := by
  induction ts with
  | nil => simp [sumV, wkMap, wkSum, sumT]
  | cons t ts ih =>
    have h1 := ih fun s hs => h s (by simp [hs])
    have h2 := h t (by simp)
    rw [wkMap_cons, wkSum_cons, sumV_cons]
    by_cases hk : wkKeep v t = true
    · rw [if_pos hk, if_pos hk, sumV_cons]; omega
    · rw [if_neg hk, if_neg hk]; split <;> omega
/-- FnWeakenConstraint -/
theorem wk_sound {ts : List Tm} {bd v : Int} {vs : List Bool} (h : cvB ts bd = true) (he : evB ts bd vs = true) : evB (wkMap ts v) (wkD ts bd v) vs = true := by
  have hs := wk_sum vs v ts fun t ht => by have := cvB_coef h t ht; omega
  have hp := sumV_nonneg vs (wkMap ts v) fun t ht => by have := cvB_coef (cvB_wk h v) t ht; omega
  unfold evB at he ⊢
  rw [h, Bool.true_and, Bool.and_eq_true, decide_eq_true_eq, decide_eq_true_eq] at he
  rw [cvB_wk h v, Bool.true_and, Bool.and_eq_true, decide_eq_true_eq, decide_eq_true_eq]
  refine ⟨he.1, ?_⟩
  unfold wkD; omega
theorem sumV_congr (vs vs' : List Bool) (ts : List Tm) (h : ∀ t ∈ ts, litV vs' t.2 = litV vs t.2) : sumV vs' ts = sumV vs ts := by
  induction ts with
  | nil => rfl
  | cons t ts ih => rw [sumV_cons, sumV_cons, ih fun s hs => h s (by simp [hs]), h t (by simp)]
theorem wk_other {ts : List Tm} {bd v : Int} (h : cvB ts bd = true) (hv : 1 ≤ v) (vs : List Bool) (b : Bool) : evB (wkMap ts v) (wkD ts bd v) (vs.set (v - 1).toNat b) = evB (wkMap ts v) (wkD ts bd v) vs := by
  unfold evB
  rw [List.length_set, sumV_congr vs (vs.set (v - 1).toNat b) _ fun t ht => by
    have hl := cvB_lit (cvB_wk h v) t ht
    have hp := absI_pos hl
    have hne : absI t.2 ≠ v := by
      have := (List.mem_filter.1 ht).2
      simpa [wkKeep] using this
    unfold litV
    rw [List.getD_eq_getElem?_getD, List.getD_eq_getElem?_getD, List.getElem?_set_ne (by omega)]]

/-! covering -/
theorem coefT_mem (us : List Tm) : ∀ u, goodB u us = true → ∀ t ∈ us, coefT t.2 us = t.1 := by
  induction us with
  | nil => intro u _ t ht; cases ht
  | cons x us ih =>
    intro u h t ht
    have hg := h
    obtain ⟨c, l⟩ := x
    rw [goodB_cons, Bool.and_eq_true, decide_eq_true_eq] at h
    show (if l = t.2 then c else coefT t.2 us) = t.1
    rcases List.mem_cons.1 ht with rfl | ht
    · rw [if_pos rfl]
    · have := goodB_over us _ h.2 t ht
      rw [if_neg (by intro e; subst e; omega)]
      exact ih _ h.2 t ht
theorem coefT_not (us : List Tm) (l : Int) (h : ∀ t ∈ us, t.2 ≠ l) : coefT l us = 0 := by
  induction us with
  | nil => rfl
  | cons x us ih =>
    obtain ⟨c, l'⟩ := x
    show (if l' = l then c else coefT l us) = 0
    rw [if_neg (h (c, l') (by simp))]
    exact ih fun t ht => h t (by simp [ht])
theorem lossT_cons (us : List Tm) (t : Tm) (ts : List Tm) : lossT us (t :: ts) = (if 0 < t.1 - coefT t.2 us then t.1 - coefT t.2 us else 0) + lossT us ts := by simp [lossT]
theorem loss_self {ts : List Tm} {bd : Int} (h : cvB ts bd = true) : lossT ts ts = 0 := by
  have key : ∀ us : List Tm, (∀ t ∈ us, t ∈ ts) → lossT ts us = 0 := by
    intro us
    induction us with
    | nil => intro _; rfl
    | cons u us ih =>
      intro hu
      rw [lossT_cons, ih fun t ht => hu t (by simp [ht]), coefT_mem ts 0 (cvB_good h) u (hu u (by simp))]
      simp
  exact key ts fun _ h => h
theorem covers_self (ts : List Tm) (bd : Int) : coversB ts bd ts bd = cvB ts bd := by
  unfold coversB
  by_cases h : cvB ts bd = true
  · rw [h, loss_self h]; simp
  · have : cvB ts bd = false := by simpa using h
    rw [this]; rfl
/-- FnCoversWeaken -/
theorem covers_wk {ts : List Tm} {bd : Int} (h : cvB ts bd = true) (v : Int) : (coversB ts bd (wkMap ts v) (wkD ts bd v) || (wkD ts bd v == 0)) = true := by
  have key : ∀ us : List Tm, (∀ t ∈ us, t ∈ ts) → lossT (wkMap ts v) us = wkSum us v := by
    intro us
    induction us with
    | nil => intro _; rfl
    | cons u us ih =>
      intro hu
      rw [lossT_cons, ih fun t ht => hu t (by simp [ht]), wkSum_cons]
      have hm := hu u (by simp)
      have hc := cvB_coef h u hm
      by_cases hk : wkKeep v u = true
      · rw [if_pos hk, coefT_mem (wkMap ts v) 0 (cvB_good (cvB_wk h v)) u (List.mem_filter.2 ⟨hm, hk⟩)]
        simp
      · rw [if_neg hk, coefT_not _ _ fun t ht e => by
          have h1 := (List.mem_filter.1 ht)
          have := goodB_inj ts 0 (cvB_good h) t h1.1 u hm (by rw [e])
          rw [this] at h1
          exact hk h1.2]
        rw [if_pos (by omega)]; omega
  have hl := key ts fun _ h => h
  unfold coversB
  rw [h, cvB_wk h v, hl]
  by_cases h0 : wkD ts bd v = 0
  · simp [h0]
  · have : wkD ts bd v ≤ bd - wkSum ts v := by unfold wkD at h0 ⊢; omega
    simp [this]
/-- FnCoversConstraint -/
theorem cov_sum {us : List Tm} {bd' : Int} (hu : cvB us bd' = true) (vs : List Bool) {ts : List Tm} {bd : Int} (ht : cvB ts bd = true) : sumV vs ts ≤ sumV vs us + lossT us ts := by
  -- each true term of ts: its coefficient is at most that in us and the loss
  have key : ∀ xs : List Tm, (∃ u, goodB u xs = true) → sumV vs xs ≤ sumV vs (us.filter fun t => xs.any fun x => x.2 == t.2) + lossT us xs := by
    intro xs
    induction xs with
    | nil =>
      intro _
      have e : (us.filter fun t => ([] : List Tm).any fun x => x.2 == t.2) = [] := by simp
      rw [e]; exact Int.le_refl _
    | cons x xs ih =>
      rintro ⟨u, hg⟩
      obtain ⟨c, l⟩ := x
      rw [goodB_cons, Bool.and_eq_true, decide_eq_true_eq] at hg
      have h1 := ih ⟨_, hg.2⟩
      have hov := goodB_over xs _ hg.2
      have hnot : ∀ y ∈ xs, y.2 ≠ l := fun y hy e => by have := hov y hy; rw [e] at this; omega
      rw [sumV_cons, lossT_cons]
      simp only
      -- the terms of us that are named by (x :: xs): those named by xs, and the one of l
      have hsplit : ∀ zs : List Tm, (∃ u, goodB u zs = true) → sumV vs (zs.filter fun t => ((c, l) :: xs).any fun x => x.2 == t.2) = sumV vs (zs.filter fun t => xs.any fun x => x.2 == t.2) + (if litV vs l = true then coefT l zs else 0) := by
        intro zs
        induction zs with
        | nil => intro _; simp [sumV, coefT]
        | cons z zs ihz =>
          rintro ⟨u', hz⟩
          obtain ⟨c', l'⟩ := z
          rw [goodB_cons, Bool.and_eq_true, decide_eq_true_eq] at hz
          have h2 := ihz ⟨_, hz.2⟩
          have hov' := goodB_over zs _ hz.2
          rw [List.filter_cons, List.filter_cons, List.any_cons]
          by_cases e : l' = l
          · subst e
            have hc0 : coefT l' zs = 0 := coefT_not zs l' fun t ht e => by have := hov' t ht; rw [e] at this; omega
            have hx : (xs.any fun x => x.2 == l') = false := by
              rw [List.any_eq_false]; intro y hy hb; exact hnot y hy (by simpa using hb)
            have hco : coefT l' ((c', l') :: zs) = c' := by show (if l' = l' then c' else _) = c'; rw [if_pos rfl]
            rw [hc0] at h2
            simp only [hx, BEq.rfl, Bool.true_or, if_true, Bool.false_eq_true, if_false, hco, sumV_cons, h2]
            split <;> omega
          · have hb : (l == l') = false := by simp; exact fun h => e h.symm
            have hco : coefT l ((c', l') :: zs) = coefT l zs := by show (if l' = l then c' else _) = _; rw [if_neg e]
            simp only [hb, Bool.false_or, hco]
            split
            · rw [sumV_cons, sumV_cons, h2]; omega
            · exact h2
      rw [hsplit us ⟨0, cvB_good hu⟩]
      have := coefT_bounds hu l
      by_cases hv : litV vs l = true
      · rw [if_pos hv, if_pos hv]
        split <;> omega
      · rw [if_neg hv, if_neg hv]
        split <;> omega
  have h1 := key ts ⟨0, cvB_good ht⟩
  have h2 : sumV vs (us.filter fun t => ts.any fun x => x.2 == t.2) ≤ sumV vs us := by
    have hc := cvB_coef hu
    have key2 : ∀ zs : List Tm, (∀ t ∈ zs, 1 ≤ t.1 ∧ t.1 ≤ 1000) → sumV vs (zs.filter fun t => ts.any fun x => x.2 == t.2) ≤ sumV vs zs := by
      intro zs
      induction zs with
      | nil => intro _; exact Int.le_refl _
      | cons z zs ih =>
        intro hz
        have a := ih fun t ht => hz t (by simp [ht])
        have b := hz z (by simp)
        rw [List.filter_cons, sumV_cons]
        split
        · rw [sumV_cons]; omega
        · split <;> omega
    exact key2 us hc
  omega
theorem cov_sound {ts us : List Tm} {bd bd' : Int} {vs : List Bool} (hc : coversB ts bd us bd' = true) (he : evB ts bd vs = true) : evB us bd' vs = true := by
  unfold coversB at hc
  rw [Bool.and_eq_true, Bool.and_eq_true, decide_eq_true_eq] at hc
  have hs := cov_sum hc.2.1 vs hc.1
  unfold evB at he ⊢
  rw [hc.1, Bool.true_and, Bool.and_eq_true, decide_eq_true_eq, decide_eq_true_eq] at he
  rw [hc.2.1, Bool.true_and, Bool.and_eq_true, decide_eq_true_eq, decide_eq_true_eq]
  exact ⟨he.1, by omega⟩
end Go.Proofs.Ytbpkpcfhmglddaa
