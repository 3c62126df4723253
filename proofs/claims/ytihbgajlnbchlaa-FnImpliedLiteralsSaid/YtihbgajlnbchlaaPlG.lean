/- Plain laws of slacks, problems and propagation, as the laws with draws ask for them. No program is named here. -/
import Derived.Test.YtihbgajlnbchlaaPlPf
import Derived.Test.YtihbgajlnbchlaaPrg
import Derived.Test.YtihbgajlnbchlaaRup
namespace Go.Proofs.Ytihbgajlnbchlaa

theorem evB_of {ts : List Tm} {bd : Int} {vs : List Bool} (hc : cvB ts bd = true) (hl : vs.length = 12) : evB ts bd vs = decide (bd ≤ sumV vs ts) := by
  unfold evB; rw [hc, hl]; rfl
/-- FnSlackOf -/
theorem sl_conflict {ts : List Tm} {bd : Int} {p : List Int} {vs : List Bool} (h : slB ts bd p = true) (hn : slI ts bd p < 0) (he : epB p vs = true) : evB ts bd vs = false := by
  have h2 := h
  unfold slB at h2
  rw [Bool.and_eq_true] at h2
  have h12 := (epB_parts he).2.1
  rw [evB_of h2.1 h12]
  unfold slI at hn
  rw [if_pos h] at hn
  have hle := (ep_iff h2.2 h12).1 he
  have hcc : cvC (ts, bd) = true := h2.1
  have h3 := slkC_le hle hcc
  have h4 := slkT_tot h12 ts fun t ht => (cvC_mem hcc ht).1
  unfold slkC at h3
  simp only at h3
  rw [decide_eq_false_iff_not]; omega
/-- FnSatisfiesAll -/
theorem sa_append {cs ds : List Cn} (vs : List Bool) (h : cs.length + ds.length ≤ 400) : saB (cs ++ ds) vs = (saB cs vs && saB ds vs) := by
  unfold saB probB
  rw [List.all_append, List.all_append, List.length_append]
  have h1 : decide (cs.length + ds.length ≤ 400) = true := decide_eq_true h
  have h2 : decide (cs.length ≤ 400) = true := decide_eq_true (by omega)
  have h3 : decide (ds.length ≤ 400) = true := decide_eq_true (by omega)
  rw [h1, h2, h3]
  cases cs.all cvC <;> cases ds.all cvC <;> cases decide (vs.length = 12) <;> cases cs.all (holdC vs) <;> cases ds.all (holdC vs) <;> rfl
/-- FnRupMember -/
theorem rup_mem {cs : List Cn} {ts : List Tm} {bd : Int} (h : probB cs = true) (hm : (ts, bd) ∈ cs) (hb : ¬ (1 < bd)) : rupB cs ts bd = true := by
  have hv := probB_all h
  have hc : cvB ts bd = true := List.all_eq_true.1 hv (ts, bd) hm
  unfold rupB rupP
  rw [h, hc]
  simp only [Bool.true_and, decide_eq_true_eq]
  exact rup_member (c := (ts, bd)) hv (cvB_neg hc) hm (by simp only; omega) zero12_pv
theorem prB_parts {cs : List Cn} {p : List Int} (h : prB cs p = true) : probB cs = true ∧ pvB p = true := by
  unfold prB at h; rw [Bool.and_eq_true] at h; exact h
theorem prT_of {cs : List Cn} {p : List Int} (h : prB cs p = true) : prT cs p = (propP cs 13 p).1 := by unfold prT; rw [if_pos h]
theorem prK_of {cs : List Cn} {p : List Int} (h : prB cs p = true) : prK cs p = (propP cs 13 p).2 := by unfold prK; rw [if_pos h]
theorem prT_no {cs : List Cn} {p : List Int} (h : prB cs p = false) : prT cs p = [] := by unfold prT; rw [if_neg (by rw [h]; simp)]
theorem prK_no {cs : List Cn} {p : List Int} (h : prB cs p = false) : prK cs p = -1 := by unfold prK; rw [if_neg (by rw [h]; simp)]
theorem probB_app {cs ds : List Cn} (h : probB cs = true) (k : probB ds = true) (hl : cs.length + ds.length ≤ 400) : probB (cs ++ ds) = true := by
  unfold probB; rw [List.all_append, probB_all h, probB_all k, List.length_append, decide_eq_true hl]; rfl
theorem prT_pv {cs : List Cn} {p : List Int} (h : prB cs p = true) : pvB (prT cs p) = true := by
  rw [prT_of h]; exact propP_pv cs 13 (prB_parts h).2
theorem prT_12 {cs : List Cn} {p : List Int} (h : prB cs p = true) : (prT cs p).length = 12 := (pvB_at (prT_pv h)).1
/-- FnPropagateFixed -/
theorem pr_again {cs : List Cn} {p : List Int} (h : prB cs p = true) : prB cs (prT cs p) = true := by
  unfold prB; rw [(prB_parts h).1, prT_pv h]; rfl
theorem pr_again_k {cs : List Cn} {p : List Int} (h : prB cs p = true) : decide (0 ≤ prK cs (prT cs p)) = decide (0 ≤ prK cs p) ∧ (¬ 0 ≤ prK cs p → prT cs (prT cs p) = prT cs p) := by
  have hv := probB_all (prB_parts h).1
  have hp := (prB_parts h).2
  rw [prK_of (pr_again h), prT_of (pr_again h), prK_of h, prT_of h]
  by_cases h0 : 0 ≤ (propP cs 13 p).2
  · have := prop_again_bad hp hv h0
    exact ⟨by rw [decide_eq_true h0, decide_eq_true this], fun h1 => absurd h0 h1⟩
  · have := prop_again hp hv (by omega)
    rw [this]
    exact ⟨by rw [decide_eq_false h0]; rfl, fun _ => rfl⟩
theorem pr_ext_at {cs : List Cn} {p : List Int} (h : prB cs p = true) {i : Nat} {z : Int} (hz : p[i]? = some z) (h0 : z ≠ 0) : (prT cs p)[i]? = some z := by
  rw [prT_of h]; exact prop_ext_at (prB_parts h).2 (probB_all (prB_parts h).1) hz h0
/-- FnPropagateMonotone -/
theorem pr_mono_at {cs ds : List Cn} {p : List Int} (h : prB cs p = true) (k : prB (ds ++ cs) p = true) (hk : ¬ 0 ≤ prK (ds ++ cs) p) :
    prK cs p < 0 ∧ ∀ {i : Nat} {z : Int}, (prT cs p)[i]? = some z → z ≠ 0 → (prT (ds ++ cs) p)[i]? = some z := by
  rw [prK_of k] at hk
  rw [prK_of h, prT_of h, prT_of k]
  have hp := (prB_parts h).2
  have hv := probB_all (prB_parts h).1
  have hw := probB_all (prB_parts k).1
  obtain ⟨h1, h2⟩ := prop_mono hp hv hw (fun c hc => List.mem_append.2 (.inr hc)) (by omega)
  exact ⟨by omega, fun hz h0 => leP_at (propP_pv cs 13 hp) (propP_pv _ 13 hp) h2 hz h0⟩
/-- FnPropagateUnit -/
theorem unit_cv {l : Int} (hl : litB l = true) : cvB [(1, l)] 1 = true := by
  obtain ⟨m, hm, hlm⟩ := lit_cases hl
  have : m = 0 ∨ m = 1 ∨ m = 2 ∨ m = 3 ∨ m = 4 ∨ m = 5 ∨ m = 6 ∨ m = 7 ∨ m = 8 ∨ m = 9 ∨ m = 10 ∨ m = 11 := by omega
  rcases hlm with rfl | rfl <;> rcases this with rfl | rfl | rfl | rfl | rfl | rfl | rfl | rfl | rfl | rfl | rfl | rfl <;> decide
theorem pr_unit_ok {cs : List Cn} {p : List Int} {l : Int} (h : prB cs p = true) (hl : litB l = true) (hn : cs.length ≤ 399) : prB (cs ++ [([(1, l)], 1)]) p = true := by
  unfold prB
  rw [(prB_parts h).2, probB_app (prB_parts h).1 (by unfold probB cvC; simp [unit_cv hl]) (by simp; omega)]; rfl
theorem pr_unit {cs : List Cn} {p : List Int} {l : Int} (h : prB (cs ++ [([(1, l)], 1)]) p = true) (hl : litB l = true) (hk : ¬ 0 ≤ prK (cs ++ [([(1, l)], 1)]) p) : stI (prT (cs ++ [([(1, l)], 1)]) p) l = 1 := by
  rw [prK_of h] at hk
  rw [prT_of h]
  exact prop_unit (prB_parts h).2 (probB_all (prB_parts h).1) (by simp) hl (by omega)
/-- FnPropagate -/
theorem pr_sound {cs : List Cn} {p : List Int} {vs : List Bool} (h : prB cs p = true) (he : epB p vs = true) (hs : saB cs vs = true) : prK cs p < 0 ∧ epB (prT cs p) vs = true := by
  unfold saB at hs
  simp only [Bool.and_eq_true] at hs
  obtain ⟨h1, h2⟩ := prop_sound (prB_parts h).2 (probB_all (prB_parts h).1) he hs.2.2
  rw [prK_of h, prT_of h]
  exact ⟨by omega, h2⟩
theorem RetIIB.of_eq {xs xs' : List Int} {k k' : Int} {ok ok' : Bool} {w : World} {e : Ending} {w' : World} (h : RetIIB xs k ok w e w') (h1 : xs = xs') (h2 : k = k') (h3 : ok = ok') : RetIIB xs' k' ok' w e w' := by
  subst h1; subst h2; subst h3; exact h
end Go.Proofs.Ytihbgajlnbchlaa
