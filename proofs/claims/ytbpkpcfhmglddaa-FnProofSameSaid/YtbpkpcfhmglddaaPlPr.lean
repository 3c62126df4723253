/- Propagation: plain laws. No program is named here. -/
import Derived.Test.YtbpkpcfhmglddaaImpl
import Derived.Test.YtbpkpcfhmglddaaProbV
namespace Go.Proofs.Ytbpkpcfhmglddaa
open Go.RowKit

/-- a literal made true -/
def asg (p : List Int) (l : Int) : List Int := if 0 < l then p.set (l - 1).toNat 1 else p.set (-l - 1).toNat (-1)
def asgL (p : List Int) (ls : List Int) : List Int := ls.foldl asg p
/-- how many variables are open -/
def zc (p : List Int) : Nat := p.count 0
def slkC (p : List Int) (c : Cn) : Int := slkT p c.1 - c.2
def imC (p : List Int) (c : Cn) : List Int := imS p (slkC p c) c.1
/-- one pass over the constraints from number i on: the assignment, the conflict or -1, whether a literal was made true -/
def passP : List Cn → List Int → Int → Bool → List Int × Int × Bool
  | [], p, _, ch => (p, -1, ch)
  | c :: cs, p, i, ch => if slkC p c < 0 then (p, i, ch) else passP cs (asgL p (imC p c)) (i + 1) (ch || !(imC p c).isEmpty)
def propP (cs : List Cn) : Nat → List Int → List Int × Int
  | 0, p => (p, -1)
  | f + 1, p => let r := passP cs p 0 false
    if 0 ≤ r.2.1 then (r.1, r.2.1) else if r.2.2 = true then propP cs f r.1 else (r.1, -1)

theorem asg_len (p : List Int) (l : Int) : (asg p l).length = p.length := by unfold asg; split <;> rw [List.length_set]
theorem asgL_len (ls : List Int) : ∀ p : List Int, (asgL p ls).length = p.length := by
  induction ls with
  | nil => intro p; rfl
  | cons l ls ih => intro p; show (asgL (asg p l) ls).length = _; rw [ih, asg_len]
theorem zc_set (p : List Int) (i : Nat) (x : Int) (hx : x ≠ 0) : zc (p.set i x) ≤ zc p := by
  induction p generalizing i with
  | nil => simp [zc]
  | cons y p ih =>
    cases i with
    | zero => simp only [List.set_cons_zero, zc, List.count_cons]; simp [hx]
    | succ i =>
      have := ih i
      simp only [List.set_cons_succ, zc, List.count_cons] at this ⊢; omega
theorem zc_set_lt (p : List Int) (i : Nat) (x : Int) (hx : x ≠ 0) (h : p[i]? = some 0) : zc (p.set i x) < zc p := by
  induction p generalizing i with
  | nil => simp at h
  | cons y p ih =>
    cases i with
    | zero => simp at h; subst h; simp only [List.set_cons_zero, zc, List.count_cons]; simp [hx]
    | succ i =>
      have := ih i (by simpa using h)
      simp only [List.set_cons_succ, zc, List.count_cons] at this ⊢; omega
theorem zc_asg (p : List Int) (l : Int) : zc (asg p l) ≤ zc p := by unfold asg; split <;> exact zc_set _ _ _ (by decide)
theorem zc_asgL (ls : List Int) : ∀ p : List Int, zc (asgL p ls) ≤ zc p := by
  induction ls with
  | nil => intro p; exact Nat.le_refl _
  | cons l ls ih => intro p; exact Nat.le_trans (ih (asg p l)) (zc_asg p l)
theorem zc_asg_lt (p : List Int) (l : Int) (hp : pvB p = true) (hl : litB l = true) (h : stI p l = 0) : zc (asg p l) < zc p := by
  obtain ⟨m, hm, hlm⟩ := lit_cases hl
  have hlen := (pvB_at hp).1
  obtain ⟨z, hz⟩ : ∃ z, p[m]? = some z := ⟨p[m]'(by omega), List.getElem?_eq_getElem _⟩
  rcases hlm with rfl | rfl
  · rw [stI_pos p m z hz] at h; subst h
    unfold asg; rw [if_pos (by omega), show ((m : Int) + 1 - 1).toNat = m from by omega]
    exact zc_set_lt _ _ _ (by decide) hz
  · rw [stI_neg p m z hz] at h
    obtain rfl : z = 0 := by omega
    unfold asg; rw [if_neg (by omega), show (- -((m : Int) + 1) - 1).toNat = m from by omega]
    exact zc_set_lt _ _ _ (by decide) hz
theorem pvB_setP {p : List Int} (hp : pvB p = true) (i : Nat) (x : Int) (hx : -1 ≤ x ∧ x ≤ 1) : pvB (p.set i x) = true := by
  have h := hp
  unfold pvB at h ⊢
  rw [Bool.and_eq_true, decide_eq_true_eq] at h ⊢
  refine ⟨by rw [List.length_set]; exact h.1, List.all_eq_true.2 fun y hy => ?_⟩
  rcases List.mem_or_eq_of_mem_set hy with h1 | rfl
  · exact List.all_eq_true.1 h.2 y h1
  · simp [inB]; exact hx
theorem pvB_asg {p : List Int} (hp : pvB p = true) (l : Int) : pvB (asg p l) = true := by
  unfold asg; split <;> exact pvB_setP hp _ _ (by omega)
theorem pvB_asgL (ls : List Int) : ∀ {p : List Int}, pvB p = true → pvB (asgL p ls) = true := by
  induction ls with
  | nil => intro p h; exact h
  | cons l ls ih => intro p h; exact ih (pvB_asg h l)
theorem imC_mem {p : List Int} {c : Cn} (hc : cvC c = true) {l : Int} (h : l ∈ imC p c) : litB l = true ∧ stI p l = 0 := by
  unfold imC imS at h
  split at h
  · unfold imL at h
    obtain ⟨t, ht, rfl⟩ := List.mem_map.1 h
    obtain ⟨ht1, ht2⟩ := List.mem_filter.1 ht
    rw [Bool.and_eq_true, decide_eq_true_eq] at ht2
    obtain ⟨k, hk, e⟩ := List.mem_iff_getElem.1 ht1
    exact ⟨(cvB_get hc (by rw [← e]; exact List.getElem?_eq_getElem hk)).1, ht2.1⟩
  · cases h
theorem zc_imC {p : List Int} {c : Cn} (hp : pvB p = true) (hc : cvC c = true) (h : (imC p c).isEmpty = false) : zc (asgL p (imC p c)) < zc p := by
  cases hI : imC p c with
  | nil => rw [hI] at h; cases h
  | cons l ls =>
    have := imC_mem hc (l := l) (by rw [hI]; simp)
    exact Nat.lt_of_le_of_lt (zc_asgL ls (asg p l)) (zc_asg_lt p l hp this.1 this.2)
end Go.Proofs.Ytbpkpcfhmglddaa
