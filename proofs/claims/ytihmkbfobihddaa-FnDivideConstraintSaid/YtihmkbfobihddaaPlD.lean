/- Plain laws of division and multiplication. -/
import Derived.Test.YtihmkbfobihddaaPlE
import Derived.Test.YtihmkbfobihddaaDiv
import Derived.Test.YtihmkbfobihddaaEqT
namespace Go.Proofs.Ytihmkbfobihddaa

theorem upM_eq {k : Int} (hk : 1 ≤ k) (c : Int) : upM k c = (c - 1) / k + 1 := by
  unfold upM
  have e : c + k - 1 = (c - 1) + 1 * k := by omega
  rw [e, Int.add_mul_ediv_right _ _ (by omega)]
theorem upM_upM {k n : Int} (hk : 1 ≤ k) (hn : 1 ≤ n) (hkn : 1 ≤ k * n) (c : Int) : upM n (upM k c) = upM (k * n) c := by
  rw [upM_eq hn, upM_eq hk, upM_eq hkn, Int.add_sub_cancel, Int.ediv_ediv_of_nonneg (by omega)]
theorem chMap_chMap (f g : Int → Int) (ts : List Tm) : chMap f (chMap g ts) = chMap (fun c => f (g c)) ts := by simp [chMap, Function.comp_def]
theorem chMap_congr (f g : Int → Int) (ts : List Tm) (h : ∀ c, f c = g c) : chMap f ts = chMap g ts := by
  have : f = g := funext h
  rw [this]
theorem upM_le {k : Int} (hk : 1 ≤ k) (c : Int) : c ≤ k * upM k c := by
  rw [upM_eq hk]
  have h1 := Int.mul_ediv_add_emod (c - 1) k
  have h2 := Int.emod_lt_of_pos (c - 1) (show 0 < k by omega)
  rw [Int.mul_add, Int.mul_one]
  omega
theorem upM_of_le {k bd S : Int} (hk : 1 ≤ k) (h : bd ≤ k * S) : upM k bd ≤ S := by
  rw [upM_eq hk]
  have : (bd - 1) / k < S := Int.ediv_lt_of_lt_mul (by omega) (by rw [Int.mul_comm]; omega)
  omega
theorem sumV_div {k : Int} (hk : 1 ≤ k) (vs : List Bool) (ts : List Tm) : sumV vs ts ≤ k * sumV vs (chMap (upM k) ts) := by
  induction ts with
  | nil => simp [sumV, chMap]
  | cons t ts ih =>
    have h1 := upM_le hk t.1
    simp only [sumV, chMap, List.map_cons, List.sum_cons] at ih ⊢
    rw [Int.mul_add]
    split <;> omega
/-- FnDivideConstraint -/
theorem div_sound {ts : List Tm} {bd k : Int} {vs : List Bool} (h : cvB ts bd = true) (hk : 1 ≤ k) (he : evB ts bd vs = true) : evB (chMap (upM k) ts) (upM k bd) vs = true := by
  unfold evB at he ⊢
  rw [h, Bool.true_and, Bool.and_eq_true, decide_eq_true_eq, decide_eq_true_eq] at he
  rw [cvB_div h hk, Bool.true_and, Bool.and_eq_true, decide_eq_true_eq, decide_eq_true_eq]
  exact ⟨he.1, upM_of_le hk (Int.le_trans he.2 (sumV_div hk vs ts))⟩

/-- multiplied -/
def muF (k c : Int) : Int := c * k
def muB (ts : List Tm) (bd k : Int) : Bool := (cvB ts bd && inB k 1 1000) && cvB (chMap (muF k) ts) (muF k bd)
def muT (ts : List Tm) (bd k : Int) : List Tm := if muB ts bd k = true then chMap (muF k) ts else []
def muD (ts : List Tm) (bd k : Int) : Int := if muB ts bd k = true then muF k bd else 0
theorem muB_cv {ts : List Tm} {bd k : Int} (h : muB ts bd k = true) : cvB ts bd = true := by unfold muB at h; rw [Bool.and_eq_true, Bool.and_eq_true] at h; exact h.1.1
theorem muB_k {ts : List Tm} {bd k : Int} (h : muB ts bd k = true) : 1 ≤ k ∧ k ≤ 1000 := by unfold muB at h; rw [Bool.and_eq_true, Bool.and_eq_true] at h; simpa [inB] using h.1.2
theorem muB_cv2 {ts : List Tm} {bd k : Int} (h : muB ts bd k = true) : cvB (chMap (muF k) ts) (muF k bd) = true := by unfold muB at h; rw [Bool.and_eq_true] at h; exact h.2
theorem muT_len (ts : List Tm) (bd k : Int) : (muT ts bd k).length ≤ 1048576 := by
  unfold muT; split
  · rename_i h; have := cvB_len (muB_cv h); rw [chMap_len]; omega
  · simp
theorem up_mul {k : Int} (hk : 1 ≤ k) (c : Int) : upM k (muF k c) = c := by
  rw [upM_eq hk]
  unfold muF
  have e : c * k - 1 = -1 + c * k := by omega
  rw [e, Int.add_mul_ediv_right _ _ (by omega)]
  have : (-1 : Int) / k = -1 := by
    have h1 := Int.mul_ediv_add_emod (-1) k
    have h2 := Int.emod_lt_of_pos (-1) (show 0 < k by omega)
    have h3 := Int.emod_nonneg (-1) (show k ≠ 0 by omega)
    have h4 : (-1 : Int) / k < 0 := Int.ediv_neg_of_neg_of_pos (by omega) (by omega)
    have h5 : -1 ≤ (-1 : Int) / k := by
      rcases Int.lt_or_le ((-1 : Int) / k) (-1) with h | h
      · have : k * ((-1 : Int) / k) ≤ k * (-2) := Int.mul_le_mul_of_nonneg_left (by omega) (by omega)
        omega
      · exact h
    omega
  rw [this]; omega
theorem chMap_up_mul {k : Int} (hk : 1 ≤ k) (ts : List Tm) : chMap (upM k) (chMap (muF k) ts) = ts := by
  rw [chMap_chMap, chMap_congr _ id ts (fun c => up_mul hk c)]
  simp [chMap]
theorem sumV_mul (k : Int) (vs : List Bool) (ts : List Tm) : sumV vs (chMap (muF k) ts) = sumV vs ts * k := by
  induction ts with
  | nil => simp [sumV, chMap]
  | cons t ts ih =>
    simp only [sumV, chMap, muF, List.map_cons, List.sum_cons] at ih ⊢
    rw [ih, Int.add_mul]
    split <;> omega
/-- FnMultiplyConstraint -/
theorem mul_eval {ts : List Tm} {bd k : Int} (h : muB ts bd k = true) (vs : List Bool) : evB (chMap (muF k) ts) (muF k bd) vs = evB ts bd vs := by
  have hk := (muB_k h).1
  unfold evB
  rw [muB_cv h, muB_cv2 h, sumV_mul]
  have e : decide (muF k bd ≤ sumV vs ts * k) = decide (bd ≤ sumV vs ts) := by
    unfold muF
    rw [Bool.eq_iff_iff, decide_eq_true_eq, decide_eq_true_eq]
    exact ⟨fun h => Int.le_of_mul_le_mul_right h (by omega), fun h => Int.mul_le_mul_of_nonneg_right h (by omega)⟩
  rw [e]
theorem dvT_of {ts : List Tm} {bd k : Int} (h : dvB ts bd k = true) : dvT ts bd k = chMap (upM k) ts := by unfold dvT; rw [if_pos h]
theorem dvD_of {ts : List Tm} {bd k : Int} (h : dvB ts bd k = true) : dvD ts bd k = upM k bd := by unfold dvD; rw [if_pos h]
theorem dvT_no {ts : List Tm} {bd k : Int} (h : dvB ts bd k = false) : dvT ts bd k = [] := by unfold dvT; rw [if_neg (by rw [h]; simp)]
theorem dvD_no {ts : List Tm} {bd k : Int} (h : dvB ts bd k = false) : dvD ts bd k = 0 := by unfold dvD; rw [if_neg (by rw [h]; simp)]
theorem muT_of {ts : List Tm} {bd k : Int} (h : muB ts bd k = true) : muT ts bd k = chMap (muF k) ts := by unfold muT; rw [if_pos h]
theorem muD_of {ts : List Tm} {bd k : Int} (h : muB ts bd k = true) : muD ts bd k = muF k bd := by unfold muD; rw [if_pos h]
theorem muT_no {ts : List Tm} {bd k : Int} (h : muB ts bd k = false) : muT ts bd k = [] := by unfold muT; rw [if_neg (by rw [h]; simp)]
theorem muD_no {ts : List Tm} {bd k : Int} (h : muB ts bd k = false) : muD ts bd k = 0 := by unfold muD; rw [if_neg (by rw [h]; simp)]
theorem dvB_of {ts : List Tm} {bd k : Int} (h : cvB ts bd = true) (h1 : 1 ≤ k) (h2 : k ≤ 1000) : dvB ts bd k = true := by unfold dvB; rw [h]; simp [inB]; omega
/-- FnDivideTwice -/
theorem div_twice {ts : List Tm} {bd k n : Int} (hk : 1 ≤ k) (hn : 1 ≤ n) (hkn : 1 ≤ k * n) : cEq (chMap (upM n) (chMap (upM k) ts)) (chMap (upM (k * n)) ts) (upM n (upM k bd)) (upM (k * n) bd) = true := by
  rw [chMap_chMap, chMap_congr _ (upM (k * n)) ts (fun c => upM_upM hk hn hkn c), upM_upM hk hn hkn]
  simp [cEq]
end Go.Proofs.Ytihmkbfobihddaa
