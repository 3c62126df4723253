/- Plain laws of constraints: no program in sight. -/
import Derived.Test.YtbpkpcfhmglddaaEval
import Derived.Test.YtbpkpcfhmglddaaTotF
namespace Go.Proofs.Ytbpkpcfhmglddaa

theorem goodB_over (ts : List Tm) : ∀ u : Int, goodB u ts = true → ∀ t ∈ ts, u < absI t.2 := by
  induction ts with
  | nil => intro u _ t ht; cases ht
  | cons x ts ih =>
    intro u h t ht
    obtain ⟨c, l⟩ := x
    rw [goodB_cons, Bool.and_eq_true, decide_eq_true_eq] at h
    obtain ⟨⟨_, h1, _⟩, h2⟩ := h
    rcases List.mem_cons.1 ht with rfl | ht
    · exact h1
    · have := ih _ h2 t ht; omega
/-- a variable occurs once -/
theorem goodB_inj (ts : List Tm) : ∀ u : Int, goodB u ts = true → ∀ t ∈ ts, ∀ s ∈ ts, absI t.2 = absI s.2 → t = s := by
  induction ts with
  | nil => intro u _ t ht; cases ht
  | cons x ts ih =>
    intro u h t ht s hs e
    obtain ⟨c, l⟩ := x
    rw [goodB_cons, Bool.and_eq_true, decide_eq_true_eq] at h
    have hov := goodB_over ts _ h.2
    rcases List.mem_cons.1 ht with rfl | ht
    · rcases List.mem_cons.1 hs with rfl | hs
      · rfl
      · have := hov s hs; simp only at e; omega
    · rcases List.mem_cons.1 hs with rfl | hs
      · have := hov t ht; simp only at e; omega
      · exact ih _ h.2 t ht s hs e
theorem cvB_good {ts : List Tm} {bd : Int} (h : cvB ts bd = true) : goodB 0 ts = true := by
  unfold cvB at h; rw [Bool.and_eq_true] at h; exact h.1
theorem cvB_lit {ts : List Tm} {bd : Int} (h : cvB ts bd = true) : ∀ t ∈ ts, litB t.2 = true := fun t ht => (goodB_mem ts 0 (cvB_good h) t ht).1

/-- a positive literal made true -/
def setL (vs : List Bool) (l : Int) : List Bool := if 0 < l then vs.set (l - 1).toNat true else vs
def bestV (ts : List Tm) : List Bool := ts.foldl (fun vs t => setL vs t.2) (List.replicate 12 false)
theorem bestV_snoc (ts : List Tm) (t : Tm) : bestV (ts ++ [t]) = setL (bestV ts) t.2 := by simp [bestV]
theorem setL_len (vs : List Bool) (l : Int) : (setL vs l).length = vs.length := by unfold setL; split <;> simp
theorem fold_len (ts : List Tm) : ∀ vs : List Bool, (ts.foldl (fun vs t => setL vs t.2) vs).length = vs.length := by
  induction ts with
  | nil => intro vs; rfl
  | cons t ts ih => intro vs; rw [List.foldl_cons, ih, setL_len]
theorem bestV_len (ts : List Tm) : (bestV ts).length = 12 := by rw [bestV, fold_len]; simp
theorem fold_at (ts : List Tm) : ∀ (vs : List Bool) (j : Nat), j < vs.length → (ts.foldl (fun vs t => setL vs t.2) vs)[j]? = some (vs.getD j false || ts.any fun t => t.2 == (j : Int) + 1) := by
  induction ts with
  | nil => intro vs j hj; simp [List.getElem?_eq_getElem hj]
  | cons t ts ih =>
    intro vs j hj
    rw [List.foldl_cons, ih _ j (by rw [setL_len]; exact hj), List.any_cons, ← Bool.or_assoc]
    congr 2
    unfold setL
    split
    · rename_i h
      by_cases e : t.2 = (j : Int) + 1
      · rw [e, show ((j : Int) + 1 - 1).toNat = j from by omega]
        simp [hj]
      · have hne : (t.2 - 1).toNat ≠ j := by omega
        have hb : (t.2 == (j : Int) + 1) = false := by simpa using e
        rw [hb, Bool.or_false, List.getD_eq_getElem?_getD, List.getD_eq_getElem?_getD, List.getElem?_set_ne hne]
    · rename_i h
      have hb : (t.2 == (j : Int) + 1) = false := by simp; omega
      rw [hb, Bool.or_false]
theorem bestV_at (ts : List Tm) (j : Nat) (hj : j < 12) : (bestV ts)[j]? = some (ts.any fun t => t.2 == (j : Int) + 1) := by
  rw [bestV, fold_at _ _ _ (by simpa using hj), List.getD_eq_getElem?_getD, List.getElem?_replicate, if_pos hj]
  rfl
/-- the values that make each literal true -/
theorem bestV_lit {ts : List Tm} {bd : Int} (h : cvB ts bd = true) (t : Tm) (ht : t ∈ ts) : litV (bestV ts) t.2 = true := by
  obtain ⟨m, hm, e | e⟩ := lit_cases (cvB_lit h t ht)
  · rw [e, litV_pos _ m _ (bestV_at ts m hm), List.any_eq_true]
    exact ⟨t, ht, by simp [e]⟩
  · rw [e, litV_neg _ m _ (bestV_at ts m hm), Bool.not_eq_true', List.any_eq_false]
    intro s hs hb
    have hs2 : s.2 = (m : Int) + 1 := by simpa using hb
    have := goodB_inj ts 0 (cvB_good h) t ht s hs (by rw [e, hs2]; unfold absI; rw [if_pos (by omega), if_neg (by omega)]; omega)
    rw [this, hs2] at e
    omega
theorem sumV_all (vs : List Bool) (ts : List Tm) (h : ∀ t ∈ ts, litV vs t.2 = true) : sumV vs ts = sumT ts := by
  unfold sumV sumT
  congr 1
  exact List.map_congr_left fun t ht => by rw [if_pos (h t ht)]
theorem encB_set1 (vs : List Bool) (m : Nat) (b : Bool) : (encB vs).toArray.setIfInBounds m (.bool b) = (encB (vs.set m b)).toArray := by
  simp [encB, List.map_set]
theorem setL_pos (vs : List Bool) (m : Nat) : setL vs ((m : Int) + 1) = vs.set m true := by
  unfold setL; rw [if_pos (by omega), show ((m : Int) + 1 - 1).toNat = m from by omega]
theorem setL_neg (vs : List Bool) (m : Nat) : setL vs (-((m : Int) + 1)) = vs := by
  unfold setL; rw [if_neg (by omega)]
/-- FnConstraintFalse -/
theorem false_best {ts : List Tm} {bd : Int} (h : cvB ts bd = true) : (cfB ts bd != evB ts bd (bestV ts)) = true := by
  unfold cfB evB
  rw [h, sumV_all _ _ (bestV_lit h), bestV_len]
  by_cases hb : bd ≤ sumT ts
  · have h2 : ¬ sumT ts < bd := by omega
    simp [hb, h2]
  · have h2 : sumT ts < bd := by omega
    simp [hb, h2]
end Go.Proofs.Ytbpkpcfhmglddaa
