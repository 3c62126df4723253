/- Plain laws of counting and of the order of solutions. No program is named here. -/
import Derived.Test.YtmbdfnimmjomfaaCnt
import Derived.Test.YtmbdfnimmjomfaaPlB
namespace Go.Proofs.Ytmbdfnimmjomfaa

theorem evB_ofN {ts : List Tm} {bd : Int} {vs : List Bool} (hc : cvB ts bd = true) (hl : vs.length = 12) : evB ts bd vs = decide (bd ≤ sumV vs ts) := by
  unfold evB; rw [hc, hl]; rfl
theorem probB_appN {cs ds : List Cn} (h : probB cs = true) (k : probB ds = true) (hl : cs.length + ds.length ≤ 400) : probB (cs ++ ds) = true := by
  unfold probB; rw [List.all_append, probB_all h, probB_all k, List.length_append, decide_eq_true hl]; rfl
theorem unit_cvN {l : Int} (hl : litB l = true) : cvB [(1, l)] 1 = true := by
  obtain ⟨m, hm, hlm⟩ := lit_cases hl
  have : m = 0 ∨ m = 1 ∨ m = 2 ∨ m = 3 ∨ m = 4 ∨ m = 5 ∨ m = 6 ∨ m = 7 ∨ m = 8 ∨ m = 9 ∨ m = 10 ∨ m = 11 := by omega
  rcases hlm with rfl | rfl <;> rcases this with rfl | rfl | rfl | rfl | rfl | rfl | rfl | rfl | rfl | rfl | rfl | rfl <;> decide
theorem holdC_unit {l : Int} (vs : List Bool) : holdC vs ([(1, l)], 1) = litV vs l := by
  unfold holdC
  simp only [sumV, List.map_cons, List.map_nil, List.sum_cons, List.sum_nil]
  cases litV vs l <;> rfl
theorem litV_flip {vs : List Bool} (h : vs.length = 12) {m : Nat} (hm : m < 12) : litV vs (-((m : Int) + 1)) = !litV vs ((m : Int) + 1) := by
  obtain ⟨b, hb⟩ : ∃ b, vs[m]? = some b := ⟨vs[m]'(by omega), List.getElem?_eq_getElem _⟩
  rw [litV_pos vs m b hb, litV_neg vs m b hb]
theorem goodN_snoc (cs : List Cn) (c : Cn) (k : Nat) : goodN (cs ++ [c]) k = (goodN cs k && holdC (bitsN k) c) := by
  unfold goodN; rw [List.all_append]; simp
/-- FnCountSplit -/
theorem cnt_split (cs : List Cn) {m : Nat} (hm : m < 12) : ∀ n, cntN cs n = cntN (cs ++ [([(1, (m : Int) + 1)], 1)]) n + cntN (cs ++ [([(1, -((m : Int) + 1))], 1)]) n := by
  intro n
  induction n with
  | zero => rfl
  | succ n ih =>
    rw [cntN_succ, cntN_succ, cntN_succ, ih, goodN_snoc, goodN_snoc, holdC_unit, holdC_unit, litV_flip (bitsN_len n) hm]
    cases goodN cs n <;> cases litV (bitsN n) ((m : Int) + 1) <;> simp <;> omega
theorem probB_snoc {cs : List Cn} {ts : List Tm} {bd : Int} (h : probB cs = true) (hc : cvB ts bd = true) (hl : cs.length ≤ 399) : probB (cs ++ [(ts, bd)]) = true :=
  probB_appN h (by unfold probB cvC; simp [hc]) (by simp; omega)
theorem cnI_of {cs : List Cn} (h : probB cs = true) : cnI cs = (cntN cs 4096 : Int) := by unfold cnI; rw [if_pos h]
theorem cn_split {cs : List Cn} (h : probB cs = true) (hl : cs.length ≤ 399) {m : Nat} (hm : m < 12) : cnI cs = cnI (cs ++ [([(1, (m : Int) + 1)], 1)]) + cnI (cs ++ [([(1, -((m : Int) + 1))], 1)]) := by
  have l1 : litB ((m : Int) + 1) = true := by rw [litB_iff]; omega
  have l2 : litB (-((m : Int) + 1)) = true := by rw [litB_iff]; omega
  rw [cnI_of h, cnI_of (probB_snoc h (unit_cvN l1) hl), cnI_of (probB_snoc h (unit_cvN l2) hl)]
  have := cnt_split cs hm 4096
  omega

theorem cn_split' {cs : List Cn} (h : probB cs = true) (hl : cs.length ≤ 399) {m : Nat} (hm : m < 12) : cnI cs = cnI (cs ++ [([(1, 1 + (m : Int))], 1)]) + cnI (cs ++ [([(1, -(1 + (m : Int)))], 1)]) := by
  rw [Int.add_comm 1]; exact cn_split h hl hm
theorem cnI_bd (cs : List Cn) : 0 ≤ cnI cs ∧ cnI cs ≤ 4096 := by
  unfold cnI
  have := cntN_le cs 4096
  split <;> omega
theorem numB_lt12 {vs : List Bool} (h : vs.length = 12) : numB vs < 4096 := by
  have := numB_lt vs
  rw [h] at this; exact this

/- the order of values -/
def befB : List Bool → List Bool → Bool
  | a :: xs, b :: ys => if a = b then befB xs ys else b
  | _, _ => false
def numF (n : Nat) (vs : List Bool) : Nat := vs.foldl (fun n b => 2 * n + (if b = true then 1 else 0)) n
theorem numF_split (vs : List Bool) : ∀ n : Nat, numF n vs = n * 2 ^ vs.length + numF 0 vs := by
  induction vs with
  | nil => intro n; simp [numF]
  | cons b vs ih =>
    intro n
    have h1 := ih (2 * n + (if b = true then 1 else 0))
    have h2 := ih (2 * 0 + (if b = true then 1 else 0))
    have e1 : numF n (b :: vs) = numF (2 * n + (if b = true then 1 else 0)) vs := rfl
    have e2 : numF 0 (b :: vs) = numF (2 * 0 + (if b = true then 1 else 0)) vs := rfl
    rw [e1, e2, h1, h2, List.length_cons, Nat.pow_succ]
    have e3 : (2 * n + (if b = true then 1 else 0)) * 2 ^ vs.length = n * (2 ^ vs.length * 2) + (if b = true then 1 else 0) * 2 ^ vs.length := by
      rw [Nat.add_mul, Nat.mul_comm (2 ^ vs.length) 2, ← Nat.mul_assoc, Nat.mul_comm 2 n]
    rw [e3, Nat.mul_zero, Nat.zero_add]; omega
theorem numF_cons (b : Bool) (vs : List Bool) : numB (b :: vs) = (if b = true then 2 ^ vs.length else 0) + numB vs := by
  have := numF_split vs (2 * 0 + (if b = true then 1 else 0))
  show numF (2 * 0 + (if b = true then 1 else 0)) vs = _ + numF 0 vs
  rw [this]
  cases b <;> simp
theorem bef_num : ∀ (a b : List Bool), a.length = b.length → befB a b = decide (numB a < numB b) := by
  intro a
  induction a with
  | nil => intro b h; cases b with
    | nil => rfl
    | cons y b => cases h
  | cons x a ih =>
    intro b h
    cases b with
    | nil => cases h
    | cons y b =>
      have hl : a.length = b.length := by simpa using h
      have h1 := numB_lt a
      have h2 := numB_lt b
      rw [hl] at h1
      have h3 := ih b hl
      rw [numF_cons, numF_cons, hl]
      unfold befB
      cases x <;> cases y <;> simp [h3] <;> omega
theorem num_inj : ∀ (a b : List Bool), a.length = b.length → numB a = numB b → a = b := by
  intro a
  induction a with
  | nil => intro b h _; cases b with
    | nil => rfl
    | cons y b => cases h
  | cons x a ih =>
    intro b h hn
    cases b with
    | nil => cases h
    | cons y b =>
      have hl : a.length = b.length := by simpa using h
      have h1 := numB_lt a
      have h2 := numB_lt b
      rw [numF_cons, numF_cons, hl] at hn
      rw [hl] at h1
      cases x <;> cases y <;> simp at hn
      · rw [ih b hl (by omega)]
      · omega
      · omega
      · rw [ih b hl (by omega)]
theorem bit_one (k i : Nat) : (if bitB k i = true then 1 else 0) = k / 2 ^ (11 - i) % 2 := by
  unfold bitB
  by_cases h : k / 2 ^ (11 - i) % 2 = 1
  · rw [decide_eq_true h, h]; rfl
  · rw [decide_eq_false h]; simp; omega
theorem num_bits {k : Nat} (h : k < 4096) : numB (bitsN k) = k := by
  have e : bitsN k = [bitB k 0, bitB k 1, bitB k 2, bitB k 3, bitB k 4, bitB k 5, bitB k 6, bitB k 7, bitB k 8, bitB k 9, bitB k 10, bitB k 11] := rfl
  rw [e]
  simp only [numB, List.foldl, bit_one]
  have h1 : k / 2 ^ (11 - 10) = k / 2 := rfl
  have h2 : k / 2 ^ (11 - 9) = k / 2 / 2 := by rw [Nat.div_div_eq_div_mul]
  have h3 : k / 2 ^ (11 - 8) = k / 2 / 2 / 2 := by simp only [Nat.div_div_eq_div_mul]
  have h4 : k / 2 ^ (11 - 7) = k / 2 / 2 / 2 / 2 := by simp only [Nat.div_div_eq_div_mul]
  have h5 : k / 2 ^ (11 - 6) = k / 2 / 2 / 2 / 2 / 2 := by simp only [Nat.div_div_eq_div_mul]
  have h6 : k / 2 ^ (11 - 5) = k / 2 / 2 / 2 / 2 / 2 / 2 := by simp only [Nat.div_div_eq_div_mul]
  have h7 : k / 2 ^ (11 - 4) = k / 2 / 2 / 2 / 2 / 2 / 2 / 2 := by simp only [Nat.div_div_eq_div_mul]
  have h8 : k / 2 ^ (11 - 3) = k / 2 / 2 / 2 / 2 / 2 / 2 / 2 / 2 := by simp only [Nat.div_div_eq_div_mul]
  have h9 : k / 2 ^ (11 - 2) = k / 2 / 2 / 2 / 2 / 2 / 2 / 2 / 2 / 2 := by simp only [Nat.div_div_eq_div_mul]
  have h10 : k / 2 ^ (11 - 1) = k / 2 / 2 / 2 / 2 / 2 / 2 / 2 / 2 / 2 / 2 := by simp only [Nat.div_div_eq_div_mul]
  have h11 : k / 2 ^ (11 - 0) = k / 2 / 2 / 2 / 2 / 2 / 2 / 2 / 2 / 2 / 2 / 2 := by simp only [Nat.div_div_eq_div_mul]
  have h0 : k / 2 ^ (11 - 11) = k := by simp
  rw [h0, h1, h2, h3, h4, h5, h6, h7, h8, h9, h10, h11]
  omega
theorem bits_num {vs : List Bool} (h : vs.length = 12) : bitsN (numB vs) = vs :=
  num_inj _ _ (by rw [bitsN_len, h]) (num_bits (numB_lt12 h))
theorem bits_inj {a b : Nat} (ha : a < 4096) (hb : b < 4096) (h : bitsN a = bitsN b) : a = b := by
  have := congrArg numB h
  rwa [num_bits ha, num_bits hb] at this
theorem holdC_bc {vs us : List Bool} (h : vs.length = 12) (hu : us.length = 12) : holdC us (bcFrom 1 vs, 1) = !cbEq vs us := by
  have := bc_eval h hu
  rw [evB_ofN (bc_valid h) hu] at this
  exact this
/-- FnCountBlock -/
theorem cnt_block (cs : List Cn) {k : Nat} (hk : k < 4096) (hg : goodN cs k = true) :
    ∀ n, n ≤ 4096 → cntN (cs ++ [(bcFrom 1 (bitsN k), 1)]) n + (if k < n then 1 else 0) = cntN cs n := by
  intro n
  induction n with
  | zero => intro _; rfl
  | succ n ih =>
    intro hn
    have h1 := ih (by omega)
    rw [cntN_succ, cntN_succ, goodN_snoc, holdC_bc (bitsN_len k) (bitsN_len n)]
    by_cases he : k = n
    · subst he
      have e : cbEq (bitsN k) (bitsN k) = true := cbEq_self _
      rw [e, hg]
      rw [if_neg (by omega)] at h1
      simp; omega
    · have e : cbEq (bitsN k) (bitsN n) = false := by
        rw [Bool.eq_false_iff]
        intro h
        exact he (bits_inj hk (by omega) (of_decide_eq_true h))
      rw [e]
      simp only [Bool.not_false, Bool.and_true]
      by_cases h2 : k < n
      · rw [if_pos h2] at h1; rw [if_pos (show k < n + 1 by omega)]; omega
      · rw [if_neg h2] at h1; rw [if_neg (show ¬ k < n + 1 by omega)]; omega
theorem nxtN_some {cs : List Cn} : ∀ (f k j : Nat), nxtN cs f k = some j → goodN cs j = true ∧ k ≤ j ∧ j < k + f ∧ ∀ i, k ≤ i → i < j → goodN cs i = false := by
  intro f
  induction f with
  | zero => intro k j h; cases h
  | succ f ih =>
    intro k j h
    by_cases hg : goodN cs k = true
    · rw [nxtN_yes hg] at h
      obtain rfl := Option.some.inj h
      exact ⟨hg, Nat.le_refl _, by omega, fun i h1 h2 => by omega⟩
    · rw [Bool.not_eq_true] at hg
      rw [nxtN_no hg] at h
      obtain ⟨a, b, c, d⟩ := ih _ _ h
      refine ⟨a, by omega, by omega, fun i h1 h2 => ?_⟩
      rcases Nat.eq_or_lt_of_le h1 with e | e
      · exact e ▸ hg
      · exact d i e h2
theorem nxtN_none {cs : List Cn} : ∀ (f k : Nat), nxtN cs f k = none → ∀ i, k ≤ i → i < k + f → goodN cs i = false := by
  intro f
  induction f with
  | zero => intro k _ i h1 h2; omega
  | succ f ih =>
    intro k h i h1 h2
    by_cases hg : goodN cs k = true
    · rw [nxtN_yes hg] at h; cases h
    · rw [Bool.not_eq_true] at hg
      rw [nxtN_no hg] at h
      rcases Nat.eq_or_lt_of_le h1 with e | e
      · exact e ▸ hg
      · exact ih _ h i e (by omega)
theorem nsB_some {cs : List Cn} {vs : List Bool} (h : nsB cs vs = true) : ∃ k, nsT cs vs = bitsN k ∧ k < 4096 ∧ goodN cs k = true ∧ probB cs = true ∧ vs.length = 12 ∧ nxF cs vs = some k := by
  unfold nsB at h
  rw [Bool.and_eq_true] at h
  obtain ⟨h1, h2⟩ := h
  obtain ⟨k, hk⟩ := Option.isSome_iff_exists.1 h2
  have h3 := h1
  unfold nsOk at h3
  rw [Bool.and_eq_true, decide_eq_true_eq] at h3
  have h4 := numB_lt12 h3.2
  have h5 := hk
  unfold nxF at h5
  obtain ⟨a, b, c, _⟩ := nxtN_some _ _ _ h5
  refine ⟨k, ?_, by omega, a, h3.1, h3.2, hk⟩
  unfold nsT; rw [if_pos h1, hk]
theorem cn_block {cs : List Cn} {vs : List Bool} (h : nsB cs vs = true) (hl : cs.length ≤ 399) :
    cnI (cs ++ [(bcFrom 1 (nsT cs vs), 1)]) = cnI cs - 1 := by
  obtain ⟨k, e, hk, hg, hp, _, _⟩ := nsB_some h
  rw [e, cnI_of hp, cnI_of (probB_snoc hp (bc_valid (bitsN_len k)) hl)]
  have := cnt_block cs hk hg 4096 (Nat.le_refl _)
  rw [if_pos hk] at this
  omega

theorem saB_good {cs : List Cn} {vs : List Bool} (h : saB cs vs = true) : probB cs = true ∧ vs.length = 12 ∧ goodN cs (numB vs) = true := by
  unfold saB at h
  rw [Bool.and_eq_true, Bool.and_eq_true, decide_eq_true_eq] at h
  refine ⟨h.1, h.2.1, ?_⟩
  unfold goodN; rw [bits_num h.2.1]; exact h.2.2
/-- FnNextSolution -/
theorem ns_none {cs : List Cn} {vs us : List Bool} (ho : nsOk cs vs = true) (h : nsB cs vs = false) (hs : saB cs us = true) : befB us vs = true := by
  obtain ⟨_, hu, hg⟩ := saB_good hs
  have h2 := ho
  unfold nsOk at h2
  rw [Bool.and_eq_true, decide_eq_true_eq] at h2
  unfold nsB at h
  rw [ho, Bool.true_and] at h
  rw [bef_num _ _ (by rw [hu, h2.2]), decide_eq_true_eq]
  rcases Nat.lt_or_ge (numB us) (numB vs) with hlt | hge
  · exact hlt
  · have hn : nxF cs vs = none := by cases e : nxF cs vs with
      | none => rfl
      | some k => rw [e] at h; cases h
    have := nxtN_none _ _ hn (numB us) hge (by have := numB_lt12 hu; omega)
    rw [hg] at this; cases this
theorem ns_some {cs : List Cn} {vs us : List Bool} (h : nsB cs vs = true) (hs : saB cs us = true) : befB us vs = true ∨ befB us (nsT cs vs) = false := by
  obtain ⟨_, hu, hg⟩ := saB_good hs
  obtain ⟨k, e, hk, _, _, hv, hx⟩ := nsB_some h
  rw [e, bef_num _ _ (by rw [hu, hv]), bef_num _ _ (by rw [hu, bitsN_len]), num_bits hk, decide_eq_true_eq, decide_eq_false_iff_not]
  rcases Nat.lt_or_ge (numB us) (numB vs) with hlt | hge
  · exact .inl hlt
  · refine .inr fun hlt => ?_
    obtain ⟨_, _, _, d⟩ := nxtN_some _ _ _ hx
    rw [d _ hge hlt] at hg; cases hg
theorem ns_holds {cs : List Cn} {vs : List Bool} (h : nsB cs vs = true) : saB cs (nsT cs vs) = true ∧ befB (nsT cs vs) vs = false := by
  obtain ⟨k, e, hk, hg, hp, hv, hx⟩ := nsB_some h
  rw [e]
  refine ⟨?_, ?_⟩
  · unfold saB; rw [hp, bitsN_len]; simpa [goodN] using hg
  · rw [bef_num _ _ (by rw [bitsN_len, hv]), num_bits hk, decide_eq_false_iff_not]
    obtain ⟨_, b, _, _⟩ := nxtN_some _ _ _ hx
    omega
theorem nsT_12 {cs : List Cn} {vs : List Bool} (h : nsB cs vs = true) : (nsT cs vs).length = 12 := by
  obtain ⟨k, e, _⟩ := nsB_some h
  rw [e, bitsN_len]
theorem nsT_no {cs : List Cn} {vs : List Bool} (h : nsB cs vs = false) : nsT cs vs = [] := by
  unfold nsT
  split
  · next ho =>
    unfold nsB at h
    rw [ho, Bool.true_and] at h
    cases e : nxF cs vs with
    | none => rfl
    | some k => rw [e] at h; cases h
  · rfl
end Go.Proofs.Ytmbdfnimmjomfaa
