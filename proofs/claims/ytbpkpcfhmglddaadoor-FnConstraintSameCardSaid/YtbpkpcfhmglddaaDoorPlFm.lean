/- Plain: the text of a constraint; of two valid constraints only equal ones have one text. -/
import Derived.Test.YtbpkpcfhmglddaaDoorCV
import Derived.Test.YtbpkpcfhmglddaaDoorTot
import Derived.Test.YtbpkpcfhmglddaaDoorEqT
import Derived.Lib.ItoaNum
namespace Go.Proofs.YtbpkpcfhmglddaaDoor
open Go.Lib

def litX (l : Int) : List UInt8 := if l < 0 then [126, 120] ++ itoa (-l) else [120] ++ itoa l
def termX (t : Tm) : List UInt8 := itoa t.1 ++ [32] ++ litX t.2 ++ [32]
def termsX (ts : List Tm) : List UInt8 := ts.flatMap termX
theorem termsX_snoc (ts : List Tm) (c l : Int) : termsX (ts ++ [(c, l)]) = termsX ts ++ (itoa c ++ [32] ++ litX l ++ [32]) := by
  unfold termsX; rw [List.flatMap_append]; simp [termX]
def textX (ts : List Tm) (bd : Int) : List UInt8 := termsX ts ++ ([62, 61, 32] ++ itoa bd)
def fmX (ts : List Tm) (bd : Int) : List UInt8 := if cvB ts bd = true then textX ts bd else []

def valD (l : List UInt8) : Nat := l.foldl (fun a b => a * 10 + (b.toNat - 48)) 0
theorem dig_nat {d : Nat} (h : d < 10) : (UInt8.ofNat (48 + d)).toNat = 48 + d := by
  rw [UInt8.toNat_ofNat']; omega
theorem dec_all : ∀ (n u : Nat), u ≤ n → (∀ b ∈ decDigits u, 48 ≤ b.toNat ∧ b.toNat ≤ 57) ∧ valD (decDigits u) = u ∧ decDigits u ≠ [] := by
  intro n
  induction n with
  | zero =>
    intro u hu
    obtain rfl : u = 0 := by omega
    rw [decDigits, dif_pos (by omega)]
    have e := dig_nat (d := 0) (by omega)
    refine ⟨fun b hb => ?_, ?_, by simp⟩
    · obtain rfl : b = UInt8.ofNat (48 + 0) := by simpa using hb
      omega
    · simp [valD]
  | succ n ih =>
    intro u hu
    by_cases h : u < 10
    · rw [decDigits, dif_pos h]
      have e := dig_nat h
      refine ⟨fun b hb => ?_, ?_, by simp⟩
      · obtain rfl : b = UInt8.ofNat (48 + u) := by simpa using hb
        omega
      · simp only [valD, List.foldl_cons, List.foldl_nil, e]; omega
    · obtain ⟨i1, i2, i3⟩ := ih (u / 10) (by omega)
      rw [decDigits, dif_neg h]
      have e := dig_nat (d := u % 10) (by omega)
      refine ⟨fun b hb => ?_, ?_, by simp⟩
      · rcases List.mem_append.1 hb with hb | hb
        · exact i1 b hb
        · obtain rfl : b = UInt8.ofNat (48 + u % 10) := by simpa using hb
          omega
      · unfold valD at i2 ⊢
        rw [List.foldl_append, i2]
        simp only [List.foldl_cons, List.foldl_nil, e]
        omega
theorem dec_dig (u : Nat) : ∀ b ∈ decDigits u, 48 ≤ b.toNat ∧ b.toNat ≤ 57 := (dec_all u u (Nat.le_refl _)).1
theorem dec_inj {u v : Nat} (h : decDigits u = decDigits v) : u = v := by
  rw [← (dec_all u u (Nat.le_refl _)).2.1, h, (dec_all v v (Nat.le_refl _)).2.1]
theorem dec_ne (u : Nat) : decDigits u ≠ [] := (dec_all u u (Nat.le_refl _)).2.2
theorem itoa_dec {n : Int} (h : 0 ≤ n) : itoa n = decDigits n.toNat := by unfold itoa; rw [if_neg (by omega)]
theorem itoa_inj {n m : Int} (hn : 0 ≤ n) (hm : 0 ≤ m) (h : itoa n = itoa m) : n = m := by
  rw [itoa_dec hn, itoa_dec hm] at h
  have := dec_inj h
  omega
theorem itoa_no {n : Int} (hn : 0 ≤ n) (c : UInt8) (hc : c.toNat < 48 ∨ 57 < c.toNat) : c ∉ itoa n := fun h => by
  rw [itoa_dec hn] at h
  have := dec_dig _ c h
  omega
theorem cut_eq (c : UInt8) : ∀ (x y r s : List UInt8), c ∉ x → c ∉ y → x ++ c :: r = y ++ c :: s → x = y ∧ r = s
  | [], [], r, s, _, _, h => by simp at h; exact ⟨rfl, h⟩
  | [], b :: y, r, s, _, hy, h => by simp at h; exact absurd (by rw [h.1]; simp) hy
  | a :: x, [], r, s, hx, _, h => by simp at h; exact absurd (by rw [← h.1]; simp) hx
  | a :: x, b :: y, r, s, hx, hy, h => by
    simp only [List.cons_append, List.cons.injEq] at h
    obtain ⟨h1, h2⟩ := cut_eq c x y r s (fun m => hx (List.mem_cons_of_mem _ m)) (fun m => hy (List.mem_cons_of_mem _ m)) h.2
    exact ⟨by rw [h.1, h1], h2⟩
theorem litX_no {l : Int} (c : UInt8) (hc : c = 32) : c ∉ litX l := fun h => by
  subst hc
  unfold litX at h
  split at h
  · have : (32 : UInt8) ∈ itoa (-l) := by simpa using h
    exact itoa_no (by omega) 32 (.inl (by decide)) this
  · have : (32 : UInt8) ∈ itoa l := by simpa using h
    exact itoa_no (by omega) 32 (.inl (by decide)) this
theorem litX_inj {l m : Int} (h : litX l = litX m) : l = m := by
  unfold litX at h
  split at h
  · split at h
    · have := itoa_inj (n := -l) (m := -m) (by omega) (by omega) (by simpa using h)
      omega
    · simp at h
  · split at h
    · simp at h
    · exact itoa_inj (by omega) (by omega) (by simpa using h)
theorem textX_cons (c l : Int) (ts : List Tm) (bd : Int) : textX ((c, l) :: ts) bd = itoa c ++ 32 :: (litX l ++ 32 :: textX ts bd) := by
  simp [textX, termsX, termX]
theorem textX_inj : ∀ (ts us : List Tm) (bd bd' : Int) (v v' : Int), goodB v ts = true → goodB v' us = true → 0 ≤ bd → 0 ≤ bd' → textX ts bd = textX us bd' → ts = us ∧ bd = bd'
  | [], [], bd, bd', _, _, _, _, h1, h2, h => ⟨rfl, itoa_inj h1 h2 (by simpa [textX, termsX] using h)⟩
  | [], (c, l) :: us, bd, bd', _, v', _, h', _, _, h => by
    rw [goodB_cons, Bool.and_eq_true, decide_eq_true_eq] at h'
    rw [textX_cons, itoa_dec (by omega)] at h
    cases hd : decDigits c.toNat with
    | nil => exact absurd hd (dec_ne _)
    | cons b r =>
      have hb := dec_dig c.toNat b (by rw [hd]; simp)
      rw [hd] at h
      have : (62 : UInt8) = b := by simp [textX, termsX] at h; exact h.1
      rw [← this] at hb
      exact absurd hb (by decide)
  | (c, l) :: ts, [], bd, bd', v, _, h', _, _, _, h => by
    rw [goodB_cons, Bool.and_eq_true, decide_eq_true_eq] at h'
    rw [textX_cons, itoa_dec (by omega)] at h
    cases hd : decDigits c.toNat with
    | nil => exact absurd hd (dec_ne _)
    | cons b r =>
      have hb := dec_dig c.toNat b (by rw [hd]; simp)
      rw [hd] at h
      have : b = (62 : UInt8) := by simp [textX, termsX] at h; exact h.1
      rw [this] at hb
      exact absurd hb (by decide)
  | (c, l) :: ts, (c', l') :: us, bd, bd', v, v', h, h', h1, h2, e => by
    rw [goodB_cons, Bool.and_eq_true, decide_eq_true_eq] at h h'
    rw [textX_cons, textX_cons] at e
    obtain ⟨e1, e2⟩ := cut_eq 32 _ _ _ _ (itoa_no (by omega) 32 (.inl (by decide))) (itoa_no (by omega) 32 (.inl (by decide))) e
    obtain ⟨e3, e4⟩ := cut_eq 32 _ _ _ _ (litX_no 32 rfl) (litX_no 32 rfl) e2
    obtain ⟨i1, i2⟩ := textX_inj ts us bd bd' _ _ h.2 h'.2 h1 h2 e4
    exact ⟨by rw [itoa_inj (by omega) (by omega) e1, litX_inj e3, i1], i2⟩
theorem textX_ne (ts : List Tm) (bd : Int) : textX ts bd ≠ [] := by unfold textX; simp
theorem fmX_law (ts us : List Tm) (bd bd' : Int) : fmX ts bd = [] ∨ fmX us bd' = [] ∨ (cEq ts us bd bd' = decide (fmX ts bd = fmX us bd')) := by
  unfold fmX
  by_cases h1 : cvB ts bd = true
  · by_cases h2 : cvB us bd' = true
    · refine .inr (.inr ?_)
      rw [if_pos h1, if_pos h2]
      have b1 := cvB_bd h1
      have b2 := cvB_bd h2
      unfold cvB at h1 h2
      rw [Bool.and_eq_true] at h1 h2
      unfold cEq
      rw [decide_eq_decide]
      constructor
      · intro ⟨e1, e2⟩; rw [e1, e2]
      · intro e
        have := textX_inj ts us bd bd' 0 0 h1.1 h2.1 (by omega) (by omega) e
        exact this
    · exact .inr (.inl (if_neg h2))
  · exact .inl (if_neg h1)
end Go.Proofs.YtbpkpcfhmglddaaDoor
