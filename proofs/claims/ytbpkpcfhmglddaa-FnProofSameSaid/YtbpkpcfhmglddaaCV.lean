/- ConstraintValid: what it asks (plain), and the contracts of the program's and the reference's. -/
import Derived.Test.YtbpkpcfhmglddaaInts
namespace Go.Proofs.Ytbpkpcfhmglddaa
open Go.RowKit

/-- the terms are fine, the variable before the first being v -/
def goodB (v : Int) : List Tm → Bool
  | [] => true
  | t :: ts => decide (litB t.2 = true ∧ v < absI t.2 ∧ 1 ≤ t.1 ∧ t.1 ≤ 1000) && goodB (absI t.2) ts
def cvB (ts : List Tm) (bd : Int) : Bool := goodB 0 ts && inB bd 0 20000

theorem goodB_cons (v : Int) (c l : Int) (ts : List Tm) : goodB v ((c, l) :: ts) = (decide (litB l = true ∧ v < absI l ∧ 1 ≤ c ∧ c ≤ 1000) && goodB (absI l) ts) := rfl
theorem litB_iff (l : Int) : litB l = true ↔ (l ≠ 0 ∧ -12 ≤ l ∧ l ≤ 12) := by simp [litB]
theorem absI_pos {l : Int} (h : litB l = true) : 1 ≤ absI l ∧ absI l ≤ 12 := by
  rw [litB_iff] at h
  unfold absI; split <;> omega

set_option maxHeartbeats 1000000 in
theorem implCV_any (A : Option Addr) (n cap : Nat) (ts : List Tm) (bd : Int) (w : World) (hn : n ≤ maxLen) (h : Seg w 2 A n (encT ts)) :
    Calls Try.prog 34 #[.agg #[.slice A n cap, .int .i64 bd]] w fun e w' => e = .returned (.bool (cvB ts bd)) ∧ Ext w w' := by
  have HL := Lib.hid h.lenT
  unfold maxLen at hn
  go_enter Try.func34, Try.ntmps34
  go_wp2_with fail
  go_loopw [3, 9] (fun v i wr => ∃ (k : Nat) (z : Int), k ≤ n ∧ i = .int .i64 k ∧ v = .int .i64 z ∧ 0 ≤ z ∧ z ≤ 12 ∧ Ext (w.alloc (.cells #[.slice A n cap, .int .i64 bd] 25)) wr ∧ Hid (goodB 0 ts = goodB z (ts.drop k))) (fun _ i _ => n - (intOf i).toNat)
  case atStart => exact ⟨0, 0, Nat.zero_le _, rfl, rfl, by omega, by omega, Ext.refl _, rfl⟩
  case round =>
    obtain ⟨k, z, hk, rfl, rfl, hz0, hz1, hE, hD⟩ := hrel
    have B0 := Blk.of1 hE
    have b0 := B0.cell 0
    have b1 := B0.cell 1
    clear B0
    by_cases hlt : k < n
    · obtain ⟨b, off, c, l, rfl, hx, c1, c2⟩ := ((h.alloc _).ext hE).term hlt
      have hd := hD.out
      rw [drop_of_get ts k _ hx, goodB_cons] at hd
      have HX := Lib.hid hd
      clear hx hd hD h
      by_cases hl : litB l = true
      · have ha := absI_pos hl
        have hll := (litB_iff l).1 hl
        by_cases hv : absI l ≤ z
        · go_wp2_with (first
            | (go_at_call 23; refine (isLiteral_any _ _).mono ?_; rintro e w1 ⟨rfl, rfl⟩)
            | (go_at_call 28; refine (variableOf_any _ _ (by omega) (by omega)).mono ?_; rintro e w1 ⟨rfl, rfl⟩))
          go_ret
          exact ⟨ret_b (by unfold cvB; rw [HX.out, decide_eq_false (by omega)]; rfl), (((Ext.refl _).alloc _).trans hE).alloc _⟩
        · have hv' : z < absI l := by omega
          by_cases hi : inB c 1 1000 = true
          all_goals
            go_wp2_with (first
              | (go_at_call 23; refine (isLiteral_any _ _).mono ?_; rintro e w1 ⟨rfl, rfl⟩)
              | (go_at_call 28; refine (variableOf_any _ _ (by omega) (by omega)).mono ?_; rintro e w1 ⟨rfl, rfl⟩)
              | (go_at_call 44; refine (within_any _ _ _ _).mono ?_; rintro e w1 ⟨rfl, rfl⟩))
          · go_roundw
            case rel =>
              refine ⟨k + 1, _, by omega, by go_num, rfl, by omega, by omega, hE.alloc _, ?_⟩
              have hi' : 1 ≤ c ∧ c ≤ 1000 := by simpa [inB] using hi
              have := HX.out
              rw [decide_eq_true (⟨hl, hv', hi'⟩ : litB l = true ∧ z < absI l ∧ 1 ≤ c ∧ c ≤ 1000), Bool.true_and] at this
              exact this
            case measure => simp [intOf]; omega
          · go_ret
            have hi' : ¬ (1 ≤ c ∧ c ≤ 1000) := by simpa [inB] using hi
            exact ⟨ret_b (by unfold cvB; rw [HX.out, decide_eq_false (by omega)]; rfl), (((Ext.refl _).alloc _).trans hE).alloc _⟩
      · have hl' : litB l = false := by simpa using hl
        go_wp2_with (first
          | (go_at_call 23; refine (isLiteral_any _ _).mono ?_; rintro e w1 ⟨rfl, rfl⟩))
        go_ret
        exact ⟨ret_b (by unfold cvB; rw [HX.out, decide_eq_false (by simp [hl'])]; rfl), (((Ext.refl _).alloc _).trans hE).alloc _⟩
    · obtain rfl : k = n := by omega
      clear h
      go_wp2_with (first
          | (go_at_call 44; refine (within_any _ _ _ _).mono ?_; rintro e w1 ⟨rfl, rfl⟩))
      go_ret
      refine ⟨ret_b ?_, ((Ext.refl _).alloc _).trans hE⟩
      unfold cvB
      rw [hD.out, List.drop_of_length_le (by rw [HL.out]; omega)]
      rfl
end Go.Proofs.Ytbpkpcfhmglddaa
