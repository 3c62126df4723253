/- The contract of the reference's ConstraintValid. -/
import Derived.Test.YtbpkpcfhmglddaaCV
import Derived.IntWalk
namespace Go.Proofs.Ytbpkpcfhmglddaa
open Go.RowKit

/-- the variable of the last of the first k terms, 0 if there is none -/
def lastV (ts : List Tm) : Nat → Int
  | 0 => 0
  | k + 1 => match ts[k]? with
    | some t => absI t.2
    | none => 0

theorem lastV_succ (ts : List Tm) (k : Nat) (t : Tm) (h : ts[k]? = some t) : lastV ts (k + 1) = absI t.2 := by simp [lastV, h]

set_option maxHeartbeats 4000000 in
theorem specCV_any (A : Option Addr) (n cap : Nat) (ts : List Tm) (bd : Int) (w : World) (hn : n ≤ maxLen) (h : Seg w 2 A n (encT ts)) :
    Calls Try.prog 35 #[.agg #[.slice A n cap, .int .i64 bd]] w fun e w' => e = .returned (.bool (cvB ts bd)) ∧ Ext w w' := by
  have HL := Lib.hid h.lenT
  unfold maxLen at hn
  go_enter Try.func35, Try.ntmps35
  go_wp2_with fail
  go_loopw [3] (fun i wr => ∃ (k : Nat), k ≤ n ∧ i = .int .i64 k ∧ Ext (w.alloc (.cells #[.slice A n cap, .int .i64 bd] 25)) wr ∧ Hid (goodB 0 ts = goodB (lastV ts k) (ts.drop k)) ∧ Hid (∀ t, 0 < k → ts[k-1]? = some t → litB t.2 = true)) (fun i _ => n - (intOf i).toNat)
  case atStart => exact ⟨0, Nat.zero_le _, rfl, Ext.refl _, rfl, fun _ h => absurd h (by omega)⟩
  case round =>
    obtain ⟨k, hk, rfl, hE, hD, hP⟩ := hrel
    have B0 := Blk.of1 hE
    have b0 := B0.cell 0
    have b1 := B0.cell 1
    have hB := B0.lt
    clear B0
    by_cases hlt : k < n
    · obtain ⟨b, off, c, l, rfl, hx, c1, c2⟩ := ((h.alloc _).ext hE).term hlt
      have hB2 := World.block_lt_of_cell? _ _ c1
      simp only at hB2
      have hd := hD.out
      rw [drop_of_get ts k _ hx, goodB_cons] at hd
      have HX := Lib.hid hd
      have HXX := Lib.hid hx
      clear hx hd hD
      by_cases hl : litB l = true
      · have ha := Lib.hid (absI_pos hl)
        have hll := (litB_iff l).1 hl
        have hl1 := hll.2.1
        have hl2 := hll.2.2
        clear hll
        by_cases hc1 : c < 1
        · have HC := Lib.hid hc1
          have hb1 : decide (c < 1) = true := decide_eq_true hc1
          clear h hP hc1
          go_wp2_with fail
          go_quiet (first | (go_at_call 21; exact quiet_left (l1Lit_any _ _)) | (go_at_call 22; exact quiet_left (l1Abs_any _ _ (by omega) (by omega))))
          go_wp2
          go_ret
          exact ⟨ret_b (by unfold cvB; rw [HX.out, decide_eq_false (by have := HC.out; omega)]; rfl), ((((Ext.refl _).alloc _).trans hE).alloc _).drewN _⟩
        · have HC := Lib.hid hc1
          have hb1 : decide (c < 1) = false := decide_eq_false hc1
          clear hc1
          by_cases hc2 : 1000 < c
          · have HC2 := Lib.hid hc2
            have hb2 : decide (1000 < c) = true := decide_eq_true hc2
            clear h hP hc2
            go_wp2_with fail
            go_quiet (first | (go_at_call 21; exact quiet_left (l1Lit_any _ _)) | (go_at_call 22; exact quiet_left (l1Abs_any _ _ (by omega) (by omega))))
            go_wp2
            go_ret
            exact ⟨ret_b (by unfold cvB; rw [HX.out, decide_eq_false (by have := HC2.out; omega)]; rfl), ((((Ext.refl _).alloc _).trans hE).alloc _).drewN _⟩
          · have HC2 := Lib.hid hc2
            have hb2 : decide (1000 < c) = false := decide_eq_false hc2
            clear hc2
            have fin : absI l > lastV ts k → Hid (goodB 0 ts = goodB (lastV ts (k + 1)) (ts.drop (k + 1))) := by
              intro hgt
              have := HX.out
              have e1 := HC.out
              have e2 := HC2.out
              rw [decide_eq_true (⟨hl, hgt, by omega, by omega⟩ : litB l = true ∧ lastV ts k < absI l ∧ 1 ≤ c ∧ c ≤ 1000), Bool.true_and] at this
              rw [lastV_succ ts k _ HXX.out]
              exact this
            have FIN := Lib.hid fin
            have lit1 : Hid (∀ t, 0 < k + 1 → ts[k + 1 - 1]? = some t → litB t.2 = true) := by
              intro t _ ht
              have e := HXX.out
              rw [Nat.add_sub_cancel] at ht
              rw [e] at ht; injection ht with ht; subst ht; exact hl
            clear fin
            by_cases hk0 : k = 0
            · subst hk0
              have FIN2 := FIN.out (by have := ha.out; simp only [lastV]; omega)
              simp only [Nat.zero_mul, Nat.add_zero] at c1 c2
              clear h hP FIN
              go_wp2_with fail
              go_quiet (first | (go_at_call 21; exact quiet_left (l1Lit_any _ _)) | (go_at_call 22; exact quiet_left (l1Abs_any _ _ (by omega) (by omega))))
              go_wp2
              go_roundw
              case rel => exact ⟨0 + 1, by omega, rfl, (hE.alloc _).drewN _, FIN2, lit1⟩
              case measure => simp [intOf]; omega
            · obtain ⟨b', off', c', l', hAA, hx', c1', c2'⟩ := ((h.alloc _).ext hE).term (k := k - 1) (by omega)
              injection hAA with hAA; injection hAA with e1 e2; subst e1; subst e2
              have hl' := (litB_iff l').1 (hP.out (c', l') (by omega) hx')
              have hl3 := hl'.2.1
              have hl4 := hl'.2.2
              clear hl'
              have hv : Hid (lastV ts k = absI l') := by
                obtain ⟨j, rfl⟩ : ∃ j, k = j + 1 := ⟨k - 1, by omega⟩
                exact lastV_succ ts j _ hx'
              have hi : decide ((0:Int) < (k:Int)) = true := by simp; omega
              have hw : IntKind.i64.wrap ((k:Int) - 1) = (k:Int) - 1 := IntWalk.i64_in _ (by omega)
              have ht : ((k:Int) - 1).toNat = k - 1 := by omega
              have hp : (0:Int) ≤ (k:Int) - 1 := by omega
              have hq : (k:Int) - 1 < n := by omega
              have hk1 : 0 < k := by omega
              have hk2 : (1:Int) ≤ (k:Int) := by omega
              clear hk0
              clear h hP hx'
              by_cases hcmp : absI l ≤ absI l'
              · have HC3 := Lib.hid hcmp
                have hb3 : decide (absI l ≤ absI l') = true := decide_eq_true hcmp
                clear hcmp FIN
                go_wp2_with fail
                go_quiet (first | (go_at_call 21; exact quiet_left (l1Lit_any _ _)) | (go_at_call 22; exact quiet_left (l1Abs_any _ _ (by omega) (by omega))))
                go_wp2
                go_ret
                exact ⟨ret_b (by unfold cvB; rw [HX.out, decide_eq_false (by rw [hv.out]; have := HC3.out; omega)]; rfl), ((((Ext.refl _).alloc _).trans hE).alloc _).drewN _⟩
              · have hb3 : decide (absI l ≤ absI l') = false := decide_eq_false hcmp
                have FIN2 := FIN.out (by rw [hv.out]; omega)
                clear hcmp FIN
                have HW := Lib.hid hw
                have HT := Lib.hid ht
                go_wp2_with fail
                go_quiet (first | (go_at_call 21; exact quiet_left (l1Lit_any _ _)) | (go_at_call 22; exact quiet_left (l1Abs_any _ _ (by omega) (by omega))))
                clear hw ht
                go_wp2
                go_roundw
                case rel => exact ⟨k + 1, by omega, by go_num, (hE.alloc _).drewN _, FIN2, lit1⟩
                case measure => simp [intOf]; omega
      · have hl' : litB l = false := by simpa using hl
        clear h hP hl
        go_wp2_with fail
        go_quiet (first | (go_at_call 21; exact quiet_left (l1Lit_any _ _)) | (go_at_call 22; exact quiet_left (l1Abs_any _ _ (by omega) (by omega))))
        go_wp2
        go_ret
        exact ⟨ret_b (by unfold cvB; rw [HX.out, decide_eq_false (by simp [hl'])]; rfl), ((((Ext.refl _).alloc _).trans hE).alloc _).drewN _⟩
    · obtain rfl : k = n := by omega
      clear h hP
      have hfin : Hid (cvB ts bd = inB bd 0 20000) := by
        unfold cvB Hid
        rw [hD.out, List.drop_of_length_le (by rw [HL.out]; omega)]
        rfl
      by_cases hb0 : 0 ≤ bd
      · by_cases hb1 : bd ≤ 20000
        all_goals
          go_wp2
          go_ret
          refine ⟨ret_b ?_, ((Ext.refl _).alloc _).trans hE⟩
          rw [hfin.out]
          simp [inB, hb0, hb1]
      · go_wp2
        go_ret
        refine ⟨ret_b ?_, ((Ext.refl _).alloc _).trans hE⟩
        rw [hfin.out, show inB bd 0 20000 = false from decide_eq_false (by omega)]
end Go.Proofs.Ytbpkpcfhmglddaa
