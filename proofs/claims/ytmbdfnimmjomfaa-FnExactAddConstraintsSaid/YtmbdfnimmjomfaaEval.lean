/- EvalConstraint, the program's and the reference's: l1True, l1Eval, holds. -/
import Derived.Test.YtmbdfnimmjomfaaTot
namespace Go.Proofs.Ytmbdfnimmjomfaa
open Go.RowKit

/-- a literal under values -/
def litV (vs : List Bool) (l : Int) : Bool := vs.getD (absI l - 1).toNat false == decide (0 < l)
def sumV (vs : List Bool) (ts : List Tm) : Int := (ts.map fun t => if litV vs t.2 = true then t.1 else 0).sum
def evB (ts : List Tm) (bd : Int) (vs : List Bool) : Bool := cvB ts bd && (decide (vs.length = 12) && decide (bd ≤ sumV vs ts))
theorem sumV_snoc (vs : List Bool) (ts : List Tm) (t : Tm) : sumV vs (ts ++ [t]) = sumV vs ts + (if litV vs t.2 = true then t.1 else 0) := by simp [sumV]

theorem litV_pos (vs : List Bool) (m : Nat) (b : Bool) (h : vs[m]? = some b) : litV vs ((m : Int) + 1) = b := by
  unfold litV absI
  rw [if_neg (by omega), show ((m : Int) + 1 - 1).toNat = m from by omega, decide_eq_true (by omega : (0:Int) < (m:Int) + 1), List.getD_eq_getElem?_getD, h]
  cases b <;> rfl
theorem litV_neg (vs : List Bool) (m : Nat) (b : Bool) (h : vs[m]? = some b) : litV vs (-((m : Int) + 1)) = !b := by
  unfold litV absI
  rw [if_pos (by omega), show (- -((m : Int) + 1) - 1).toNat = m from by omega, decide_eq_false (by omega : ¬ (0:Int) < -((m:Int) + 1)), List.getD_eq_getElem?_getD, h]
  cases b <;> rfl
theorem lit_cases {l : Int} (h : litB l = true) : ∃ m : Nat, m < 12 ∧ (l = (m : Int) + 1 ∨ l = -((m : Int) + 1)) := by
  rw [litB_iff] at h
  rcases Int.lt_or_le 0 l with h0 | h0
  · exact ⟨(l - 1).toNat, by omega, .inl (by omega)⟩
  · exact ⟨(-l - 1).toNat, by omega, .inr (by omega)⟩

set_option maxHeartbeats 1000000 in
theorem l1True_any (A : Option Addr) (cap : Nat) (vs : List Bool) (l : Int) (w : World) (h : Seg w 1 A 12 (encB vs)) (hl : litB l = true) :
    Calls Try.prog 75 #[.slice A 12 cap, .int .i64 l] w fun e w' => e = .returned (.bool (litV vs l)) ∧ w = w' := by
  obtain ⟨m, hm, rfl | rfl⟩ := lit_cases hl
  · obtain ⟨b, off, x, rfl, hx, c1⟩ := h.bool hm
    have HX := Lib.hid (litV_pos vs m x hx)
    clear hx h hl
    have hp : (0 : Int) < (m : Int) + 1 := by omega
    go_enter Try.func75, Try.ntmps75
    go_wp2
    go_ret
    exact ⟨ret_b HX.out.symm, rfl⟩
  · obtain ⟨b, off, x, rfl, hx, c1⟩ := h.bool hm
    have HX := Lib.hid (litV_neg vs m x hx)
    clear hx h hl
    have hp : ¬ (0 : Int) < -((m : Int) + 1) := by omega
    go_enter Try.func75, Try.ntmps75
    go_wp2
    go_ret
    exact ⟨ret_b HX.out.symm, rfl⟩

set_option maxHeartbeats 1000000 in
theorem holdsL_any (A : Option Addr) (cap : Nat) (vs : List Bool) (l : Int) (w : World) (h : Seg w 1 A 12 (encB vs)) (hl : litB l = true) :
    Calls Try.prog 74 #[.int .i64 l, .slice A 12 cap] w fun e w' => e = .returned (.bool (litV vs l)) ∧ w = w' := by
  obtain ⟨m, hm, hll⟩ := lit_cases hl
  obtain ⟨b, off, x, rfl, hx, c1⟩ := h.bool hm
  have ha : absI l = (m : Int) + 1 := by unfold absI; split <;> omega
  rcases hll with rfl | rfl
  · have HX := Lib.hid (litV_pos vs m x hx)
    have HA := Lib.hid ha
    clear hx h hl ha
    have hp : (0 : Int) < (m : Int) + 1 := by omega
    go_enter Try.func74, Try.ntmps74
    go_wp2_with fail
    refine (variableOf_any _ _ (by omega) (by omega)).mono ?_
    rintro e w1 ⟨rfl, rfl⟩
    rw [HA.out]
    go_wp2
    go_ret
    exact ⟨ret_b (by rw [HX.out]; try (cases x <;> rfl)), rfl⟩
  · have HX := Lib.hid (litV_neg vs m x hx)
    have HA := Lib.hid ha
    clear hx h hl ha
    have hp : ¬ (0 : Int) < -((m : Int) + 1) := by omega
    go_enter Try.func74, Try.ntmps74
    go_wp2_with fail
    refine (variableOf_any _ _ (by omega) (by omega)).mono ?_
    rintro e w1 ⟨rfl, rfl⟩
    rw [HA.out]
    go_wp2
    go_ret
    exact ⟨ret_b (by rw [HX.out]; try (cases x <;> rfl)), rfl⟩

set_option maxHeartbeats 1000000 in
theorem l1Eval_any (A : Option Addr) (n cap : Nat) (ts : List Tm) (bd : Int) (B : Option Addr) (capb : Nat) (vs : List Bool) (w : World) (h : Seg w 2 A n (encT ts)) (hv : cvB ts bd = true) (hb : Seg w 1 B 12 (encB vs)) :
    Calls Try.prog 70 #[.agg #[.slice A n cap, .int .i64 bd], .slice B 12 capb] w fun e w' => e = .returned (.bool (decide (bd ≤ sumV vs ts))) ∧ Ext w w' := by
  have HL := Lib.hid h.lenT
  have hn : n ≤ 12 := by have := cvB_len hv; rw [HL.out] at this; exact this
  have HV := Lib.hid hv
  have hbd := cvB_bd hv
  clear hv
  go_enter Try.func70, Try.ntmps70
  go_wp2_with fail
  go_loopw [5, 6] (fun s i wr => ∃ (k : Nat) (z : Int), k ≤ n ∧ i = .int .i64 k ∧ s = .int .i64 z ∧ 0 ≤ z ∧ z ≤ 1000 * k ∧ Ext (w.alloc (.cells #[.slice A n cap, .int .i64 bd] 26)) wr ∧ Hid (z = sumV vs (ts.take k))) (fun _ i _ => n - (intOf i).toNat)
  case atStart => exact ⟨0, 0, Nat.zero_le _, rfl, rfl, by omega, by omega, Ext.refl _, rfl⟩
  case round =>
    obtain ⟨k, z, hk, rfl, rfl, hz0, hz1, hE, hZ⟩ := hrel
    have B0 := Blk.of1 hE
    have b0 := B0.cell 0
    have b1 := B0.cell 1
    clear B0
    by_cases hlt : k < n
    · obtain ⟨b, off, c, l, rfl, hx, c1, c2⟩ := ((h.alloc _).ext hE).term hlt
      obtain ⟨hl, hc1, hc2⟩ := cvB_get HV.out hx
      have HX := Lib.hid hx
      have HLL := Lib.hid hl
      have hbv := Lib.hid ((hb.alloc (.cells #[.slice (some ⟨b, off, none⟩) n cap, .int .i64 bd] 26)).ext hE)
      clear hx h hl hb
      by_cases hlv : litV vs l = true
      · go_wp2_with (first
          | (go_at_call 75; refine (l1True_any B capb vs l _ hbv.out HLL.out).mono ?_; rintro e w1 ⟨rfl, rfl⟩))
        go_roundw
        case rel =>
          refine ⟨k + 1, z + c, by omega, by go_num, by first | rfl | go_num, by omega, by omega, hE, ?_⟩
          rw [take_of_get _ _ _ HX.out, sumV_snoc, ← hZ.out]; simp [hlv, Hid]
        case measure => simp [intOf]; omega
      · have hlf : litV vs l = false := by simpa using hlv
        clear hlv
        go_wp2_with (first
          | (go_at_call 75; refine (l1True_any B capb vs l _ hbv.out HLL.out).mono ?_; rintro e w1 ⟨rfl, rfl⟩))
        go_roundw
        case rel =>
          refine ⟨k + 1, z, by omega, by go_num, by first | rfl | go_num, by omega, by omega, hE, ?_⟩
          rw [take_of_get _ _ _ HX.out, sumV_snoc, ← hZ.out]; simp [hlf, Hid]
        case measure => simp [intOf]; omega
    · obtain rfl : k = n := by omega
      clear h hb
      go_wp2
      go_ret
      exact ⟨ret_b (by rw [hZ.out, List.take_of_length_le (by rw [HL.out]; omega)]), ((Ext.refl _).alloc _).trans hE⟩

set_option maxHeartbeats 1000000 in
theorem cHolds_any (A : Option Addr) (n cap : Nat) (ts : List Tm) (bd : Int) (B : Option Addr) (capb : Nat) (vs : List Bool) (w : World) (h : Seg w 2 A n (encT ts)) (hv : cvB ts bd = true) (hb : Seg w 1 B 12 (encB vs)) :
    Calls Try.prog 69 #[.agg #[.slice A n cap, .int .i64 bd], .slice B 12 capb] w fun e w' => e = .returned (.bool (decide (bd ≤ sumV vs ts))) ∧ Ext w w' := by
  have HL := Lib.hid h.lenT
  have hn : n ≤ 12 := by have := cvB_len hv; rw [HL.out] at this; exact this
  have HV := Lib.hid hv
  have hbd := cvB_bd hv
  clear hv
  go_enter Try.func69, Try.ntmps69
  go_wp2_with fail
  go_loopw [5, 11] (fun s i wr => ∃ (k : Nat) (z : Int), k ≤ n ∧ i = .int .i64 k ∧ s = .int .i64 z ∧ 0 ≤ z ∧ z ≤ 1000 * k ∧ Ext (w.alloc (.cells #[.slice A n cap, .int .i64 bd] 26)) wr ∧ Hid (z = sumV vs (ts.take k))) (fun _ i _ => n - (intOf i).toNat)
  case atStart => exact ⟨0, 0, Nat.zero_le _, rfl, rfl, by omega, by omega, Ext.refl _, rfl⟩
  case round =>
    obtain ⟨k, z, hk, rfl, rfl, hz0, hz1, hE, hZ⟩ := hrel
    have B0 := Blk.of1 hE
    have b0 := B0.cell 0
    have b1 := B0.cell 1
    have hB := B0.lt
    clear B0
    by_cases hlt : k < n
    · obtain ⟨b, off, c, l, rfl, hx, c1, c2⟩ := ((h.alloc _).ext hE).term hlt
      obtain ⟨hl, hc1, hc2⟩ := cvB_get HV.out hx
      have HX := Lib.hid hx
      have HLL := Lib.hid hl
      have hbv := Lib.hid ((hb.alloc (.cells #[.slice (some ⟨b, off, none⟩) n cap, .int .i64 bd] 26)).ext hE)
      clear hx h hl hb
      by_cases hlv : litV vs l = true
      · go_wp2_with (first
          | (go_at_call 74; refine (holdsL_any B capb vs l _ (hbv.out.alloc _) HLL.out).mono ?_; rintro e w1 ⟨rfl, rfl⟩))
        go_roundw
        case rel =>
          refine ⟨k + 1, z + c, by omega, by go_num, by first | rfl | go_num, by omega, by omega, hE.alloc _, ?_⟩
          rw [take_of_get _ _ _ HX.out, sumV_snoc, ← hZ.out]; simp [hlv, Hid]
        case measure => simp [intOf]; omega
      · have hlf : litV vs l = false := by simpa using hlv
        clear hlv
        go_wp2_with (first
          | (go_at_call 74; refine (holdsL_any B capb vs l _ (hbv.out.alloc _) HLL.out).mono ?_; rintro e w1 ⟨rfl, rfl⟩))
        go_roundw
        case rel =>
          refine ⟨k + 1, z, by omega, by go_num, by first | rfl | go_num, by omega, by omega, hE.alloc _, ?_⟩
          rw [take_of_get _ _ _ HX.out, sumV_snoc, ← hZ.out]; simp [hlf, Hid]
        case measure => simp [intOf]; omega
    · obtain rfl : k = n := by omega
      clear h hb
      go_wp2
      go_ret
      exact ⟨ret_b (by rw [hZ.out, List.take_of_length_le (by rw [HL.out]; omega)]), ((Ext.refl _).alloc _).trans hE⟩



end Go.Proofs.Ytmbdfnimmjomfaa
