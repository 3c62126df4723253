/- SatisfiesAll, the program's and the reference's: l3All, satisfies. -/
import Derived.Test.YtihbgajlnbchlaaProbV
import Derived.Test.YtihbgajlnbchlaaEval
namespace Go.Proofs.Ytihbgajlnbchlaa
open Go.RowKit

def holdC (vs : List Bool) (c : Cn) : Bool := decide (c.2 ≤ sumV vs c.1)
def saB (cs : List Cn) (vs : List Bool) : Bool := probB cs && (decide (vs.length = 12) && cs.all (holdC vs))
theorem probB_all {cs : List Cn} (h : probB cs = true) : cs.all cvC = true := by
  unfold probB at h; rw [Bool.and_eq_true] at h; exact h.2
theorem probB_le {cs : List Cn} (h : probB cs = true) : cs.length ≤ 400 := by
  unfold probB at h; rw [Bool.and_eq_true] at h; exact of_decide_eq_true h.1

set_option maxHeartbeats 1000000 in
theorem l3All_any (A : Option Addr) (n cap : Nat) (cs : List Cn) (B : Option Addr) (capb : Nat) (vs : List Bool) (w : World) (hn : n ≤ maxLen) (h : SegC w A n cs) (hv : cs.all cvC = true) (hb : Seg w 1 B 12 (encB vs)) :
    Calls Try.prog 65 #[.slice A n cap, .slice B 12 capb] w fun e w' => e = .returned (.bool (cs.all (holdC vs))) ∧ Ext w w' := by
  have HL := Lib.hid h.len
  have HV := Lib.hid hv
  unfold maxLen at hn
  clear hv
  go_enter Try.func65, Try.ntmps65
  go_wp2_with fail
  go_loopw [5] (fun i wr => ∃ (k : Nat), k ≤ n ∧ i = .int .i64 k ∧ Ext w wr ∧ Hid ((cs.all (holdC vs)) = (cs.drop k).all (holdC vs))) (fun i _ => n - (intOf i).toNat)
  case atStart => exact ⟨0, Nat.zero_le _, rfl, Ext.refl _, rfl⟩
  case round =>
    obtain ⟨k, hk, rfl, hE, hD⟩ := hrel
    by_cases hlt : k < n
    · obtain ⟨b, off, A', n', cap', ts, bd, rfl, hx, c1, c2, hn', hS'⟩ := (h.ext hE).at_ hlt
      obtain ⟨D1, D2⟩ := all_drop _ cs k _ hx hD.out
      have HD1 := Lib.hid D1
      have HD2 := Lib.hid D2
      have HN := Lib.hid hn'
      have HC := Lib.hid (List.all_eq_true.1 HV.out _ (List.mem_of_getElem? hx))
      have hB' := hb.ext hE
      clear hx hD h D1 D2 hn'
      generalize hz : holdC vs (ts, bd) = z
      have HZ := Lib.hid hz; clear hz
      cases z
      · have D := Lib.hid (HD2.out HZ.out)
        clear HD1 HD2
        go_wp2_with fail
        refine (l1Eval_any A' n' cap' ts bd B capb vs _ hS' HC.out hB').mono ?_
        rintro e w1 ⟨rfl, hE1⟩
        have HZ' : decide (bd ≤ sumV vs ts) = false := HZ.out
        rw [HZ']
        go_wp2
        go_ret
        exact ⟨ret_b D.out.symm, hE.trans hE1⟩
      · have D := Lib.hid (HD1.out HZ.out)
        clear HD1 HD2
        go_wp2_with fail
        refine (l1Eval_any A' n' cap' ts bd B capb vs _ hS' HC.out hB').mono ?_
        rintro e w1 ⟨rfl, hE1⟩
        have HZ' : decide (bd ≤ sumV vs ts) = true := HZ.out
        rw [HZ']
        go_wp2
        go_roundw
        case rel => exact ⟨k + 1, by omega, by go_num, hE.trans hE1, D⟩
        case measure => simp [intOf]; omega
    · obtain rfl : k = n := by omega
      clear h
      have hall : Hid ((cs.all (holdC vs)) = true) := by
        unfold Hid
        rw [hD.out, List.drop_of_length_le (by rw [HL.out]; omega)]; rfl
      go_wp2
      go_ret
      exact ⟨ret_b hall.out.symm, hE⟩

set_option maxHeartbeats 400000 in
theorem implSatc_any (A : Option Addr) (n cap : Nat) (ts : List Tm) (bd : Int) (g : Nat) (B : Option Addr) (capb : Nat) (vs : List Bool) (w : World) (h : Seg w 2 A n (encT ts)) (hv : cvB ts bd = true) (hb : Seg w 1 B 12 (encB vs))
    (hg : w.cell? ⟨g, 0, none⟩ = some (.slice B 12 capb)) :
    Calls Try.prog 92 #[.agg #[.slice A n cap, .int .i64 bd], .pointer (some ⟨g, 0, none⟩)] w fun e w' => e = .returned (.bool (!holdC vs (ts, bd))) ∧ Ext w w' := by
  have HS := Lib.hid h
  have HV := Lib.hid hv
  have HB := Lib.hid hb
  have hg' := ((Ext.refl w).alloc (.cells #[.slice A n cap, .int .i64 bd] 25)).cell hg
  clear h hv hb
  go_enter Try.func92, Try.ntmps92
  go_wp2_with fail
  refine (cHolds_any A n cap ts bd B capb vs _ (HS.out.alloc _) HV.out (HB.out.alloc _)).mono ?_
  rintro e w1 ⟨rfl, hE1⟩
  go_wp2
  go_ret
  exact ⟨rfl, ((Ext.refl _).alloc _).trans hE1⟩

set_option maxHeartbeats 1000000 in
theorem satisfies_any (A : Option Addr) (n cap : Nat) (cs : List Cn) (B : Option Addr) (capb : Nat) (vs : List Bool) (w : World) (hn : n ≤ maxLen) (h : SegC w A n cs) (hv : cs.all cvC = true) (hb : Seg w 1 B 12 (encB vs)) :
    Calls Try.prog 63 #[.slice A n cap, .slice B 12 capb] w fun e w' => e = .returned (.bool (cs.all (holdC vs))) ∧ Ext w w' := by
  have HB := Blk.new w 29 #[.slice B 12 capb]
  have HC := Lib.hid (containsFuncC_any 92 #[.pointer (some ⟨w.heap.size, 0, none⟩)] (fun c => !holdC vs c) (w.alloc (.cells #[.slice B 12 capb] 29)) (enters_of Try.func92 (by kernel_rfl) rfl)
    (fun A n cap ts bd W _ h2 hW hm => implSatc_any A n cap ts bd w.heap.size B capb vs W h2 (List.all_eq_true.1 hv _ hm) ((hb.alloc _).ext hW) ((HB.ext hW).cell 0)) A n cap hn (h.alloc _))
  clear h hb HB
  go_enter Try.func63, Try.ntmps63
  go_wp2_with fail
  refine HC.out.mono ?_
  rintro e w1 ⟨rfl, hE1⟩
  generalize hq : (cs.any fun c => !holdC vs c) = q
  have HQ := Lib.hid hq
  clear hq
  go_wp2
  go_ret
  refine ⟨ret_b ?_, ((Ext.refl _).alloc _).trans hE1⟩
  rw [← HQ.out, ← List.not_all_eq_any_not]
  simp

set_option maxHeartbeats 1000000 in
theorem specSA_any (A : Option Addr) (n cap : Nat) (cs : List Cn) (B : Option Addr) (m capb : Nat) (vs : List Bool) (w : World) (hn : n ≤ maxLen) (h : SegC w A n cs) (_hm : m ≤ maxLen) (hb : Seg w 1 B m (encB vs)) :
    Calls Try.prog 27 #[.slice A n cap, .slice B m capb] w fun e w' => e = .returned (.bool (saB cs vs)) ∧ Ext w w' := by
  have HL := Lib.hid hb.lenB
  have HS := Lib.hid h
  have HB := Lib.hid hb
  clear h hb
  by_cases hv : probB cs = true
  · have HV := Lib.hid hv
    clear hv
    by_cases hm : m = 12
    · subst hm
      have hlen : Hid (decide (vs.length = 12) = true) := decide_eq_true HL.out
      go_enter Try.func27, Try.ntmps27
      go_wp2_with fail
      refine (specProbV_any A n cap cs _ hn HS.out).mono ?_
      rintro e w1 ⟨rfl, hE1⟩
      have hv1 := HV.out
      rw [hv1]
      clear hv1
      go_wp2_with fail
      refine (l3All_any A n cap cs B capb vs _ hn (HS.out.ext hE1) (probB_all HV.out) (HB.out.ext hE1)).mono ?_
      rintro e w2 ⟨rfl, hE2⟩
      go_wp2
      go_ret
      exact ⟨ret_b (by unfold saB; rw [HV.out, hlen.out]; rfl), hE1.trans hE2⟩
    · have hmb : ((m : Int) == 12) = false := by simp; omega
      have hlen : Hid (saB cs vs = false) := by unfold saB Hid; rw [HL.out, decide_eq_false hm, Bool.false_and, Bool.and_false]
      go_enter Try.func27, Try.ntmps27
      go_wp2_with fail
      refine (specProbV_any A n cap cs _ hn HS.out).mono ?_
      rintro e w1 ⟨rfl, hE1⟩
      have hv1 := HV.out
      rw [hv1]
      clear hv1
      go_wp2
      go_ret
      exact ⟨ret_b hlen.out.symm, hE1⟩
  · have HF := Lib.hid (show probB cs = false from by simpa using hv)
    have hlen : Hid (saB cs vs = false) := by unfold saB Hid; rw [HF.out, Bool.false_and]
    clear hv
    go_enter Try.func27, Try.ntmps27
    go_wp2_with fail
    refine (specProbV_any A n cap cs _ hn HS.out).mono ?_
    rintro e w1 ⟨rfl, hE1⟩
    have hv1 := HF.out
    rw [hv1]
    clear hv1
    go_wp2
    go_ret
    exact ⟨ret_b hlen.out.symm, hE1⟩

set_option maxHeartbeats 1000000 in
theorem implSA_any (A : Option Addr) (n cap : Nat) (cs : List Cn) (B : Option Addr) (m capb : Nat) (vs : List Bool) (w : World) (hn : n ≤ maxLen) (h : SegC w A n cs) (_hm : m ≤ maxLen) (hb : Seg w 1 B m (encB vs)) :
    Calls Try.prog 26 #[.slice A n cap, .slice B m capb] w fun e w' => e = .returned (.bool (saB cs vs)) ∧ Ext w w' := by
  have HL := Lib.hid hb.lenB
  have HS := Lib.hid h
  have HB := Lib.hid hb
  clear h hb
  by_cases hv : probB cs = true
  · have HV := Lib.hid hv
    clear hv
    by_cases hm : m = 12
    · subst hm
      have hlen : Hid (decide (vs.length = 12) = true) := decide_eq_true HL.out
      go_enter Try.func26, Try.ntmps26
      go_wp2_with fail
      refine (implProbV_any A n cap cs _ hn HS.out).mono ?_
      rintro e w1 ⟨rfl, hE1⟩
      have hv1 := HV.out
      rw [hv1]
      clear hv1
      go_wp2_with fail
      refine (satisfies_any A n cap cs B capb vs _ hn (HS.out.ext hE1) (probB_all HV.out) (HB.out.ext hE1)).mono ?_
      rintro e w2 ⟨rfl, hE2⟩
      go_wp2
      go_ret
      exact ⟨ret_b (by unfold saB; rw [HV.out, hlen.out]; rfl), hE1.trans hE2⟩
    · have hmb : ((m : Int) == 12) = false := by simp; omega
      have hlen : Hid (saB cs vs = false) := by unfold saB Hid; rw [HL.out, decide_eq_false hm, Bool.false_and, Bool.and_false]
      go_enter Try.func26, Try.ntmps26
      go_wp2_with fail
      refine (implProbV_any A n cap cs _ hn HS.out).mono ?_
      rintro e w1 ⟨rfl, hE1⟩
      have hv1 := HV.out
      rw [hv1]
      clear hv1
      go_wp2
      go_ret
      exact ⟨ret_b hlen.out.symm, hE1⟩
  · have HF := Lib.hid (show probB cs = false from by simpa using hv)
    have hlen : Hid (saB cs vs = false) := by unfold saB Hid; rw [HF.out, Bool.false_and]
    clear hv
    go_enter Try.func26, Try.ntmps26
    go_wp2_with fail
    refine (implProbV_any A n cap cs _ hn HS.out).mono ?_
    rintro e w1 ⟨rfl, hE1⟩
    have hv1 := HF.out
    rw [hv1]
    clear hv1
    go_wp2
    go_ret
    exact ⟨ret_b hlen.out.symm, hE1⟩

end Go.Proofs.Ytihbgajlnbchlaa
