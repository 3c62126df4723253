/- ProblemValid, the program's and the reference's; slices.IndexFunc and ContainsFunc over constraints. -/
import Derived.Test.YtbpkpcfhmglddaaProb
import Derived.Test.YtbpkpcfhmglddaaPV
import Derived.Test.YtbpkpcfhmglddaaCVs
namespace Go.Proofs.Ytbpkpcfhmglddaa
open Go.RowKit

def cvC (c : Cn) : Bool := cvB c.1 c.2
def probB (cs : List Cn) : Bool := decide (cs.length ≤ 400) && cs.all cvC

set_option maxHeartbeats 1000000 in
theorem specProbV_any (A : Option Addr) (n cap : Nat) (cs : List Cn) (w : World) (hn : n ≤ maxLen) (h : SegC w A n cs) :
    Calls Try.prog 80 #[.slice A n cap] w fun e w' => e = .returned (.bool (probB cs)) ∧ Ext w w' := by
  have HL := Lib.hid h.len
  unfold maxLen at hn
  go_enter Try.func80, Try.ntmps80
  go_wp2_with fail
  go_loopw [3] (fun i wr => ∃ (k : Nat), k ≤ n ∧ i = .int .i64 k ∧ Ext w wr ∧ Hid ((cs.all cvC) = (cs.drop k).all cvC)) (fun i _ => n - (intOf i).toNat)
  case atStart => exact ⟨0, Nat.zero_le _, rfl, Ext.refl _, rfl⟩
  case round =>
    obtain ⟨k, hk, rfl, hE, hD⟩ := hrel
    by_cases hlt : k < n
    · obtain ⟨b, off, A', n', cap', ts, bd, rfl, hx, c1, c2, hn', hS'⟩ := (h.ext hE).at_ hlt
      obtain ⟨D1, D2⟩ := all_drop _ cs k _ hx hD.out
      have HD1 := Lib.hid D1
      have HD2 := Lib.hid D2
      have HN := Lib.hid hn'
      clear hx hD h D1 D2 hn'
      generalize hz : cvB ts bd = z
      have HZ := Lib.hid hz; clear hz
      cases z
      · have D := Lib.hid (HD2.out HZ.out)
        clear HD1 HD2
        go_wp2_with fail
        refine (specCV_any A' n' cap' ts bd _ HN.out hS').mono ?_
        rintro e w1 ⟨rfl, hE1⟩
        have HZ' := HZ.out
        rw [HZ']
        go_wp2
        go_ret
        exact ⟨ret_b (by unfold probB; rw [D.out, Bool.and_false]), hE.trans hE1⟩
      · have D := Lib.hid (HD1.out HZ.out)
        clear HD1 HD2
        go_wp2_with fail
        refine (specCV_any A' n' cap' ts bd _ HN.out hS').mono ?_
        rintro e w1 ⟨rfl, hE1⟩
        have HZ' := HZ.out
        rw [HZ']
        go_wp2
        go_roundw
        case rel => exact ⟨k + 1, by omega, by go_num, hE.trans hE1, D⟩
        case measure => simp [intOf]; omega
    · obtain rfl : k = n := by omega
      clear h
      have hall : Hid ((cs.all cvC) = true) := by
        unfold Hid
        rw [hD.out, List.drop_of_length_le (by rw [HL.out]; omega)]; rfl
      have hfin : Hid (probB cs = decide ((k : Int) ≤ 400)) := by
        unfold probB Hid
        rw [hall.out, HL.out, Bool.and_true, Bool.eq_iff_iff]
        simp; omega
      go_wp2
      go_ret
      exact ⟨ret_b hfin.out.symm, hE⟩


end Go.Proofs.Ytbpkpcfhmglddaa
