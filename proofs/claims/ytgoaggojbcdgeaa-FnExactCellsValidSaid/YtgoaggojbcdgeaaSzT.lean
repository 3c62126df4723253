/- Contracts of the law's own sizes: szTermS, szConstraint. -/
import Derived.Test.YtgoaggojbcdgeaaMemB
namespace Go.Proofs.Ytgoaggojbcdgeaa
open Go.RowKit

def szB (n left : Int) : Int := if left - n < 0 then -1 else left - n

theorem szB_le (n : Nat) (left : Int) (h : -1 ≤ left) : szB n left ≤ left := by unfold szB; split <;> omega
theorem szB_ge (n : Nat) (left : Int) (_h : -1 ≤ left) : -1 ≤ szB n left := by unfold szB; split <;> omega
theorem szB_small (n : Nat) (left : Int) (h : left ≤ 1048576) (hb : ¬ szB n left < 0) : n ≤ 1048576 := by
  unfold szB at hb
  split at hb
  · exact absurd (by omega : (-1 : Int) < 0) hb
  · omega

set_option maxHeartbeats 400000 in
theorem szTermS_any (A : Option Addr) (n cap : Nat) (left : Int) (w : World) (hn : n ≤ maxLen) (h0 : -1 ≤ left) (h1 : left ≤ 1048576) :
    Calls Try.prog 116 #[.slice A n cap, .int .i64 left] w fun e w' => e = .returned (.int .i64 (szB n left)) ∧ w = w' := by
  unfold maxLen at hn
  by_cases h : left - (n : Int) < 0
  all_goals
    go_enter Try.func116, Try.ntmps116
    go_wp2
    go_ret
    exact ⟨ret_i (by unfold szB; split <;> omega), rfl⟩

set_option maxHeartbeats 400000 in
theorem szConstraint_any (A : Option Addr) (n cap : Nat) (bd left : Int) (w : World) (hn : n ≤ maxLen) (h0 : -1 ≤ left) (h1 : left ≤ 1048576) :
    Calls Try.prog 84 #[.agg #[.slice A n cap, .int .i64 bd], .int .i64 left] w fun e w' => e = .returned (.int .i64 (szB n left)) ∧ Ext w w' := by
  have hlo : -1 ≤ szB n left := by unfold szB; split <;> omega
  have hneg : Hid (szB n left < 0 → -1 = szB n left) := by unfold szB; intro h; split at h <;> simp_all <;> omega
  have hup : szB n left ≤ 1048576 := by unfold szB; split <;> omega
  by_cases h : szB n left < 0
  all_goals
    go_enter Try.func84, Try.ntmps84
    go_wp2_with fail
    refine (szTermS_any A n cap left _ hn h0 h1).mono ?_
    rintro e w1 ⟨rfl, rfl⟩
    go_wp2
    go_ret
    exact ⟨ret_i (by first | exact hneg.out h | rfl), (Ext.refl _).alloc _⟩
end Go.Proofs.Ytgoaggojbcdgeaa
