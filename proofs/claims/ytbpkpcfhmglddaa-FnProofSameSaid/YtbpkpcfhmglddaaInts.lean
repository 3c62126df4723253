/- Contracts of the small functions on integers: within, isLiteral, variableOf, l1Lit, l1Abs. -/
import Derived.Test.YtbpkpcfhmglddaaMemB
namespace Go.Proofs.Ytbpkpcfhmglddaa
open Go.RowKit

def inB (n lo hi : Int) : Bool := decide (lo ≤ n ∧ n ≤ hi)
def litB (l : Int) : Bool := decide (l ≠ 0 ∧ -12 ≤ l ∧ l ≤ 12)
def absI (l : Int) : Int := if l < 0 then -l else l

set_option maxHeartbeats 400000 in
theorem within_any (n lo hi : Int) (w : World) :
    Calls Try.prog 44 #[.int .i64 n, .int .i64 lo, .int .i64 hi] w fun e w' => e = .returned (.bool (inB n lo hi)) ∧ w = w' := by
  by_cases h1 : lo ≤ n
  all_goals by_cases h2 : n ≤ hi
  all_goals
    go_enter Try.func44, Try.ntmps44
    go_wp2
    go_ret
    exact ⟨by simp [inB, h1, h2], rfl⟩

set_option maxHeartbeats 400000 in
theorem isLiteral_any (l : Int) (w : World) :
    Calls Try.prog 23 #[.int .i64 l] w fun e w' => e = .returned (.bool (litB l)) ∧ w = w' := by
  by_cases h : l = 0
  · subst h
    go_enter Try.func23, Try.ntmps23
    go_wp2
    go_ret
    exact ⟨rfl, rfl⟩
  · have hb : (l == 0) = false := by simpa using h
    go_enter Try.func23, Try.ntmps23
    go_wp2_with fail
    refine (within_any _ _ _ _).mono ?_
    rintro e w1 ⟨rfl, rfl⟩
    go_wp2
    go_ret
    exact ⟨ret_b (by simp [inB, litB, h]), rfl⟩

set_option maxHeartbeats 400000 in
theorem variableOf_any (l : Int) (w : World) (h1 : -9223372036854775807 ≤ l) (h2 : l ≤ 9223372036854775807) :
    Calls Try.prog 28 #[.int .i64 l] w fun e w' => e = .returned (.int .i64 (absI l)) ∧ w = w' := by
  by_cases h : l < 0
  all_goals
    go_enter Try.func28, Try.ntmps28
    go_wp2
    go_ret
    exact ⟨ret_i (by unfold absI; repeat' split; all_goals omega), rfl⟩

set_option maxHeartbeats 400000 in
theorem l1Lit_any (l : Int) (w : World) :
    Calls Try.prog 21 #[.int .i64 l] w fun e w' => e = .returned (.bool (litB l)) ∧ w = w' := by
  by_cases h : l = 0
  · subst h
    go_enter Try.func21, Try.ntmps21
    go_wp2
    go_ret
    exact ⟨rfl, rfl⟩
  · have hb : (l == 0) = false := by simpa using h
    by_cases h1 : -12 ≤ l
    all_goals by_cases h2 : l ≤ 12
    all_goals
      go_enter Try.func21, Try.ntmps21
      go_wp2
      go_ret
      exact ⟨by simp [litB, h, h1, h2], rfl⟩

set_option maxHeartbeats 400000 in
theorem l1Abs_any (l : Int) (w : World) (h1 : -9223372036854775807 ≤ l) (h2 : l ≤ 9223372036854775807) :
    Calls Try.prog 22 #[.int .i64 l] w fun e w' => e = .returned (.int .i64 (absI l)) ∧ w = w' := by
  by_cases h : l < 0
  all_goals
    go_enter Try.func22, Try.ntmps22
    go_wp2
    go_ret
    exact ⟨ret_i (by unfold absI; split <;> omega), rfl⟩
end Go.Proofs.Ytbpkpcfhmglddaa
