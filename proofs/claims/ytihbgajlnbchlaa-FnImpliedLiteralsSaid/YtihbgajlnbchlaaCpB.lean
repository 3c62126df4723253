/- cpBools, cpInts of the laws. -/
import Derived.Test.YtihbgajlnbchlaaMemD
import Derived.Deep.QuietTactic
namespace Go.Proofs.Ytihbgajlnbchlaa
open Go.RowKit

def cbEq (xs ys : List Bool) : Bool := decide (xs = ys)
theorem cbEq_self (xs : List Bool) : cbEq xs xs = true := by simp [cbEq]
def ciEq (xs ys : List Int) : Bool := decide (xs = ys)
theorem ciEq_self (xs : List Int) : ciEq xs xs = true := by simp [ciEq]
theorem dec_drop1c {α : Type} [DecidableEq α] (xs ys : List α) (k : Nat) (x y : α) (hx : xs[k]? = some x) (hy : ys[k]? = some y) (h : decide (xs = ys) = decide (xs.drop k = ys.drop k)) :
    (x = y → decide (xs = ys) = decide (xs.drop (k + 1) = ys.drop (k + 1))) ∧ (x ≠ y → decide (xs = ys) = false) := by
  rw [drop_of_get xs k x hx, drop_of_get ys k y hy] at h
  constructor
  · rintro rfl; rw [h]; simp
  · intro hne; rw [h]; simp [hne]

set_option maxHeartbeats 1000000 in
theorem cpI_any (A : Option Addr) (n cap : Nat) (ts : List Int) (A' : Option Addr) (n' cap' : Nat) (us : List Int) (w : World) (hn : n ≤ maxLen) (h : Seg w 1 A n (encI ts)) (hn' : n' ≤ maxLen) (h' : Seg w 1 A' n' (encI us)) :
    Calls Try.prog 23 #[.slice A n cap, .slice A' n' cap'] w fun e w' => e = .returned (.bool (ciEq ts us)) ∧ Ext w w' := by
  have hl := h.lenI
  have hl' := h'.lenI
  unfold maxLen at hn hn'
  by_cases hnn : n = n'
  · subst hnn
    have HL := Lib.hid hl; clear hl
    have HL' := Lib.hid hl'; clear hl'
    go_enter Try.func23, Try.ntmps23
    go_wp2
    go_loopw [5] (fun i wr => ∃ k : Nat, k ≤ n ∧ i = .int .i64 k ∧ Ext w wr ∧ Hid (decide (ts = us) = decide (ts.drop k = us.drop k))) (fun i _ => n - (intOf i).toNat)
    case atStart => exact ⟨0, Nat.zero_le _, rfl, Ext.refl _, rfl⟩
    case round =>
      obtain ⟨k, hk, rfl, hE, hD⟩ := hrel
      by_cases hlt : k < n
      · obtain ⟨b, off, c, hA, hx, c1⟩ := (h.ext hE).int hlt
        obtain ⟨b', off', c', hA', hx', c1'⟩ := (h'.ext hE).int hlt
        subst hA; subst hA'
        obtain ⟨D1, D2⟩ := dec_drop1c ts us k c c' hx hx' hD.out
        have HD1 := Lib.hid D1
        have HD2 := Lib.hid D2
        clear hx hx' hD h h' D1 D2
        by_cases hcc : c = c'
        · have D := Lib.hid (HD1.out hcc)
          subst hcc
          clear HD1 HD2
          go_wp2_with fail
          go_quiet (fail)
          go_wp2
          go_roundw
          case rel => exact ⟨k + 1, by omega, by go_num, hE.drewN _, D⟩
          case measure => simp [intOf]; omega
        · have D := Lib.hid (HD2.out hcc)
          have hdec : (c == c') = false := by simpa using hcc
          clear HD1 HD2 hcc
          go_wp2_with fail
          go_quiet (fail)
          go_wp2
          go_ret
          exact ⟨ret_b D.out.symm, hE.drewN _⟩
      · go_wp2
        go_ret
        obtain rfl : k = n := by omega
        refine ⟨ret_b ?_, hE⟩
        unfold ciEq
        rw [hD.out]
        have a1 := HL.out
        have a2 := HL'.out
        rw [List.drop_of_length_le (by omega), List.drop_of_length_le (by omega)]
        rfl
  · have hb : ((n : Int) == (n' : Int)) = false := by simp; omega
    go_enter Try.func23, Try.ntmps23
    go_wp2
    go_ret
    have : ts ≠ us := by rintro rfl; omega
    exact ⟨ret_b (decide_eq_false this).symm, Ext.refl _⟩

end Go.Proofs.Ytihbgajlnbchlaa
