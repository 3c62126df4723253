/- slices.Index and slices.Contains over integers. -/
import Derived.Test.YtbpkpcfhmglddaaInts
import Derived.Test.YtbpkpcfhmglddaaMemC
namespace Go.Proofs.Ytbpkpcfhmglddaa
open Go.RowKit

def IdxP (zs : List Int) (x i : Int) : Prop := decide (0 ≤ i) = zs.contains x
set_option maxHeartbeats 1000000 in
theorem slIndexI_any (A : Option Addr) (n cap : Nat) (zs : List Int) (x : Int) (w : World) (hn : n ≤ maxLen) (h : Seg w 1 A n (encI zs)) :
    Calls Try.prog 45 #[.slice A n cap, .int .i64 x] w fun e w' => (∃ i : Int, e = .returned (.int .i64 i) ∧ IdxP zs x i) ∧ w = w' := by
  have HL := Lib.hid h.lenI
  unfold maxLen at hn
  go_enter Try.func45, Try.ntmps45
  go_wp2_with fail
  go_loop [8] (fun i => ∃ (k : Nat), k ≤ n ∧ i = .int .i64 k ∧ Hid (zs.contains x = (zs.drop k).contains x)) (fun i => n - (intOf i).toNat)
  case atStart => exact ⟨0, Nat.zero_le _, rfl, rfl⟩
  case round =>
    obtain ⟨k, hk, rfl, hD⟩ := hrel
    by_cases hlt : k < n
    · obtain ⟨b, off, z, rfl, hx, c1⟩ := h.int hlt
      have hd := drop_of_get _ _ _ hx
      have hD2 := hD.out
      rw [hd, List.contains_cons] at hD2
      have HD := Lib.hid hD2
      clear hx hd hD2 hD h
      by_cases he : x = z
      · have hb : (x == z) = true := by simpa using he
        have HF : Hid (zs.contains x = true) := by unfold Hid; rw [HD.out, hb]; rfl
        clear he HD
        go_wp2
        go_ret
        exact ⟨⟨k, rfl, by unfold IdxP; rw [HF.out]; simp⟩, rfl⟩
      · have hb : (x == z) = false := by simpa using he
        have HD2 : Hid (zs.contains x = (zs.drop (k + 1)).contains x) := by unfold Hid; rw [HD.out, hb, Bool.false_or]
        clear he HD
        go_wp2
        go_round
        case rel => exact ⟨k + 1, by omega, by go_num, HD2.out⟩
        case measure => simp [intOf]; omega
    · obtain rfl : k = n := by omega
      have HF : Hid (zs.contains x = false) := by
        have := hD.out
        rw [List.drop_of_length_le (by rw [HL.out]; omega)] at this
        unfold Hid; rw [this]; rfl
      clear h hD
      go_wp2
      go_ret
      exact ⟨⟨-1, rfl, by unfold IdxP; rw [HF.out]; rfl⟩, rfl⟩

set_option maxHeartbeats 1000000 in
theorem containsI_any (A : Option Addr) (n cap : Nat) (zs : List Int) (x : Int) (w : World) (hn : n ≤ maxLen) (h : Seg w 1 A n (encI zs)) :
    Calls Try.prog 24 #[.slice A n cap, .int .i64 x] w fun e w' => e = .returned (.bool (zs.contains x)) ∧ w = w' := by
  go_enter Try.func24, Try.ntmps24
  go_wp2_with fail
  refine (slIndexI_any A n cap zs x _ hn h).mono ?_
  rintro e w' ⟨⟨i, rfl, hi⟩, rfl⟩
  have HI := Lib.hid hi
  clear hi h
  go_wp2
  go_ret
  exact ⟨ret_b HI.out, rfl⟩
end Go.Proofs.Ytbpkpcfhmglddaa
