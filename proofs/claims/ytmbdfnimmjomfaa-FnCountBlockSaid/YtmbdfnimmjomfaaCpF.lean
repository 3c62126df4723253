/- cpBefore of the laws. -/
import Derived.Test.YtmbdfnimmjomfaaPlCn
import Derived.Test.YtmbdfnimmjomfaaMemD
import Derived.Deep.QuietTactic
namespace Go.Proofs.Ytmbdfnimmjomfaa
open Go.RowKit

theorem bef_drop (xs ys : List Bool) (k : Nat) (x y : Bool) (hx : xs[k]? = some x) (hy : ys[k]? = some y) : befB (xs.drop k) (ys.drop k) = if x = y then befB (xs.drop (k + 1)) (ys.drop (k + 1)) else y := by
  rw [drop_of_get xs k x hx, drop_of_get ys k y hy]; rfl
theorem RetVB.of_eq {vs vs' : List Bool} {ok ok' : Bool} {w : World} {e : Ending} {w' : World} (h : RetVB vs ok w e w') (h1 : vs = vs') (h2 : ok = ok') : RetVB vs' ok' w e w' := by
  subst h1; subst h2; exact h
set_option maxHeartbeats 1000000 in
theorem cpBf_any (A : Option Addr) (cap : Nat) (ts : List Bool) (A' : Option Addr) (cap' : Nat) (us : List Bool) (w : World) (h : Seg w 1 A 12 (encB ts)) (h' : Seg w 1 A' 12 (encB us)) :
    Calls Try.prog 32 #[.slice A 12 cap, .slice A' 12 cap'] w fun e w' => e = .returned (.bool (befB ts us)) ∧ Ext w w' := by
  have HL := Lib.hid h.lenB
  have HL' := Lib.hid h'.lenB
  go_enter Try.func32, Try.ntmps32
  go_wp2
  go_loopw [5] (fun i wr => ∃ k : Nat, k ≤ 12 ∧ i = .int .i64 k ∧ Ext w wr ∧ Hid (befB ts us = befB (ts.drop k) (us.drop k))) (fun i _ => 12 - (intOf i).toNat)
  case atStart => exact ⟨0, Nat.zero_le _, rfl, Ext.refl _, rfl⟩
  case round =>
    obtain ⟨k, hk, rfl, hE, hD⟩ := hrel
    by_cases hlt : k < 12
    · obtain ⟨b, off, c, hA, hx, c1⟩ := (h.ext hE).bool hlt
      obtain ⟨b', off', c', hA', hx', c1'⟩ := (h'.ext hE).bool hlt
      subst hA; subst hA'
      have hd := bef_drop ts us k c c' hx hx'
      have k1 : (k : Int) < 12 := by omega
      by_cases hcc : c = c'
      · have D : Hid (befB ts us = befB (ts.drop (k + 1)) (us.drop (k + 1))) := by rw [Hid, hD.out, hd, if_pos hcc]
        subst hcc
        clear hx hx' hd hD h h'
        cases c
        all_goals
          go_wp2_with fail
          go_quiet (fail)
          go_wp2
          go_roundw
          case rel => exact ⟨k + 1, by omega, by go_num, hE.drewN _, D⟩
          case measure => simp [intOf]; omega
      · have D : Hid (befB ts us = c') := by rw [Hid, hD.out, hd, if_neg hcc]
        have hb : (c == c') = false := by simpa using hcc
        clear hx hx' hd hD h h' hcc
        go_wp2_with fail
        go_quiet (fail)
        go_wp2
        go_ret
        exact ⟨ret_b D.out.symm, hE.drewN _⟩
    · obtain rfl : k = 12 := by omega
      go_wp2
      go_ret
      refine ⟨ret_b ?_, hE⟩
      rw [hD.out]
      have a1 := HL.out
      have a2 := HL'.out
      rw [List.drop_of_length_le (by omega), List.drop_of_length_le (by omega)]
      rfl
end Go.Proofs.Ytmbdfnimmjomfaa
