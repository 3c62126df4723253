/- Equality of terms as Go's '!=' gives it; slices.Equal over terms; the program's and the reference's ConstraintSame. -/
import Derived.Test.YtbpkpcfhmglddaaEqT
import Derived.IntWalk
import Derived.Laws.StructEq
namespace Go.Proofs.Ytbpkpcfhmglddaa
open Go.RowKit

theorem guardTm : Try.prog.eqGuardType Try.prog.depth 38 = false := by kernel_rfl

theorem neqTm (c l c' l' : Int) (w : World) : (binOp .neq 38 (.agg #[.int .i64 c, .int .i64 l]) (.agg #[.int .i64 c', .int .i64 l'])).run Try.prog w = .ok (.bool (!tmEq (c, l) (c', l'))) w := by
  have u3 := Try.underlying3
  have a3 := Try.isAgg3
  have z3 := Try.sizeOf3
  have hS : Try.prog.underlying 38 = some (.struct (Try.prog.fieldsOf 38)) := by kernel_rfl
  have hp : Try.prog.stoodInHeld 38 = false := by kernel_rfl
  rw [run_neq_struct, show (10000 : Nat) = 9999 + 1 from rfl, run_equalIn_agg w 9999 38 _ _ hS hp]
  simp only [Program.fieldsOf, Try.underlying38]
  go_simp
  by_cases h1 : c = c' <;> by_cases h2 : l = l' <;> simp [h1, h2, tmEq]

set_option maxHeartbeats 1000000 in
theorem slEqualT_any (A A' : Option Addr) (n n' cap cap' : Nat) (ts us : List Tm) (w : World) (hn : n ≤ maxLen) (hn' : n' ≤ maxLen) (h : Seg w 2 A n (encT ts)) (h' : Seg w 2 A' n' (encT us)) :
    Calls Try.prog 37 #[.slice A n cap, .slice A' n' cap'] w fun e w' => e = .returned (.bool (decide (ts = us))) ∧ Ext w w' := by
  have hl := h.lenT
  have hl' := h'.lenT
  unfold maxLen at hn hn'
  by_cases hnn : n = n'
  · subst hnn
    have HL := Lib.hid hl; clear hl
    have HL' := Lib.hid hl'; clear hl'
    go_enter Try.func37, Try.ntmps37
    go_wp2_with fail
    go_loopw [13] (fun i wr => ∃ k : Nat, k ≤ n ∧ i = .int .i64 k ∧ Ext w wr ∧ Hid (decide (ts = us) = decide (ts.drop k = us.drop k))) (fun i _ => n - (intOf i).toNat)
    case atStart => exact ⟨0, Nat.zero_le _, rfl, Ext.refl _, rfl⟩
    case round =>
      obtain ⟨k, hk, rfl, hE, hD⟩ := hrel
      by_cases hlt : k < n
      · obtain ⟨b, off, c, l, hA, hx, c1, c2⟩ := (h.ext hE).term hlt
        obtain ⟨b', off', c', l', hA', hx', c1', c2'⟩ := (h'.ext hE).term hlt
        subst hA; subst hA'
        obtain ⟨D1, D2⟩ := dec_drop ts us k (c, l) (c', l') hx hx' hD.out
        have HD1 := Lib.hid D1
        have HD2 := Lib.hid D2
        clear hx hx' hD h h' D1 D2
        have gd := guardTm
        have hneq := neqTm
        by_cases hcc : (c, l) = (c', l')
        · have D := Lib.hid (HD1.out hcc)
          have hdec : tmEq (c, l) (c', l') = true := decide_eq_true hcc
          clear HD1 HD2 hcc
          go_wp2_with fail
          go_quiet (fail)
          clear hneq gd
          go_wp2
          go_roundw
          case rel => exact ⟨k + 1, by omega, by go_num, hE.drewN _, D⟩
          case measure => simp [intOf]; omega
        · have D := Lib.hid (HD2.out hcc)
          have hdec : tmEq (c, l) (c', l') = false := decide_eq_false hcc
          clear HD1 HD2 hcc
          go_wp2_with fail
          go_quiet (fail)
          clear hneq gd
          go_wp2
          go_ret
          exact ⟨ret_b D.out.symm, hE.drewN _⟩
      · go_wp2
        go_ret
        obtain rfl : k = n := by omega
        refine ⟨ret_b ?_, hE⟩
        rw [hD.out]
        have a1 := HL.out
        have a2 := HL'.out
        rw [List.drop_of_length_le (by omega), List.drop_of_length_le (by omega)]
        rfl
  · have hb : ((n : Int) == (n' : Int)) = false := by simp; omega
    go_enter Try.func37, Try.ntmps37
    go_wp2
    go_ret
    have : ts ≠ us := by rintro rfl; omega
    exact ⟨ret_b (decide_eq_false this).symm, Ext.refl _⟩

set_option maxHeartbeats 1000000 in
theorem implCS_any (A A' : Option Addr) (n n' cap cap' : Nat) (ts us : List Tm) (bd bd' : Int) (w : World) (hn : n ≤ maxLen) (hn' : n' ≤ maxLen) (h : Seg w 2 A n (encT ts)) (h' : Seg w 2 A' n' (encT us)) :
    Calls Try.prog 17 #[.agg #[.slice A n cap, .int .i64 bd], .agg #[.slice A' n' cap', .int .i64 bd']] w fun e w' => e = .returned (.bool (cEq ts us bd bd')) ∧ Ext w w' := by
  by_cases hb : bd = bd'
  · subst hb
    go_enter Try.func17, Try.ntmps17
    go_wp2_with fail
    refine (slEqualT_any A A' n n' cap cap' ts us _ hn hn' ((h.alloc _).alloc _) ((h'.alloc _).alloc _)).mono ?_
    rintro e w1 ⟨rfl, hE⟩
    have hE0 := (((Ext.refl w).alloc _).alloc _).trans hE
    clear hE h h'
    go_wp2
    go_ret
    exact ⟨ret_b (by simp [cEq]), hE0⟩
  · have hbb : (bd == bd') = false := by simpa using hb
    go_enter Try.func17, Try.ntmps17
    go_wp2
    go_ret
    exact ⟨ret_b (by simp [cEq, hb]), ((Ext.refl w).alloc _).alloc _⟩

theorem implCS2 (A : Option Addr) (n cap : Nat) (ts : List Tm) (bd : Int) (A' : Option Addr) (n' cap' : Nat) (us : List Tm) (bd' : Int) (w : World) (hn : n ≤ maxLen) (h : Seg w 2 A n (encT ts)) (hn' : n' ≤ maxLen) (h' : Seg w 2 A' n' (encT us)) :
    Calls Try.prog 17 #[.agg #[.slice A n cap, .int .i64 bd], .agg #[.slice A' n' cap', .int .i64 bd']] w fun e w' => e = .returned (.bool (cEq ts us bd bd')) ∧ Ext w w' :=
  implCS_any A A' n n' cap cap' ts us bd bd' w hn hn' h h'

set_option maxHeartbeats 2000000 in
theorem specCS_any (A A' : Option Addr) (n n' cap cap' : Nat) (ts us : List Tm) (bd bd' : Int) (w : World) (hn : n ≤ maxLen) (hn' : n' ≤ maxLen) (h : Seg w 2 A n (encT ts)) (h' : Seg w 2 A' n' (encT us)) :
    Calls Try.prog 43 #[.agg #[.slice A n cap, .int .i64 bd], .agg #[.slice A' n' cap', .int .i64 bd']] w fun e w' => e = .returned (.bool (cEq ts us bd bd')) ∧ Ext w w' := by
  have hl := h.lenT
  have hl' := h'.lenT
  unfold maxLen at hn hn'
  by_cases hbd : bd = bd'
  · subst hbd
    by_cases hnn : n = n'
    · subst hnn
      have HL := Lib.hid hl; clear hl
      have HL' := Lib.hid hl'; clear hl'
      go_enter Try.func43, Try.ntmps43
      go_wp2_with fail
      go_loopw [5] (fun i wr => ∃ k : Nat, k ≤ n ∧ i = .int .i64 k ∧ Ext ((w.alloc (.cells #[.slice A n cap, .int .i64 bd] 25)).alloc (.cells #[.slice A' n cap', .int .i64 bd] 25)) wr ∧ Hid (decide (ts = us) = decide (ts.drop k = us.drop k))) (fun i _ => n - (intOf i).toNat)
      case atStart => exact ⟨0, Nat.zero_le _, rfl, Ext.refl _, rfl⟩
      case round =>
        obtain ⟨k, hk, rfl, hE, hD⟩ := hrel
        obtain ⟨B0, B1⟩ := Blk.of2 hE
        have b0 := B0.cell 0
        have b1 := B1.cell 0
        clear B0 B1
        by_cases hlt : k < n
        · obtain ⟨b, off, c, l, hA, hx, c1, c2⟩ := (((h.alloc _).alloc _).ext hE).term hlt
          obtain ⟨b', off', c', l', hA', hx', c1', c2'⟩ := (((h'.alloc _).alloc _).ext hE).term hlt
          subst hA; subst hA'
          obtain ⟨D1, D2⟩ := dec_drop ts us k (c, l) (c', l') hx hx' hD.out
          have HD1 := Lib.hid D1
          have HD2 := Lib.hid D2
          clear hx hx' hD h h' D1 D2
          have gd := guardTm
          have hneq := neqTm
          by_cases hcc : (c, l) = (c', l')
          · have D := Lib.hid (HD1.out hcc)
            have hdec : tmEq (c, l) (c', l') = true := decide_eq_true hcc
            clear HD1 HD2 hcc
            go_wp2_with fail
            go_quiet (fail)
            clear hneq gd
            go_wp2
            go_roundw
            case rel => exact ⟨k + 1, by omega, by go_num, hE.drewN _, D⟩
            case measure => simp [intOf]; omega
          · have D := Lib.hid (HD2.out hcc)
            have hdec : tmEq (c, l) (c', l') = false := decide_eq_false hcc
            clear HD1 HD2 hcc
            go_wp2_with fail
            go_quiet (fail)
            clear hneq gd
            go_wp2
            go_ret
            exact ⟨ret_b (by have := D.out; simp at this; simp [cEq, this]), (((Ext.refl w).alloc _).alloc _).trans (hE.drewN _)⟩
        · clear h h'
          go_wp2
          go_ret
          obtain rfl : k = n := by omega
          refine ⟨ret_b ?_, (((Ext.refl w).alloc _).alloc _).trans hE⟩
          have a0 := hD.out
          have a1 := HL.out
          have a2 := HL'.out
          rw [List.drop_of_length_le (by omega), List.drop_of_length_le (by omega)] at a0
          have : ts = us := by simpa using a0
          simp [cEq, this]
    · have hb : ((n : Int) == (n' : Int)) = false := by simp; omega
      have : ts ≠ us := by rintro rfl; omega
      have hc : cEq ts us bd bd = false := by simp [cEq, this]
      clear this hl hl' h h'
      go_enter Try.func43, Try.ntmps43
      go_wp2
      go_ret
      exact ⟨ret_b hc.symm, ((Ext.refl w).alloc _).alloc _⟩
  · have hbb : (bd == bd') = false := by simpa using hbd
    have hc : cEq ts us bd bd' = false := by simp [cEq, hbd]
    clear hl hl' h h'
    go_enter Try.func43, Try.ntmps43
    go_wp2
    go_ret
    exact ⟨ret_b hc.symm, ((Ext.refl w).alloc _).alloc _⟩
theorem specCS2 (A : Option Addr) (n cap : Nat) (ts : List Tm) (bd : Int) (A' : Option Addr) (n' cap' : Nat) (us : List Tm) (bd' : Int) (w : World) (hn : n ≤ maxLen) (h : Seg w 2 A n (encT ts)) (hn' : n' ≤ maxLen) (h' : Seg w 2 A' n' (encT us)) :
    Calls Try.prog 43 #[.agg #[.slice A n cap, .int .i64 bd], .agg #[.slice A' n' cap', .int .i64 bd']] w fun e w' => e = .returned (.bool (cEq ts us bd bd')) ∧ Ext w w' :=
  specCS_any A A' n n' cap cap' ts us bd bd' w hn hn' h h'
end Go.Proofs.Ytbpkpcfhmglddaa
