/- Comparisons of lists of integers: the reference's, the library's. -/
import Derived.Test.YtgoaggojbcdgeaaRII
import Derived.Shelf.Abstract
namespace Go.Proofs.Ytgoaggojbcdgeaa
open Go.RowKit Go.Shelf

set_option maxHeartbeats 1000000 in
theorem specIs_any (A : Option Addr) (n cap : Nat) (ts : List Int) (A' : Option Addr) (n' cap' : Nat) (us : List Int) (w : World) (hn : n ≤ maxLen) (h : Seg w 1 A n (encI ts)) (hn' : n' ≤ maxLen) (h' : Seg w 1 A' n' (encI us)) :
    Calls Try.prog 65 #[.slice A n cap, .slice A' n' cap'] w fun e w' => e = .returned (.bool (iEq ts us)) ∧ Ext w w' := by
  have hl := h.lenI
  have hl' := h'.lenI
  unfold maxLen at hn hn'
  by_cases hnn : n = n'
  · subst hnn
    have HL := Lib.hid hl; clear hl
    have HL' := Lib.hid hl'; clear hl'
    go_enter Try.func65, Try.ntmps65
    go_wp2
    go_loopw [5] (fun i wr => ∃ k : Nat, k ≤ n ∧ i = .int .i64 k ∧ Ext w wr ∧ Hid (decide (ts = us) = decide (ts.drop k = us.drop k))) (fun i _ => n - (intOf i).toNat)
    case atStart => exact ⟨0, Nat.zero_le _, rfl, Ext.refl _, rfl⟩
    case round =>
      obtain ⟨k, hk, rfl, hE, hD⟩ := hrel
      by_cases hlt : k < n
      · obtain ⟨b, off, c, hA, hx, c1⟩ := (h.ext hE).int hlt
        obtain ⟨b', off', c', hA', hx', c1'⟩ := (h'.ext hE).int hlt
        subst hA; subst hA'
        obtain ⟨D1, D2⟩ := dec_drop1 ts us k c c' hx hx' hD.out
        have HD1 := Lib.hid D1
        have HD2 := Lib.hid D2
        clear hx hx' hD h h' D1 D2
        by_cases hcc : c = c'
        · have D := Lib.hid (HD1.out hcc)
          subst hcc
          clear HD1 HD2
          go_wp2_with fail
          go_quiet (fail)
          go_wp2
          go_roundw
          case rel => exact ⟨k + 1, by omega, by go_num, hE.drewN _, D⟩
          case measure => simp [intOf]; omega
        · have D := Lib.hid (HD2.out hcc)
          have hdec : (c == c') = false := by simpa using hcc
          clear HD1 HD2 hcc
          go_wp2_with fail
          go_quiet (fail)
          go_wp2
          go_ret
          exact ⟨ret_b D.out.symm, hE.drewN _⟩
      · go_wp2
        go_ret
        obtain rfl : k = n := by omega
        refine ⟨ret_b ?_, hE⟩
        unfold iEq
        rw [hD.out]
        have a1 := HL.out
        have a2 := HL'.out
        rw [List.drop_of_length_le (by omega), List.drop_of_length_le (by omega)]
        rfl
  · have hb : ((n : Int) == (n' : Int)) = false := by simp; omega
    go_enter Try.func65, Try.ntmps65
    go_wp2
    go_ret
    have : ts ≠ us := by rintro rfl; omega
    exact ⟨ret_b (decide_eq_false this).symm, Ext.refl _⟩

set_option maxHeartbeats 1000000 in
theorem slEqI_any (A : Option Addr) (n cap : Nat) (ts : List Int) (A' : Option Addr) (n' cap' : Nat) (us : List Int) (w : World) (hn : n ≤ maxLen) (h : Seg w 1 A n (encI ts)) (hn' : n' ≤ maxLen) (h' : Seg w 1 A' n' (encI us)) :
    Calls Try.prog 68 #[.slice A n cap, .slice A' n' cap'] w fun e w' => e = .returned (.bool (iEq ts us)) ∧ Ext w w' := by
  have hl := h.lenI
  have hl' := h'.lenI
  unfold maxLen at hn hn'
  by_cases hnn : n = n'
  · subst hnn
    have HL := Lib.hid hl; clear hl
    have HL' := Lib.hid hl'; clear hl'
    go_enter Try.func68, Try.ntmps68
    go_wp2
    go_loopw [13] (fun i wr => ∃ k : Nat, k ≤ n ∧ i = .int .i64 k ∧ Ext w wr ∧ Hid (decide (ts = us) = decide (ts.drop k = us.drop k))) (fun i _ => n - (intOf i).toNat)
    case atStart => exact ⟨0, Nat.zero_le _, rfl, Ext.refl _, rfl⟩
    case round =>
      obtain ⟨k, hk, rfl, hE, hD⟩ := hrel
      by_cases hlt : k < n
      · obtain ⟨b, off, c, hA, hx, c1⟩ := (h.ext hE).int hlt
        obtain ⟨b', off', c', hA', hx', c1'⟩ := (h'.ext hE).int hlt
        subst hA; subst hA'
        obtain ⟨D1, D2⟩ := dec_drop1 ts us k c c' hx hx' hD.out
        have HD1 := Lib.hid D1
        have HD2 := Lib.hid D2
        clear hx hx' hD h h' D1 D2
        by_cases hcc : c = c'
        · have D := Lib.hid (HD1.out hcc)
          subst hcc
          clear HD1 HD2
          go_wp2_with fail
          go_quiet (fail)
          go_wp2
          go_roundw
          case rel => exact ⟨k + 1, by omega, by go_num, hE.drewN _, D⟩
          case measure => simp [intOf]; omega
        · have D := Lib.hid (HD2.out hcc)
          have hdec : (c == c') = false := by simpa using hcc
          clear HD1 HD2 hcc
          go_wp2_with fail
          go_quiet (fail)
          go_wp2
          go_ret
          exact ⟨ret_b D.out.symm, hE.drewN _⟩
      · go_wp2
        go_ret
        obtain rfl : k = n := by omega
        refine ⟨ret_b ?_, hE⟩
        unfold iEq
        rw [hD.out]
        have a1 := HL.out
        have a2 := HL'.out
        rw [List.drop_of_length_le (by omega), List.drop_of_length_le (by omega)]
        rfl
  · have hb : ((n : Int) == (n' : Int)) = false := by simp; omega
    go_enter Try.func68, Try.ntmps68
    go_wp2
    go_ret
    have : ts ≠ us := by rintro rfl; omega
    exact ⟨ret_b (decide_eq_false this).symm, Ext.refl _⟩

set_option maxRecDepth 100000 in
set_option maxHeartbeats 4000000 in
theorem eqfII_any (A : Option Addr) (n cap : Nat) (ts : List (List Int)) (A' : Option Addr) (n' cap' : Nat) (us : List (List Int)) (w : World) (h : QII 0 w (A, n, cap) ts) (h' : QII 0 w (A', n', cap') us) :
    Calls Try.prog 92 #[.slice A n cap, .slice A' n' cap', .func (.func 68) #[] #[]] w fun e w' => e = .returned (.bool (iiEq ts us)) ∧ Ext w w' := by
  have eg : ∀ args w, (callFunc 68 args).run Try.prog w = .ok (.enter 68 args) w := enters_of Try.func68 (by kernel_rfl) rfl
  have hl : ts.length = n := h.len
  have hl' : us.length = n' := h'.len
  have hn : n ≤ maxLen := h.1
  have hn' : n' ≤ maxLen := h'.1
  unfold maxLen at hn hn'
  by_cases hnn : n = n'
  · subst hnn
    have HL := Lib.hid hl; clear hl
    have HL' := Lib.hid hl'; clear hl'
    go_enter Try.func92, Try.ntmps92
    go_wp2_with fail
    go_loopw [17] (fun i wr => ∃ k : Nat, k ≤ n ∧ i = .int .i64 k ∧ Ext w wr ∧ Hid (decide (ts = us) = decide (ts.drop k = us.drop k))) (fun i _ => n - (intOf i).toNat)
    case atStart => exact ⟨0, Nat.zero_le _, rfl, Ext.refl _, rfl⟩
    case round =>
      obtain ⟨k, hk, rfl, hE, hD⟩ := hrel
      by_cases hlt : k < n
      · obtain ⟨b, off, B, m, q, xs, hA, hx, c1, hQ⟩ := (h.ext hE).at_ hlt
        obtain ⟨b', off', B', m', q', xs', hA', hx', d1, hQ'⟩ := (h'.ext hE).at_ hlt
        subst hA; subst hA'
        obtain ⟨D1, D2⟩ := dec_drop1 ts us k xs xs' hx hx' hD.out
        have HD1 := Lib.hid D1
        have HD2 := Lib.hid D2
        have SS := Lib.hid hQ
        have SS' := Lib.hid hQ'
        clear hx hx' hD h h' D1 D2 hQ hQ'
        have hb1 := World.block_lt_of_cell? _ _ c1
        have hb2 := World.block_lt_of_cell? _ _ d1
        by_cases hcc : xs = xs'
        · have D := Lib.hid (HD1.out hcc)
          have hdec : Hid (iEq xs xs' = true) := decide_eq_true hcc
          clear HD1 HD2 hcc
          go_wp2_with fail
          refine (calls_val (slEqI_any B m q xs B' m' q' xs' _ SS.out.1 SS.out.2.1 SS'.out.1 SS'.out.2.1) (congrArg Value.bool hdec.out)).mono ?_
          rintro e w1 ⟨rfl, hE1⟩
          have HF := Lib.hid (hE.trans hE1)
          clear hE1 c1 d1
          go_wp2
          go_roundw
          case rel => exact ⟨k + 1, by omega, by go_num, HF.out, D⟩
          case measure => simp [intOf]; omega
        · have D := Lib.hid (HD2.out hcc)
          have hdec : Hid (iEq xs xs' = false) := decide_eq_false hcc
          clear HD1 HD2 hcc
          go_wp2_with fail
          refine (calls_val (slEqI_any B m q xs B' m' q' xs' _ SS.out.1 SS.out.2.1 SS'.out.1 SS'.out.2.1) (congrArg Value.bool hdec.out)).mono ?_
          rintro e w1 ⟨rfl, hE1⟩
          have HF := Lib.hid (hE.trans hE1)
          clear hE1 c1 d1
          go_wp2
          go_ret
          exact ⟨ret_b D.out.symm, HF.out⟩
      · clear h h'
        go_wp2
        go_ret
        obtain rfl : k = n := by omega
        refine ⟨ret_b ?_, hE⟩
        unfold iiEq
        rw [hD.out]
        have a1 := HL.out
        have a2 := HL'.out
        rw [List.drop_of_length_le (by omega), List.drop_of_length_le (by omega)]
        rfl
  · have hb : ((n : Int) == (n' : Int)) = false := by simp; omega
    clear h h'
    go_enter Try.func92, Try.ntmps92
    go_wp2
    go_ret
    have : ts ≠ us := by rintro rfl; omega
    exact ⟨ret_b (decide_eq_false this).symm, Ext.refl _⟩
end Go.Proofs.Ytgoaggojbcdgeaa
