/- The program's NormalForm. -/
import Derived.Test.YtmbdfnimmjomfaaNFi
namespace Go.Proofs.Ytmbdfnimmjomfaa
open Go.RowKit

set_option maxRecDepth 100000 in
set_option maxHeartbeats 4000000 in
theorem implNF_any (A : Option Addr) (n cap : Nat) (ts : List Tm) (bd : Int) (w : World) (hn : n ≤ maxLen) (h : Seg w 2 A n (encT ts)) :
    Calls Try.prog 11 #[.slice A n cap, .int .i64 bd] w fun e w' => RetCB (nfT ts bd) (nfD ts bd) (nfB ts bd) w e w' := by
  have hno : Hid (∀ W' : World, Ext w W' → nfB ts bd = false → RetCB (nfT ts bd) (nfD ts bd) (nfB ts bd) w (.returned (.tuple #[.agg #[.slice none 0 0, .int .i64 0], .bool false])) W') := fun W' hE hc =>
    (RetCB.zero hE).of_eq (nfT_no hc).symm (nfD_no hc).symm hc.symm
  have HL := Lib.hid h.lenT
  unfold maxLen at hn
  by_cases h40 : 40 < n
  · have hc := Lib.hid (nfB_short (bd := bd) (.inl (by rw [HL.out]; exact h40)))
    clear h
    go_enter Try.func11, Try.ntmps11
    go_wp2
    refine bodyPost_ret (v := .tuple #[.agg #[.slice none 0 0, .int .i64 0], .bool false]) (by simp [results, Try.results11, go_sem]) rfl ?_
    refine hno.out _ ?_ hc.out
    repeat (first | exact Ext.refl _ | refine Ext.setNew ?_ (by simp) _ | refine Ext.alloc ?_ _)
  by_cases hb1 : bd < -20000
  · have hc := Lib.hid (nfB_short (ts := ts) (bd := bd) (.inr (.inl hb1)))
    have hin : inB bd (-20000) 20000 = false := by unfold inB; exact decide_eq_false (by omega)
    clear h
    go_enter Try.func11, Try.ntmps11
    go_wp2_with fail
    refine (calls_val (within_any _ _ _ _) (congrArg Value.bool hin)).mono ?_
    rintro e w1 ⟨rfl, rfl⟩
    go_wp2
    refine bodyPost_ret (v := .tuple #[.agg #[.slice none 0 0, .int .i64 0], .bool false]) (by simp [results, Try.results11, go_sem]) rfl ?_
    refine hno.out _ ?_ hc.out
    repeat (first | exact Ext.refl _ | refine Ext.setNew ?_ (by simp) _ | refine Ext.alloc ?_ _)
  by_cases hb2 : 20000 < bd
  · have hc := Lib.hid (nfB_short (ts := ts) (bd := bd) (.inr (.inr (.inl hb2))))
    have hin : inB bd (-20000) 20000 = false := by unfold inB; exact decide_eq_false (by omega)
    clear h
    go_enter Try.func11, Try.ntmps11
    go_wp2_with fail
    refine (calls_val (within_any _ _ _ _) (congrArg Value.bool hin)).mono ?_
    rintro e w1 ⟨rfl, rfl⟩
    go_wp2
    refine bodyPost_ret (v := .tuple #[.agg #[.slice none 0 0, .int .i64 0], .bool false]) (by simp [results, Try.results11, go_sem]) rfl ?_
    refine hno.out _ ?_ hc.out
    repeat (first | exact Ext.refl _ | refine Ext.setNew ?_ (by simp) _ | refine Ext.alloc ?_ _)
  have hN := Lib.hid h
  have hin : inB bd (-20000) 20000 = true := by unfold inB; exact decide_eq_true (by omega)
  clear h
  go_enter Try.func11, Try.ntmps11
  go_wp2_with fail
  refine (calls_val (within_any _ _ _ _) (congrArg Value.bool hin)).mono ?_
  rintro e w1 ⟨rfl, rfl⟩
  go_wp2_with fail
  go_loopw [19] (fun i wr => ∃ (k : Nat), k ≤ n ∧ i = .int .i64 k ∧ Ext w wr ∧ Hid (Blk wr w.heap.size 26 #[.slice none 0 0, .int .i64 0]) ∧ Hid (smT (ts.take k) = true)) (fun i _ => n - (intOf i).toNat)
  case atStart => exact ⟨0, by omega, rfl, (Ext.refl _).alloc _, Blk.new _ _ _, rfl⟩
  case round =>
    obtain ⟨k, hk, rfl, hE, hB0, hsm⟩ := hrel
    by_cases hlt : k < n
    · obtain ⟨b, off, c, l, rfl, hx, c1, c2⟩ := (hN.out.ext hE).term hlt
      have HX := Lib.hid hx
      clear hx
      have HBX := Lib.hid (Blk.new wr 47 #[.int .i64 c, .int .i64 l])
      have x0 := HBX.out.cell 0
      have x1 := HBX.out.cell 1
      have hB0 := Lib.hid (hB0.out.alloc (.cells #[.int .i64 c, .int .i64 l] 47))
      have hE2 := hE.alloc (.cells #[.int .i64 c, .int .i64 l] 47)
      have hzr := hB0.out.lt
      have r0 := hB0.out.cell 0
      have r1 := hB0.out.cell 1
      have q0 := hB0.out.frozen 0
      have q1 := hB0.out.frozen 1
      by_cases hl : litB l = true
      · have HLt := Lib.hid hl
        by_cases hc12 : -1000 ≤ c ∧ c ≤ 1000
        · have hs2 : Hid (smT (ts.take (k + 1)) = true) := by
            rw [Hid, take_of_get _ _ _ HX.out]
            exact smT_snoc hsm.out hl hc12.1 hc12.2
          have hic : inB c (-1000) 1000 = true := by unfold inB; exact decide_eq_true hc12
          clear hl
          go_wp2_with fail
          refine (calls_val (isLiteral_any l _) (congrArg Value.bool HLt.out)).mono ?_
          rintro e w1 ⟨rfl, rfl⟩
          go_wp2_with fail
          refine (calls_val (within_any _ _ _ _) (congrArg Value.bool hic)).mono ?_
          rintro e w1 ⟨rfl, rfl⟩
          go_wp2
          go_roundw
          case rel => exact ⟨k + 1, by omega, by go_num, hE2, hB0.out, hs2.out⟩
          case measure => simp [intOf]; omega
        · have hc := Lib.hid (nfB_short (bd := bd) (.inr (.inr (.inr (smT_no (List.mem_of_getElem? HX.out) (.inr (by simp only; omega)))))))
          have hic : inB c (-1000) 1000 = false := by unfold inB; exact decide_eq_false hc12
          clear hl
          go_wp2_with fail
          refine (calls_val (isLiteral_any l _) (congrArg Value.bool HLt.out)).mono ?_
          rintro e w1 ⟨rfl, rfl⟩
          go_wp2_with fail
          refine (calls_val (within_any _ _ _ _) (congrArg Value.bool hic)).mono ?_
          rintro e w1 ⟨rfl, rfl⟩
          go_wp2
          refine bodyPost_ret (v := .tuple #[.agg #[.slice none 0 0, .int .i64 0], .bool false]) (by simp [results, Try.results11, go_sem, r0, r1]) rfl ?_
          exact hno.out _ ((hE2.setNew (by simp) _).setNew (by simp) _) hc.out
      · have hl' : litB l = false := by simpa using hl
        have hc := Lib.hid (nfB_short (bd := bd) (.inr (.inr (.inr (smT_no (List.mem_of_getElem? HX.out) (.inl hl'))))))
        have HLf := Lib.hid hl'
        clear hl hl'
        go_wp2_with fail
        refine (calls_val (isLiteral_any l _) (congrArg Value.bool HLf.out)).mono ?_
        rintro e w1 ⟨rfl, rfl⟩
        go_wp2
        refine bodyPost_ret (v := .tuple #[.agg #[.slice none 0 0, .int .i64 0], .bool false]) (by simp [results, Try.results11, go_sem, r0, r1]) rfl ?_
        exact hno.out _ ((hE2.setNew (by simp) _).setNew (by simp) _) hc.out
    · obtain rfl : k = n := by omega
      rw [List.take_of_length_le (by rw [HL.out]; omega)] at hsm
      have HS := Lib.hid (hN.out.ext hE)
      have hl40 : ts.length ≤ 40 := by rw [HL.out]; omega
      obtain ⟨e1, e2⟩ := nf_v (bd := bd) hl40 (by omega) hsm.out
      have HE1 := Lib.hid e1
      have HE2 := Lib.hid e2
      have HE3 := Lib.hid (nfB_small (bd := bd) hl40 (by omega) hsm.out)
      clear e1 e2
      go_wp2_with fail
      refine (normal_any A k cap ts bd _ (by omega) HS.out hsm.out (by omega)).mono ?_
      rintro e w2 ⟨A2, n2, c2, rfl, hl2, hG2, hE2⟩
      have hz1 := hB0.out.lt
      have HB := Lib.hid (hB0.out.ext hE2)
      have HW1 := Lib.hid hE
      have HW2 := Lib.hid (hE.trans hE2)
      have hzz := HB.out.lt
      have r0 := HB.out.cell 0
      have r1 := HB.out.cell 1
      have q0 := HB.out.frozen 0
      have q1 := HB.out.frozen 1
      have HG2 := Lib.hid hG2
      have HL2 := Lib.hid hl2
      clear hE2 hG2 hl2 hE
      go_wp2
      refine bodyPost_ret (v := .tuple #[.agg #[.slice A2 n2 c2, .int .i64 (vD ts bd)], .bool (noB ts bd)]) (by simp [results, Try.results11, go_sem, r0, r1]; try rfl) rfl ?_
      have K : Kept w.heap.size (w.heap.size + 1) w2 _ := ((Kept.refl _ _ w2).setIn (p := ⟨w.heap.size, 0, none⟩) (by simp) (.slice A2 n2 c2)).setIn (p := ⟨w.heap.size, 1, none⟩) (by simp) (.int .i64 (vD ts bd))
      refine RetCB.of_eq ?_ HE1.out HE2.out HE3.out.symm
      exact ⟨A2, n2, c2, rfl, HL2.out, (HG2.out.kept K (by omega)).from_ HW1.out, (HW2.out.setNew (by simp) _).setNew (by simp) _⟩
end Go.Proofs.Ytmbdfnimmjomfaa
