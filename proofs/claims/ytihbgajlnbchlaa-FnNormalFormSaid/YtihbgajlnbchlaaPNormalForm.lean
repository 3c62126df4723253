/- laws.FnNormalForm: for all bytes, the program's NormalForm returns what the reference's returns, a valid constraint that just the values satisfy that satisfy the terms. No condition. -/
import Derived.Test.YtihbgajlnbchlaaRdN
import Derived.Test.YtihbgajlnbchlaaPlNF
import Derived.Test.YtihbgajlnbchlaaNFi2
import Derived.Test.YtihbgajlnbchlaaSameC
import Derived.Test.YtihbgajlnbchlaaEval
import Derived.Test.YtihbgajlnbchlaaOpenY
import Derived.Test.YtihbgajlnbchlaaFacts
namespace Go.Proofs.Ytihbgajlnbchlaa.normalForm
open Go.ChangeShapes Go.WideShapes Go.ChangeAt Go.RowKit
set_option linter.unusedVariables false

set_option maxRecDepth 100000 in
set_option maxHeartbeats 4000000 in
theorem walk (A0 : Option Addr) (n0 cap0 : Nat) (zs0 : List Int) (A1 : Option Addr) (n1 cap1 : Nat) (zs1 : List Int) (w : World) (hn0 : n0 ≤ maxLen) (hc0 : n0 ≤ cap0) (hs0 : Seg w 1 A0 n0 (encY zs0)) (hb0 : bytesB zs0) (hn1 : n1 ≤ maxLen) (hc1 : n1 ≤ cap1) (hs1 : Seg w 1 A1 n1 (encY zs1)) (hb1 : bytesB zs1) :
    Calls Try.prog 8 #[.slice A0 n0 cap0, .slice A1 n1 cap1] w fun e w' => e = .returned (.bool true) ∧ Ext w w' := by
  by_cases hbig : 1048576 < n0
  · clear hs0 hs1
    go_enter Try.func8, Try.ntmps8
    go_wp2
    go_ret
    exact ⟨rfl, Ext.refl _⟩
  by_cases hbig1 : 1048576 < n1
  · clear hs0 hs1
    have hb2 : decide ((1048576 : Int) < (n0 : Int)) = false := decide_eq_false (by omega)
    go_enter Try.func8, Try.ntmps8
    go_wp2
    go_ret
    exact ⟨rfl, Ext.refl _⟩
  have hb2 : decide ((1048576 : Int) < (n0 : Int)) = false := decide_eq_false (by omega)
  have hb3 : decide ((1048576 : Int) < (n1 : Int)) = false := decide_eq_false (by omega)
  go_enter Try.func8, Try.ntmps8
  go_wp2_with fail
  refine (drawNF_any A0 n0 cap0 zs0 _ hn0 hc0 hs0 hb0).mono ?_
  rintro e w1 ⟨A1a, n1a, c1a, vs1a, z1b, rfl, hl1a, hm1a, hg1a, hE1⟩
  have hC1 : Ext w w1 := hE1
  have ze1 := hC1.size
  clear hE1
  have hn1a : n1a ≤ maxLen := by unfold maxLen; omega
  have HL1a := Lib.hid hl1a
  have hG1a := Lib.hid hg1a
  clear hl1a hg1a
  go_wp2_with fail
  refine (drawEval_any A1 n1 cap1 zs1 _ hn1 hc1 (hs1.ext hC1) hb1).mono ?_
  rintro e w2 ⟨A2a, n2a, c2a, ts2a, bd2a, A2b, n2b, c2b, vs2b, rfl, hl2a, hm2a, hl2b, hm2b, hg2a, hg2b, hE2⟩
  have hC2 : Ext w1 w2 := hE2
  have ze2 := hC2.size
  clear hE2
  have hn2a : n2a ≤ maxLen := by unfold maxLen; omega
  have HL2a := Lib.hid hl2a
  have hG2a := Lib.hid hg2a
  clear hl2a hg2a
  have hn2b : n2b ≤ maxLen := by unfold maxLen; omega
  have HL2b := Lib.hid hl2b
  have hG2b := Lib.hid hg2b
  clear hl2b hg2b
  by_cases hv : nfB vs1a z1b = true
  · have HV := Lib.hid hv
    clear hv
    go_wp2_with fail
    refine Calls.mono ((implNF_any A1a n1a c1a vs1a z1b _ hn1a ((hG1a.out.seg.ext hC2).ext ((Ext.refl _).alloc _)) ).mono fun _ _ h => h.of_eq (nfT_of HV.out) (nfD_of HV.out) HV.out) ?_
    rintro e w3 ⟨A3, n3, c3, rfl, hl3, hg3, hE3⟩
    have hC3 : Ext w2 w3 := ((Ext.refl _).alloc _).trans hE3
    have ze3 := hC3.size
    have B_x0 := Lib.hid (Blk.of1 hE3)
    have zb_x0 := B_x0.out.lt
    clear hE3
    have hG3 := Lib.hid hg3
    have HL3 := Lib.hid hl3
    have hs3 : n3 ≤ 1048576 := (by rw [← hl3]; exact by rw [← (nfT_of HV.out)]; exact nfT_len vs1a z1b)
    have hn3 : n3 ≤ maxLen := (Nat.le_trans hs3 (by unfold maxLen; omega))
    clear hg3 hl3
    go_wp2_with fail
    refine Calls.mono ((specNF_any A1a n1a c1a vs1a z1b _ hn1a ((hG1a.out.seg.ext (hC2.trans hC3)).ext ((Ext.refl _).alloc _)) ).mono fun _ _ h => h.of_eq (nfT_of HV.out) (nfD_of HV.out) HV.out) ?_
    rintro e w4 ⟨A4, n4, c4, rfl, hl4, hg4, hE4⟩
    have hC4 : Ext w3 w4 := ((Ext.refl _).alloc _).trans hE4
    have ze4 := hC4.size
    have B_x1 := Lib.hid (Blk.of1 hE4)
    have zb_x1 := B_x1.out.lt
    clear hE4
    have hG4 := Lib.hid hg4
    have HL4 := Lib.hid hl4
    have hs4 : n4 ≤ 1048576 := (by rw [← hl4]; exact by rw [← (nfT_of HV.out)]; exact nfT_len vs1a z1b)
    have hn4 : n4 ≤ maxLen := (Nat.le_trans hs4 (by unfold maxLen; omega))
    clear hg4 hl4
    by_cases h12 : n2b = 12
    · have HL12 := Lib.hid (show vs2b.length = 12 by rw [HL2b.out]; exact h12)
      subst h12
      have L_x1 := B_x1.out
      have c_x1_0 := L_x1.cell 0
      have c_x1_1 := L_x1.cell 1
      have l_x1 := L_x1.lt
      clear L_x1
      go_wp2_with fail
      refine (calls_val (implCS2 A3 n3 c3 (noT vs1a) (noD vs1a z1b) A4 n4 c4 (noT vs1a) (noD vs1a z1b) _ hn3 ((hG3.out.seg.ext hC4).ext ((Ext.refl _).alloc _)) hn4 (hG4.out.seg.ext ((Ext.refl _).alloc _))) (congrArg Value.bool (cEq_self _ _))).mono ?_
      rintro e w5 ⟨rfl, hE5⟩
      have hC5 : Ext w4 w5 := ((Ext.refl _).alloc _).trans hE5
      have ze5 := hC5.size
      have B_x2 := Lib.hid (Blk.of1 hE5)
      have zb_x2 := B_x2.out.lt
      clear c_x1_0 c_x1_1 l_x1
      clear hE5
      obtain ⟨_, hbz, hsm, _⟩ := nfB_parts HV.out
      have hl40 : vs1a.length ≤ 40 := (nfB_parts HV.out).1
      have HM := Lib.hid hsm
      have S5 := Lib.hid (hG1a.out.seg.ext (((hC2.trans hC3).trans hC4).trans hC5))
      have S8 := Lib.hid (hG2b.out.seg.ext ((hC3.trans hC4).trans hC5))
      have E0 := Lib.hid ((((hC1.trans hC2).trans hC3).trans hC4).trans hC5)
      have hsb : Hid (∀ k, -40000 ≤ sumV vs2b (vs1a.take k) ∧ sumV vs2b (vs1a.take k) ≤ 40000) := fun k => by
        have := sum_bd (ts := vs1a.take k) (fun t => if litV vs2b t.2 = true then t.1 else 0) fun t ht => by
          have := smT_at (smT_take HM.out k) t ht
          split <;> omega
        have hlk : (vs1a.take k).length ≤ 40 := by rw [List.length_take]; omega
        unfold sumV; omega
      clear hsm
      go_wp2_with fail
      go_loopw [13, 14] (fun s i W => ∃ (k : Nat) (z : Int), k ≤ n1a ∧ i = .int .i64 k ∧ s = .int .i64 z ∧ z = sumV vs2b (vs1a.take k) ∧ Ext w5 W) (fun _ i _ => n1a - (intOf i).toNat)
      case atStart => exact ⟨0, 0, by omega, rfl, rfl, rfl, Ext.refl _⟩
      case round =>
        obtain ⟨k, z, hk, rfl, rfl, hz, hE⟩ := hrel
        have hzb := hsb.out k
        rw [← hz] at hzb
        have HZ := Lib.hid hz
        clear hz
        by_cases hlt : k < n1a
        · obtain ⟨b, off, c, l, rfl, hx, t1, t2⟩ := (S5.out.ext hE).term hlt
          have HT := Lib.hid (take_of_get _ _ _ hx)
          have hsm := smT_at HM.out _ (List.mem_of_getElem? hx)
          obtain ⟨m, hm, hlm⟩ := lit_cases hsm.1
          obtain ⟨hc0, hc1⟩ := hsm.2
          simp only at hc0 hc1 hlm
          obtain ⟨b', off', x, rfl, hx', t3⟩ := (S8.out.ext hE).bool hm
          have HB := Lib.hid hx'
          have k0 : (0 : Int) ≤ (m : Int) := Int.natCast_nonneg _
          have k1 : (m : Int) < 12 := by omega
          have k2 : (m : Int) + 1 - 1 = (m : Int) := by omega
          clear hx hsm hx'
          rcases hlm with rfl | rfl
          · cases x
            · skip
              have hb : litV vs2b ((m : Int) + 1) = false := by rw [litV_pos vs2b m _ HB.out]
              have hs : sumV vs2b (vs1a.take (k + 1)) = z := by rw [HT.out, sumV_snoc, ← HZ.out]; simp only; rw [hb]; simp
              have HS := Lib.hid hs
              clear hb hs
              have sg : (0 : Int) < (m : Int) + 1 := by omega
              have sg2 : ¬ ((m : Int) + 1 < 0) := by omega
              go_wp2
              go_roundw
              case rel => exact ⟨k + 1, z, by omega, by go_num, rfl, HS.out.symm, hE⟩
              case measure => simp [intOf]; omega
            · skip
              have hb : litV vs2b ((m : Int) + 1) = true := by rw [litV_pos vs2b m _ HB.out]
              have hs : sumV vs2b (vs1a.take (k + 1)) = z + c := by rw [HT.out, sumV_snoc, ← HZ.out]; simp only; rw [hb]; simp
              have HS := Lib.hid hs
              clear hb hs
              have sg : (0 : Int) < (m : Int) + 1 := by omega
              have sg2 : ¬ ((m : Int) + 1 < 0) := by omega
              have hw : IntKind.i64.wrap (z + c) = z + c := IntWalk.i64_in _ (by omega)
              go_wp2
              go_roundw
              case rel => exact ⟨k + 1, z + c, by omega, by go_num, rfl, HS.out.symm, hE⟩
              case measure => simp [intOf]; omega
          · cases x
            · skip
              have hb : litV vs2b (-((m : Int) + 1)) = true := by rw [litV_neg vs2b m _ HB.out]; rfl
              have hs : sumV vs2b (vs1a.take (k + 1)) = z + c := by rw [HT.out, sumV_snoc, ← HZ.out]; simp only; rw [hb]; simp
              have HS := Lib.hid hs
              clear hb hs
              have sg : ¬ ((0 : Int) < -((m : Int) + 1)) := by omega
              have sg2 : -((m : Int) + 1) < 0 := by omega
              have hw : IntKind.i64.wrap (z + c) = z + c := IntWalk.i64_in _ (by omega)
              go_wp2
              go_roundw
              case rel => exact ⟨k + 1, z + c, by omega, by go_num, rfl, HS.out.symm, hE⟩
              case measure => simp [intOf]; omega
            · skip
              have hb : litV vs2b (-((m : Int) + 1)) = false := by rw [litV_neg vs2b m _ HB.out]; rfl
              have hs : sumV vs2b (vs1a.take (k + 1)) = z := by rw [HT.out, sumV_snoc, ← HZ.out]; simp only; rw [hb]; simp
              have HS := Lib.hid hs
              clear hb hs
              have sg : ¬ ((0 : Int) < -((m : Int) + 1)) := by omega
              have sg2 : -((m : Int) + 1) < 0 := by omega
              go_wp2
              go_roundw
              case rel => exact ⟨k + 1, z, by omega, by go_num, rfl, HS.out.symm, hE⟩
              case measure => simp [intOf]; omega
        · obtain rfl : k = n1a := by omega
          have HZ2 : Hid (z = sumV vs2b vs1a) := by rw [Hid, HZ.out, List.take_of_length_le (by rw [HL1a.out]; exact Nat.le_refl _)]
          have HCV : Hid (cvB (noT vs1a) (noD vs1a z1b) = true) := (nfB_parts HV.out).2.2.2
          have HEV : Hid (evB (noT vs1a) (noD vs1a z1b) vs2b = decide (z1b ≤ z)) := by rw [Hid, nf_eval HL12.out HM.out (nfB_parts HV.out).2.2.2, HZ2.out]
          by_cases hge : z1b ≤ z
          · have d0 : decide (z1b ≤ z) = true := decide_eq_true hge
            rw [d0] at HEV
            have hC6 : Ext w5 wr := hE
            have ze6 := hC6.size
            have L_x1 := (B_x1.out.ext (hC5.trans hC6))
            have c_x1_0 := L_x1.cell 0
            have c_x1_1 := L_x1.cell 1
            clear L_x1
            go_wp2_with fail
            refine (calls_val (implCV_any A3 n3 c3 (noT vs1a) (noD vs1a z1b) _ hn3 (hG3.out.seg.ext ((hC4.trans hC5).trans hC6))) (congrArg Value.bool HCV.out)).mono ?_
            rintro e w7 ⟨rfl, hE7⟩
            have hC7 : Ext wr w7 := hE7
            have ze7 := hC7.size
            clear c_x1_0 c_x1_1
            clear hE7
            have L_x1 := (B_x1.out.ext ((hC5.trans hC6).trans hC7))
            have c_x1_0 := L_x1.cell 0
            have c_x1_1 := L_x1.cell 1
            clear L_x1
            go_wp2_with fail
            refine (calls_val (implEV_any A3 n3 c3 (noT vs1a) (noD vs1a z1b) A2b 12 c2b vs2b _ hn3 (hG3.out.seg.ext (((hC4.trans hC5).trans hC6).trans hC7)) hn2b (hG2b.out.seg.ext ((((hC3.trans hC4).trans hC5).trans hC6).trans hC7))) (congrArg Value.bool HEV.out)).mono ?_
            rintro e w8 ⟨rfl, hE8⟩
            have hC8 : Ext w7 w8 := hE8
            have ze8 := hC8.size
            clear c_x1_0 c_x1_1
            clear hE8
            go_wp2
            go_ret
            exact ⟨rfl, (((((((hC1.trans hC2).trans hC3).trans hC4).trans hC5).trans hC6).trans hC7).trans hC8)⟩
          · have d0 : decide (z1b ≤ z) = false := decide_eq_false hge
            rw [d0] at HEV
            have hC6 : Ext w5 wr := hE
            have ze6 := hC6.size
            have L_x1 := (B_x1.out.ext (hC5.trans hC6))
            have c_x1_0 := L_x1.cell 0
            have c_x1_1 := L_x1.cell 1
            clear L_x1
            go_wp2_with fail
            refine (calls_val (implCV_any A3 n3 c3 (noT vs1a) (noD vs1a z1b) _ hn3 (hG3.out.seg.ext ((hC4.trans hC5).trans hC6))) (congrArg Value.bool HCV.out)).mono ?_
            rintro e w7 ⟨rfl, hE7⟩
            have hC7 : Ext wr w7 := hE7
            have ze7 := hC7.size
            clear c_x1_0 c_x1_1
            clear hE7
            have L_x1 := (B_x1.out.ext ((hC5.trans hC6).trans hC7))
            have c_x1_0 := L_x1.cell 0
            have c_x1_1 := L_x1.cell 1
            clear L_x1
            go_wp2_with fail
            refine (calls_val (implEV_any A3 n3 c3 (noT vs1a) (noD vs1a z1b) A2b 12 c2b vs2b _ hn3 (hG3.out.seg.ext (((hC4.trans hC5).trans hC6).trans hC7)) hn2b (hG2b.out.seg.ext ((((hC3.trans hC4).trans hC5).trans hC6).trans hC7))) (congrArg Value.bool HEV.out)).mono ?_
            rintro e w8 ⟨rfl, hE8⟩
            have hC8 : Ext w7 w8 := hE8
            have ze8 := hC8.size
            clear c_x1_0 c_x1_1
            clear hE8
            go_wp2
            go_ret
            exact ⟨rfl, (((((((hC1.trans hC2).trans hC3).trans hC4).trans hC5).trans hC6).trans hC7).trans hC8)⟩
    · have hne : ((n2b : Int) != 12) = true := by simp; omega
      clear h12
      have L_x1 := B_x1.out
      have c_x1_0 := L_x1.cell 0
      have c_x1_1 := L_x1.cell 1
      have l_x1 := L_x1.lt
      clear L_x1
      go_wp2_with fail
      refine (calls_val (implCS2 A3 n3 c3 (noT vs1a) (noD vs1a z1b) A4 n4 c4 (noT vs1a) (noD vs1a z1b) _ hn3 ((hG3.out.seg.ext hC4).ext ((Ext.refl _).alloc _)) hn4 (hG4.out.seg.ext ((Ext.refl _).alloc _))) (congrArg Value.bool (cEq_self _ _))).mono ?_
      rintro e w5 ⟨rfl, hE5⟩
      have hC5 : Ext w4 w5 := ((Ext.refl _).alloc _).trans hE5
      have ze5 := hC5.size
      have B_x2 := Lib.hid (Blk.of1 hE5)
      have zb_x2 := B_x2.out.lt
      clear c_x1_0 c_x1_1 l_x1
      clear hE5
      have L_x1 := (B_x1.out.ext hC5)
      have c_x1_0 := L_x1.cell 0
      have c_x1_1 := L_x1.cell 1
      clear L_x1
      have L_x2 := B_x2.out
      have c_x2_0 := L_x2.cell 0
      have c_x2_1 := L_x2.cell 1
      clear L_x2
      go_wp2_with fail
      refine (calls_val (implCS2 A3 n3 c3 (noT vs1a) (noD vs1a z1b) A4 n4 c4 (noT vs1a) (noD vs1a z1b) _ hn3 (hG3.out.seg.ext (hC4.trans hC5)) hn4 (hG4.out.seg.ext hC5)) (congrArg Value.bool (cEq_self _ _))).mono ?_
      rintro e w6 ⟨rfl, hE6⟩
      have hC6 : Ext w5 w6 := hE6
      have ze6 := hC6.size
      clear c_x1_0 c_x1_1 c_x2_0 c_x2_1
      clear hE6
      go_wp2
      go_ret
      exact ⟨rfl, (((((hC1.trans hC2).trans hC3).trans hC4).trans hC5).trans hC6)⟩
  · have HV := Lib.hid (show nfB vs1a z1b = false by simpa using hv)
    clear hv
    go_wp2_with fail
    refine Calls.mono ((implNF_any A1a n1a c1a vs1a z1b _ hn1a ((hG1a.out.seg.ext hC2).ext ((Ext.refl _).alloc _)) ).mono fun _ _ h => h.of_eq (nfT_no HV.out) (nfD_no HV.out) HV.out) ?_
    rintro e w3 ⟨A3, n3, c3, rfl, hl3, hg3, hE3⟩
    have hC3 : Ext w2 w3 := ((Ext.refl _).alloc _).trans hE3
    have ze3 := hC3.size
    have B_x0 := Lib.hid (Blk.of1 hE3)
    have zb_x0 := B_x0.out.lt
    clear hE3
    have hG3 := Lib.hid hg3
    have HL3 := Lib.hid hl3
    have hs3 : n3 ≤ 1048576 := (by rw [← hl3]; exact by rw [← (nfT_no HV.out)]; exact nfT_len vs1a z1b)
    have hn3 : n3 ≤ maxLen := (Nat.le_trans hs3 (by unfold maxLen; omega))
    clear hg3 hl3
    go_wp2_with fail
    refine Calls.mono ((specNF_any A1a n1a c1a vs1a z1b _ hn1a ((hG1a.out.seg.ext (hC2.trans hC3)).ext ((Ext.refl _).alloc _)) ).mono fun _ _ h => h.of_eq (nfT_no HV.out) (nfD_no HV.out) HV.out) ?_
    rintro e w4 ⟨A4, n4, c4, rfl, hl4, hg4, hE4⟩
    have hC4 : Ext w3 w4 := ((Ext.refl _).alloc _).trans hE4
    have ze4 := hC4.size
    have B_x1 := Lib.hid (Blk.of1 hE4)
    have zb_x1 := B_x1.out.lt
    clear hE4
    have hG4 := Lib.hid hg4
    have HL4 := Lib.hid hl4
    have hs4 : n4 ≤ 1048576 := (by rw [← hl4]; exact by rw [← (nfT_no HV.out)]; exact nfT_len vs1a z1b)
    have hn4 : n4 ≤ maxLen := (Nat.le_trans hs4 (by unfold maxLen; omega))
    clear hg4 hl4
    have L_x1 := B_x1.out
    have c_x1_0 := L_x1.cell 0
    have c_x1_1 := L_x1.cell 1
    have l_x1 := L_x1.lt
    clear L_x1
    go_wp2_with fail
    refine (calls_val (implCS2 A3 n3 c3 ([]) 0 A4 n4 c4 ([]) 0 _ hn3 ((hG3.out.seg.ext hC4).ext ((Ext.refl _).alloc _)) hn4 (hG4.out.seg.ext ((Ext.refl _).alloc _))) (congrArg Value.bool (cEq_self _ _))).mono ?_
    rintro e w5 ⟨rfl, hE5⟩
    have hC5 : Ext w4 w5 := ((Ext.refl _).alloc _).trans hE5
    have ze5 := hC5.size
    have B_x2 := Lib.hid (Blk.of1 hE5)
    have zb_x2 := B_x2.out.lt
    clear c_x1_0 c_x1_1 l_x1
    clear hE5
    have L_x1 := (B_x1.out.ext hC5)
    have c_x1_0 := L_x1.cell 0
    have c_x1_1 := L_x1.cell 1
    clear L_x1
    have L_x2 := B_x2.out
    have c_x2_0 := L_x2.cell 0
    have c_x2_1 := L_x2.cell 1
    clear L_x2
    go_wp2_with fail
    refine (calls_val (implCS2 A3 n3 c3 ([]) 0 A4 n4 c4 ([]) 0 _ hn3 (hG3.out.seg.ext (hC4.trans hC5)) hn4 (hG4.out.seg.ext hC5)) (congrArg Value.bool (cEq_self _ _))).mono ?_
    rintro e w6 ⟨rfl, hE6⟩
    have hC6 : Ext w5 w6 := hE6
    have ze6 := hC6.size
    clear c_x1_0 c_x1_1 c_x2_0 c_x2_1
    clear hE6
    go_wp2
    go_ret
    exact ⟨rfl, (((((hC1.trans hC2).trans hC3).trans hC4).trans hC5).trans hC6)⟩

theorem own : ownKnob Try.prog.godebug = none := by kernel_rfl
theorem laidOut : laidOutB Try.prog = true := by kernel_rfl

set_option maxRecDepth 100000 in
theorem lifted (os : Os) (started : os.Started) (H : Type) (enc : TypeId × Value → H) :
    ReturnsInHanded {} Try.checked os 8 .any (Rows.fnNormalFormSpec.pre6 enc Try.prog Try.f8 Rows.fnNormalFormRow.domain false) (Rows.fnNormalFormSpec.post enc Try.prog Try.f8 false true false false) := by
  refine returnsInHanded_of_change (C := Try.checked) own started (by kernel_rfl) Try.func8
    (ChangeSpec.witness6 (enc := enc) (C := Try.checked) false ⟨#[], #[.slice none 0 0, .slice none 0 0], []⟩ 8 (by kernel_rfl) (by kernel_rfl) (by kernel_rfl) (by kernel_rfl)) ?_
  intro W base args ds gs before hval0 hW hcnd _
  have hval : ∀ (j : Nat) t v, Try.f8.params[j]? = some t → args[j]? = some v → Value.okWide Try.prog W .any base t v := hval0
  have hW' := hW
  obtain ⟨p, q, hA0, hV, rfl, hfz, hnd⟩ := hW
  have hA : DataW.TrodAll enc Try.prog W 0 (fun _ => true) true Try.f8.params.toList args.toList ds p := hA0
  rw [Try.params8] at hA hval
  obtain ⟨v0, vs0, d0, ds0, p0, q0, hargs, rfl, rfl, h0, r0⟩ := trodAll_cons hA
  obtain ⟨v1, vs1, d1, ds1, p1, q1, rfl, rfl, rfl, h1, r1⟩ := trodAll_cons r0
  obtain ⟨rfl, rfl, rfl⟩ := trodAll_nil r1
  obtain rfl : args = #[v0, v1] := by cases args; simp_all
  obtain ⟨rfl, rfl⟩ := trodVars_none hV
  have k0 := h0
  have lt0 : ∀ x ∈ p0, x.block < W.heap.size := by obtain ⟨m, hm⟩ := k0; exact DataW.trod_lt m _ _ _ hm
  obtain ⟨A0, n0, cap0, zs0, rfl, hn0, hc0, hs0, hb0⟩ := arg_bytes (hval 0 22 v0 rfl rfl) h0
  have k1 := h1
  have lt1 : ∀ x ∈ p1, x.block < W.heap.size := by obtain ⟨m, hm⟩ := k1; exact DataW.trod_lt m _ _ _ hm
  obtain ⟨A1, n1, cap1, zs1, rfl, hn1, hc1, hs1, hb1⟩ := arg_bytes (hval 1 22 v1 rfl rfl) h1
  clear hA0 hval0
  refine (walk A0 n0 cap0 zs0 A1 n1 cap1 zs1 W hn0 hc0 hs0 hb0 hn1 hc1 hs1 hb1).mono fun e W' ⟨he, ext⟩ => ?_
  subst he
  have bel := ext.below
  exact ⟨_, rfl, _, _, _, [], _, [], hW', trodAll_mk1 (shut_bool Try.underlying4 _), (trodAll_cons_mk (Below.trod laidOut (by kernel_rfl) (of_decide_eq_true (by kernel_rfl)) k0 bel lt0) (trodAll_cons_mk (Below.trod laidOut (by kernel_rfl) (of_decide_eq_true (by kernel_rfl)) k1 bel lt1) trodAll_mk0)), rfl, bel.frame _, fun h => by cases h⟩

set_option maxHeartbeats 4000000 in
theorem joined : joinedFacts Try.pinned.checked.prog 8 Try.f8 Rows.fnNormalFormSpec Rows.fnNormalFormRow = true := by
  unfold joinedFacts
  exact (and2 (and2 (and2 (and2 (and2 (and2 (and2 (and2 (and2 (and2 (and2 (and2 (and2 (and2 (and2 (and2 (and2 (and2 (and2 (and2 (and2 (and2 (and2 (and2 (and2 (and2 (and2 (and2 (and2 (and2 (and2 (by as_aux_lemma => kernel_rfl) (by as_aux_lemma => kernel_rfl)) (by as_aux_lemma => kernel_rfl)) (by as_aux_lemma => kernel_rfl)) (by as_aux_lemma => kernel_rfl)) (by as_aux_lemma => kernel_rfl)) (by as_aux_lemma => kernel_rfl)) (by as_aux_lemma => kernel_rfl)) (by as_aux_lemma => kernel_rfl)) (by as_aux_lemma => kernel_rfl)) (by as_aux_lemma => kernel_rfl)) (by as_aux_lemma => kernel_rfl)) (by as_aux_lemma => kernel_rfl)) (by as_aux_lemma => kernel_rfl)) (by as_aux_lemma => kernel_rfl)) (by as_aux_lemma => kernel_rfl)) (by as_aux_lemma => kernel_rfl)) (by as_aux_lemma => kernel_rfl)) (by as_aux_lemma => kernel_rfl)) (by as_aux_lemma => kernel_rfl)) (by as_aux_lemma => kernel_rfl)) (by as_aux_lemma => kernel_rfl)) (by as_aux_lemma => kernel_rfl)) (by as_aux_lemma => kernel_rfl)) (by as_aux_lemma => kernel_rfl)) jEnter) jLift) jMake) (by as_aux_lemma => kernel_rfl)) (by as_aux_lemma => kernel_rfl)) (by as_aux_lemma => kernel_rfl)) (by as_aux_lemma => kernel_rfl))

set_option maxHeartbeats 4000000 in
theorem over : Rows.fnNormalFormRow.holds Try.pinned (OpenSpec.ofChange Rows.fnNormalFormSpec) :=
  OpenClaim.holds_of_wide 8 Try.f8 rfl rfl rfl rfl rfl rfl rfl ⟨rfl, rfl, rfl, rfl, rfl⟩ rfl rfl rfl rfl rfl (by kernel_rfl) Try.func8 joined
    (of_decide_eq_true (by kernel_rfl)) (by unfold Func.isWrapper; first | (rw [if_pos (by decide +kernel)]; kernel_rfl) | (rw [if_neg (by decide +kernel)]; exact ⟨rfl, rfl⟩))
    (fun os started H enc _ => lifted os started H enc)

theorem proved : Rows.FnNormalFormSaid := over

end Go.Proofs.Ytihbgajlnbchlaa.normalForm
