/- laws.FnEvalConstraint: for all bytes, the program's EvalConstraint answers as the reference's, and making a literal false satisfies nothing that was not satisfied. No condition. -/
import Derived.Test.YtpkglggomiklcaaRdV
import Derived.Test.YtpkglggomiklcaaPlE
import Derived.Test.YtpkglggomiklcaaApp
import Derived.Test.YtpkglggomiklcaaOpenY
namespace Go.Proofs.Ytpkglggomiklcaa.evalConstraint
open Go.ChangeShapes Go.WideShapes Go.ChangeAt Go.RowKit
set_option linter.unusedVariables false

set_option maxRecDepth 100000 in
set_option maxHeartbeats 4000000 in
theorem walk (A0 : Option Addr) (n0 cap0 : Nat) (zs0 : List Int) (A1 : Option Addr) (n1 cap1 : Nat) (zs1 : List Int) (w : World) (hn0 : n0 ≤ maxLen) (hc0 : n0 ≤ cap0) (hs0 : Seg w 1 A0 n0 (encY zs0)) (hb0 : bytesB zs0) (hn1 : n1 ≤ maxLen) (hc1 : n1 ≤ cap1) (hs1 : Seg w 1 A1 n1 (encY zs1)) (hb1 : bytesB zs1) :
    Calls Try.prog 8 #[.slice A0 n0 cap0, .slice A1 n1 cap1] w fun e w' => e = .returned (.bool true) ∧ Ext w w' := by
  by_cases hbig : 1048576 < n0
  · clear hs0 hs1
    go_enter Try.func8, Try.ntmps8
    go_wp2
    go_ret
    exact ⟨rfl, Ext.refl _⟩
  by_cases hbig1 : 1048576 < n1
  · clear hs0 hs1
    have hb2 : decide ((1048576 : Int) < (n0 : Int)) = false := decide_eq_false (by omega)
    go_enter Try.func8, Try.ntmps8
    go_wp2
    go_ret
    exact ⟨rfl, Ext.refl _⟩
  have hb2 : decide ((1048576 : Int) < (n0 : Int)) = false := decide_eq_false (by omega)
  have hb3 : decide ((1048576 : Int) < (n1 : Int)) = false := decide_eq_false (by omega)
  go_enter Try.func8, Try.ntmps8
  go_wp2_with fail
  refine (drawEval_any A0 n0 cap0 zs0 _ hn0 hc0 hs0 hb0).mono ?_
  rintro e w1 ⟨A1a, n1a, c1a, ts1a, bd1a, A1b, n1b, c1b, vs1b, rfl, hl1a, hm1a, hl1b, hm1b, hg1a, hg1b, hE1⟩
  have hC1 : Ext w w1 := hE1
  have ze1 := hC1.size
  clear hE1
  have hn1a : n1a ≤ maxLen := by unfold maxLen; omega
  have HL1a := Lib.hid hl1a
  have hG1a := Lib.hid hg1a
  clear hl1a hg1a
  have hn1b : n1b ≤ maxLen := by unfold maxLen; omega
  have HL1b := Lib.hid hl1b
  have hG1b := Lib.hid hg1b
  clear hl1b hg1b
  by_cases hev : evB ts1a bd1a vs1b = true
  · have HE := Lib.hid hev
    clear hev
    go_wp2_with fail
    refine (calls_val (implEV_any A1a n1a c1a ts1a bd1a A1b n1b c1b vs1b _ hn1a (hG1a.out.seg.ext ((Ext.refl _).alloc _)) hn1b (hG1b.out.seg.ext ((Ext.refl _).alloc _))) (congrArg Value.bool HE.out)).mono ?_
    rintro e w2 ⟨rfl, hE2⟩
    have hC2 : Ext w1 w2 := ((Ext.refl _).alloc _).trans hE2
    have ze2 := hC2.size
    have B_x0 := Lib.hid (Blk.of1 hE2)
    have zb_x0 := B_x0.out.lt
    clear hE2
    have L_x0 := B_x0.out
    have c_x0_0 := L_x0.cell 0
    have c_x0_1 := L_x0.cell 1
    clear L_x0
    go_wp2_with fail
    refine (calls_val (specEV_any A1a n1a c1a ts1a bd1a A1b n1b c1b vs1b _ hn1a (hG1a.out.seg.ext hC2) hn1b (hG1b.out.seg.ext hC2)) (congrArg Value.bool HE.out)).mono ?_
    rintro e w3 ⟨rfl, hE3⟩
    have hC3 : Ext w2 w3 := hE3
    have ze3 := hC3.size
    clear c_x0_0 c_x0_1
    clear hE3
    have L_x0 := (B_x0.out.ext hC3)
    have c_x0_0 := L_x0.cell 0
    have c_x0_1 := L_x0.cell 1
    clear L_x0
    go_wp2_with fail
    refine (calls_val (specEV_any A1a n1a c1a ts1a bd1a A1b n1b c1b vs1b _ hn1a (hG1a.out.seg.ext (hC2.trans hC3)) hn1b (hG1b.out.seg.ext (hC2.trans hC3))) (congrArg Value.bool HE.out)).mono ?_
    rintro e w4 ⟨rfl, hE4⟩
    have hC4 : Ext w3 w4 := hE4
    have ze4 := hC4.size
    clear c_x0_0 c_x0_1
    clear hE4
    go_wp2
    go_ret
    exact ⟨rfl, (((hC1.trans hC2).trans hC3).trans hC4)⟩
  · have HE := Lib.hid (show evB ts1a bd1a vs1b = false by simpa using hev)
    clear hev
    by_cases hv : cvB ts1a bd1a = true
    · have HV := Lib.hid hv
      clear hv
      by_cases h12 : n1b = 12
      · subst h12
        by_cases hn0' : 0 < n1a
        · have hne : ((n1a : Int) == 0) = false := by simp; omega
          go_wp2_with fail
          refine (calls_val (implEV_any A1a n1a c1a ts1a bd1a A1b 12 c1b vs1b _ hn1a (hG1a.out.seg.ext ((Ext.refl _).alloc _)) hn1b (hG1b.out.seg.ext ((Ext.refl _).alloc _))) (congrArg Value.bool HE.out)).mono ?_
          rintro e w2 ⟨rfl, hE2⟩
          have hC2 : Ext w1 w2 := ((Ext.refl _).alloc _).trans hE2
          have ze2 := hC2.size
          have B_x0 := Lib.hid (Blk.of1 hE2)
          have zb_x0 := B_x0.out.lt
          clear hE2
          have L_x0 := B_x0.out
          have c_x0_0 := L_x0.cell 0
          have c_x0_1 := L_x0.cell 1
          clear L_x0
          go_wp2_with fail
          refine (calls_val (specEV_any A1a n1a c1a ts1a bd1a A1b 12 c1b vs1b _ hn1a (hG1a.out.seg.ext hC2) hn1b (hG1b.out.seg.ext hC2)) (congrArg Value.bool HE.out)).mono ?_
          rintro e w3 ⟨rfl, hE3⟩
          have hC3 : Ext w2 w3 := hE3
          have ze3 := hC3.size
          clear c_x0_0 c_x0_1
          clear hE3
          have L_x0 := (B_x0.out.ext hC3)
          have c_x0_0 := L_x0.cell 0
          have c_x0_1 := L_x0.cell 1
          clear L_x0
          go_wp2_with fail
          refine (calls_val (implCV_any A1a n1a c1a ts1a bd1a _ hn1a (hG1a.out.seg.ext (hC2.trans hC3))) (congrArg Value.bool HV.out)).mono ?_
          rintro e w4 ⟨rfl, hE4⟩
          have hC4 : Ext w3 w4 := hE4
          have ze4 := hC4.size
          clear c_x0_0 c_x0_1
          clear hE4
          have HN0 := Lib.hid hn0'
          obtain ⟨k, hk, hkn⟩ : ∃ k, n1 % n1a = k ∧ k < n1a := ⟨_, rfl, Nat.mod_lt _ hn0'⟩
          have hS := (hG1a.out.seg.ext ((hC2.trans hC3).trans hC4))
          obtain ⟨b, off, cf, l, rfl, hx, t1, t2⟩ := hS.term hkn
          have HX := Lib.hid hx
          have hlit := cvB_lit HV.out _ (List.mem_of_getElem? hx)
          have HEK : Hid ((n1 : Int) % (n1a : Int) = (k : Int)) := by rw [← hk]; rfl
          have k0 : (0 : Int) ≤ (k : Int) := Int.natCast_nonneg _
          have k1 : (k : Int) < (n1a : Int) := by omega
          clear hx hk hS
          have hek := HEK.out
          have b0 := (B_x0.out.ext (hC3.trans hC4)).cell 0
          go_wp2_with fail
          go_quiet (fail)
          clear hek b0
          obtain ⟨i0, hi, hz0, hz1, hz2⟩ := info_parts Try.infoBoR
          have HI := Lib.hid hi
          have HZ0 := Lib.hid hz0
          have HZ1 := Lib.hid hz1
          have HZ2 := Lib.hid hz2
          clear hi hz0 hz1 hz2
          have OE := own_empty w4 w4.heap.size 4 1 (Nat.le_refl _)
          have SV := Lib.hid (((hG1b.out.seg.ext ((hC2.trans hC3).trans hC4)).alloc (.cells #[] 4)).drewN nq)
          obtain ⟨m, hm, hl | hl⟩ := lit_cases hlit
          · try simp only at hl
            subst hl
            have m0 : (0 : Int) ≤ (m : Int) := Int.natCast_nonneg _
            have m1 : (m : Int) < 12 := by omega
            have sg : (0 : Int) < (m : Int) + 1 := by omega
            have WE := worse_ev HV.out (by rw [HL1b.out]) HE.out _ (List.mem_of_getElem? HX.out)
            rw [worseV_pos] at WE
            have HWE := Lib.hid WE
            clear WE hlit
            go_wp2_with (first
              | (at_builtin
                 refine wpList_append_seg _ rfl (.tmp 66) (.tmp 67) 32 rfl w4.heap.size 4 i0 _ 1 1 Try.underlying32 HI.out HZ0.out HZ1.out HZ2.out rfl (by omega) _ 0 [] rfl (own_ext_keep OE ((Ext.refl _).drewN nq)) A1b 12 c1b (encB vs1b) rfl SV.out (oneCB _) ?_ ?_ ?_ ?_
                 (unfold maxLen; omega)
                 omega
                 (first | exact Nat.le_refl _ | simp)
                 (intro A9 c9 w9 hown9 hg9)
                 (have P9 := own_parts (show w9.ownsRow w4.heap.size 4 1 (.slice A9 12 c9) 12 (encB vs1b) from (by simpa using hown9)))
                 (obtain ⟨b9, off9, x9, rfl, hx9, q9⟩ := P9.1.bool hm)
                 (have f9 := P9.2.1 b9 off9 rfl m (by omega))
                 (have hb9 : w4.heap.size ≤ b9 := (P9.2.2 (by omega) _ rfl).1)
                 (have E9 : Hid (Ext w4 (w9.setCell ⟨b9, off9 + m, none⟩ (.bool false))) := ((((Ext.refl w4).alloc _).drewN nq).grown hg9 (fun k hk => Nat.le_of_eq (Option.some.inj hk))).setNew (show w4.heap.size ≤ b9 from hb9) _)
                 (have S9 := Lib.hid (P9.1.setAt (i := m) (by rw [P9.1.1]; omega) (.bool false)))
                 (have HK9 := Lib.hid ((B_x0.out.ext ((hC3.trans hC4).trans E9.out))))
                 (have d0 := HK9.out.cell 0)
                 (have d1 := HK9.out.cell 1)
                 (clear hx9 P9 hown9 hg9 OE)))
            have e9 : (encB vs1b).set m (.bool false) = encB (vs1b.set m false) := by simp [encB, List.map_set]
            rw [e9] at S9
            clear e9
            refine (calls_val (implEV_any (some ⟨b, off, none⟩) n1a c1a ts1a bd1a (some ⟨b9, off9, none⟩) 12 c9 (vs1b.set m false) _ hn1a (hG1a.out.seg.ext (((hC2.trans hC3).trans hC4).trans E9.out)) (by unfold maxLen; omega) S9.out) (congrArg Value.bool HWE.out)).mono ?_
            rintro e w10 ⟨rfl, hE10⟩
            have hF := Lib.hid ((((hC1.trans hC2).trans hC3).trans hC4).trans (E9.out.trans hE10))
            clear d0 d1 q9 f9
            go_wp2
            go_ret
            exact ⟨rfl, hF.out⟩
          · try simp only at hl
            subst hl
            have m0 : (0 : Int) ≤ (m : Int) := Int.natCast_nonneg _
            have m1 : (m : Int) < 12 := by omega
            have sg : decide ((0 : Int) < -((m : Int) + 1)) = false := decide_eq_false (by omega)
            have WE := worse_ev HV.out (by rw [HL1b.out]) HE.out _ (List.mem_of_getElem? HX.out)
            rw [worseV_neg] at WE
            have HWE := Lib.hid WE
            clear WE hlit
            go_wp2_with (first
              | (at_builtin
                 refine wpList_append_seg _ rfl (.tmp 66) (.tmp 67) 32 rfl w4.heap.size 4 i0 _ 1 1 Try.underlying32 HI.out HZ0.out HZ1.out HZ2.out rfl (by omega) _ 0 [] rfl (own_ext_keep OE ((Ext.refl _).drewN nq)) A1b 12 c1b (encB vs1b) rfl SV.out (oneCB _) ?_ ?_ ?_ ?_
                 (unfold maxLen; omega)
                 omega
                 (first | exact Nat.le_refl _ | simp)
                 (intro A9 c9 w9 hown9 hg9)
                 (have P9 := own_parts (show w9.ownsRow w4.heap.size 4 1 (.slice A9 12 c9) 12 (encB vs1b) from (by simpa using hown9)))
                 (obtain ⟨b9, off9, x9, rfl, hx9, q9⟩ := P9.1.bool hm)
                 (have f9 := P9.2.1 b9 off9 rfl m (by omega))
                 (have hb9 : w4.heap.size ≤ b9 := (P9.2.2 (by omega) _ rfl).1)
                 (have E9 : Hid (Ext w4 (w9.setCell ⟨b9, off9 + m, none⟩ (.bool true))) := ((((Ext.refl w4).alloc _).drewN nq).grown hg9 (fun k hk => Nat.le_of_eq (Option.some.inj hk))).setNew (show w4.heap.size ≤ b9 from hb9) _)
                 (have S9 := Lib.hid (P9.1.setAt (i := m) (by rw [P9.1.1]; omega) (.bool true)))
                 (have HK9 := Lib.hid ((B_x0.out.ext ((hC3.trans hC4).trans E9.out))))
                 (have d0 := HK9.out.cell 0)
                 (have d1 := HK9.out.cell 1)
                 (clear hx9 P9 hown9 hg9 OE)))
            have e9 : (encB vs1b).set m (.bool true) = encB (vs1b.set m true) := by simp [encB, List.map_set]
            rw [e9] at S9
            clear e9
            refine (calls_val (implEV_any (some ⟨b, off, none⟩) n1a c1a ts1a bd1a (some ⟨b9, off9, none⟩) 12 c9 (vs1b.set m true) _ hn1a (hG1a.out.seg.ext (((hC2.trans hC3).trans hC4).trans E9.out)) (by unfold maxLen; omega) S9.out) (congrArg Value.bool HWE.out)).mono ?_
            rintro e w10 ⟨rfl, hE10⟩
            have hF := Lib.hid ((((hC1.trans hC2).trans hC3).trans hC4).trans (E9.out.trans hE10))
            clear d0 d1 q9 f9
            go_wp2
            go_ret
            exact ⟨rfl, hF.out⟩
        · obtain rfl : n1a = 0 := by omega
          go_wp2_with fail
          refine (calls_val (implEV_any A1a 0 c1a ts1a bd1a A1b 12 c1b vs1b _ hn1a (hG1a.out.seg.ext ((Ext.refl _).alloc _)) hn1b (hG1b.out.seg.ext ((Ext.refl _).alloc _))) (congrArg Value.bool HE.out)).mono ?_
          rintro e w2 ⟨rfl, hE2⟩
          have hC2 : Ext w1 w2 := ((Ext.refl _).alloc _).trans hE2
          have ze2 := hC2.size
          have B_x0 := Lib.hid (Blk.of1 hE2)
          have zb_x0 := B_x0.out.lt
          clear hE2
          have L_x0 := B_x0.out
          have c_x0_0 := L_x0.cell 0
          have c_x0_1 := L_x0.cell 1
          clear L_x0
          go_wp2_with fail
          refine (calls_val (specEV_any A1a 0 c1a ts1a bd1a A1b 12 c1b vs1b _ hn1a (hG1a.out.seg.ext hC2) hn1b (hG1b.out.seg.ext hC2)) (congrArg Value.bool HE.out)).mono ?_
          rintro e w3 ⟨rfl, hE3⟩
          have hC3 : Ext w2 w3 := hE3
          have ze3 := hC3.size
          clear c_x0_0 c_x0_1
          clear hE3
          have L_x0 := (B_x0.out.ext hC3)
          have c_x0_0 := L_x0.cell 0
          have c_x0_1 := L_x0.cell 1
          clear L_x0
          go_wp2_with fail
          refine (calls_val (implCV_any A1a 0 c1a ts1a bd1a _ hn1a (hG1a.out.seg.ext (hC2.trans hC3))) (congrArg Value.bool HV.out)).mono ?_
          rintro e w4 ⟨rfl, hE4⟩
          have hC4 : Ext w3 w4 := hE4
          have ze4 := hC4.size
          clear c_x0_0 c_x0_1
          clear hE4
          have L_x0 := (B_x0.out.ext (hC3.trans hC4))
          have c_x0_0 := L_x0.cell 0
          have c_x0_1 := L_x0.cell 1
          clear L_x0
          go_wp2_with fail
          refine (calls_val (specEV_any A1a 0 c1a ts1a bd1a A1b 12 c1b vs1b _ hn1a (hG1a.out.seg.ext ((hC2.trans hC3).trans hC4)) hn1b (hG1b.out.seg.ext ((hC2.trans hC3).trans hC4))) (congrArg Value.bool HE.out)).mono ?_
          rintro e w5 ⟨rfl, hE5⟩
          have hC5 : Ext w4 w5 := hE5
          have ze5 := hC5.size
          clear c_x0_0 c_x0_1
          clear hE5
          go_wp2
          go_ret
          exact ⟨rfl, ((((hC1.trans hC2).trans hC3).trans hC4).trans hC5)⟩
      · have hne : ((n1b : Int) != 12) = true := by simp; omega
        clear h12
        go_wp2_with fail
        refine (calls_val (implEV_any A1a n1a c1a ts1a bd1a A1b n1b c1b vs1b _ hn1a (hG1a.out.seg.ext ((Ext.refl _).alloc _)) hn1b (hG1b.out.seg.ext ((Ext.refl _).alloc _))) (congrArg Value.bool HE.out)).mono ?_
        rintro e w2 ⟨rfl, hE2⟩
        have hC2 : Ext w1 w2 := ((Ext.refl _).alloc _).trans hE2
        have ze2 := hC2.size
        have B_x0 := Lib.hid (Blk.of1 hE2)
        have zb_x0 := B_x0.out.lt
        clear hE2
        have L_x0 := B_x0.out
        have c_x0_0 := L_x0.cell 0
        have c_x0_1 := L_x0.cell 1
        clear L_x0
        go_wp2_with fail
        refine (calls_val (specEV_any A1a n1a c1a ts1a bd1a A1b n1b c1b vs1b _ hn1a (hG1a.out.seg.ext hC2) hn1b (hG1b.out.seg.ext hC2)) (congrArg Value.bool HE.out)).mono ?_
        rintro e w3 ⟨rfl, hE3⟩
        have hC3 : Ext w2 w3 := hE3
        have ze3 := hC3.size
        clear c_x0_0 c_x0_1
        clear hE3
        have L_x0 := (B_x0.out.ext hC3)
        have c_x0_0 := L_x0.cell 0
        have c_x0_1 := L_x0.cell 1
        clear L_x0
        go_wp2_with fail
        refine (calls_val (implCV_any A1a n1a c1a ts1a bd1a _ hn1a (hG1a.out.seg.ext (hC2.trans hC3))) (congrArg Value.bool HV.out)).mono ?_
        rintro e w4 ⟨rfl, hE4⟩
        have hC4 : Ext w3 w4 := hE4
        have ze4 := hC4.size
        clear c_x0_0 c_x0_1
        clear hE4
        have L_x0 := (B_x0.out.ext (hC3.trans hC4))
        have c_x0_0 := L_x0.cell 0
        have c_x0_1 := L_x0.cell 1
        clear L_x0
        go_wp2_with fail
        refine (calls_val (specEV_any A1a n1a c1a ts1a bd1a A1b n1b c1b vs1b _ hn1a (hG1a.out.seg.ext ((hC2.trans hC3).trans hC4)) hn1b (hG1b.out.seg.ext ((hC2.trans hC3).trans hC4))) (congrArg Value.bool HE.out)).mono ?_
        rintro e w5 ⟨rfl, hE5⟩
        have hC5 : Ext w4 w5 := hE5
        have ze5 := hC5.size
        clear c_x0_0 c_x0_1
        clear hE5
        go_wp2
        go_ret
        exact ⟨rfl, ((((hC1.trans hC2).trans hC3).trans hC4).trans hC5)⟩
    · have HV := Lib.hid (show cvB ts1a bd1a = false by simpa using hv)
      clear hv
      go_wp2_with fail
      refine (calls_val (implEV_any A1a n1a c1a ts1a bd1a A1b n1b c1b vs1b _ hn1a (hG1a.out.seg.ext ((Ext.refl _).alloc _)) hn1b (hG1b.out.seg.ext ((Ext.refl _).alloc _))) (congrArg Value.bool HE.out)).mono ?_
      rintro e w2 ⟨rfl, hE2⟩
      have hC2 : Ext w1 w2 := ((Ext.refl _).alloc _).trans hE2
      have ze2 := hC2.size
      have B_x0 := Lib.hid (Blk.of1 hE2)
      have zb_x0 := B_x0.out.lt
      clear hE2
      have L_x0 := B_x0.out
      have c_x0_0 := L_x0.cell 0
      have c_x0_1 := L_x0.cell 1
      clear L_x0
      go_wp2_with fail
      refine (calls_val (specEV_any A1a n1a c1a ts1a bd1a A1b n1b c1b vs1b _ hn1a (hG1a.out.seg.ext hC2) hn1b (hG1b.out.seg.ext hC2)) (congrArg Value.bool HE.out)).mono ?_
      rintro e w3 ⟨rfl, hE3⟩
      have hC3 : Ext w2 w3 := hE3
      have ze3 := hC3.size
      clear c_x0_0 c_x0_1
      clear hE3
      have L_x0 := (B_x0.out.ext hC3)
      have c_x0_0 := L_x0.cell 0
      have c_x0_1 := L_x0.cell 1
      clear L_x0
      go_wp2_with fail
      refine (calls_val (implCV_any A1a n1a c1a ts1a bd1a _ hn1a (hG1a.out.seg.ext (hC2.trans hC3))) (congrArg Value.bool HV.out)).mono ?_
      rintro e w4 ⟨rfl, hE4⟩
      have hC4 : Ext w3 w4 := hE4
      have ze4 := hC4.size
      clear c_x0_0 c_x0_1
      clear hE4
      have L_x0 := (B_x0.out.ext (hC3.trans hC4))
      have c_x0_0 := L_x0.cell 0
      have c_x0_1 := L_x0.cell 1
      clear L_x0
      go_wp2_with fail
      refine (calls_val (specEV_any A1a n1a c1a ts1a bd1a A1b n1b c1b vs1b _ hn1a (hG1a.out.seg.ext ((hC2.trans hC3).trans hC4)) hn1b (hG1b.out.seg.ext ((hC2.trans hC3).trans hC4))) (congrArg Value.bool HE.out)).mono ?_
      rintro e w5 ⟨rfl, hE5⟩
      have hC5 : Ext w4 w5 := hE5
      have ze5 := hC5.size
      clear c_x0_0 c_x0_1
      clear hE5
      go_wp2
      go_ret
      exact ⟨rfl, ((((hC1.trans hC2).trans hC3).trans hC4).trans hC5)⟩

theorem own : ownKnob Try.prog.godebug = none := by kernel_rfl
theorem laidOut : laidOutB Try.prog = true := by kernel_rfl

set_option maxRecDepth 100000 in
theorem lifted (os : Os) (started : os.Started) (H : Type) (enc : TypeId × Value → H) :
    ReturnsInHanded {} Try.checked os 8 .any (Rows.fnEvalConstraintSpec.pre6 enc Try.prog Try.f8 Rows.fnEvalConstraintRow.domain false) (Rows.fnEvalConstraintSpec.post enc Try.prog Try.f8 false true false false) := by
  refine returnsInHanded_of_change (C := Try.checked) own started (by kernel_rfl) Try.func8
    (ChangeSpec.witness6 (enc := enc) (C := Try.checked) false ⟨#[], #[.slice none 0 0, .slice none 0 0], []⟩ 8 (by kernel_rfl) (by kernel_rfl) (by kernel_rfl) (by kernel_rfl)) ?_
  intro W base args ds gs before hval0 hW hcnd _
  have hval : ∀ (j : Nat) t v, Try.f8.params[j]? = some t → args[j]? = some v → Value.okWide Try.prog W .any base t v := hval0
  have hW' := hW
  obtain ⟨p, q, hA0, hV, rfl, hfz, hnd⟩ := hW
  have hA : DataW.TrodAll enc Try.prog W 0 (fun _ => true) true Try.f8.params.toList args.toList ds p := hA0
  rw [Try.params8] at hA hval
  obtain ⟨v0, vs0, d0, ds0, p0, q0, hargs, rfl, rfl, h0, r0⟩ := trodAll_cons hA
  obtain ⟨v1, vs1, d1, ds1, p1, q1, rfl, rfl, rfl, h1, r1⟩ := trodAll_cons r0
  obtain ⟨rfl, rfl, rfl⟩ := trodAll_nil r1
  obtain rfl : args = #[v0, v1] := by cases args; simp_all
  obtain ⟨rfl, rfl⟩ := trodVars_none hV
  have k0 := h0
  have lt0 : ∀ x ∈ p0, x.block < W.heap.size := by obtain ⟨m, hm⟩ := k0; exact DataW.trod_lt m _ _ _ hm
  obtain ⟨A0, n0, cap0, zs0, rfl, hn0, hc0, hs0, hb0⟩ := arg_bytes (hval 0 52 v0 rfl rfl) h0
  have k1 := h1
  have lt1 : ∀ x ∈ p1, x.block < W.heap.size := by obtain ⟨m, hm⟩ := k1; exact DataW.trod_lt m _ _ _ hm
  obtain ⟨A1, n1, cap1, zs1, rfl, hn1, hc1, hs1, hb1⟩ := arg_bytes (hval 1 52 v1 rfl rfl) h1
  clear hA0 hval0
  refine (walk A0 n0 cap0 zs0 A1 n1 cap1 zs1 W hn0 hc0 hs0 hb0 hn1 hc1 hs1 hb1).mono fun e W' ⟨he, ext⟩ => ?_
  subst he
  have bel := ext.below
  exact ⟨_, rfl, _, _, _, [], _, [], hW', trodAll_mk1 (shut_bool Try.underlying4 _), (trodAll_cons_mk (Below.trod laidOut (by kernel_rfl) (of_decide_eq_true (by kernel_rfl)) k0 bel lt0) (trodAll_cons_mk (Below.trod laidOut (by kernel_rfl) (of_decide_eq_true (by kernel_rfl)) k1 bel lt1) trodAll_mk0)), rfl, bel.frame _, fun h => by cases h⟩

theorem over : Rows.fnEvalConstraintRow.holds Try.pinned (OpenSpec.ofChange Rows.fnEvalConstraintSpec) :=
  OpenClaim.holds_of_wide 8 Try.f8 rfl rfl rfl rfl rfl rfl rfl ⟨rfl, rfl, rfl, rfl, rfl⟩ rfl rfl rfl rfl rfl (by kernel_rfl) Try.func8 (by kernel_rfl)
    (of_decide_eq_true (by kernel_rfl)) (by unfold Func.isWrapper; first | (rw [if_pos (by decide +kernel)]; kernel_rfl) | (rw [if_neg (by decide +kernel)]; exact ⟨rfl, rfl⟩))
    (fun os started H enc _ => lifted os started H enc)

theorem proved : Rows.FnEvalConstraintSaid := over

end Go.Proofs.Ytpkglggomiklcaa.evalConstraint
