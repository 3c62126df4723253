/- laws.FnLiteralAxiom: for all bytes, the program's LiteralAxiom returns what the reference's returns, a constraint that all values satisfy and that may be added to another. No condition. -/
import Derived.Test.YtihbgajlnbchlaaRdA
import Derived.Test.YtihbgajlnbchlaaPlNF
import Derived.Test.YtihbgajlnbchlaaAdI
import Derived.Test.YtihbgajlnbchlaaSameC
import Derived.Test.YtihbgajlnbchlaaEval
import Derived.Test.YtihbgajlnbchlaaLA
import Derived.Test.YtihbgajlnbchlaaOpenY
import Derived.Test.YtihbgajlnbchlaaFacts
namespace Go.Proofs.Ytihbgajlnbchlaa.literalAxiom
open Go.ChangeShapes Go.WideShapes Go.ChangeAt Go.RowKit
set_option linter.unusedVariables false

set_option maxRecDepth 100000 in
set_option maxHeartbeats 16000000 in
theorem walk (A0 : Option Addr) (n0 cap0 : Nat) (zs0 : List Int) (A1 : Option Addr) (n1 cap1 : Nat) (zs1 : List Int) (w : World) (hn0 : n0 ≤ maxLen) (hc0 : n0 ≤ cap0) (hs0 : Seg w 1 A0 n0 (encY zs0)) (hb0 : bytesB zs0) (hn1 : n1 ≤ maxLen) (hc1 : n1 ≤ cap1) (hs1 : Seg w 1 A1 n1 (encY zs1)) (hb1 : bytesB zs1) :
    Calls Try.prog 7 #[.slice A0 n0 cap0, .slice A1 n1 cap1] w fun e w' => e = .returned (.bool true) ∧ Ext w w' := by
  by_cases hbig : 1048576 < n0
  · clear hs0 hs1
    go_enter Try.func7, Try.ntmps7
    go_wp2
    go_ret
    exact ⟨rfl, Ext.refl _⟩
  by_cases hbig1 : 1048576 < n1
  · clear hs0 hs1
    have hb2 : decide ((1048576 : Int) < (n0 : Int)) = false := decide_eq_false (by omega)
    go_enter Try.func7, Try.ntmps7
    go_wp2
    go_ret
    exact ⟨rfl, Ext.refl _⟩
  have hb2 : decide ((1048576 : Int) < (n0 : Int)) = false := decide_eq_false (by omega)
  have hb3 : decide ((1048576 : Int) < (n1 : Int)) = false := decide_eq_false (by omega)
  go_enter Try.func7, Try.ntmps7
  go_wp2_with fail
  refine (drawLA_any A0 n0 cap0 zs0 _ hn0 hc0 hs0 hb0).mono ?_
  rintro e w1 ⟨z1a, rfl, hE1⟩
  have hC1 : Ext w w1 := hE1
  have ze1 := hC1.size
  clear hE1
  go_wp2_with fail
  refine (drawEval_any A1 n1 cap1 zs1 _ hn1 hc1 (hs1.ext hC1) hb1).mono ?_
  rintro e w2 ⟨A2a, n2a, c2a, ts2a, bd2a, A2b, n2b, c2b, vs2b, rfl, hl2a, hm2a, hl2b, hm2b, hg2a, hg2b, hE2⟩
  have hC2 : Ext w1 w2 := hE2
  have ze2 := hC2.size
  clear hE2
  have hn2a : n2a ≤ maxLen := by unfold maxLen; omega
  have HL2a := Lib.hid hl2a
  have hG2a := Lib.hid hg2a
  clear hl2a hg2a
  have hn2b : n2b ≤ maxLen := by unfold maxLen; omega
  have HL2b := Lib.hid hl2b
  have hG2b := Lib.hid hg2b
  clear hl2b hg2b
  by_cases hv : litB z1a = true
  · have HV := Lib.hid hv
    have HLT := Lib.hid (show laT z1a = [(1, z1a)] by unfold laT; rw [if_pos hv])
    clear hv
    go_wp2_with fail
    refine Calls.mono ((implLA_any z1a _ ).mono fun _ _ h => h.of_eq HLT.out rfl HV.out) ?_
    rintro e w3 ⟨A3, n3, c3, rfl, hl3, hg3, hE3⟩
    have hC3 : Ext w2 w3 := ((Ext.refl _).alloc _).trans hE3
    have ze3 := hC3.size
    have B_x0 := Lib.hid (Blk.of1 hE3)
    have zb_x0 := B_x0.out.lt
    clear hE3
    have hG3 := Lib.hid hg3
    have HL3 := Lib.hid hl3
    have hs3 : n3 ≤ 1048576 := (by rw [← hl3]; exact by rw [← HLT.out]; exact laT_len z1a)
    have hn3 : n3 ≤ maxLen := (Nat.le_trans hs3 (by unfold maxLen; omega))
    clear hg3 hl3
    go_wp2_with fail
    refine Calls.mono ((specLA_any z1a _ ).mono fun _ _ h => h.of_eq HLT.out rfl HV.out) ?_
    rintro e w4 ⟨A4, n4, c4, rfl, hl4, hg4, hE4⟩
    have hC4 : Ext w3 w4 := ((Ext.refl _).alloc _).trans hE4
    have ze4 := hC4.size
    have B_x1 := Lib.hid (Blk.of1 hE4)
    have zb_x1 := B_x1.out.lt
    clear hE4
    have hG4 := Lib.hid hg4
    have HL4 := Lib.hid hl4
    have hs4 : n4 ≤ 1048576 := (by rw [← hl4]; exact by rw [← HLT.out]; exact laT_len z1a)
    have hn4 : n4 ≤ maxLen := (Nat.le_trans hs4 (by unfold maxLen; omega))
    clear hg4 hl4
    by_cases ha : adB ts2a bd2a [(1, z1a)] 0 = true
    · have HA := Lib.hid ha
      clear ha
      have L_x1 := B_x1.out
      have c_x1_0 := L_x1.cell 0
      have c_x1_1 := L_x1.cell 1
      have l_x1 := L_x1.lt
      clear L_x1
      go_wp2_with fail
      refine (calls_val (implCS2 A3 n3 c3 ([(1, z1a)]) 0 A4 n4 c4 ([(1, z1a)]) 0 _ hn3 ((hG3.out.seg.ext hC4).ext ((Ext.refl _).alloc _)) hn4 (hG4.out.seg.ext ((Ext.refl _).alloc _))) (congrArg Value.bool (cEq_self _ _))).mono ?_
      rintro e w5 ⟨rfl, hE5⟩
      have hC5 : Ext w4 w5 := ((Ext.refl _).alloc _).trans hE5
      have ze5 := hC5.size
      have B_x2 := Lib.hid (Blk.of1 hE5)
      have zb_x2 := B_x2.out.lt
      clear c_x1_0 c_x1_1 l_x1
      clear hE5
      have L_x0 := (B_x0.out.ext (hC4.trans hC5))
      have c_x0_0 := L_x0.cell 0
      have c_x0_1 := L_x0.cell 1
      clear L_x0
      have L_x1 := (B_x1.out.ext hC5)
      have c_x1_0 := L_x1.cell 0
      have c_x1_1 := L_x1.cell 1
      clear L_x1
      go_wp2_with fail
      refine Calls.mono ((implAdd_any A2a n2a c2a ts2a bd2a A3 n3 c3 ([(1, z1a)]) 0 _ hn2a (hG2a.out.seg.ext ((hC3.trans hC4).trans hC5)) hn3 (hG3.out.seg.ext (hC4.trans hC5))).mono fun _ _ h => h.of_eq (adT_of HA.out) ((adD_of HA.out).trans (by rw [Int.add_zero])) HA.out) ?_
      rintro e w6 ⟨A6, n6, c6, rfl, hl6, hg6, hE6⟩
      have hC6 : Ext w5 w6 := hE6
      have ze6 := hC6.size
      clear c_x0_0 c_x0_1 c_x1_0 c_x1_1
      clear hE6
      have hG6 := Lib.hid hg6
      have HL6 := Lib.hid hl6
      have hs6 : n6 ≤ 1048576 := (by rw [← hl6]; exact by rw [← (adT_of HA.out)]; exact adT_len ts2a bd2a ([(1, z1a)]) 0)
      have hn6 : n6 ≤ maxLen := (Nat.le_trans hs6 (by unfold maxLen; omega))
      clear hg6 hl6
      by_cases h12 : n2b = 12
      · have HL12 := Lib.hid (show vs2b.length = 12 by rw [HL2b.out]; exact h12)
        subst h12
        have HE := Lib.hid (la_holds HV.out HL12.out)
        have HS : Hid (evB ts2a bd2a vs2b = true → evB (noT (ts2a ++ [(1, z1a)])) (noD (ts2a ++ [(1, z1a)]) bd2a) vs2b = true) := fun h1 => by
          have h2 := ad_sound HA.out h1 (la_holds HV.out (by unfold evB at h1; rw [Bool.and_eq_true, Bool.and_eq_true, decide_eq_true_eq] at h1; exact h1.2.1))
          rw [Int.add_zero] at h2; exact h2
        obtain ⟨e1, he1⟩ : ∃ b, Hid (evB ts2a bd2a vs2b = b) := ⟨_, rfl⟩
        cases e1
        · skip
          have L_x1 := (B_x1.out.ext (hC5.trans hC6))
          have c_x1_0 := L_x1.cell 0
          have c_x1_1 := L_x1.cell 1
          have l_x1 := L_x1.lt
          clear L_x1
          go_wp2_with fail
          refine (calls_val (implEV_any A3 n3 c3 ([(1, z1a)]) 0 A2b 12 c2b vs2b _ hn3 ((hG3.out.seg.ext ((hC4.trans hC5).trans hC6)).ext ((Ext.refl _).alloc _)) hn2b ((hG2b.out.seg.ext (((hC3.trans hC4).trans hC5).trans hC6)).ext ((Ext.refl _).alloc _))) (congrArg Value.bool HE.out)).mono ?_
          rintro e w7 ⟨rfl, hE7⟩
          have hC7 : Ext w6 w7 := ((Ext.refl _).alloc _).trans hE7
          have ze7 := hC7.size
          have B_x3 := Lib.hid (Blk.of1 hE7)
          have zb_x3 := B_x3.out.lt
          clear c_x1_0 c_x1_1 l_x1
          clear hE7
          have L_x0 := (B_x0.out.ext (((hC4.trans hC5).trans hC6).trans hC7))
          have c_x0_0 := L_x0.cell 0
          have c_x0_1 := L_x0.cell 1
          clear L_x0
          go_wp2_with fail
          refine (calls_val (implEV_any A2a n2a c2a ts2a bd2a A2b 12 c2b vs2b _ hn2a (hG2a.out.seg.ext ((((hC3.trans hC4).trans hC5).trans hC6).trans hC7)) hn2b (hG2b.out.seg.ext ((((hC3.trans hC4).trans hC5).trans hC6).trans hC7))) (congrArg Value.bool he1.out)).mono ?_
          rintro e w8 ⟨rfl, hE8⟩
          have hC8 : Ext w7 w8 := hE8
          have ze8 := hC8.size
          clear c_x0_0 c_x0_1
          clear hE8
          go_wp2
          go_ret
          exact ⟨rfl, (((((((hC1.trans hC2).trans hC3).trans hC4).trans hC5).trans hC6).trans hC7).trans hC8)⟩
        · have H3 := Lib.hid (HS.out he1.out)
          have L_x1 := (B_x1.out.ext (hC5.trans hC6))
          have c_x1_0 := L_x1.cell 0
          have c_x1_1 := L_x1.cell 1
          have l_x1 := L_x1.lt
          clear L_x1
          go_wp2_with fail
          refine (calls_val (implEV_any A3 n3 c3 ([(1, z1a)]) 0 A2b 12 c2b vs2b _ hn3 ((hG3.out.seg.ext ((hC4.trans hC5).trans hC6)).ext ((Ext.refl _).alloc _)) hn2b ((hG2b.out.seg.ext (((hC3.trans hC4).trans hC5).trans hC6)).ext ((Ext.refl _).alloc _))) (congrArg Value.bool HE.out)).mono ?_
          rintro e w7 ⟨rfl, hE7⟩
          have hC7 : Ext w6 w7 := ((Ext.refl _).alloc _).trans hE7
          have ze7 := hC7.size
          have B_x3 := Lib.hid (Blk.of1 hE7)
          have zb_x3 := B_x3.out.lt
          clear c_x1_0 c_x1_1 l_x1
          clear hE7
          have L_x0 := (B_x0.out.ext (((hC4.trans hC5).trans hC6).trans hC7))
          have c_x0_0 := L_x0.cell 0
          have c_x0_1 := L_x0.cell 1
          clear L_x0
          go_wp2_with fail
          refine (calls_val (implEV_any A2a n2a c2a ts2a bd2a A2b 12 c2b vs2b _ hn2a (hG2a.out.seg.ext ((((hC3.trans hC4).trans hC5).trans hC6).trans hC7)) hn2b (hG2b.out.seg.ext ((((hC3.trans hC4).trans hC5).trans hC6).trans hC7))) (congrArg Value.bool he1.out)).mono ?_
          rintro e w8 ⟨rfl, hE8⟩
          have hC8 : Ext w7 w8 := hE8
          have ze8 := hC8.size
          clear c_x0_0 c_x0_1
          clear hE8
          have L_x3 := (B_x3.out.ext hC8)
          have c_x3_0 := L_x3.cell 0
          have c_x3_1 := L_x3.cell 1
          clear L_x3
          go_wp2_with fail
          refine (calls_val (implEV_any A6 n6 c6 (noT (ts2a ++ [(1, z1a)])) (noD (ts2a ++ [(1, z1a)]) bd2a) A2b 12 c2b vs2b _ hn6 (hG6.out.seg.ext (hC7.trans hC8)) hn2b (hG2b.out.seg.ext (((((hC3.trans hC4).trans hC5).trans hC6).trans hC7).trans hC8))) (congrArg Value.bool H3.out)).mono ?_
          rintro e w9 ⟨rfl, hE9⟩
          have hC9 : Ext w8 w9 := hE9
          have ze9 := hC9.size
          clear c_x3_0 c_x3_1
          clear hE9
          go_wp2
          go_ret
          exact ⟨rfl, ((((((((hC1.trans hC2).trans hC3).trans hC4).trans hC5).trans hC6).trans hC7).trans hC8).trans hC9)⟩
      · have hne : ((n2b : Int) != 12) = true := by simp; omega
        clear h12
        have HS : Hid (evB ts2a bd2a vs2b = true → evB (noT (ts2a ++ [(1, z1a)])) (noD (ts2a ++ [(1, z1a)]) bd2a) vs2b = true) := fun h1 => by
          have h2 := ad_sound HA.out h1 (la_holds HV.out (by unfold evB at h1; rw [Bool.and_eq_true, Bool.and_eq_true, decide_eq_true_eq] at h1; exact h1.2.1))
          rw [Int.add_zero] at h2; exact h2
        obtain ⟨e1, he1⟩ : ∃ b, Hid (evB ts2a bd2a vs2b = b) := ⟨_, rfl⟩
        cases e1
        · skip
          have L_x0 := (B_x0.out.ext ((hC4.trans hC5).trans hC6))
          have c_x0_0 := L_x0.cell 0
          have c_x0_1 := L_x0.cell 1
          have l_x0 := L_x0.lt
          clear L_x0
          go_wp2_with fail
          refine (calls_val (implEV_any A2a n2a c2a ts2a bd2a A2b n2b c2b vs2b _ hn2a ((hG2a.out.seg.ext (((hC3.trans hC4).trans hC5).trans hC6)).ext ((Ext.refl _).alloc _)) hn2b ((hG2b.out.seg.ext (((hC3.trans hC4).trans hC5).trans hC6)).ext ((Ext.refl _).alloc _))) (congrArg Value.bool he1.out)).mono ?_
          rintro e w7 ⟨rfl, hE7⟩
          have hC7 : Ext w6 w7 := ((Ext.refl _).alloc _).trans hE7
          have ze7 := hC7.size
          have B_x3 := Lib.hid (Blk.of1 hE7)
          have zb_x3 := B_x3.out.lt
          clear c_x0_0 c_x0_1 l_x0
          clear hE7
          go_wp2
          go_ret
          exact ⟨rfl, ((((((hC1.trans hC2).trans hC3).trans hC4).trans hC5).trans hC6).trans hC7)⟩
        · have H3 := Lib.hid (HS.out he1.out)
          have L_x0 := (B_x0.out.ext ((hC4.trans hC5).trans hC6))
          have c_x0_0 := L_x0.cell 0
          have c_x0_1 := L_x0.cell 1
          have l_x0 := L_x0.lt
          clear L_x0
          go_wp2_with fail
          refine (calls_val (implEV_any A2a n2a c2a ts2a bd2a A2b n2b c2b vs2b _ hn2a ((hG2a.out.seg.ext (((hC3.trans hC4).trans hC5).trans hC6)).ext ((Ext.refl _).alloc _)) hn2b ((hG2b.out.seg.ext (((hC3.trans hC4).trans hC5).trans hC6)).ext ((Ext.refl _).alloc _))) (congrArg Value.bool he1.out)).mono ?_
          rintro e w7 ⟨rfl, hE7⟩
          have hC7 : Ext w6 w7 := ((Ext.refl _).alloc _).trans hE7
          have ze7 := hC7.size
          have B_x3 := Lib.hid (Blk.of1 hE7)
          have zb_x3 := B_x3.out.lt
          clear c_x0_0 c_x0_1 l_x0
          clear hE7
          have L_x3 := B_x3.out
          have c_x3_0 := L_x3.cell 0
          have c_x3_1 := L_x3.cell 1
          clear L_x3
          go_wp2_with fail
          refine (calls_val (implEV_any A6 n6 c6 (noT (ts2a ++ [(1, z1a)])) (noD (ts2a ++ [(1, z1a)]) bd2a) A2b n2b c2b vs2b _ hn6 (hG6.out.seg.ext hC7) hn2b (hG2b.out.seg.ext ((((hC3.trans hC4).trans hC5).trans hC6).trans hC7))) (congrArg Value.bool H3.out)).mono ?_
          rintro e w8 ⟨rfl, hE8⟩
          have hC8 : Ext w7 w8 := hE8
          have ze8 := hC8.size
          clear c_x3_0 c_x3_1
          clear hE8
          go_wp2
          go_ret
          exact ⟨rfl, (((((((hC1.trans hC2).trans hC3).trans hC4).trans hC5).trans hC6).trans hC7).trans hC8)⟩
    · have HA := Lib.hid (show adB ts2a bd2a [(1, z1a)] 0 = false by simpa using ha)
      clear ha
      have L_x1 := B_x1.out
      have c_x1_0 := L_x1.cell 0
      have c_x1_1 := L_x1.cell 1
      have l_x1 := L_x1.lt
      clear L_x1
      go_wp2_with fail
      refine (calls_val (implCS2 A3 n3 c3 ([(1, z1a)]) 0 A4 n4 c4 ([(1, z1a)]) 0 _ hn3 ((hG3.out.seg.ext hC4).ext ((Ext.refl _).alloc _)) hn4 (hG4.out.seg.ext ((Ext.refl _).alloc _))) (congrArg Value.bool (cEq_self _ _))).mono ?_
      rintro e w5 ⟨rfl, hE5⟩
      have hC5 : Ext w4 w5 := ((Ext.refl _).alloc _).trans hE5
      have ze5 := hC5.size
      have B_x2 := Lib.hid (Blk.of1 hE5)
      have zb_x2 := B_x2.out.lt
      clear c_x1_0 c_x1_1 l_x1
      clear hE5
      have L_x0 := (B_x0.out.ext (hC4.trans hC5))
      have c_x0_0 := L_x0.cell 0
      have c_x0_1 := L_x0.cell 1
      clear L_x0
      have L_x1 := (B_x1.out.ext hC5)
      have c_x1_0 := L_x1.cell 0
      have c_x1_1 := L_x1.cell 1
      clear L_x1
      go_wp2_with fail
      refine Calls.mono ((implAdd_any A2a n2a c2a ts2a bd2a A3 n3 c3 ([(1, z1a)]) 0 _ hn2a (hG2a.out.seg.ext ((hC3.trans hC4).trans hC5)) hn3 (hG3.out.seg.ext (hC4.trans hC5))).mono fun _ _ h => h.of_eq (adT_no HA.out) (adD_no HA.out) HA.out) ?_
      rintro e w6 ⟨A6, n6, c6, rfl, hl6, hg6, hE6⟩
      have hC6 : Ext w5 w6 := hE6
      have ze6 := hC6.size
      clear c_x0_0 c_x0_1 c_x1_0 c_x1_1
      clear hE6
      have hG6 := Lib.hid hg6
      have HL6 := Lib.hid hl6
      have hs6 : n6 ≤ 1048576 := (by rw [← hl6]; exact by rw [← (adT_no HA.out)]; exact adT_len ts2a bd2a ([(1, z1a)]) 0)
      have hn6 : n6 ≤ maxLen := (Nat.le_trans hs6 (by unfold maxLen; omega))
      clear hg6 hl6
      by_cases h12 : n2b = 12
      · have HL12 := Lib.hid (show vs2b.length = 12 by rw [HL2b.out]; exact h12)
        subst h12
        have HE := Lib.hid (la_holds HV.out HL12.out)
        have L_x1 := (B_x1.out.ext (hC5.trans hC6))
        have c_x1_0 := L_x1.cell 0
        have c_x1_1 := L_x1.cell 1
        have l_x1 := L_x1.lt
        clear L_x1
        go_wp2_with fail
        refine (calls_val (implEV_any A3 n3 c3 ([(1, z1a)]) 0 A2b 12 c2b vs2b _ hn3 ((hG3.out.seg.ext ((hC4.trans hC5).trans hC6)).ext ((Ext.refl _).alloc _)) hn2b ((hG2b.out.seg.ext (((hC3.trans hC4).trans hC5).trans hC6)).ext ((Ext.refl _).alloc _))) (congrArg Value.bool HE.out)).mono ?_
        rintro e w7 ⟨rfl, hE7⟩
        have hC7 : Ext w6 w7 := ((Ext.refl _).alloc _).trans hE7
        have ze7 := hC7.size
        have B_x3 := Lib.hid (Blk.of1 hE7)
        have zb_x3 := B_x3.out.lt
        clear c_x1_0 c_x1_1 l_x1
        clear hE7
        go_wp2
        go_ret
        exact ⟨rfl, ((((((hC1.trans hC2).trans hC3).trans hC4).trans hC5).trans hC6).trans hC7)⟩
      · have hne : ((n2b : Int) != 12) = true := by simp; omega
        clear h12
        go_wp2
        go_ret
        exact ⟨rfl, ((((((hC1.trans hC2).trans hC3).trans hC4).trans hC5).trans hC6).alloc _)⟩
  · have HV := Lib.hid (show litB z1a = false by simpa using hv)
    have HLT := Lib.hid (show laT z1a = [] by unfold laT; rw [if_neg hv])
    clear hv
    go_wp2_with fail
    refine Calls.mono ((implLA_any z1a _ ).mono fun _ _ h => h.of_eq HLT.out rfl HV.out) ?_
    rintro e w3 ⟨A3, n3, c3, rfl, hl3, hg3, hE3⟩
    have hC3 : Ext w2 w3 := ((Ext.refl _).alloc _).trans hE3
    have ze3 := hC3.size
    have B_x0 := Lib.hid (Blk.of1 hE3)
    have zb_x0 := B_x0.out.lt
    clear hE3
    have hG3 := Lib.hid hg3
    have HL3 := Lib.hid hl3
    have hs3 : n3 ≤ 1048576 := (by rw [← hl3]; exact by rw [← HLT.out]; exact laT_len z1a)
    have hn3 : n3 ≤ maxLen := (Nat.le_trans hs3 (by unfold maxLen; omega))
    clear hg3 hl3
    go_wp2_with fail
    refine Calls.mono ((specLA_any z1a _ ).mono fun _ _ h => h.of_eq HLT.out rfl HV.out) ?_
    rintro e w4 ⟨A4, n4, c4, rfl, hl4, hg4, hE4⟩
    have hC4 : Ext w3 w4 := ((Ext.refl _).alloc _).trans hE4
    have ze4 := hC4.size
    have B_x1 := Lib.hid (Blk.of1 hE4)
    have zb_x1 := B_x1.out.lt
    clear hE4
    have hG4 := Lib.hid hg4
    have HL4 := Lib.hid hl4
    have hs4 : n4 ≤ 1048576 := (by rw [← hl4]; exact by rw [← HLT.out]; exact laT_len z1a)
    have hn4 : n4 ≤ maxLen := (Nat.le_trans hs4 (by unfold maxLen; omega))
    clear hg4 hl4
    have L_x1 := B_x1.out
    have c_x1_0 := L_x1.cell 0
    have c_x1_1 := L_x1.cell 1
    have l_x1 := L_x1.lt
    clear L_x1
    go_wp2_with fail
    refine (calls_val (implCS2 A3 n3 c3 ([]) 0 A4 n4 c4 ([]) 0 _ hn3 ((hG3.out.seg.ext hC4).ext ((Ext.refl _).alloc _)) hn4 (hG4.out.seg.ext ((Ext.refl _).alloc _))) (congrArg Value.bool (cEq_self _ _))).mono ?_
    rintro e w5 ⟨rfl, hE5⟩
    have hC5 : Ext w4 w5 := ((Ext.refl _).alloc _).trans hE5
    have ze5 := hC5.size
    have B_x2 := Lib.hid (Blk.of1 hE5)
    have zb_x2 := B_x2.out.lt
    clear c_x1_0 c_x1_1 l_x1
    clear hE5
    have L_x1 := (B_x1.out.ext hC5)
    have c_x1_0 := L_x1.cell 0
    have c_x1_1 := L_x1.cell 1
    clear L_x1
    have L_x2 := B_x2.out
    have c_x2_0 := L_x2.cell 0
    have c_x2_1 := L_x2.cell 1
    clear L_x2
    go_wp2_with fail
    refine (calls_val (implCS2 A3 n3 c3 ([]) 0 A4 n4 c4 ([]) 0 _ hn3 (hG3.out.seg.ext (hC4.trans hC5)) hn4 (hG4.out.seg.ext hC5)) (congrArg Value.bool (cEq_self _ _))).mono ?_
    rintro e w6 ⟨rfl, hE6⟩
    have hC6 : Ext w5 w6 := hE6
    have ze6 := hC6.size
    clear c_x1_0 c_x1_1 c_x2_0 c_x2_1
    clear hE6
    go_wp2
    go_ret
    exact ⟨rfl, (((((hC1.trans hC2).trans hC3).trans hC4).trans hC5).trans hC6)⟩

theorem own : ownKnob Try.prog.godebug = none := by kernel_rfl
theorem laidOut : laidOutB Try.prog = true := by kernel_rfl

set_option maxRecDepth 100000 in
theorem lifted (os : Os) (started : os.Started) (H : Type) (enc : TypeId × Value → H) :
    ReturnsInHanded {} Try.checked os 7 .any (Rows.fnLiteralAxiomSpec.pre6 enc Try.prog Try.f7 Rows.fnLiteralAxiomRow.domain false) (Rows.fnLiteralAxiomSpec.post enc Try.prog Try.f7 false true false false) := by
  refine returnsInHanded_of_change (C := Try.checked) own started (by kernel_rfl) Try.func7
    (ChangeSpec.witness6 (enc := enc) (C := Try.checked) false ⟨#[], #[.slice none 0 0, .slice none 0 0], []⟩ 8 (by kernel_rfl) (by kernel_rfl) (by kernel_rfl) (by kernel_rfl)) ?_
  intro W base args ds gs before hval0 hW hcnd _
  have hval : ∀ (j : Nat) t v, Try.f7.params[j]? = some t → args[j]? = some v → Value.okWide Try.prog W .any base t v := hval0
  have hW' := hW
  obtain ⟨p, q, hA0, hV, rfl, hfz, hnd⟩ := hW
  have hA : DataW.TrodAll enc Try.prog W 0 (fun _ => true) true Try.f7.params.toList args.toList ds p := hA0
  rw [Try.params7] at hA hval
  obtain ⟨v0, vs0, d0, ds0, p0, q0, hargs, rfl, rfl, h0, r0⟩ := trodAll_cons hA
  obtain ⟨v1, vs1, d1, ds1, p1, q1, rfl, rfl, rfl, h1, r1⟩ := trodAll_cons r0
  obtain ⟨rfl, rfl, rfl⟩ := trodAll_nil r1
  obtain rfl : args = #[v0, v1] := by cases args; simp_all
  obtain ⟨rfl, rfl⟩ := trodVars_none hV
  have k0 := h0
  have lt0 : ∀ x ∈ p0, x.block < W.heap.size := by obtain ⟨m, hm⟩ := k0; exact DataW.trod_lt m _ _ _ hm
  obtain ⟨A0, n0, cap0, zs0, rfl, hn0, hc0, hs0, hb0⟩ := arg_bytes (hval 0 22 v0 rfl rfl) h0
  have k1 := h1
  have lt1 : ∀ x ∈ p1, x.block < W.heap.size := by obtain ⟨m, hm⟩ := k1; exact DataW.trod_lt m _ _ _ hm
  obtain ⟨A1, n1, cap1, zs1, rfl, hn1, hc1, hs1, hb1⟩ := arg_bytes (hval 1 22 v1 rfl rfl) h1
  clear hA0 hval0
  refine (walk A0 n0 cap0 zs0 A1 n1 cap1 zs1 W hn0 hc0 hs0 hb0 hn1 hc1 hs1 hb1).mono fun e W' ⟨he, ext⟩ => ?_
  subst he
  have bel := ext.below
  exact ⟨_, rfl, _, _, _, [], _, [], hW', trodAll_mk1 (shut_bool Try.underlying4 _), (trodAll_cons_mk (Below.trod laidOut (by kernel_rfl) (of_decide_eq_true (by kernel_rfl)) k0 bel lt0) (trodAll_cons_mk (Below.trod laidOut (by kernel_rfl) (of_decide_eq_true (by kernel_rfl)) k1 bel lt1) trodAll_mk0)), rfl, bel.frame _, fun h => by cases h⟩

set_option maxHeartbeats 4000000 in
theorem joined : joinedFacts Try.pinned.checked.prog 7 Try.f7 Rows.fnLiteralAxiomSpec Rows.fnLiteralAxiomRow = true := by
  unfold joinedFacts
  exact (and2 (and2 (and2 (and2 (and2 (and2 (and2 (and2 (and2 (and2 (and2 (and2 (and2 (and2 (and2 (and2 (and2 (and2 (and2 (and2 (and2 (and2 (and2 (and2 (and2 (and2 (and2 (and2 (and2 (and2 (and2 (by as_aux_lemma => kernel_rfl) (by as_aux_lemma => kernel_rfl)) (by as_aux_lemma => kernel_rfl)) (by as_aux_lemma => kernel_rfl)) (by as_aux_lemma => kernel_rfl)) (by as_aux_lemma => kernel_rfl)) (by as_aux_lemma => kernel_rfl)) (by as_aux_lemma => kernel_rfl)) (by as_aux_lemma => kernel_rfl)) (by as_aux_lemma => kernel_rfl)) (by as_aux_lemma => kernel_rfl)) (by as_aux_lemma => kernel_rfl)) (by as_aux_lemma => kernel_rfl)) (by as_aux_lemma => kernel_rfl)) (by as_aux_lemma => kernel_rfl)) (by as_aux_lemma => kernel_rfl)) (by as_aux_lemma => kernel_rfl)) (by as_aux_lemma => kernel_rfl)) (by as_aux_lemma => kernel_rfl)) (by as_aux_lemma => kernel_rfl)) (by as_aux_lemma => kernel_rfl)) (by as_aux_lemma => kernel_rfl)) (by as_aux_lemma => kernel_rfl)) (by as_aux_lemma => kernel_rfl)) (by as_aux_lemma => kernel_rfl)) jEnter) jLift) jMake) (by as_aux_lemma => kernel_rfl)) (by as_aux_lemma => kernel_rfl)) (by as_aux_lemma => kernel_rfl)) (by as_aux_lemma => kernel_rfl))

set_option maxHeartbeats 4000000 in
theorem over : Rows.fnLiteralAxiomRow.holds Try.pinned (OpenSpec.ofChange Rows.fnLiteralAxiomSpec) :=
  OpenClaim.holds_of_wide 7 Try.f7 rfl rfl rfl rfl rfl rfl rfl ⟨rfl, rfl, rfl, rfl, rfl⟩ rfl rfl rfl rfl rfl (by kernel_rfl) Try.func7 joined
    (of_decide_eq_true (by kernel_rfl)) (by unfold Func.isWrapper; first | (rw [if_pos (by decide +kernel)]; kernel_rfl) | (rw [if_neg (by decide +kernel)]; exact ⟨rfl, rfl⟩))
    (fun os started H enc _ => lifted os started H enc)

theorem proved : Rows.FnLiteralAxiomSaid := over

end Go.Proofs.Ytihbgajlnbchlaa.literalAxiom
