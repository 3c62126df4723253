/- laws.FnNormalTwice: for all bytes, the program's NormalForm returns what the reference's returns, and the normal form of a valid constraint is the constraint, whatever the order of its terms. No condition. -/
import Derived.Test.YtihbgajlnbchlaaRdV
import Derived.Test.YtihbgajlnbchlaaPlNF
import Derived.Test.YtihbgajlnbchlaaNFi2
import Derived.Test.YtihbgajlnbchlaaSameC
import Derived.Test.YtihbgajlnbchlaaCVs
import Derived.Test.YtihbgajlnbchlaaCV
import Derived.Test.YtihbgajlnbchlaaOpenY
import Derived.Test.YtihbgajlnbchlaaFacts
namespace Go.Proofs.Ytihbgajlnbchlaa.normalTwice
open Go.ChangeShapes Go.WideShapes Go.ChangeAt Go.RowKit
set_option linter.unusedVariables false

set_option maxRecDepth 100000 in
set_option maxHeartbeats 4000000 in
theorem walk (A0 : Option Addr) (n0 cap0 : Nat) (zs0 : List Int) (w : World) (hn0 : n0 ≤ maxLen) (hc0 : n0 ≤ cap0) (hs0 : Seg w 1 A0 n0 (encY zs0)) (hb0 : bytesB zs0) :
    Calls Try.prog 6 #[.slice A0 n0 cap0] w fun e w' => e = .returned (.bool true) ∧ Ext w w' := by
  by_cases hbig : 1048576 < n0
  · clear hs0
    go_enter Try.func6, Try.ntmps6
    go_wp2
    go_ret
    exact ⟨rfl, Ext.refl _⟩
  go_enter Try.func6, Try.ntmps6
  go_wp2_with fail
  refine (drawCV_any A0 n0 cap0 zs0 _ hn0 hc0 hs0 hb0).mono ?_
  rintro e w1 ⟨A1a, n1a, c1a, ts1a, bd1a, rfl, hl1a, hm1a, hg1a, hE1⟩
  have hC1 : Ext w w1 := hE1
  have ze1 := hC1.size
  clear hE1
  have hn1a : n1a ≤ maxLen := by unfold maxLen; omega
  have HL1a := Lib.hid hl1a
  have hG1a := Lib.hid hg1a
  clear hl1a hg1a
  by_cases hv : cvB ts1a bd1a = true
  · have HV := Lib.hid hv
    clear hv
    have HNF := Lib.hid (nfB_self HV.out ts1a (List.Perm.refl _))
    go_wp2_with fail
    refine Calls.mono ((implNF_any A1a n1a c1a ts1a bd1a _ hn1a (hG1a.out.seg.ext ((Ext.refl _).alloc _)) ).mono fun _ _ h => h.of_eq ((nfT_of HNF.out).trans (noT_self HV.out)) ((nfD_of HNF.out).trans (noD_self HV.out)) HNF.out) ?_
    rintro e w2 ⟨A2, n2, c2, rfl, hl2, hg2, hE2⟩
    have hC2 : Ext w1 w2 := ((Ext.refl _).alloc _).trans hE2
    have ze2 := hC2.size
    have B_x0 := Lib.hid (Blk.of1 hE2)
    have zb_x0 := B_x0.out.lt
    clear hE2
    have hG2 := Lib.hid hg2
    have HL2 := Lib.hid hl2
    have hs2 : n2 ≤ 1048576 := (by rw [← hl2]; exact by rw [← ((nfT_of HNF.out).trans (noT_self HV.out))]; exact nfT_len ts1a bd1a)
    have hn2 : n2 ≤ maxLen := (Nat.le_trans hs2 (by unfold maxLen; omega))
    clear hg2 hl2
    have L_x0 := B_x0.out
    have c_x0_0 := L_x0.cell 0
    have c_x0_1 := L_x0.cell 1
    have l_x0 := L_x0.lt
    clear L_x0
    go_wp2_with fail
    refine Calls.mono ((specNF_any A1a n1a c1a ts1a bd1a _ hn1a ((hG1a.out.seg.ext hC2).ext ((Ext.refl _).alloc _)) ).mono fun _ _ h => h.of_eq ((nfT_of HNF.out).trans (noT_self HV.out)) ((nfD_of HNF.out).trans (noD_self HV.out)) HNF.out) ?_
    rintro e w3 ⟨A3, n3, c3, rfl, hl3, hg3, hE3⟩
    have hC3 : Ext w2 w3 := ((Ext.refl _).alloc _).trans hE3
    have ze3 := hC3.size
    have B_x1 := Lib.hid (Blk.of1 hE3)
    have zb_x1 := B_x1.out.lt
    clear c_x0_0 c_x0_1 l_x0
    clear hE3
    have hG3 := Lib.hid hg3
    have HL3 := Lib.hid hl3
    have hs3 : n3 ≤ 1048576 := (by rw [← hl3]; exact by rw [← ((nfT_of HNF.out).trans (noT_self HV.out))]; exact nfT_len ts1a bd1a)
    have hn3 : n3 ≤ maxLen := (Nat.le_trans hs3 (by unfold maxLen; omega))
    clear hg3 hl3
    have L_x1 := B_x1.out
    have c_x1_0 := L_x1.cell 0
    have c_x1_1 := L_x1.cell 1
    have l_x1 := L_x1.lt
    clear L_x1
    go_wp2_with fail
    refine (calls_val (implCS2 A2 n2 c2 ts1a bd1a A3 n3 c3 ts1a bd1a _ hn2 ((hG2.out.seg.ext hC3).ext ((Ext.refl _).alloc _)) hn3 (hG3.out.seg.ext ((Ext.refl _).alloc _))) (congrArg Value.bool (cEq_self _ _))).mono ?_
    rintro e w4 ⟨rfl, hE4⟩
    have hC4 : Ext w3 w4 := ((Ext.refl _).alloc _).trans hE4
    have ze4 := hC4.size
    have B_x2 := Lib.hid (Blk.of1 hE4)
    have zb_x2 := B_x2.out.lt
    clear c_x1_0 c_x1_1 l_x1
    clear hE4
    have L_x0 := (B_x0.out.ext (hC3.trans hC4))
    have c_x0_0 := L_x0.cell 0
    have c_x0_1 := L_x0.cell 1
    clear L_x0
    go_wp2_with fail
    refine (calls_val (specCV_any A1a n1a c1a ts1a bd1a _ hn1a (hG1a.out.seg.ext ((hC2.trans hC3).trans hC4))) (congrArg Value.bool HV.out)).mono ?_
    rintro e w5 ⟨rfl, hE5⟩
    have hC5 : Ext w4 w5 := hE5
    have ze5 := hC5.size
    clear c_x0_0 c_x0_1
    clear hE5
    obtain ⟨i0, hi, hz0, hz1, hz2⟩ := info_parts Try.infoTmF
    have HI := Lib.hid hi
    have HZ0 := Lib.hid hz0
    have HZ1 := Lib.hid hz1
    have HZ2 := Lib.hid hz2
    clear hi hz0 hz1 hz2
    have OE := own_empty w5 w5.heap.size 40 2 (Nat.le_refl _)
    have HBX := Lib.hid (B_x0.out.ext ((hC3.trans hC4).trans hC5))
    have HSX := Lib.hid (hG1a.out.seg.ext (((hC2.trans hC3).trans hC4).trans hC5))
    have d0 := (HBX.out.alloc (.cells #[] 40)).cell 0
    have hw : IntKind.i64.wrap ((n1a : Int) - 1) = (n1a : Int) - 1 := IntWalk.i64_in _ (by omega)
    go_wp2_with fail
    go_loopw [8, 9] (fun s i W => ∃ (j : Nat) (z : Int), j ≤ n1a ∧ z = (j : Int) - 1 ∧ i = .int .i64 z ∧ Ext w5 W ∧ Hid (W.ownsRow w5.heap.size 40 2 s (n1a - j) (encT (ts1a.drop j).reverse))) (fun _ i _ => ((intOf i) + 1).toNat)
    case atStart =>
      refine ⟨n1a, _, Nat.le_refl _, rfl, rfl, (Ext.refl _).alloc _, ?_⟩
      rw [Nat.sub_self, List.drop_of_length_le (by rw [HL1a.out]; exact Nat.le_refl _)]
      exact OE
    case round =>
      obtain ⟨j, z, hj, hz, rfl, hE, hown⟩ := hrel
      by_cases hlt : 0 < j
      · obtain ⟨j, rfl⟩ : ∃ k, j = k + 1 := ⟨j - 1, by omega⟩
        obtain rfl : z = (j : Int) := by omega
        clear hz
        have d0 := (HBX.out.ext hE).cell 0
        obtain ⟨b, off, c, l, rfl, hx, t1, t2⟩ := (HSX.out.ext hE).term (k := j) (by omega)
        have HX := Lib.hid hx
        obtain ⟨q, hq⟩ : ∃ q, n1a - (j + 1) = q := ⟨_, rfl⟩
        have HQ := Lib.hid hq
        have hqb : q ≤ 13 := by omega
        rw [hq] at hown
        obtain ⟨A5, c5, rfl⟩ := own_slice hown.out
        have hw : IntKind.i64.wrap ((j : Int) - 1) = (j : Int) - 1 := IntWalk.i64_in _ (by omega)
        clear hx hq
        go_wp2_with (first
          | (at_builtin
             refine wpList_append_own _ rfl (.tmp 64) (.tmp 70) 23 rfl w5.heap.size 40 i0 _ 2 16 Try.underlying23 HI.out HZ0.out HZ1.out HZ2.out rfl (by omega) (.slice A5 q c5) q _ rfl (hown.out.alloc _) ⟨wr.heap.size, 0, none⟩ 1 1 [.int .i64 c, .int .i64 l] rfl rfl (cell_two_new _ _ _ _) ?_ ?_ ?_ ?_ ?_
             (intro u hu; simp at hu; rcases hu with rfl | rfl <;> rfl)
             (unfold maxLen; omega)
             omega
             (have := hE.size; simp; omega)
             (intro v1 w5 hown5 hg5 _)))
        go_roundw
        case rel =>
          have EG := own_ext (hE.alloc (.cells #[.int .i64 c, .int .i64 l] 40)) (hown.out.alloc (.cells #[.int .i64 c, .int .i64 l] 40)) (Nat.le_refl _) hg5
          refine ⟨j, (j : Int) - 1, by omega, rfl, by first | rfl | go_num, EG, ?_⟩
          rw [drop_of_get _ _ _ HX.out, List.reverse_cons, encT_append, show n1a - j = q + 1 from by have := HQ.out; omega]
          simpa [encT, Hid] using hown5
        case measure => simp only [intOf]; omega
      · obtain rfl : j = 0 := by omega
        obtain rfl : z = -1 := by omega
        clear hz
        rw [Nat.sub_zero, List.drop_zero] at hown
        obtain ⟨A9, c9, rfl⟩ := own_slice hown.out
        have S9 := Lib.hid (own_parts hown.out).1
        have HNR := Lib.hid (nfB_self HV.out ts1a.reverse (List.reverse_perm ts1a).symm)
        have HE9 := Lib.hid hE
        clear hown hE d0
        have hC6 : Ext w5 wr := HE9.out
        have ze6 := hC6.size
        have L_x0 := (B_x0.out.ext (((hC3.trans hC4).trans hC5).trans hC6))
        have c_x0_0 := L_x0.cell 0
        have c_x0_1 := L_x0.cell 1
        clear L_x0
        go_wp2_with fail
        refine Calls.mono ((implNF_any A9 n1a c9 ts1a.reverse bd1a _ hn1a S9.out ).mono fun _ _ h => h.of_eq ((nfT_of HNR.out).trans ((noT_perm (List.reverse_perm ts1a)).trans (noT_self HV.out))) ((nfD_of HNR.out).trans ((noD_perm (List.reverse_perm ts1a) bd1a).trans (noD_self HV.out))) HNR.out) ?_
        rintro e w7 ⟨A7, n7, c7, rfl, hl7, hg7, hE7⟩
        have hC7 : Ext wr w7 := hE7
        have ze7 := hC7.size
        clear c_x0_0 c_x0_1
        clear hE7
        have hG7 := Lib.hid hg7
        have HL7 := Lib.hid hl7
        have hs7 : n7 ≤ 1048576 := (by rw [← hl7]; exact by rw [← ((nfT_of HNR.out).trans ((noT_perm (List.reverse_perm ts1a)).trans (noT_self HV.out)))]; exact nfT_len ts1a.reverse bd1a)
        have hn7 : n7 ≤ maxLen := (Nat.le_trans hs7 (by unfold maxLen; omega))
        clear hg7 hl7
        have L_x1 := (B_x1.out.ext (((hC4.trans hC5).trans hC6).trans hC7))
        have c_x1_0 := L_x1.cell 0
        have c_x1_1 := L_x1.cell 1
        have l_x1 := L_x1.lt
        clear L_x1
        have L_x0 := (B_x0.out.ext ((((hC3.trans hC4).trans hC5).trans hC6).trans hC7))
        have c_x0_0 := L_x0.cell 0
        have c_x0_1 := L_x0.cell 1
        have l_x0 := L_x0.lt
        clear L_x0
        go_wp2_with fail
        refine (calls_val (implCS2 A2 n2 c2 ts1a bd1a A1a n1a c1a ts1a bd1a _ hn2 ((hG2.out.seg.ext ((((hC3.trans hC4).trans hC5).trans hC6).trans hC7)).ext ((Ext.refl _).alloc _)) hn1a ((hG1a.out.seg.ext (((((hC2.trans hC3).trans hC4).trans hC5).trans hC6).trans hC7)).ext ((Ext.refl _).alloc _))) (congrArg Value.bool (cEq_self _ _))).mono ?_
        rintro e w8 ⟨rfl, hE8⟩
        have hC8 : Ext w7 w8 := ((Ext.refl _).alloc _).trans hE8
        have ze8 := hC8.size
        have B_x3 := Lib.hid (Blk.of1 hE8)
        have zb_x3 := B_x3.out.lt
        clear c_x1_0 c_x1_1 l_x1 c_x0_0 c_x0_1 l_x0
        clear hE8
        have L_x3 := B_x3.out
        have c_x3_0 := L_x3.cell 0
        have c_x3_1 := L_x3.cell 1
        clear L_x3
        have L_x0 := (B_x0.out.ext (((((hC3.trans hC4).trans hC5).trans hC6).trans hC7).trans hC8))
        have c_x0_0 := L_x0.cell 0
        have c_x0_1 := L_x0.cell 1
        clear L_x0
        go_wp2_with fail
        refine (calls_val (implCS2 A7 n7 c7 ts1a bd1a A1a n1a c1a ts1a bd1a _ hn7 (hG7.out.seg.ext hC8) hn1a (hG1a.out.seg.ext ((((((hC2.trans hC3).trans hC4).trans hC5).trans hC6).trans hC7).trans hC8))) (congrArg Value.bool (cEq_self _ _))).mono ?_
        rintro e w9 ⟨rfl, hE9⟩
        have hC9 : Ext w8 w9 := hE9
        have ze9 := hC9.size
        clear c_x3_0 c_x3_1 c_x0_0 c_x0_1
        clear hE9
        go_wp2
        go_ret
        exact ⟨rfl, ((((((((hC1.trans hC2).trans hC3).trans hC4).trans hC5).trans hC6).trans hC7).trans hC8).trans hC9)⟩
  · have HV := Lib.hid (show cvB ts1a bd1a = false by simpa using hv)
    clear hv
    by_cases hb : nfB ts1a bd1a = true
    · have HN := Lib.hid hb
      clear hb
      go_wp2_with fail
      refine Calls.mono ((implNF_any A1a n1a c1a ts1a bd1a _ hn1a (hG1a.out.seg.ext ((Ext.refl _).alloc _)) ).mono fun _ _ h => h.of_eq rfl rfl HN.out) ?_
      rintro e w2 ⟨A2, n2, c2, rfl, hl2, hg2, hE2⟩
      have hC2 : Ext w1 w2 := ((Ext.refl _).alloc _).trans hE2
      have ze2 := hC2.size
      have B_x0 := Lib.hid (Blk.of1 hE2)
      have zb_x0 := B_x0.out.lt
      clear hE2
      have hG2 := Lib.hid hg2
      have HL2 := Lib.hid hl2
      have hs2 : n2 ≤ 1048576 := (by rw [← hl2]; exact nfT_len ts1a bd1a)
      have hn2 : n2 ≤ maxLen := (Nat.le_trans hs2 (by unfold maxLen; omega))
      clear hg2 hl2
      have L_x0 := B_x0.out
      have c_x0_0 := L_x0.cell 0
      have c_x0_1 := L_x0.cell 1
      have l_x0 := L_x0.lt
      clear L_x0
      go_wp2_with fail
      refine Calls.mono ((specNF_any A1a n1a c1a ts1a bd1a _ hn1a ((hG1a.out.seg.ext hC2).ext ((Ext.refl _).alloc _)) ).mono fun _ _ h => h.of_eq rfl rfl HN.out) ?_
      rintro e w3 ⟨A3, n3, c3, rfl, hl3, hg3, hE3⟩
      have hC3 : Ext w2 w3 := ((Ext.refl _).alloc _).trans hE3
      have ze3 := hC3.size
      have B_x1 := Lib.hid (Blk.of1 hE3)
      have zb_x1 := B_x1.out.lt
      clear c_x0_0 c_x0_1 l_x0
      clear hE3
      have hG3 := Lib.hid hg3
      have HL3 := Lib.hid hl3
      have hs3 : n3 ≤ 1048576 := (by rw [← hl3]; exact nfT_len ts1a bd1a)
      have hn3 : n3 ≤ maxLen := (Nat.le_trans hs3 (by unfold maxLen; omega))
      clear hg3 hl3
      have L_x1 := B_x1.out
      have c_x1_0 := L_x1.cell 0
      have c_x1_1 := L_x1.cell 1
      have l_x1 := L_x1.lt
      clear L_x1
      go_wp2_with fail
      refine (calls_val (implCS2 A2 n2 c2 (nfT ts1a bd1a) (nfD ts1a bd1a) A3 n3 c3 (nfT ts1a bd1a) (nfD ts1a bd1a) _ hn2 ((hG2.out.seg.ext hC3).ext ((Ext.refl _).alloc _)) hn3 (hG3.out.seg.ext ((Ext.refl _).alloc _))) (congrArg Value.bool (cEq_self _ _))).mono ?_
      rintro e w4 ⟨rfl, hE4⟩
      have hC4 : Ext w3 w4 := ((Ext.refl _).alloc _).trans hE4
      have ze4 := hC4.size
      have B_x2 := Lib.hid (Blk.of1 hE4)
      have zb_x2 := B_x2.out.lt
      clear c_x1_0 c_x1_1 l_x1
      clear hE4
      have L_x0 := (B_x0.out.ext (hC3.trans hC4))
      have c_x0_0 := L_x0.cell 0
      have c_x0_1 := L_x0.cell 1
      clear L_x0
      go_wp2_with fail
      refine (calls_val (specCV_any A1a n1a c1a ts1a bd1a _ hn1a (hG1a.out.seg.ext ((hC2.trans hC3).trans hC4))) (congrArg Value.bool HV.out)).mono ?_
      rintro e w5 ⟨rfl, hE5⟩
      have hC5 : Ext w4 w5 := hE5
      have ze5 := hC5.size
      clear c_x0_0 c_x0_1
      clear hE5
      have L_x1 := (B_x1.out.ext (hC4.trans hC5))
      have c_x1_0 := L_x1.cell 0
      have c_x1_1 := L_x1.cell 1
      clear L_x1
      have L_x2 := (B_x2.out.ext hC5)
      have c_x2_0 := L_x2.cell 0
      have c_x2_1 := L_x2.cell 1
      clear L_x2
      go_wp2_with fail
      refine (calls_val (implCS2 A2 n2 c2 (nfT ts1a bd1a) (nfD ts1a bd1a) A3 n3 c3 (nfT ts1a bd1a) (nfD ts1a bd1a) _ hn2 (hG2.out.seg.ext ((hC3.trans hC4).trans hC5)) hn3 (hG3.out.seg.ext (hC4.trans hC5))) (congrArg Value.bool (cEq_self _ _))).mono ?_
      rintro e w6 ⟨rfl, hE6⟩
      have hC6 : Ext w5 w6 := hE6
      have ze6 := hC6.size
      clear c_x1_0 c_x1_1 c_x2_0 c_x2_1
      clear hE6
      go_wp2
      go_ret
      exact ⟨rfl, (((((hC1.trans hC2).trans hC3).trans hC4).trans hC5).trans hC6)⟩
    · have HN := Lib.hid (show nfB ts1a bd1a = false by simpa using hb)
      clear hb
      go_wp2_with fail
      refine Calls.mono ((implNF_any A1a n1a c1a ts1a bd1a _ hn1a (hG1a.out.seg.ext ((Ext.refl _).alloc _)) ).mono fun _ _ h => h.of_eq (nfT_no HN.out) (nfD_no HN.out) HN.out) ?_
      rintro e w2 ⟨A2, n2, c2, rfl, hl2, hg2, hE2⟩
      have hC2 : Ext w1 w2 := ((Ext.refl _).alloc _).trans hE2
      have ze2 := hC2.size
      have B_x0 := Lib.hid (Blk.of1 hE2)
      have zb_x0 := B_x0.out.lt
      clear hE2
      have hG2 := Lib.hid hg2
      have HL2 := Lib.hid hl2
      have hs2 : n2 ≤ 1048576 := (by rw [← hl2]; exact by rw [← (nfT_no HN.out)]; exact nfT_len ts1a bd1a)
      have hn2 : n2 ≤ maxLen := (Nat.le_trans hs2 (by unfold maxLen; omega))
      clear hg2 hl2
      have L_x0 := B_x0.out
      have c_x0_0 := L_x0.cell 0
      have c_x0_1 := L_x0.cell 1
      have l_x0 := L_x0.lt
      clear L_x0
      go_wp2_with fail
      refine Calls.mono ((specNF_any A1a n1a c1a ts1a bd1a _ hn1a ((hG1a.out.seg.ext hC2).ext ((Ext.refl _).alloc _)) ).mono fun _ _ h => h.of_eq (nfT_no HN.out) (nfD_no HN.out) HN.out) ?_
      rintro e w3 ⟨A3, n3, c3, rfl, hl3, hg3, hE3⟩
      have hC3 : Ext w2 w3 := ((Ext.refl _).alloc _).trans hE3
      have ze3 := hC3.size
      have B_x1 := Lib.hid (Blk.of1 hE3)
      have zb_x1 := B_x1.out.lt
      clear c_x0_0 c_x0_1 l_x0
      clear hE3
      have hG3 := Lib.hid hg3
      have HL3 := Lib.hid hl3
      have hs3 : n3 ≤ 1048576 := (by rw [← hl3]; exact by rw [← (nfT_no HN.out)]; exact nfT_len ts1a bd1a)
      have hn3 : n3 ≤ maxLen := (Nat.le_trans hs3 (by unfold maxLen; omega))
      clear hg3 hl3
      have L_x1 := B_x1.out
      have c_x1_0 := L_x1.cell 0
      have c_x1_1 := L_x1.cell 1
      have l_x1 := L_x1.lt
      clear L_x1
      go_wp2_with fail
      refine (calls_val (implCS2 A2 n2 c2 ([]) 0 A3 n3 c3 ([]) 0 _ hn2 ((hG2.out.seg.ext hC3).ext ((Ext.refl _).alloc _)) hn3 (hG3.out.seg.ext ((Ext.refl _).alloc _))) (congrArg Value.bool (cEq_self _ _))).mono ?_
      rintro e w4 ⟨rfl, hE4⟩
      have hC4 : Ext w3 w4 := ((Ext.refl _).alloc _).trans hE4
      have ze4 := hC4.size
      have B_x2 := Lib.hid (Blk.of1 hE4)
      have zb_x2 := B_x2.out.lt
      clear c_x1_0 c_x1_1 l_x1
      clear hE4
      have L_x0 := (B_x0.out.ext (hC3.trans hC4))
      have c_x0_0 := L_x0.cell 0
      have c_x0_1 := L_x0.cell 1
      clear L_x0
      go_wp2_with fail
      refine (calls_val (specCV_any A1a n1a c1a ts1a bd1a _ hn1a (hG1a.out.seg.ext ((hC2.trans hC3).trans hC4))) (congrArg Value.bool HV.out)).mono ?_
      rintro e w5 ⟨rfl, hE5⟩
      have hC5 : Ext w4 w5 := hE5
      have ze5 := hC5.size
      clear c_x0_0 c_x0_1
      clear hE5
      have L_x1 := (B_x1.out.ext (hC4.trans hC5))
      have c_x1_0 := L_x1.cell 0
      have c_x1_1 := L_x1.cell 1
      clear L_x1
      have L_x2 := (B_x2.out.ext hC5)
      have c_x2_0 := L_x2.cell 0
      have c_x2_1 := L_x2.cell 1
      clear L_x2
      go_wp2_with fail
      refine (calls_val (implCS2 A2 n2 c2 ([]) 0 A3 n3 c3 ([]) 0 _ hn2 (hG2.out.seg.ext ((hC3.trans hC4).trans hC5)) hn3 (hG3.out.seg.ext (hC4.trans hC5))) (congrArg Value.bool (cEq_self _ _))).mono ?_
      rintro e w6 ⟨rfl, hE6⟩
      have hC6 : Ext w5 w6 := hE6
      have ze6 := hC6.size
      clear c_x1_0 c_x1_1 c_x2_0 c_x2_1
      clear hE6
      go_wp2
      go_ret
      exact ⟨rfl, (((((hC1.trans hC2).trans hC3).trans hC4).trans hC5).trans hC6)⟩

theorem own : ownKnob Try.prog.godebug = none := by kernel_rfl
theorem laidOut : laidOutB Try.prog = true := by kernel_rfl

set_option maxRecDepth 100000 in
theorem lifted (os : Os) (started : os.Started) (H : Type) (enc : TypeId × Value → H) :
    ReturnsInHanded {} Try.checked os 6 .any (Rows.fnNormalTwiceSpec.pre6 enc Try.prog Try.f6 Rows.fnNormalTwiceRow.domain false) (Rows.fnNormalTwiceSpec.post enc Try.prog Try.f6 false true false false) := by
  refine returnsInHanded_of_change (C := Try.checked) own started (by kernel_rfl) Try.func6
    (ChangeSpec.witness6 (enc := enc) (C := Try.checked) false ⟨#[], #[.slice none 0 0], []⟩ 8 (by kernel_rfl) (by kernel_rfl) (by kernel_rfl) (by kernel_rfl)) ?_
  intro W base args ds gs before hval0 hW hcnd _
  have hval : ∀ (j : Nat) t v, Try.f6.params[j]? = some t → args[j]? = some v → Value.okWide Try.prog W .any base t v := hval0
  have hW' := hW
  obtain ⟨p, q, hA0, hV, rfl, hfz, hnd⟩ := hW
  have hA : DataW.TrodAll enc Try.prog W 0 (fun _ => true) true Try.f6.params.toList args.toList ds p := hA0
  rw [Try.params6] at hA hval
  obtain ⟨v0, vs0, d0, ds0, p0, q0, hargs, rfl, rfl, h0, r0⟩ := trodAll_cons hA
  obtain ⟨rfl, rfl, rfl⟩ := trodAll_nil r0
  obtain rfl : args = #[v0] := by cases args; simp_all
  obtain ⟨rfl, rfl⟩ := trodVars_none hV
  have k0 := h0
  have lt0 : ∀ x ∈ p0, x.block < W.heap.size := by obtain ⟨m, hm⟩ := k0; exact DataW.trod_lt m _ _ _ hm
  obtain ⟨A0, n0, cap0, zs0, rfl, hn0, hc0, hs0, hb0⟩ := arg_bytes (hval 0 22 v0 rfl rfl) h0
  clear hA0 hval0
  refine (walk A0 n0 cap0 zs0 W hn0 hc0 hs0 hb0).mono fun e W' ⟨he, ext⟩ => ?_
  subst he
  have bel := ext.below
  exact ⟨_, rfl, _, _, _, [], _, [], hW', trodAll_mk1 (shut_bool Try.underlying4 _), (trodAll_cons_mk (Below.trod laidOut (by kernel_rfl) (of_decide_eq_true (by kernel_rfl)) k0 bel lt0) trodAll_mk0), rfl, bel.frame _, fun h => by cases h⟩

set_option maxHeartbeats 4000000 in
theorem joined : joinedFacts Try.pinned.checked.prog 6 Try.f6 Rows.fnNormalTwiceSpec Rows.fnNormalTwiceRow = true := by
  unfold joinedFacts
  exact (and2 (and2 (and2 (and2 (and2 (and2 (and2 (and2 (and2 (and2 (and2 (and2 (and2 (and2 (and2 (and2 (and2 (and2 (and2 (and2 (and2 (and2 (and2 (and2 (and2 (and2 (and2 (and2 (and2 (and2 (and2 (by as_aux_lemma => kernel_rfl) (by as_aux_lemma => kernel_rfl)) (by as_aux_lemma => kernel_rfl)) (by as_aux_lemma => kernel_rfl)) (by as_aux_lemma => kernel_rfl)) (by as_aux_lemma => kernel_rfl)) (by as_aux_lemma => kernel_rfl)) (by as_aux_lemma => kernel_rfl)) (by as_aux_lemma => kernel_rfl)) (by as_aux_lemma => kernel_rfl)) (by as_aux_lemma => kernel_rfl)) (by as_aux_lemma => kernel_rfl)) (by as_aux_lemma => kernel_rfl)) (by as_aux_lemma => kernel_rfl)) (by as_aux_lemma => kernel_rfl)) (by as_aux_lemma => kernel_rfl)) (by as_aux_lemma => kernel_rfl)) (by as_aux_lemma => kernel_rfl)) (by as_aux_lemma => kernel_rfl)) (by as_aux_lemma => kernel_rfl)) (by as_aux_lemma => kernel_rfl)) (by as_aux_lemma => kernel_rfl)) (by as_aux_lemma => kernel_rfl)) (by as_aux_lemma => kernel_rfl)) (by as_aux_lemma => kernel_rfl)) jEnter) jLift) jMake) (by as_aux_lemma => kernel_rfl)) (by as_aux_lemma => kernel_rfl)) (by as_aux_lemma => kernel_rfl)) (by as_aux_lemma => kernel_rfl))

set_option maxHeartbeats 4000000 in
theorem over : Rows.fnNormalTwiceRow.holds Try.pinned (OpenSpec.ofChange Rows.fnNormalTwiceSpec) :=
  OpenClaim.holds_of_wide 6 Try.f6 rfl rfl rfl rfl rfl rfl rfl ⟨rfl, rfl, rfl, rfl, rfl⟩ rfl rfl rfl rfl rfl (by kernel_rfl) Try.func6 joined
    (of_decide_eq_true (by kernel_rfl)) (by unfold Func.isWrapper; first | (rw [if_pos (by decide +kernel)]; kernel_rfl) | (rw [if_neg (by decide +kernel)]; exact ⟨rfl, rfl⟩))
    (fun os started H enc _ => lifted os started H enc)

theorem proved : Rows.FnNormalTwiceSaid := over

end Go.Proofs.Ytihbgajlnbchlaa.normalTwice
