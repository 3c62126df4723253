/- laws.FnNextSolution: for all bytes, the program's NextSolution returns what the reference's returns, a solution that is not before the values, with none between, or says rightly that there is none. No condition. -/
import Derived.Test.YtmbdfnimmjomfaaRdH
import Derived.Test.YtmbdfnimmjomfaaPlCn
import Derived.Test.YtmbdfnimmjomfaaCpF
import Derived.Test.YtmbdfnimmjomfaaCpB
import Derived.Test.YtmbdfnimmjomfaaAppC
import Derived.Test.YtmbdfnimmjomfaaSats
import Derived.Test.YtmbdfnimmjomfaaProbV
import Derived.Test.YtmbdfnimmjomfaaOpenY
import Derived.Test.YtmbdfnimmjomfaaFacts
namespace Go.Proofs.Ytmbdfnimmjomfaa.nextSolution
open Go.ChangeShapes Go.WideShapes Go.ChangeAt Go.RowKit
set_option linter.unusedVariables false

set_option maxRecDepth 100000 in
set_option maxHeartbeats 4000000 in
theorem walk (A0 : Option Addr) (n0 cap0 : Nat) (zs0 : List Int) (w : World) (hn0 : n0 ≤ maxLen) (hc0 : n0 ≤ cap0) (hs0 : Seg w 1 A0 n0 (encY zs0)) (hb0 : bytesB zs0) :
    Calls Try.prog 7 #[.slice A0 n0 cap0] w fun e w' => e = .returned (.bool true) ∧ Ext w w' := by
  by_cases hbig : 1048576 < n0
  · clear hs0
    go_enter Try.func7, Try.ntmps7
    go_wp2
    go_ret
    exact ⟨rfl, Ext.refl _⟩
  go_enter Try.func7, Try.ntmps7
  go_wp2_with fail
  refine (drawNx_any A0 n0 cap0 zs0 _ hn0 hc0 hs0 hb0).mono ?_
  rintro e w1 ⟨A1a, n1a, c1a, cs1a, A1b, n1b, c1b, vs1b, rfl, hl1a, hm1a, hl1b, hm1b, hg1a, hg1b, hE1⟩
  have hC1 : Ext w w1 := hE1
  have ze1 := hC1.size
  clear hE1
  have hn1a : n1a ≤ maxLen := by unfold maxLen; omega
  have HL1a := Lib.hid hl1a
  have hG1a := Lib.hid hg1a
  clear hl1a hg1a
  have hn1b : n1b ≤ maxLen := by unfold maxLen; omega
  have HL1b := Lib.hid hl1b
  have hG1b := Lib.hid hg1b
  clear hl1b hg1b
  by_cases hv : nsB cs1a vs1b = true
  · have HV := Lib.hid hv
    clear hv
    obtain ⟨_, _, _, _, hp, hl12, _⟩ := nsB_some HV.out
    have HP := Lib.hid hp
    obtain rfl : n1b = 12 := by rw [← HL1b.out]; exact hl12
    clear hp hl12
    go_wp2_with fail
    refine Calls.mono ((implNs_any A1a n1a c1a cs1a A1b 12 c1b vs1b _ hn1a hG1a.out hn1b hG1b.out.seg).mono fun _ _ h => h.of_eq rfl HV.out) ?_
    rintro e w2 ⟨A2, n2, c2, rfl, hl2, hg2, hE2⟩
    have hC2 : Ext w1 w2 := hE2
    have ze2 := hC2.size
    clear hE2
    have hG2 := Lib.hid hg2
    have HL2 := Lib.hid hl2
    have hs2 : n2 ≤ 1048576 := (by rw [← hl2]; exact nsT_len cs1a vs1b)
    have hn2 : n2 ≤ maxLen := (Nat.le_trans hs2 (by unfold maxLen; omega))
    clear hg2 hl2
    go_wp2_with fail
    refine Calls.mono ((specNs_any A1a n1a c1a cs1a A1b 12 c1b vs1b _ hn1a (hG1a.out.ext hC2) hn1b (hG1b.out.seg.ext hC2)).mono fun _ _ h => h.of_eq rfl HV.out) ?_
    rintro e w3 ⟨A3, n3, c3, rfl, hl3, hg3, hE3⟩
    have hC3 : Ext w2 w3 := hE3
    have ze3 := hC3.size
    clear hE3
    have hG3 := Lib.hid hg3
    have HL3 := Lib.hid hl3
    have hs3 : n3 ≤ 1048576 := (by rw [← hl3]; exact nsT_len cs1a vs1b)
    have hn3 : n3 ≤ maxLen := (Nat.le_trans hs3 (by unfold maxLen; omega))
    clear hg3 hl3
    go_wp2_with fail
    refine (calls_val (cpB_any A2 n2 c2 (nsT cs1a vs1b) A3 n3 c3 (nsT cs1a vs1b) _ hn2 (hG2.out.seg.ext hC3) hn3 hG3.out.seg) (congrArg Value.bool (cbEq_self _))).mono ?_
    rintro e w4 ⟨rfl, hE4⟩
    have hC4 : Ext w3 w4 := hE4
    have ze4 := hC4.size
    clear hE4
    go_wp2_with fail
    refine (calls_val (implProbV_any A1a n1a c1a cs1a _ hn1a (hG1a.out.ext ((hC2.trans hC3).trans hC4))) (congrArg Value.bool HP.out)).mono ?_
    rintro e w5 ⟨rfl, hE5⟩
    have hC5 : Ext w4 w5 := hE5
    have ze5 := hC5.size
    clear hE5
    obtain rfl : n2 = 12 := by rw [← HL2.out]; exact nsT_12 HV.out
    have SL := Lib.hid (hG1a.out.ext (((hC2.trans hC3).trans hC4).trans hC5))
    have S1 := Lib.hid (hG1b.out.seg.ext (((hC2.trans hC3).trans hC4).trans hC5))
    have S2 := Lib.hid (hG2.out.seg.ext ((hC3.trans hC4).trans hC5))
    have E0 := Lib.hid ((((hC1.trans hC2).trans hC3).trans hC4).trans hC5)
    have h12 : (12 : Nat) ≤ maxLen := by unfold maxLen; omega
    go_wp2
    go_loopw [9] (fun i wr => ∃ k : Nat, k ≤ 4096 ∧ i = .int .i64 k ∧ Ext w5 wr) (fun i _ => 4096 - (intOf i).toNat)
    case atStart => exact ⟨0, by omega, rfl, Ext.refl _⟩
    case round =>
      obtain ⟨k, hk, rfl, hE⟩ := hrel
      by_cases hlt : k < 4096
      · go_wp2_with fail
        refine (cpV_any (k : Int) _ (by omega)).mono ?_
        rintro e w5 ⟨A5, c5, vs, rfl, hl5, hG5, hE5⟩
        have HE5 := Lib.hid (hE.trans hE5)
        have HG5 := Lib.hid hG5.seg
        have HX : Hid (saB cs1a vs = true → befB vs vs1b = true ∨ befB vs (nsT cs1a vs1b) = false) := fun h => ns_some HV.out h
        obtain ⟨sa, hsa⟩ : ∃ b, Hid (saB cs1a vs = b) := ⟨_, rfl⟩
        obtain ⟨b1, hb1⟩ : ∃ b, Hid (befB vs vs1b = b) := ⟨_, rfl⟩
        clear hE hE5 hG5 hl5
        cases sa
        · go_wp2_with fail
          refine (calls_val (implSA_any A1a n1a c1a cs1a A5 12 c5 vs _ hn1a (SL.out.ext HE5.out) h12 HG5.out) (congrArg Value.bool hsa.out)).mono ?_
          rintro e w7 ⟨rfl, hE7⟩
          have HE7 := Lib.hid (HE5.out.trans hE7)
          clear hE7
          go_wp2
          go_roundw
          case rel => exact ⟨k + 1, by omega, by go_num, HE7.out⟩
          case measure => simp [intOf]; omega
        · go_wp2_with fail
          refine (calls_val (implSA_any A1a n1a c1a cs1a A5 12 c5 vs _ hn1a (SL.out.ext HE5.out) h12 HG5.out) (congrArg Value.bool hsa.out)).mono ?_
          rintro e w7 ⟨rfl, hE7⟩
          have HE7 := Lib.hid (HE5.out.trans hE7)
          have HG7 := Lib.hid (HG5.out.ext hE7)
          clear hE7
          cases b1
          · have HB2 : Hid (befB vs (nsT cs1a vs1b) = false) := by
              rcases HX.out hsa.out with h | h
              · rw [hb1.out] at h; cases h
              · exact h
            go_wp2_with fail
            refine (calls_val (cpBf_any A5 c5 vs A1b c1b vs1b _ HG7.out (S1.out.ext HE7.out)) (congrArg Value.bool hb1.out)).mono ?_
            rintro e w8 ⟨rfl, hE8⟩
            have HE8 := Lib.hid (HE7.out.trans hE8)
            have HG8 := Lib.hid (HG7.out.ext hE8)
            clear hE8
            go_wp2_with fail
            refine (calls_val (cpBf_any A5 c5 vs A2 c2 (nsT cs1a vs1b) _ HG8.out (S2.out.ext HE8.out)) (congrArg Value.bool HB2.out)).mono ?_
            rintro e w9 ⟨rfl, hE9⟩
            have HE9 := Lib.hid (HE8.out.trans hE9)
            clear hE9
            go_wp2
            go_roundw
            case rel => exact ⟨k + 1, by omega, by go_num, HE9.out⟩
            case measure => simp [intOf]; omega
          · go_wp2_with fail
            refine (calls_val (cpBf_any A5 c5 vs A1b c1b vs1b _ HG7.out (S1.out.ext HE7.out)) (congrArg Value.bool hb1.out)).mono ?_
            rintro e w8 ⟨rfl, hE8⟩
            have HE8 := Lib.hid (HE7.out.trans hE8)
            clear hE8
            go_wp2
            go_roundw
            case rel => exact ⟨k + 1, by omega, by go_num, HE8.out⟩
            case measure => simp [intOf]; omega
      · obtain rfl : k = 4096 := by omega
        have HH := Lib.hid (ns_holds HV.out)
        go_wp2_with fail
        refine (calls_val (implSA_any A1a n1a c1a cs1a A2 12 c2 (nsT cs1a vs1b) _ hn1a (SL.out.ext hE) h12 (S2.out.ext hE)) (congrArg Value.bool HH.out.1)).mono ?_
        rintro e w7 ⟨rfl, hE7⟩
        have HE7 := Lib.hid (hE.trans hE7)
        clear hE7 hE
        go_wp2_with fail
        refine (calls_val (cpBf_any A2 c2 (nsT cs1a vs1b) A1b c1b vs1b _ (S2.out.ext HE7.out) (S1.out.ext HE7.out)) (congrArg Value.bool HH.out.2)).mono ?_
        rintro e w8 ⟨rfl, hE8⟩
        have HF := Lib.hid (E0.out.trans (HE7.out.trans hE8))
        clear hE8
        go_wp2
        go_ret
        exact ⟨rfl, HF.out⟩
  · have HV := Lib.hid (show nsB cs1a vs1b = false by simpa using hv)
    clear hv
    by_cases hp : probB cs1a = true
    · have HP := Lib.hid hp
      clear hp
      by_cases hl12 : n1b = 12
      · have HOK : Hid (nsOk cs1a vs1b = true) := by unfold nsOk Hid; rw [HP.out, decide_eq_true (by rw [HL1b.out]; exact hl12)]; rfl
        subst hl12
        go_wp2_with fail
        refine Calls.mono ((implNs_any A1a n1a c1a cs1a A1b 12 c1b vs1b _ hn1a hG1a.out hn1b hG1b.out.seg).mono fun _ _ h => h.of_eq (nsT_no HV.out) HV.out) ?_
        rintro e w2 ⟨A2, n2, c2, rfl, hl2, hg2, hE2⟩
        have hC2 : Ext w1 w2 := hE2
        have ze2 := hC2.size
        clear hE2
        have hG2 := Lib.hid hg2
        have HL2 := Lib.hid hl2
        have hs2 : n2 ≤ 1048576 := (by rw [← hl2, ← (nsT_no HV.out)]; exact nsT_len cs1a vs1b)
        have hn2 : n2 ≤ maxLen := (Nat.le_trans hs2 (by unfold maxLen; omega))
        clear hg2 hl2
        go_wp2_with fail
        refine Calls.mono ((specNs_any A1a n1a c1a cs1a A1b 12 c1b vs1b _ hn1a (hG1a.out.ext hC2) hn1b (hG1b.out.seg.ext hC2)).mono fun _ _ h => h.of_eq (nsT_no HV.out) HV.out) ?_
        rintro e w3 ⟨A3, n3, c3, rfl, hl3, hg3, hE3⟩
        have hC3 : Ext w2 w3 := hE3
        have ze3 := hC3.size
        clear hE3
        have hG3 := Lib.hid hg3
        have HL3 := Lib.hid hl3
        have hs3 : n3 ≤ 1048576 := (by rw [← hl3, ← (nsT_no HV.out)]; exact nsT_len cs1a vs1b)
        have hn3 : n3 ≤ maxLen := (Nat.le_trans hs3 (by unfold maxLen; omega))
        clear hg3 hl3
        go_wp2_with fail
        refine (calls_val (cpB_any A2 n2 c2 ([]) A3 n3 c3 ([]) _ hn2 (hG2.out.seg.ext hC3) hn3 hG3.out.seg) (congrArg Value.bool (cbEq_self _))).mono ?_
        rintro e w4 ⟨rfl, hE4⟩
        have hC4 : Ext w3 w4 := hE4
        have ze4 := hC4.size
        clear hE4
        go_wp2_with fail
        refine (calls_val (implProbV_any A1a n1a c1a cs1a _ hn1a (hG1a.out.ext ((hC2.trans hC3).trans hC4))) (congrArg Value.bool HP.out)).mono ?_
        rintro e w5 ⟨rfl, hE5⟩
        have hC5 : Ext w4 w5 := hE5
        have ze5 := hC5.size
        clear hE5
        have SL := Lib.hid (hG1a.out.ext (((hC2.trans hC3).trans hC4).trans hC5))
        have S1 := Lib.hid (hG1b.out.seg.ext (((hC2.trans hC3).trans hC4).trans hC5))
        have S2 := Lib.hid (hG2.out.seg.ext ((hC3.trans hC4).trans hC5))
        have E0 := Lib.hid ((((hC1.trans hC2).trans hC3).trans hC4).trans hC5)
        have h12 : (12 : Nat) ≤ maxLen := by unfold maxLen; omega
        go_wp2
        go_loopw [9] (fun i wr => ∃ k : Nat, k ≤ 4096 ∧ i = .int .i64 k ∧ Ext w5 wr) (fun i _ => 4096 - (intOf i).toNat)
        case atStart => exact ⟨0, by omega, rfl, Ext.refl _⟩
        case round =>
          obtain ⟨k, hk, rfl, hE⟩ := hrel
          by_cases hlt : k < 4096
          · go_wp2_with fail
            refine (cpV_any (k : Int) _ (by omega)).mono ?_
            rintro e w5 ⟨A5, c5, vs, rfl, hl5, hG5, hE5⟩
            have HE5 := Lib.hid (hE.trans hE5)
            have HG5 := Lib.hid hG5.seg
            have HX : Hid (saB cs1a vs = true → befB vs vs1b = true ∨ befB vs (nsT cs1a vs1b) = false) := fun h => .inl (ns_none HOK.out HV.out h)
            obtain ⟨sa, hsa⟩ : ∃ b, Hid (saB cs1a vs = b) := ⟨_, rfl⟩
            obtain ⟨b1, hb1⟩ : ∃ b, Hid (befB vs vs1b = b) := ⟨_, rfl⟩
            clear hE hE5 hG5 hl5
            cases sa
            · go_wp2_with fail
              refine (calls_val (implSA_any A1a n1a c1a cs1a A5 12 c5 vs _ hn1a (SL.out.ext HE5.out) h12 HG5.out) (congrArg Value.bool hsa.out)).mono ?_
              rintro e w7 ⟨rfl, hE7⟩
              have HE7 := Lib.hid (HE5.out.trans hE7)
              clear hE7
              go_wp2
              go_roundw
              case rel => exact ⟨k + 1, by omega, by go_num, HE7.out⟩
              case measure => simp [intOf]; omega
            · go_wp2_with fail
              refine (calls_val (implSA_any A1a n1a c1a cs1a A5 12 c5 vs _ hn1a (SL.out.ext HE5.out) h12 HG5.out) (congrArg Value.bool hsa.out)).mono ?_
              rintro e w7 ⟨rfl, hE7⟩
              have HE7 := Lib.hid (HE5.out.trans hE7)
              have HG7 := Lib.hid (HG5.out.ext hE7)
              clear hE7
              cases b1
              · exfalso
                have h := ns_none HOK.out HV.out hsa.out
                rw [hb1.out] at h; cases h
              · go_wp2_with fail
                refine (calls_val (cpBf_any A5 c5 vs A1b c1b vs1b _ HG7.out (S1.out.ext HE7.out)) (congrArg Value.bool hb1.out)).mono ?_
                rintro e w8 ⟨rfl, hE8⟩
                have HE8 := Lib.hid (HE7.out.trans hE8)
                clear hE8
                go_wp2
                go_roundw
                case rel => exact ⟨k + 1, by omega, by go_num, HE8.out⟩
                case measure => simp [intOf]; omega
          · obtain rfl : k = 4096 := by omega
            go_wp2
            go_ret
            exact ⟨rfl, E0.out.trans hE⟩
      · have hne : ((n1b : Int) != 12) = true := by simp; omega
        clear hl12
        go_wp2_with fail
        refine Calls.mono ((implNs_any A1a n1a c1a cs1a A1b n1b c1b vs1b _ hn1a hG1a.out hn1b hG1b.out.seg).mono fun _ _ h => h.of_eq (nsT_no HV.out) HV.out) ?_
        rintro e w2 ⟨A2, n2, c2, rfl, hl2, hg2, hE2⟩
        have hC2 : Ext w1 w2 := hE2
        have ze2 := hC2.size
        clear hE2
        have hG2 := Lib.hid hg2
        have HL2 := Lib.hid hl2
        have hs2 : n2 ≤ 1048576 := (by rw [← hl2, ← (nsT_no HV.out)]; exact nsT_len cs1a vs1b)
        have hn2 : n2 ≤ maxLen := (Nat.le_trans hs2 (by unfold maxLen; omega))
        clear hg2 hl2
        go_wp2_with fail
        refine Calls.mono ((specNs_any A1a n1a c1a cs1a A1b n1b c1b vs1b _ hn1a (hG1a.out.ext hC2) hn1b (hG1b.out.seg.ext hC2)).mono fun _ _ h => h.of_eq (nsT_no HV.out) HV.out) ?_
        rintro e w3 ⟨A3, n3, c3, rfl, hl3, hg3, hE3⟩
        have hC3 : Ext w2 w3 := hE3
        have ze3 := hC3.size
        clear hE3
        have hG3 := Lib.hid hg3
        have HL3 := Lib.hid hl3
        have hs3 : n3 ≤ 1048576 := (by rw [← hl3, ← (nsT_no HV.out)]; exact nsT_len cs1a vs1b)
        have hn3 : n3 ≤ maxLen := (Nat.le_trans hs3 (by unfold maxLen; omega))
        clear hg3 hl3
        go_wp2_with fail
        refine (calls_val (cpB_any A2 n2 c2 ([]) A3 n3 c3 ([]) _ hn2 (hG2.out.seg.ext hC3) hn3 hG3.out.seg) (congrArg Value.bool (cbEq_self _))).mono ?_
        rintro e w4 ⟨rfl, hE4⟩
        have hC4 : Ext w3 w4 := hE4
        have ze4 := hC4.size
        clear hE4
        go_wp2_with fail
        refine (calls_val (implProbV_any A1a n1a c1a cs1a _ hn1a (hG1a.out.ext ((hC2.trans hC3).trans hC4))) (congrArg Value.bool HP.out)).mono ?_
        rintro e w5 ⟨rfl, hE5⟩
        have hC5 : Ext w4 w5 := hE5
        have ze5 := hC5.size
        clear hE5
        go_wp2_with fail
        refine (calls_val (cpB_any A2 n2 c2 ([]) A3 n3 c3 ([]) _ hn2 (hG2.out.seg.ext ((hC3.trans hC4).trans hC5)) hn3 (hG3.out.seg.ext (hC4.trans hC5))) (congrArg Value.bool (cbEq_self _))).mono ?_
        rintro e w6 ⟨rfl, hE6⟩
        have hC6 : Ext w5 w6 := hE6
        have ze6 := hC6.size
        clear hE6
        go_wp2
        go_ret
        exact ⟨rfl, (((((hC1.trans hC2).trans hC3).trans hC4).trans hC5).trans hC6)⟩
    · have HP := Lib.hid (show probB cs1a = false by simpa using hp)
      clear hp
      go_wp2_with fail
      refine Calls.mono ((implNs_any A1a n1a c1a cs1a A1b n1b c1b vs1b _ hn1a hG1a.out hn1b hG1b.out.seg).mono fun _ _ h => h.of_eq (nsT_no HV.out) HV.out) ?_
      rintro e w2 ⟨A2, n2, c2, rfl, hl2, hg2, hE2⟩
      have hC2 : Ext w1 w2 := hE2
      have ze2 := hC2.size
      clear hE2
      have hG2 := Lib.hid hg2
      have HL2 := Lib.hid hl2
      have hs2 : n2 ≤ 1048576 := (by rw [← hl2, ← (nsT_no HV.out)]; exact nsT_len cs1a vs1b)
      have hn2 : n2 ≤ maxLen := (Nat.le_trans hs2 (by unfold maxLen; omega))
      clear hg2 hl2
      go_wp2_with fail
      refine Calls.mono ((specNs_any A1a n1a c1a cs1a A1b n1b c1b vs1b _ hn1a (hG1a.out.ext hC2) hn1b (hG1b.out.seg.ext hC2)).mono fun _ _ h => h.of_eq (nsT_no HV.out) HV.out) ?_
      rintro e w3 ⟨A3, n3, c3, rfl, hl3, hg3, hE3⟩
      have hC3 : Ext w2 w3 := hE3
      have ze3 := hC3.size
      clear hE3
      have hG3 := Lib.hid hg3
      have HL3 := Lib.hid hl3
      have hs3 : n3 ≤ 1048576 := (by rw [← hl3, ← (nsT_no HV.out)]; exact nsT_len cs1a vs1b)
      have hn3 : n3 ≤ maxLen := (Nat.le_trans hs3 (by unfold maxLen; omega))
      clear hg3 hl3
      go_wp2_with fail
      refine (calls_val (cpB_any A2 n2 c2 ([]) A3 n3 c3 ([]) _ hn2 (hG2.out.seg.ext hC3) hn3 hG3.out.seg) (congrArg Value.bool (cbEq_self _))).mono ?_
      rintro e w4 ⟨rfl, hE4⟩
      have hC4 : Ext w3 w4 := hE4
      have ze4 := hC4.size
      clear hE4
      go_wp2_with fail
      refine (calls_val (implProbV_any A1a n1a c1a cs1a _ hn1a (hG1a.out.ext ((hC2.trans hC3).trans hC4))) (congrArg Value.bool HP.out)).mono ?_
      rintro e w5 ⟨rfl, hE5⟩
      have hC5 : Ext w4 w5 := hE5
      have ze5 := hC5.size
      clear hE5
      go_wp2_with fail
      refine (calls_val (cpB_any A2 n2 c2 ([]) A3 n3 c3 ([]) _ hn2 (hG2.out.seg.ext ((hC3.trans hC4).trans hC5)) hn3 (hG3.out.seg.ext (hC4.trans hC5))) (congrArg Value.bool (cbEq_self _))).mono ?_
      rintro e w6 ⟨rfl, hE6⟩
      have hC6 : Ext w5 w6 := hE6
      have ze6 := hC6.size
      clear hE6
      go_wp2
      go_ret
      exact ⟨rfl, (((((hC1.trans hC2).trans hC3).trans hC4).trans hC5).trans hC6)⟩

theorem own : ownKnob Try.prog.godebug = none := by kernel_rfl
theorem laidOut : laidOutB Try.prog = true := by kernel_rfl

set_option maxRecDepth 100000 in
theorem lifted (os : Os) (started : os.Started) (H : Type) (enc : TypeId × Value → H) :
    ReturnsInHanded {} Try.checked os 7 .any (Rows.fnNextSolutionSpec.pre6 enc Try.prog Try.f7 Rows.fnNextSolutionRow.domain false) (Rows.fnNextSolutionSpec.post enc Try.prog Try.f7 false true false false) := by
  refine returnsInHanded_of_change (C := Try.checked) own started (by kernel_rfl) Try.func7
    (ChangeSpec.witness6 (enc := enc) (C := Try.checked) false ⟨#[], #[.slice none 0 0], []⟩ 8 (by kernel_rfl) (by kernel_rfl) (by kernel_rfl) (by kernel_rfl)) ?_
  intro W base args ds gs before hval0 hW hcnd _
  have hval : ∀ (j : Nat) t v, Try.f7.params[j]? = some t → args[j]? = some v → Value.okWide Try.prog W .any base t v := hval0
  have hW' := hW
  obtain ⟨p, q, hA0, hV, rfl, hfz, hnd⟩ := hW
  have hA : DataW.TrodAll enc Try.prog W 0 (fun _ => true) true Try.f7.params.toList args.toList ds p := hA0
  rw [Try.params7] at hA hval
  obtain ⟨v0, vs0, d0, ds0, p0, q0, hargs, rfl, rfl, h0, r0⟩ := trodAll_cons hA
  obtain ⟨rfl, rfl, rfl⟩ := trodAll_nil r0
  obtain rfl : args = #[v0] := by cases args; simp_all
  obtain ⟨rfl, rfl⟩ := trodVars_none hV
  have k0 := h0
  have lt0 : ∀ x ∈ p0, x.block < W.heap.size := by obtain ⟨m, hm⟩ := k0; exact DataW.trod_lt m _ _ _ hm
  obtain ⟨A0, n0, cap0, zs0, rfl, hn0, hc0, hs0, hb0⟩ := arg_bytes (hval 0 41 v0 rfl rfl) h0
  clear hA0 hval0
  refine (walk A0 n0 cap0 zs0 W hn0 hc0 hs0 hb0).mono fun e W' ⟨he, ext⟩ => ?_
  subst he
  have bel := ext.below
  exact ⟨_, rfl, _, _, _, [], _, [], hW', trodAll_mk1 (shut_bool Try.underlying4 _), (trodAll_cons_mk (Below.trod laidOut (by kernel_rfl) (of_decide_eq_true (by kernel_rfl)) k0 bel lt0) trodAll_mk0), rfl, bel.frame _, fun h => by cases h⟩

set_option maxHeartbeats 4000000 in
theorem joined : joinedFacts Try.pinned.checked.prog 7 Try.f7 Rows.fnNextSolutionSpec Rows.fnNextSolutionRow = true := by
  unfold joinedFacts
  exact (and2 (and2 (and2 (and2 (and2 (and2 (and2 (and2 (and2 (and2 (and2 (and2 (and2 (and2 (and2 (and2 (and2 (and2 (and2 (and2 (and2 (and2 (and2 (and2 (and2 (and2 (and2 (and2 (and2 (and2 (and2 (by as_aux_lemma => kernel_rfl) (by as_aux_lemma => kernel_rfl)) (by as_aux_lemma => kernel_rfl)) (by as_aux_lemma => kernel_rfl)) (by as_aux_lemma => kernel_rfl)) (by as_aux_lemma => kernel_rfl)) (by as_aux_lemma => kernel_rfl)) (by as_aux_lemma => kernel_rfl)) (by as_aux_lemma => kernel_rfl)) (by as_aux_lemma => kernel_rfl)) (by as_aux_lemma => kernel_rfl)) (by as_aux_lemma => kernel_rfl)) (by as_aux_lemma => kernel_rfl)) (by as_aux_lemma => kernel_rfl)) (by as_aux_lemma => kernel_rfl)) (by as_aux_lemma => kernel_rfl)) (by as_aux_lemma => kernel_rfl)) (by as_aux_lemma => kernel_rfl)) (by as_aux_lemma => kernel_rfl)) (by as_aux_lemma => kernel_rfl)) (by as_aux_lemma => kernel_rfl)) (by as_aux_lemma => kernel_rfl)) (by as_aux_lemma => kernel_rfl)) (by as_aux_lemma => kernel_rfl)) (by as_aux_lemma => kernel_rfl)) jEnter) jLift) jMake) (by as_aux_lemma => kernel_rfl)) (by as_aux_lemma => kernel_rfl)) (by as_aux_lemma => kernel_rfl)) (by as_aux_lemma => kernel_rfl))

set_option maxHeartbeats 4000000 in
theorem over : Rows.fnNextSolutionRow.holds Try.pinned (OpenSpec.ofChange Rows.fnNextSolutionSpec) :=
  OpenClaim.holds_of_wide 7 Try.f7 rfl rfl rfl rfl rfl rfl rfl ⟨rfl, rfl, rfl, rfl, rfl⟩ rfl rfl rfl rfl rfl (by kernel_rfl) Try.func7 joined
    (of_decide_eq_true (by kernel_rfl)) (by unfold Func.isWrapper; first | (rw [if_pos (by decide +kernel)]; kernel_rfl) | (rw [if_neg (by decide +kernel)]; exact ⟨rfl, rfl⟩))
    (fun os started H enc _ => lifted os started H enc)

theorem proved : Rows.FnNextSolutionSaid := over

end Go.Proofs.Ytmbdfnimmjomfaa.nextSolution
