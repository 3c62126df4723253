/- laws.FnPropagate: for all bytes, the program's Propagate returns what the reference's returns, loses no solution that agrees with the partial assignment, and finds no conflict where there is one. No condition. -/
import Derived.Test.YtihbgajlnbchlaaRdL
import Derived.Test.YtihbgajlnbchlaaPlG
import Derived.Test.YtihbgajlnbchlaaSameC
import Derived.Test.YtihbgajlnbchlaaCpB
import Derived.Test.YtihbgajlnbchlaaPrg
import Derived.Test.YtihbgajlnbchlaaPV
import Derived.Test.YtihbgajlnbchlaaEP
import Derived.Test.YtihbgajlnbchlaaSats
import Derived.Test.YtihbgajlnbchlaaAppC
import Derived.Test.YtihbgajlnbchlaaOpenY
import Derived.Test.YtihbgajlnbchlaaFacts
namespace Go.Proofs.Ytihbgajlnbchlaa.propagate
open Go.ChangeShapes Go.WideShapes Go.ChangeAt Go.RowKit
set_option linter.unusedVariables false

set_option maxRecDepth 100000 in
set_option maxHeartbeats 4000000 in
theorem walk (A0 : Option Addr) (n0 cap0 : Nat) (zs0 : List Int) (w : World) (hn0 : n0 ≤ maxLen) (hc0 : n0 ≤ cap0) (hs0 : Seg w 1 A0 n0 (encY zs0)) (hb0 : bytesB zs0) :
    Calls Try.prog 10 #[.slice A0 n0 cap0] w fun e w' => e = .returned (.bool true) ∧ Ext w w' := by
  by_cases hbig : 1048576 < n0
  · clear hs0
    go_enter Try.func10, Try.ntmps10
    go_wp2
    go_ret
    exact ⟨rfl, Ext.refl _⟩
  go_enter Try.func10, Try.ntmps10
  go_wp2_with fail
  refine (drawPr_any A0 n0 cap0 zs0 _ hn0 hc0 hs0 hb0).mono ?_
  rintro e w1 ⟨A1a, n1a, c1a, cs1a, A1b, n1b, c1b, vs1b, rfl, hl1a, hm1a, hl1b, hm1b, hg1a, hg1b, hE1⟩
  have hC1 : Ext w w1 := hE1
  have ze1 := hC1.size
  clear hE1
  have hn1a : n1a ≤ maxLen := by unfold maxLen; omega
  have HL1a := Lib.hid hl1a
  have hG1a := Lib.hid hg1a
  clear hl1a hg1a
  have hn1b : n1b ≤ maxLen := by unfold maxLen; omega
  have HL1b := Lib.hid hl1b
  have hG1b := Lib.hid hg1b
  clear hl1b hg1b
  obtain ⟨zk, hzk⟩ : ∃ z, Hid (prK cs1a vs1b = z) := ⟨_, rfl⟩
  by_cases hv : prB cs1a vs1b = true
  · have HV := Lib.hid hv
    clear hv
    obtain rfl : n1b = 12 := by rw [← HL1b.out]; exact (pvB_at (prB_parts HV.out).2).1
    go_wp2_with fail
    refine Calls.mono ((implPr_any A1a n1a c1a cs1a A1b 12 c1b vs1b _ hn1a hG1a.out hn1b hG1b.out.seg).mono fun _ _ h => h.of_eq rfl hzk.out HV.out) ?_
    rintro e w2 ⟨A2, n2, c2, rfl, hl2, hg2, hE2⟩
    have hC2 : Ext w1 w2 := hE2
    have ze2 := hC2.size
    clear hE2
    have hG2 := Lib.hid hg2
    have HL2 := Lib.hid hl2
    have hs2 : n2 ≤ 1048576 := (by rw [← hl2]; exact prT_len cs1a vs1b)
    have hn2 : n2 ≤ maxLen := (Nat.le_trans hs2 (by unfold maxLen; omega))
    clear hg2 hl2
    go_wp2_with fail
    refine Calls.mono ((specPr_any A1a n1a c1a cs1a A1b 12 c1b vs1b _ hn1a (hG1a.out.ext hC2) hn1b (hG1b.out.seg.ext hC2)).mono fun _ _ h => h.of_eq rfl hzk.out HV.out) ?_
    rintro e w3 ⟨A3, n3, c3, rfl, hl3, hg3, hE3⟩
    have hC3 : Ext w2 w3 := hE3
    have ze3 := hC3.size
    clear hE3
    have hG3 := Lib.hid hg3
    have HL3 := Lib.hid hl3
    have hs3 : n3 ≤ 1048576 := (by rw [← hl3]; exact prT_len cs1a vs1b)
    have hn3 : n3 ≤ maxLen := (Nat.le_trans hs3 (by unfold maxLen; omega))
    clear hg3 hl3
    go_wp2_with fail
    refine (calls_val (cpI_any A2 n2 c2 (prT cs1a vs1b) A3 n3 c3 (prT cs1a vs1b) _ hn2 (hG2.out.seg.ext hC3) hn3 hG3.out.seg) (congrArg Value.bool (ciEq_self _))).mono ?_
    rintro e w4 ⟨rfl, hE4⟩
    have hC4 : Ext w3 w4 := hE4
    have ze4 := hC4.size
    clear hE4
    obtain rfl : n2 = 12 := by rw [← HL2.out]; exact prT_12 HV.out
    have S1 := Lib.hid (hG1b.out.seg.ext ((hC2.trans hC3).trans hC4))
    have S2 := Lib.hid (hG2.out.seg.ext (hC3.trans hC4))
    have SL := Lib.hid (hG1a.out.ext ((hC2.trans hC3).trans hC4))
    have E0 := Lib.hid (((hC1.trans hC2).trans hC3).trans hC4)
    have h12 : (12 : Nat) ≤ maxLen := by unfold maxLen; omega
    go_wp2
    go_loopw [11] (fun i wr => ∃ k : Nat, k ≤ 4096 ∧ i = .int .i64 k ∧ Ext w4 wr) (fun i _ => 4096 - (intOf i).toNat)
    case atStart => exact ⟨0, by omega, rfl, Ext.refl _⟩
    case round =>
      obtain ⟨k, hk, rfl, hE⟩ := hrel
      by_cases hlt : k < 4096
      · go_wp2_with fail
        refine (cpV_any (k : Int) _ (by omega)).mono ?_
        rintro e w5 ⟨A5, c5, vs, rfl, hl5, hG5, hE5⟩
        have HE5 := Lib.hid (hE.trans hE5)
        have HG5 := Lib.hid hG5.seg
        have HSND : Hid (epB vs1b vs = true → saB cs1a vs = true → zk < 0 ∧ epB (prT cs1a vs1b) vs = true) := fun h1 h2 => by rw [← hzk.out]; exact pr_sound HV.out h1 h2
        obtain ⟨ep, hep⟩ : ∃ b, Hid (epB vs1b vs = b) := ⟨_, rfl⟩
        obtain ⟨sa, hsa⟩ : ∃ b, Hid (saB cs1a vs = b) := ⟨_, rfl⟩
        clear hE hE5 hG5 hl5
        cases ep
        · go_wp2_with fail
          refine (calls_val (implEP_any A1b 12 c1b vs1b A5 12 c5 vs _ h12 (S1.out.ext HE5.out) h12 HG5.out) (congrArg Value.bool hep.out)).mono ?_
          rintro e w6 ⟨rfl, hE6⟩
          have HE6 := Lib.hid (HE5.out.trans hE6)
          clear hE6
          go_wp2
          go_roundw
          case rel => exact ⟨k + 1, by omega, by go_num, HE6.out⟩
          case measure => simp [intOf]; omega
        · go_wp2_with fail
          refine (calls_val (implEP_any A1b 12 c1b vs1b A5 12 c5 vs _ h12 (S1.out.ext HE5.out) h12 HG5.out) (congrArg Value.bool hep.out)).mono ?_
          rintro e w6 ⟨rfl, hE6⟩
          have HE6 := Lib.hid (HE5.out.trans hE6)
          have HG6 := Lib.hid (HG5.out.ext hE6)
          clear hE6
          cases sa
          · go_wp2_with fail
            refine (calls_val (implSA_any A1a n1a c1a cs1a A5 12 c5 vs _ hn1a (SL.out.ext HE6.out) h12 HG6.out) (congrArg Value.bool hsa.out)).mono ?_
            rintro e w7 ⟨rfl, hE7⟩
            have HE7 := Lib.hid (HE6.out.trans hE7)
            clear hE7
            go_wp2
            go_roundw
            case rel => exact ⟨k + 1, by omega, by go_num, HE7.out⟩
            case measure => simp [intOf]; omega
          · have HQ := Lib.hid (HSND.out hep.out hsa.out).2
            have hzn := (HSND.out hep.out hsa.out).1
            have d0 : decide (0 ≤ zk) = false := decide_eq_false (by omega)
            go_wp2_with fail
            refine (calls_val (implSA_any A1a n1a c1a cs1a A5 12 c5 vs _ hn1a (SL.out.ext HE6.out) h12 HG6.out) (congrArg Value.bool hsa.out)).mono ?_
            rintro e w7 ⟨rfl, hE7⟩
            have HE7 := Lib.hid (HE6.out.trans hE7)
            have HG7 := Lib.hid (HG6.out.ext hE7)
            clear hE7
            go_wp2_with fail
            refine (calls_val (implEP_any A2 12 c2 (prT cs1a vs1b) A5 12 c5 vs _ h12 (S2.out.ext HE7.out) h12 HG7.out) (congrArg Value.bool HQ.out)).mono ?_
            rintro e w8 ⟨rfl, hE8⟩
            have HE8 := Lib.hid (HE7.out.trans hE8)
            clear hE8
            go_wp2
            go_roundw
            case rel => exact ⟨k + 1, by omega, by go_num, HE8.out⟩
            case measure => simp [intOf]; omega
      · obtain rfl : k = 4096 := by omega
        go_wp2
        go_ret
        exact ⟨rfl, E0.out.trans hE⟩
  · have HV := Lib.hid (show prB cs1a vs1b = false by simpa using hv)
    clear hv
    go_wp2_with fail
    refine Calls.mono ((implPr_any A1a n1a c1a cs1a A1b n1b c1b vs1b _ hn1a hG1a.out hn1b hG1b.out.seg).mono fun _ _ h => h.of_eq rfl rfl HV.out) ?_
    rintro e w2 ⟨A2, n2, c2, rfl, hl2, hg2, hE2⟩
    have hC2 : Ext w1 w2 := hE2
    have ze2 := hC2.size
    clear hE2
    have hG2 := Lib.hid hg2
    have HL2 := Lib.hid hl2
    have hs2 : n2 ≤ 1048576 := (by rw [← hl2]; exact prT_len cs1a vs1b)
    have hn2 : n2 ≤ maxLen := (Nat.le_trans hs2 (by unfold maxLen; omega))
    clear hg2 hl2
    go_wp2_with fail
    refine Calls.mono ((specPr_any A1a n1a c1a cs1a A1b n1b c1b vs1b _ hn1a (hG1a.out.ext hC2) hn1b (hG1b.out.seg.ext hC2)).mono fun _ _ h => h.of_eq rfl rfl HV.out) ?_
    rintro e w3 ⟨A3, n3, c3, rfl, hl3, hg3, hE3⟩
    have hC3 : Ext w2 w3 := hE3
    have ze3 := hC3.size
    clear hE3
    have hG3 := Lib.hid hg3
    have HL3 := Lib.hid hl3
    have hs3 : n3 ≤ 1048576 := (by rw [← hl3]; exact prT_len cs1a vs1b)
    have hn3 : n3 ≤ maxLen := (Nat.le_trans hs3 (by unfold maxLen; omega))
    clear hg3 hl3
    go_wp2_with fail
    refine (calls_val (cpI_any A2 n2 c2 (prT cs1a vs1b) A3 n3 c3 (prT cs1a vs1b) _ hn2 (hG2.out.seg.ext hC3) hn3 hG3.out.seg) (congrArg Value.bool (ciEq_self _))).mono ?_
    rintro e w4 ⟨rfl, hE4⟩
    have hC4 : Ext w3 w4 := hE4
    have ze4 := hC4.size
    clear hE4
    go_wp2_with fail
    refine (calls_val (cpI_any A2 n2 c2 (prT cs1a vs1b) A3 n3 c3 (prT cs1a vs1b) _ hn2 (hG2.out.seg.ext (hC3.trans hC4)) hn3 (hG3.out.seg.ext hC4)) (congrArg Value.bool (ciEq_self _))).mono ?_
    rintro e w5 ⟨rfl, hE5⟩
    have hC5 : Ext w4 w5 := hE5
    have ze5 := hC5.size
    clear hE5
    go_wp2
    go_ret
    exact ⟨rfl, ((((hC1.trans hC2).trans hC3).trans hC4).trans hC5)⟩

theorem own : ownKnob Try.prog.godebug = none := by kernel_rfl
theorem laidOut : laidOutB Try.prog = true := by kernel_rfl

set_option maxRecDepth 100000 in
theorem lifted (os : Os) (started : os.Started) (H : Type) (enc : TypeId × Value → H) :
    ReturnsInHanded {} Try.checked os 10 .any (Rows.fnPropagateSpec.pre6 enc Try.prog Try.f10 Rows.fnPropagateRow.domain false) (Rows.fnPropagateSpec.post enc Try.prog Try.f10 false true false false) := by
  refine returnsInHanded_of_change (C := Try.checked) own started (by kernel_rfl) Try.func10
    (ChangeSpec.witness6 (enc := enc) (C := Try.checked) false ⟨#[], #[.slice none 0 0], []⟩ 8 (by kernel_rfl) (by kernel_rfl) (by kernel_rfl) (by kernel_rfl)) ?_
  intro W base args ds gs before hval0 hW hcnd _
  have hval : ∀ (j : Nat) t v, Try.f10.params[j]? = some t → args[j]? = some v → Value.okWide Try.prog W .any base t v := hval0
  have hW' := hW
  obtain ⟨p, q, hA0, hV, rfl, hfz, hnd⟩ := hW
  have hA : DataW.TrodAll enc Try.prog W 0 (fun _ => true) true Try.f10.params.toList args.toList ds p := hA0
  rw [Try.params10] at hA hval
  obtain ⟨v0, vs0, d0, ds0, p0, q0, hargs, rfl, rfl, h0, r0⟩ := trodAll_cons hA
  obtain ⟨rfl, rfl, rfl⟩ := trodAll_nil r0
  obtain rfl : args = #[v0] := by cases args; simp_all
  obtain ⟨rfl, rfl⟩ := trodVars_none hV
  have k0 := h0
  have lt0 : ∀ x ∈ p0, x.block < W.heap.size := by obtain ⟨m, hm⟩ := k0; exact DataW.trod_lt m _ _ _ hm
  obtain ⟨A0, n0, cap0, zs0, rfl, hn0, hc0, hs0, hb0⟩ := arg_bytes (hval 0 22 v0 rfl rfl) h0
  clear hA0 hval0
  refine (walk A0 n0 cap0 zs0 W hn0 hc0 hs0 hb0).mono fun e W' ⟨he, ext⟩ => ?_
  subst he
  have bel := ext.below
  exact ⟨_, rfl, _, _, _, [], _, [], hW', trodAll_mk1 (shut_bool Try.underlying4 _), (trodAll_cons_mk (Below.trod laidOut (by kernel_rfl) (of_decide_eq_true (by kernel_rfl)) k0 bel lt0) trodAll_mk0), rfl, bel.frame _, fun h => by cases h⟩

set_option maxHeartbeats 4000000 in
theorem joined : joinedFacts Try.pinned.checked.prog 10 Try.f10 Rows.fnPropagateSpec Rows.fnPropagateRow = true := by
  unfold joinedFacts
  exact (and2 (and2 (and2 (and2 (and2 (and2 (and2 (and2 (and2 (and2 (and2 (and2 (and2 (and2 (and2 (and2 (and2 (and2 (and2 (and2 (and2 (and2 (and2 (and2 (and2 (and2 (and2 (and2 (and2 (and2 (and2 (by as_aux_lemma => kernel_rfl) (by as_aux_lemma => kernel_rfl)) (by as_aux_lemma => kernel_rfl)) (by as_aux_lemma => kernel_rfl)) (by as_aux_lemma => kernel_rfl)) (by as_aux_lemma => kernel_rfl)) (by as_aux_lemma => kernel_rfl)) (by as_aux_lemma => kernel_rfl)) (by as_aux_lemma => kernel_rfl)) (by as_aux_lemma => kernel_rfl)) (by as_aux_lemma => kernel_rfl)) (by as_aux_lemma => kernel_rfl)) (by as_aux_lemma => kernel_rfl)) (by as_aux_lemma => kernel_rfl)) (by as_aux_lemma => kernel_rfl)) (by as_aux_lemma => kernel_rfl)) (by as_aux_lemma => kernel_rfl)) (by as_aux_lemma => kernel_rfl)) (by as_aux_lemma => kernel_rfl)) (by as_aux_lemma => kernel_rfl)) (by as_aux_lemma => kernel_rfl)) (by as_aux_lemma => kernel_rfl)) (by as_aux_lemma => kernel_rfl)) (by as_aux_lemma => kernel_rfl)) (by as_aux_lemma => kernel_rfl)) jEnter) jLift) jMake) (by as_aux_lemma => kernel_rfl)) (by as_aux_lemma => kernel_rfl)) (by as_aux_lemma => kernel_rfl)) (by as_aux_lemma => kernel_rfl))

set_option maxHeartbeats 4000000 in
theorem over : Rows.fnPropagateRow.holds Try.pinned (OpenSpec.ofChange Rows.fnPropagateSpec) :=
  OpenClaim.holds_of_wide 10 Try.f10 rfl rfl rfl rfl rfl rfl rfl ⟨rfl, rfl, rfl, rfl, rfl⟩ rfl rfl rfl rfl rfl (by kernel_rfl) Try.func10 joined
    (of_decide_eq_true (by kernel_rfl)) (by unfold Func.isWrapper; first | (rw [if_pos (by decide +kernel)]; kernel_rfl) | (rw [if_neg (by decide +kernel)]; exact ⟨rfl, rfl⟩))
    (fun os started H enc _ => lifted os started H enc)

theorem proved : Rows.FnPropagateSaid := over

end Go.Proofs.Ytihbgajlnbchlaa.propagate
