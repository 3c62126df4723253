/- laws.FnPropagateFixed: for all bytes, the program's Propagate returns what the reference's returns, an assignment that extends the drawn one and that propagating again does not change. No condition. -/
import Derived.Test.YtihbgajlnbchlaaRdL
import Derived.Test.YtihbgajlnbchlaaPlG
import Derived.Test.YtihbgajlnbchlaaSameC
import Derived.Test.YtihbgajlnbchlaaCpB
import Derived.Test.YtihbgajlnbchlaaPrg
import Derived.Test.YtihbgajlnbchlaaPV
import Derived.Test.YtihbgajlnbchlaaOpenY
import Derived.Test.YtihbgajlnbchlaaFacts
namespace Go.Proofs.Ytihbgajlnbchlaa.propagateFixed
open Go.ChangeShapes Go.WideShapes Go.ChangeAt Go.RowKit
set_option linter.unusedVariables false

set_option maxRecDepth 100000 in
set_option maxHeartbeats 4000000 in
theorem walk (A0 : Option Addr) (n0 cap0 : Nat) (zs0 : List Int) (w : World) (hn0 : n0 ≤ maxLen) (hc0 : n0 ≤ cap0) (hs0 : Seg w 1 A0 n0 (encY zs0)) (hb0 : bytesB zs0) :
    Calls Try.prog 11 #[.slice A0 n0 cap0] w fun e w' => e = .returned (.bool true) ∧ Ext w w' := by
  by_cases hbig : 1048576 < n0
  · clear hs0
    go_enter Try.func11, Try.ntmps11
    go_wp2
    go_ret
    exact ⟨rfl, Ext.refl _⟩
  go_enter Try.func11, Try.ntmps11
  go_wp2_with fail
  refine (drawPr_any A0 n0 cap0 zs0 _ hn0 hc0 hs0 hb0).mono ?_
  rintro e w1 ⟨A1a, n1a, c1a, cs1a, A1b, n1b, c1b, vs1b, rfl, hl1a, hm1a, hl1b, hm1b, hg1a, hg1b, hE1⟩
  have hC1 : Ext w w1 := hE1
  have ze1 := hC1.size
  clear hE1
  have hn1a : n1a ≤ maxLen := by unfold maxLen; omega
  have HL1a := Lib.hid hl1a
  have hG1a := Lib.hid hg1a
  clear hl1a hg1a
  have hn1b : n1b ≤ maxLen := by unfold maxLen; omega
  have HL1b := Lib.hid hl1b
  have hG1b := Lib.hid hg1b
  clear hl1b hg1b
  obtain ⟨zk, hzk⟩ : ∃ z, Hid (prK cs1a vs1b = z) := ⟨_, rfl⟩
  by_cases hv : prB cs1a vs1b = true
  · have HV := Lib.hid hv
    clear hv
    obtain rfl : n1b = 12 := by rw [← HL1b.out]; exact (pvB_at (prB_parts HV.out).2).1
    go_wp2_with fail
    refine Calls.mono ((implPr_any A1a n1a c1a cs1a A1b 12 c1b vs1b _ hn1a hG1a.out hn1b hG1b.out.seg).mono fun _ _ h => h.of_eq rfl hzk.out HV.out) ?_
    rintro e w2 ⟨A2, n2, c2, rfl, hl2, hg2, hE2⟩
    have hC2 : Ext w1 w2 := hE2
    have ze2 := hC2.size
    clear hE2
    have hG2 := Lib.hid hg2
    have HL2 := Lib.hid hl2
    have hs2 : n2 ≤ 1048576 := (by rw [← hl2]; exact prT_len cs1a vs1b)
    have hn2 : n2 ≤ maxLen := (Nat.le_trans hs2 (by unfold maxLen; omega))
    clear hg2 hl2
    go_wp2_with fail
    refine Calls.mono ((specPr_any A1a n1a c1a cs1a A1b 12 c1b vs1b _ hn1a (hG1a.out.ext hC2) hn1b (hG1b.out.seg.ext hC2)).mono fun _ _ h => h.of_eq rfl hzk.out HV.out) ?_
    rintro e w3 ⟨A3, n3, c3, rfl, hl3, hg3, hE3⟩
    have hC3 : Ext w2 w3 := hE3
    have ze3 := hC3.size
    clear hE3
    have hG3 := Lib.hid hg3
    have HL3 := Lib.hid hl3
    have hs3 : n3 ≤ 1048576 := (by rw [← hl3]; exact prT_len cs1a vs1b)
    have hn3 : n3 ≤ maxLen := (Nat.le_trans hs3 (by unfold maxLen; omega))
    clear hg3 hl3
    go_wp2_with fail
    refine (calls_val (cpI_any A2 n2 c2 (prT cs1a vs1b) A3 n3 c3 (prT cs1a vs1b) _ hn2 (hG2.out.seg.ext hC3) hn3 hG3.out.seg) (congrArg Value.bool (ciEq_self _))).mono ?_
    rintro e w4 ⟨rfl, hE4⟩
    have hC4 : Ext w3 w4 := hE4
    have ze4 := hC4.size
    clear hE4
    obtain rfl : n2 = 12 := by rw [← HL2.out]; exact prT_12 HV.out
    have S1 := Lib.hid (hG1b.out.seg.ext ((hC2.trans hC3).trans hC4))
    have S2 := Lib.hid (hG2.out.seg.ext (hC3.trans hC4))
    have SL := Lib.hid (hG1a.out.ext ((hC2.trans hC3).trans hC4))
    have E0 := Lib.hid (((hC1.trans hC2).trans hC3).trans hC4)
    have h12 : (12 : Nat) ≤ maxLen := by unfold maxLen; omega
    go_wp2
    go_loopw [11] (fun i wr => ∃ k : Nat, k ≤ 12 ∧ i = .int .i64 k ∧ Ext w4 wr) (fun i _ => 12 - (intOf i).toNat)
    case atStart => exact ⟨0, by omega, rfl, Ext.refl _⟩
    case round =>
      obtain ⟨k, hk, rfl, hE⟩ := hrel
      by_cases hlt : k < 12
      · obtain ⟨b, off, z, rfl, hx, c1⟩ := (S1.out.ext hE).int hlt
        obtain ⟨b', off', z', rfl, hx', c1'⟩ := (S2.out.ext hE).int hlt
        by_cases h0 : z = 0
        · have hb : (z != 0) = false := by simpa using h0
          clear hx hx' h0
          have e1 : ∀ p : ExtBy wr, p.to.cell? ⟨b, off + k, none⟩ = some (.int .i64 z) := fun p => p.cell c1
          have e2 : ∀ p : ExtBy wr, p.to.cell? ⟨b', off' + k, none⟩ = some (.int .i64 z') := fun p => p.cell c1'
          clear c1 c1'
          go_wp2_with fail
          refine wp_region_ext_lit (by kernel_rfl) (by kernel_rfl) ?_
          repeat (go_big_quiet_step (fail))
          refine wpQuiet_nil ?_
          intro _ hw'
          obtain ⟨⟨wq, hq⟩, hw''⟩ := hw'
          subst hw''
          clear e1 e2
          go_wp2
          go_roundw
          case rel => exact ⟨k + 1, by omega, by go_num, hE.trans hq⟩
          case measure => simp [intOf]; omega
        · have hb : (z != 0) = true := by simpa using h0
          have he := pr_ext_at HV.out hx h0
          rw [hx'] at he
          obtain rfl : z = z' := (Option.some.inj he).symm
          clear hx hx' h0 he
          have e1 : ∀ p : ExtBy wr, p.to.cell? ⟨b, off + k, none⟩ = some (.int .i64 z) := fun p => p.cell c1
          have e2 : ∀ p : ExtBy wr, p.to.cell? ⟨b', off' + k, none⟩ = some (.int .i64 z) := fun p => p.cell c1'
          clear c1 c1'
          go_wp2_with fail
          refine wp_region_ext_lit (by kernel_rfl) (by kernel_rfl) ?_
          repeat (go_big_quiet_step (fail))
          refine wpQuiet_nil ?_
          intro _ hw'
          obtain ⟨⟨wq, hq⟩, hw''⟩ := hw'
          subst hw''
          clear e1 e2
          go_wp2
          go_roundw
          case rel => exact ⟨k + 1, by omega, by go_num, hE.trans hq⟩
          case measure => simp [intOf]; omega
      · obtain rfl : k = 12 := by omega
        by_cases h0 : 0 ≤ zk
        · have d0 : decide (0 ≤ zk) = true := decide_eq_true h0
          obtain ⟨z2, hz2⟩ : ∃ z, Hid (prK cs1a (prT cs1a vs1b) = z) := ⟨_, rfl⟩
          have d1 : decide (0 ≤ z2) = true := by rw [← hz2.out, (pr_again_k HV.out).1, hzk.out, d0]
          go_wp2_with fail
          refine Calls.mono ((implPr_any A1a n1a c1a cs1a A2 12 c2 (prT cs1a vs1b) _ hn1a (SL.out.ext hE) h12 (S2.out.ext hE)).mono fun _ _ h => h.of_eq rfl hz2.out (pr_again HV.out)) ?_
          rintro e w5 ⟨A5, n5, c5, rfl, hl5, hg5, hE5⟩
          have HE5 := Lib.hid (hE.trans hE5)
          clear hl5 hg5 hE5 hE
          go_wp2_with fail
          refine (calls_val (implPV_any A2 12 c2 (prT cs1a vs1b) _ h12 (S2.out.ext HE5.out)) (congrArg Value.bool (prT_pv HV.out))).mono ?_
          rintro e w6 ⟨rfl, hE6⟩
          have HF := Lib.hid (E0.out.trans (HE5.out.trans hE6))
          clear hE6
          go_wp2
          go_ret
          exact ⟨rfl, HF.out⟩
        · have d0 : decide (0 ≤ zk) = false := decide_eq_false h0
          obtain ⟨z2, hz2⟩ : ∃ z, Hid (prK cs1a (prT cs1a vs1b) = z) := ⟨_, rfl⟩
          have d1 : decide (0 ≤ z2) = false := by rw [← hz2.out, (pr_again_k HV.out).1, hzk.out, d0]
          have HQ := Lib.hid ((pr_again_k HV.out).2 (by rw [hzk.out]; exact h0))
          go_wp2_with fail
          refine Calls.mono ((implPr_any A1a n1a c1a cs1a A2 12 c2 (prT cs1a vs1b) _ hn1a (SL.out.ext hE) h12 (S2.out.ext hE)).mono fun _ _ h => h.of_eq HQ.out hz2.out (pr_again HV.out)) ?_
          rintro e w5 ⟨A5, n5, c5, rfl, hl5, hg5, hE5⟩
          have hn5 : n5 ≤ maxLen := by rw [← hl5, prT_12 HV.out]; exact h12
          have HG5 := Lib.hid hg5.seg
          have HE5 := Lib.hid (hE.trans hE5)
          clear hl5 hg5 hE5 hE
          go_wp2_with fail
          refine (calls_val (implPV_any A2 12 c2 (prT cs1a vs1b) _ h12 (S2.out.ext HE5.out)) (congrArg Value.bool (prT_pv HV.out))).mono ?_
          rintro e w6 ⟨rfl, hE6⟩
          have HE6 := Lib.hid (HE5.out.trans hE6)
          have HG6 := Lib.hid (HG5.out.ext hE6)
          clear hE6
          go_wp2_with fail
          refine (calls_val (cpI_any A5 n5 c5 (prT cs1a vs1b) A2 12 c2 (prT cs1a vs1b) _ hn5 HG6.out h12 (S2.out.ext HE6.out)) (congrArg Value.bool (ciEq_self _))).mono ?_
          rintro e w7 ⟨rfl, hE7⟩
          have HF := Lib.hid (E0.out.trans (HE6.out.trans hE7))
          clear hE7
          go_wp2
          go_ret
          exact ⟨rfl, HF.out⟩
  · have HV := Lib.hid (show prB cs1a vs1b = false by simpa using hv)
    clear hv
    go_wp2_with fail
    refine Calls.mono ((implPr_any A1a n1a c1a cs1a A1b n1b c1b vs1b _ hn1a hG1a.out hn1b hG1b.out.seg).mono fun _ _ h => h.of_eq rfl rfl HV.out) ?_
    rintro e w2 ⟨A2, n2, c2, rfl, hl2, hg2, hE2⟩
    have hC2 : Ext w1 w2 := hE2
    have ze2 := hC2.size
    clear hE2
    have hG2 := Lib.hid hg2
    have HL2 := Lib.hid hl2
    have hs2 : n2 ≤ 1048576 := (by rw [← hl2]; exact prT_len cs1a vs1b)
    have hn2 : n2 ≤ maxLen := (Nat.le_trans hs2 (by unfold maxLen; omega))
    clear hg2 hl2
    go_wp2_with fail
    refine Calls.mono ((specPr_any A1a n1a c1a cs1a A1b n1b c1b vs1b _ hn1a (hG1a.out.ext hC2) hn1b (hG1b.out.seg.ext hC2)).mono fun _ _ h => h.of_eq rfl rfl HV.out) ?_
    rintro e w3 ⟨A3, n3, c3, rfl, hl3, hg3, hE3⟩
    have hC3 : Ext w2 w3 := hE3
    have ze3 := hC3.size
    clear hE3
    have hG3 := Lib.hid hg3
    have HL3 := Lib.hid hl3
    have hs3 : n3 ≤ 1048576 := (by rw [← hl3]; exact prT_len cs1a vs1b)
    have hn3 : n3 ≤ maxLen := (Nat.le_trans hs3 (by unfold maxLen; omega))
    clear hg3 hl3
    go_wp2_with fail
    refine (calls_val (cpI_any A2 n2 c2 (prT cs1a vs1b) A3 n3 c3 (prT cs1a vs1b) _ hn2 (hG2.out.seg.ext hC3) hn3 hG3.out.seg) (congrArg Value.bool (ciEq_self _))).mono ?_
    rintro e w4 ⟨rfl, hE4⟩
    have hC4 : Ext w3 w4 := hE4
    have ze4 := hC4.size
    clear hE4
    go_wp2_with fail
    refine (calls_val (cpI_any A2 n2 c2 (prT cs1a vs1b) A3 n3 c3 (prT cs1a vs1b) _ hn2 (hG2.out.seg.ext (hC3.trans hC4)) hn3 (hG3.out.seg.ext hC4)) (congrArg Value.bool (ciEq_self _))).mono ?_
    rintro e w5 ⟨rfl, hE5⟩
    have hC5 : Ext w4 w5 := hE5
    have ze5 := hC5.size
    clear hE5
    go_wp2
    go_ret
    exact ⟨rfl, ((((hC1.trans hC2).trans hC3).trans hC4).trans hC5)⟩

theorem own : ownKnob Try.prog.godebug = none := by kernel_rfl
theorem laidOut : laidOutB Try.prog = true := by kernel_rfl

set_option maxRecDepth 100000 in
theorem lifted (os : Os) (started : os.Started) (H : Type) (enc : TypeId × Value → H) :
    ReturnsInHanded {} Try.checked os 11 .any (Rows.fnPropagateFixedSpec.pre6 enc Try.prog Try.f11 Rows.fnPropagateFixedRow.domain false) (Rows.fnPropagateFixedSpec.post enc Try.prog Try.f11 false true false false) := by
  refine returnsInHanded_of_change (C := Try.checked) own started (by kernel_rfl) Try.func11
    (ChangeSpec.witness6 (enc := enc) (C := Try.checked) false ⟨#[], #[.slice none 0 0], []⟩ 8 (by kernel_rfl) (by kernel_rfl) (by kernel_rfl) (by kernel_rfl)) ?_
  intro W base args ds gs before hval0 hW hcnd _
  have hval : ∀ (j : Nat) t v, Try.f11.params[j]? = some t → args[j]? = some v → Value.okWide Try.prog W .any base t v := hval0
  have hW' := hW
  obtain ⟨p, q, hA0, hV, rfl, hfz, hnd⟩ := hW
  have hA : DataW.TrodAll enc Try.prog W 0 (fun _ => true) true Try.f11.params.toList args.toList ds p := hA0
  rw [Try.params11] at hA hval
  obtain ⟨v0, vs0, d0, ds0, p0, q0, hargs, rfl, rfl, h0, r0⟩ := trodAll_cons hA
  obtain ⟨rfl, rfl, rfl⟩ := trodAll_nil r0
  obtain rfl : args = #[v0] := by cases args; simp_all
  obtain ⟨rfl, rfl⟩ := trodVars_none hV
  have k0 := h0
  have lt0 : ∀ x ∈ p0, x.block < W.heap.size := by obtain ⟨m, hm⟩ := k0; exact DataW.trod_lt m _ _ _ hm
  obtain ⟨A0, n0, cap0, zs0, rfl, hn0, hc0, hs0, hb0⟩ := arg_bytes (hval 0 22 v0 rfl rfl) h0
  clear hA0 hval0
  refine (walk A0 n0 cap0 zs0 W hn0 hc0 hs0 hb0).mono fun e W' ⟨he, ext⟩ => ?_
  subst he
  have bel := ext.below
  exact ⟨_, rfl, _, _, _, [], _, [], hW', trodAll_mk1 (shut_bool Try.underlying4 _), (trodAll_cons_mk (Below.trod laidOut (by kernel_rfl) (of_decide_eq_true (by kernel_rfl)) k0 bel lt0) trodAll_mk0), rfl, bel.frame _, fun h => by cases h⟩

set_option maxHeartbeats 4000000 in
theorem joined : joinedFacts Try.pinned.checked.prog 11 Try.f11 Rows.fnPropagateFixedSpec Rows.fnPropagateFixedRow = true := by
  unfold joinedFacts
  exact (and2 (and2 (and2 (and2 (and2 (and2 (and2 (and2 (and2 (and2 (and2 (and2 (and2 (and2 (and2 (and2 (and2 (and2 (and2 (and2 (and2 (and2 (and2 (and2 (and2 (and2 (and2 (and2 (and2 (and2 (and2 (by as_aux_lemma => kernel_rfl) (by as_aux_lemma => kernel_rfl)) (by as_aux_lemma => kernel_rfl)) (by as_aux_lemma => kernel_rfl)) (by as_aux_lemma => kernel_rfl)) (by as_aux_lemma => kernel_rfl)) (by as_aux_lemma => kernel_rfl)) (by as_aux_lemma => kernel_rfl)) (by as_aux_lemma => kernel_rfl)) (by as_aux_lemma => kernel_rfl)) (by as_aux_lemma => kernel_rfl)) (by as_aux_lemma => kernel_rfl)) (by as_aux_lemma => kernel_rfl)) (by as_aux_lemma => kernel_rfl)) (by as_aux_lemma => kernel_rfl)) (by as_aux_lemma => kernel_rfl)) (by as_aux_lemma => kernel_rfl)) (by as_aux_lemma => kernel_rfl)) (by as_aux_lemma => kernel_rfl)) (by as_aux_lemma => kernel_rfl)) (by as_aux_lemma => kernel_rfl)) (by as_aux_lemma => kernel_rfl)) (by as_aux_lemma => kernel_rfl)) (by as_aux_lemma => kernel_rfl)) (by as_aux_lemma => kernel_rfl)) jEnter) jLift) jMake) (by as_aux_lemma => kernel_rfl)) (by as_aux_lemma => kernel_rfl)) (by as_aux_lemma => kernel_rfl)) (by as_aux_lemma => kernel_rfl))

set_option maxHeartbeats 4000000 in
theorem over : Rows.fnPropagateFixedRow.holds Try.pinned (OpenSpec.ofChange Rows.fnPropagateFixedSpec) :=
  OpenClaim.holds_of_wide 11 Try.f11 rfl rfl rfl rfl rfl rfl rfl ⟨rfl, rfl, rfl, rfl, rfl⟩ rfl rfl rfl rfl rfl (by kernel_rfl) Try.func11 joined
    (of_decide_eq_true (by kernel_rfl)) (by unfold Func.isWrapper; first | (rw [if_pos (by decide +kernel)]; kernel_rfl) | (rw [if_neg (by decide +kernel)]; exact ⟨rfl, rfl⟩))
    (fun os started H enc _ => lifted os started H enc)

theorem proved : Rows.FnPropagateFixedSaid := over

end Go.Proofs.Ytihbgajlnbchlaa.propagateFixed
