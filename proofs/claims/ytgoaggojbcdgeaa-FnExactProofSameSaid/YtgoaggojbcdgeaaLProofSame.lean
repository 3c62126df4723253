/- laws.FnExactProofSame: for every two lists of steps, the program's ProofSame answers as the reference's and leaves its arguments alone. No condition. -/
import Derived.Test.YtgoaggojbcdgeaaStepE
import Derived.Test.YtgoaggojbcdgeaaOpenS
import Derived.Test.YtgoaggojbcdgeaaSzT
import Derived.Test.YtgoaggojbcdgeaaToT
import Derived.Test.YtgoaggojbcdgeaaEqT
import Derived.Test.YtgoaggojbcdgeaaOpen
import Derived.Test.YtgoaggojbcdgeaaFacts
import Derived.Deep.RegionHeld3
import Derived.Deep.RegionWith
namespace Go.Proofs.Ytgoaggojbcdgeaa.exactProofSame
open Go.ChangeShapes Go.WideShapes Go.ChangeAt Go.RowKit
set_option linter.unusedVariables false

set_option maxRecDepth 100000 in
set_option maxHeartbeats 4000000 in
theorem walk (Ax0 : Option Addr) (nx0 capx0 : Nat) (zs0 : List St) (Ax1 : Option Addr) (nx1 capx1 : Nat) (zs1 : List St) (w : World) (hnx0 : nx0 ≤ maxLen) (sx0 : SegP w Ax0 nx0 zs0) (hnx1 : nx1 ≤ maxLen) (sx1 : SegP w Ax1 nx1 zs1) :
    Calls Try.prog 5 #[.slice Ax0 nx0 capx0, .slice Ax1 nx1 capx1] w fun e w' => e = .returned (.bool true) ∧ Ext w w' := by
  have HL0 := Lib.hid sx0.len
  have HL1 := Lib.hid sx1.len
  have hc0 : (cnS zs0).length = nx0 := by unfold cnS; rw [List.length_map]; exact HL0.out
  have hc1 : (cnS zs1).length = nx1 := by unfold cnS; rw [List.length_map]; exact HL1.out
  have up0 := szCs_le (cnS zs0) 1048576 (by omega)
  have lw0 := szCs_ge (cnS zs0) 1048576 (by omega)
  by_cases hb0 : szCs (cnS zs0) 1048576 < 0
  · go_enter Try.func5, Try.ntmps5
    go_wp2_with fail
    refine (szStepS_any Ax0 nx0 capx0 zs0 _ _ hnx0 (by omega) (by omega) sx0).mono ?_
    rintro e w1 ⟨rfl, hE1⟩
    have hC1 : Ext w w1 := hE1
    go_wp2
    go_ret
    exact ⟨rfl, hC1⟩
  have nb0 : 0 ≤ szCs (cnS zs0) 1048576 := by omega
  have ms0 : nx0 ≤ 1048576 := by rw [← hc0]; exact (szCs_small (cnS zs0) 1048576 (by omega) (by omega) hb0).1
  have hsm0 := Lib.hid (szCs_small (cnS zs0) 1048576 (by omega) (by omega) hb0).2
  clear hb0
  obtain ⟨L, hL⟩ : ∃ L, szCs (cnS zs0) 1048576 = L := ⟨_, rfl⟩
  rw [hL] at up0 lw0 nb0
  have HLL := Lib.hid hL
  clear hL
  have up1 := szCs_le (cnS zs1) L (by omega)
  have lw1 := szCs_ge (cnS zs1) L (by omega)
  by_cases hb1 : szCs (cnS zs1) L < 0
  · go_enter Try.func5, Try.ntmps5
    go_wp2_with fail
    refine (calls_val (szStepS_any Ax0 nx0 capx0 zs0 _ _ hnx0 (by omega) (by omega) sx0) (congrArg (Value.int .i64) HLL.out)).mono ?_
    rintro e w1 ⟨rfl, hE1⟩
    have hC1 : Ext w w1 := hE1
    go_wp2_with fail
    refine (szStepS_any Ax1 nx1 capx1 zs1 _ _ hnx1 (by omega) (by omega) (sx1.ext hC1)).mono ?_
    rintro e w2 ⟨rfl, hE2⟩
    have hC2 : Ext w1 w2 := hE2
    go_wp2
    go_ret
    exact ⟨rfl, hC1.trans hC2⟩
  have nb1 : 0 ≤ szCs (cnS zs1) L := by omega
  have ms1 : nx1 ≤ 1048576 := by rw [← hc1]; exact (szCs_small (cnS zs1) L (by omega) (by omega) hb1).1
  have hsm1 := Lib.hid (szCs_small (cnS zs1) L (by omega) (by omega) hb1).2
  clear hb1 hc0 hc1
  go_enter Try.func5, Try.ntmps5
  go_wp2_with fail
  refine (calls_val (szStepS_any Ax0 nx0 capx0 zs0 _ _ hnx0 (by omega) (by omega) sx0) (congrArg (Value.int .i64) HLL.out)).mono ?_
  rintro e w1 ⟨rfl, hE1⟩
  have hC1 : Ext w w1 := hE1
  go_wp2_with fail
  refine (szStepS_any Ax1 nx1 capx1 zs1 _ _ hnx1 (by omega) (by omega) (sx1.ext hC1)).mono ?_
  rintro e w2 ⟨rfl, hE2⟩
  have hC2 : Ext w1 w2 := hE2
  go_wp2_with fail
  refine (toStepS_any Ax0 nx0 capx0 zs0 _ ms0 hsm0.out (sx0.ext (hC1.trans hC2))).mono ?_
  rintro e w3 ⟨A3, n3, cap3, rfl, hl3, hG3, hE3⟩
  have hC3 : Ext w2 w3 := hE3
  have hs3 : n3 ≤ 1048576 := (by rw [← hl3, HL0.out]; exact ms0)
  have hn3 : n3 ≤ maxLen := (Nat.le_trans hs3 (by unfold maxLen; omega))
  go_wp2_with fail
  refine (toStepS_any Ax1 nx1 capx1 zs1 _ ms1 hsm1.out (sx1.ext ((hC1.trans hC2).trans hC3))).mono ?_
  rintro e w4 ⟨A4, n4, cap4, rfl, hl4, hG4, hE4⟩
  have hC4 : Ext w3 w4 := hE4
  have hs4 : n4 ≤ 1048576 := (by rw [← hl4, HL1.out]; exact ms1)
  have hn4 : n4 ≤ maxLen := (Nat.le_trans hs4 (by unfold maxLen; omega))
  go_wp2_with fail
  refine (specPS_any A3 n3 cap3 zs0 A4 n4 cap4 zs1 _ hn3 (hG3.ext hC4) hn4 hG4).mono ?_
  rintro e w5 ⟨rfl, hE5⟩
  have hC5 : Ext w4 w5 := hE5
  go_wp2_with fail
  refine (toStepS_any Ax0 nx0 capx0 zs0 _ ms0 hsm0.out (sx0.ext ((((hC1.trans hC2).trans hC3).trans hC4).trans hC5))).mono ?_
  rintro e w6 ⟨A6, n6, cap6, rfl, hl6, hG6, hE6⟩
  have hC6 : Ext w5 w6 := hE6
  have hs6 : n6 ≤ 1048576 := (by rw [← hl6, HL0.out]; exact ms0)
  have hn6 : n6 ≤ maxLen := (Nat.le_trans hs6 (by unfold maxLen; omega))
  go_wp2_with fail
  refine (toStepS_any Ax1 nx1 capx1 zs1 _ ms1 hsm1.out (sx1.ext (((((hC1.trans hC2).trans hC3).trans hC4).trans hC5).trans hC6))).mono ?_
  rintro e w7 ⟨A7, n7, cap7, rfl, hl7, hG7, hE7⟩
  have hC7 : Ext w6 w7 := hE7
  have hs7 : n7 ≤ 1048576 := (by rw [← hl7, HL1.out]; exact ms1)
  have hn7 : n7 ≤ maxLen := (Nat.le_trans hs7 (by unfold maxLen; omega))
  go_wp2_with fail
  refine (implPS_any A6 n6 cap6 zs0 A7 n7 cap7 zs1 _ hn6 (hG6.ext hC7) hn7 hG7).mono ?_
  rintro e w8 ⟨rfl, hE8⟩
  have hC8 : Ext w7 w8 := hE8
  go_wp2_with fail
  refine (toStepS_any Ax0 nx0 capx0 zs0 _ ms0 hsm0.out (sx0.ext (((((((hC1.trans hC2).trans hC3).trans hC4).trans hC5).trans hC6).trans hC7).trans hC8))).mono ?_
  rintro e w9 ⟨A9, n9, cap9, rfl, hl9, hG9, hE9⟩
  have hC9 : Ext w8 w9 := hE9
  have hs9 : n9 ≤ 1048576 := (by rw [← hl9, HL0.out]; exact ms0)
  have hn9 : n9 ≤ maxLen := (Nat.le_trans hs9 (by unfold maxLen; omega))
  go_wp2_with fail
  have hq10 : spEq zs0 zs0 = true := spEq_self _
  refine (calls_val (eqStepS_any A6 n6 cap6 zs0 A9 n9 cap9 zs0 _ hn6 (hG6.ext ((hC7.trans hC8).trans hC9)) hn9 hG9) (congrArg Value.bool hq10)).mono ?_
  rintro e w10 ⟨rfl, hE10⟩
  have hC10 : Ext w9 w10 := hE10
  go_wp2_with fail
  refine (toStepS_any Ax1 nx1 capx1 zs1 _ ms1 hsm1.out (sx1.ext (((((((((hC1.trans hC2).trans hC3).trans hC4).trans hC5).trans hC6).trans hC7).trans hC8).trans hC9).trans hC10))).mono ?_
  rintro e w11 ⟨A11, n11, cap11, rfl, hl11, hG11, hE11⟩
  have hC11 : Ext w10 w11 := hE11
  have hs11 : n11 ≤ 1048576 := (by rw [← hl11, HL1.out]; exact ms1)
  have hn11 : n11 ≤ maxLen := (Nat.le_trans hs11 (by unfold maxLen; omega))
  go_wp2_with fail
  have hq12 : spEq zs1 zs1 = true := spEq_self _
  refine (calls_val (eqStepS_any A7 n7 cap7 zs1 A11 n11 cap11 zs1 _ hn7 (hG7.ext (((hC8.trans hC9).trans hC10).trans hC11)) hn11 hG11) (congrArg Value.bool hq12)).mono ?_
  rintro e w12 ⟨rfl, hE12⟩
  have hC12 : Ext w11 w12 := hE12
  go_wp2
  go_ret
  exact ⟨rfl, (((((((((((hC1.trans hC2).trans hC3).trans hC4).trans hC5).trans hC6).trans hC7).trans hC8).trans hC9).trans hC10).trans hC11).trans hC12)⟩

theorem own : ownKnob Try.prog.godebug = none := by kernel_rfl
theorem laidOut : laidOutB Try.prog = true := by kernel_rfl

set_option maxRecDepth 100000 in
theorem lifted (os : Os) (started : os.Started) (H : Type) (enc : TypeId × Value → H) :
    ReturnsInHanded {} Try.checked os 5 .any (Rows.fnExactProofSameSpec.pre6 enc Try.prog Try.f5 Rows.fnExactProofSameRow.domain false) (Rows.fnExactProofSameSpec.post enc Try.prog Try.f5 false true false false) := by
  refine returnsInHanded_of_change (C := Try.checked) own started (by kernel_rfl) Try.func5
    (ChangeSpec.witness6 (enc := enc) (C := Try.checked) false ⟨#[], #[.slice none 0 0, .slice none 0 0], []⟩ 8 (by kernel_rfl) (by kernel_rfl) (by kernel_rfl) (by kernel_rfl)) ?_
  intro W base args ds gs before hval0 hW hcnd _
  have hval : ∀ (j : Nat) t v, Try.f5.params[j]? = some t → args[j]? = some v → Value.okWide Try.prog W .any base t v := hval0
  have hW' := hW
  obtain ⟨p, q, hA0, hV, rfl, hfz, hnd⟩ := hW
  have hA : DataW.TrodAll enc Try.prog W 0 (fun _ => true) true Try.f5.params.toList args.toList ds p := hA0
  rw [Try.params5] at hA hval
  obtain ⟨v0, vs0, d0, ds0, p0, q0, hargs, rfl, rfl, h0, r0⟩ := trodAll_cons hA
  obtain ⟨v1, vs1, d1, ds1, p1, q1, rfl, rfl, rfl, h1, r1⟩ := trodAll_cons r0
  obtain ⟨rfl, rfl, rfl⟩ := trodAll_nil r1
  obtain rfl : args = #[v0, v1] := by cases args; simp_all
  obtain ⟨rfl, rfl⟩ := trodVars_none hV
  have k0 := h0
  have lt0 : ∀ x ∈ p0, x.block < W.heap.size := by obtain ⟨m, hm⟩ := k0; exact DataW.trod_lt m _ _ _ hm
  obtain ⟨A0, n0, cap0, zs0, rfl, hn0, hs0⟩ := arg_steps (hval 0 40 v0 rfl rfl) h0
  have k1 := h1
  have lt1 : ∀ x ∈ p1, x.block < W.heap.size := by obtain ⟨m, hm⟩ := k1; exact DataW.trod_lt m _ _ _ hm
  obtain ⟨A1, n1, cap1, zs1, rfl, hn1, hs1⟩ := arg_steps (hval 1 40 v1 rfl rfl) h1
  clear hA0 hval0
  refine (walk A0 n0 cap0 zs0 A1 n1 cap1 zs1 W hn0 hs0 hn1 hs1).mono fun e W' ⟨he, ext⟩ => ?_
  subst he
  have bel := ext.below
  exact ⟨_, rfl, _, _, _, [], _, [], hW', trodAll_mk1 (shut_bool Try.underlying4 _), (trodAll_cons_mk (Below.trod laidOut (by kernel_rfl) (of_decide_eq_true (by kernel_rfl)) k0 bel lt0) (trodAll_cons_mk (Below.trod laidOut (by kernel_rfl) (of_decide_eq_true (by kernel_rfl)) k1 bel lt1) trodAll_mk0)), rfl, bel.frame _, fun h => by cases h⟩

set_option maxHeartbeats 4000000 in
theorem joined : joinedFacts Try.pinned.checked.prog 5 Try.f5 Rows.fnExactProofSameSpec Rows.fnExactProofSameRow = true := by
  unfold joinedFacts
  exact (and2 (and2 (and2 (and2 (and2 (and2 (and2 (and2 (and2 (and2 (and2 (and2 (and2 (and2 (and2 (and2 (and2 (and2 (and2 (and2 (and2 (and2 (and2 (and2 (and2 (and2 (and2 (and2 (and2 (and2 (and2 (by as_aux_lemma => kernel_rfl) (by as_aux_lemma => kernel_rfl)) (by as_aux_lemma => kernel_rfl)) (by as_aux_lemma => kernel_rfl)) (by as_aux_lemma => kernel_rfl)) (by as_aux_lemma => kernel_rfl)) (by as_aux_lemma => kernel_rfl)) (by as_aux_lemma => kernel_rfl)) (by as_aux_lemma => kernel_rfl)) (by as_aux_lemma => kernel_rfl)) (by as_aux_lemma => kernel_rfl)) (by as_aux_lemma => kernel_rfl)) (by as_aux_lemma => kernel_rfl)) (by as_aux_lemma => kernel_rfl)) (by as_aux_lemma => kernel_rfl)) (by as_aux_lemma => kernel_rfl)) (by as_aux_lemma => kernel_rfl)) (by as_aux_lemma => kernel_rfl)) (by as_aux_lemma => kernel_rfl)) (by as_aux_lemma => kernel_rfl)) (by as_aux_lemma => kernel_rfl)) (by as_aux_lemma => kernel_rfl)) (by as_aux_lemma => kernel_rfl)) (by as_aux_lemma => kernel_rfl)) (by as_aux_lemma => kernel_rfl)) jEnter) jLift) jMake) (by as_aux_lemma => kernel_rfl)) (by as_aux_lemma => kernel_rfl)) (by as_aux_lemma => kernel_rfl)) (by as_aux_lemma => kernel_rfl))

set_option maxHeartbeats 4000000 in
theorem over : Rows.fnExactProofSameRow.holds Try.pinned (OpenSpec.ofChange Rows.fnExactProofSameSpec) :=
  OpenClaim.holds_of_wide 5 Try.f5 rfl rfl rfl rfl rfl rfl rfl ⟨rfl, rfl, rfl, rfl, rfl⟩ rfl rfl rfl rfl rfl (by kernel_rfl) Try.func5 joined
    (of_decide_eq_true (by kernel_rfl)) (by unfold Func.isWrapper; first | (rw [if_pos (by decide +kernel)]; kernel_rfl) | (rw [if_neg (by decide +kernel)]; exact ⟨rfl, rfl⟩))
    (fun os started H enc _ => lifted os started H enc)

theorem proved : Rows.FnExactProofSameSaid := over

end Go.Proofs.Ytgoaggojbcdgeaa.exactProofSame
