/- laws.FnExactCountSolutions: for every list of constraints, the program's CountSolutions returns what the reference's returns and leaves its argument alone. No condition. -/
import Derived.Test.YtnadpcjioakoiaaCnt
import Derived.Test.YtnadpcjioakoiaaOpenC
import Derived.Test.YtnadpcjioakoiaaSzT
import Derived.Test.YtnadpcjioakoiaaToT
import Derived.Test.YtnadpcjioakoiaaEqT
import Derived.Test.YtnadpcjioakoiaaOpen
import Derived.Test.YtnadpcjioakoiaaFacts
import Derived.Deep.RegionHeld3
import Derived.Deep.RegionWith
namespace Go.Proofs.Ytnadpcjioakoiaa.exactCountSolutions
open Go.ChangeShapes Go.WideShapes Go.ChangeAt Go.RowKit
set_option linter.unusedVariables false

set_option maxRecDepth 100000 in
set_option maxHeartbeats 4000000 in
theorem walk (Ax0 : Option Addr) (nx0 capx0 : Nat) (zs0 : List Cn) (w : World) (hnx0 : nx0 ≤ maxLen) (sx0 : SegC w Ax0 nx0 zs0) :
    Calls Try.prog 7 #[.slice Ax0 nx0 capx0] w fun e w' => e = .returned (.bool true) ∧ Ext w w' := by
  have HL0 := Lib.hid sx0.len
  have up0 := szCs_le zs0 1048576 (by omega)
  have lw0 := szCs_ge zs0 1048576 (by omega)
  by_cases hb0 : szCs zs0 1048576 < 0
  · go_enter Try.func7, Try.ntmps7
    go_wp2_with fail
    refine (szConstraintS_any Ax0 nx0 capx0 zs0 _ _ hnx0 (by omega) (by omega) sx0).mono ?_
    rintro e w1 ⟨rfl, hE1⟩
    have hC1 : Ext w w1 := hE1
    go_wp2
    go_ret
    exact ⟨rfl, hC1⟩
  have nb0 : 0 ≤ szCs zs0 1048576 := by omega
  have ms0 : nx0 ≤ 1048576 := by rw [← HL0.out]; exact (szCs_small zs0 1048576 (by omega) (by omega) hb0).1
  have hsm0 := Lib.hid (szCs_small zs0 1048576 (by omega) (by omega) hb0).2
  clear hb0
  go_enter Try.func7, Try.ntmps7
  go_wp2_with fail
  refine (szConstraintS_any Ax0 nx0 capx0 zs0 _ _ hnx0 (by omega) (by omega) sx0).mono ?_
  rintro e w1 ⟨rfl, hE1⟩
  have hC1 : Ext w w1 := hE1
  go_wp2_with fail
  refine (toConstraintS_any Ax0 nx0 capx0 zs0 _ ms0 hsm0.out (sx0.ext hC1)).mono ?_
  rintro e w2 ⟨A2, n2, cap2, rfl, hl2, hG2, hE2⟩
  have hC2 : Ext w1 w2 := hE2
  have hs2 : n2 ≤ 1048576 := (by rw [← hl2, HL0.out]; exact ms0)
  have hn2 : n2 ≤ maxLen := (Nat.le_trans hs2 (by unfold maxLen; omega))
  go_wp2_with fail
  refine (specCnt_any A2 n2 cap2 zs0 _ hn2 hG2.seg).mono ?_
  rintro e w3 ⟨rfl, hE3⟩
  have hC3 : Ext w2 w3 := hE3
  go_wp2_with fail
  refine (toConstraintS_any Ax0 nx0 capx0 zs0 _ ms0 hsm0.out (sx0.ext ((hC1.trans hC2).trans hC3))).mono ?_
  rintro e w4 ⟨A4, n4, cap4, rfl, hl4, hG4, hE4⟩
  have hC4 : Ext w3 w4 := hE4
  have hs4 : n4 ≤ 1048576 := (by rw [← hl4, HL0.out]; exact ms0)
  have hn4 : n4 ≤ maxLen := (Nat.le_trans hs4 (by unfold maxLen; omega))
  go_wp2_with fail
  refine (implCnt_any A4 n4 cap4 zs0 _ hn4 hG4.seg).mono ?_
  rintro e w5 ⟨rfl, hE5⟩
  have hC5 : Ext w4 w5 := hE5
  go_wp2_with fail
  refine (toConstraintS_any Ax0 nx0 capx0 zs0 _ ms0 hsm0.out (sx0.ext ((((hC1.trans hC2).trans hC3).trans hC4).trans hC5))).mono ?_
  rintro e w6 ⟨A6, n6, cap6, rfl, hl6, hG6, hE6⟩
  have hC6 : Ext w5 w6 := hE6
  have hs6 : n6 ≤ 1048576 := (by rw [← hl6, HL0.out]; exact ms0)
  have hn6 : n6 ≤ maxLen := (Nat.le_trans hs6 (by unfold maxLen; omega))
  go_wp2_with fail
  have hq7 : csEq zs0 zs0 = true := csEq_self _
  refine (eqConstraintS_any A4 n4 cap4 zs0 A6 n6 cap6 zs0 _ hn4 (hG4.seg.ext (hC5.trans hC6)) hn6 hG6.seg).mono ?_
  rintro e w7 ⟨rfl, hE7⟩
  have hC7 : Ext w6 w7 := hE7
  go_wp2
  go_ret
  exact ⟨rfl, ((((((hC1.trans hC2).trans hC3).trans hC4).trans hC5).trans hC6).trans hC7)⟩


theorem own : ownKnob Try.prog.godebug = none := by kernel_rfl
theorem laidOut : laidOutB Try.prog = true := by kernel_rfl

set_option maxRecDepth 100000 in
theorem lifted (os : Os) (started : os.Started) (H : Type) (enc : TypeId × Value → H) :
    ReturnsInHanded {} Try.checked os 7 .any (Rows.fnExactCountSolutionsSpec.pre6 enc Try.prog Try.f7 Rows.fnExactCountSolutionsRow.domain false) (Rows.fnExactCountSolutionsSpec.post enc Try.prog Try.f7 false true false false) := by
  refine returnsInHanded_of_change (C := Try.checked) own started (by kernel_rfl) Try.func7
    (ChangeSpec.witness6 (enc := enc) (C := Try.checked) false ⟨#[], #[.slice none 0 0], []⟩ 8 (by kernel_rfl) (by kernel_rfl) (by kernel_rfl) (by kernel_rfl)) ?_
  intro W base args ds gs before hval0 hW hcnd _
  have hval : ∀ (j : Nat) t v, Try.f7.params[j]? = some t → args[j]? = some v → Value.okWide Try.prog W .any base t v := hval0
  have hW' := hW
  obtain ⟨p, q, hA0, hV, rfl, hfz, hnd⟩ := hW
  have hA : DataW.TrodAll enc Try.prog W 0 (fun _ => true) true Try.f7.params.toList args.toList ds p := hA0
  rw [Try.params7] at hA hval
  obtain ⟨v0, vs0, d0, ds0, p0, q0, hargs, rfl, rfl, h0, r0⟩ := trodAll_cons hA
  obtain ⟨rfl, rfl, rfl⟩ := trodAll_nil r0
  obtain rfl : args = #[v0] := by cases args; simp_all
  obtain ⟨rfl, rfl⟩ := trodVars_none hV
  have k0 := h0
  have lt0 : ∀ x ∈ p0, x.block < W.heap.size := by obtain ⟨m, hm⟩ := k0; exact DataW.trod_lt m _ _ _ hm
  obtain ⟨A0, n0, cap0, zs0, rfl, hn0, hs0⟩ := arg_constrs (hval 0 41 v0 rfl rfl) h0
  clear hA0 hval0
  refine (walk A0 n0 cap0 zs0 W hn0 hs0).mono fun e W' ⟨he, ext⟩ => ?_
  subst he
  have bel := ext.below
  exact ⟨_, rfl, _, _, _, [], _, [], hW', trodAll_mk1 (shut_bool Try.underlying4 _), (trodAll_cons_mk (Below.trod laidOut (by kernel_rfl) (of_decide_eq_true (by kernel_rfl)) k0 bel lt0) trodAll_mk0), rfl, bel.frame _, fun h => by cases h⟩

set_option maxHeartbeats 4000000 in
theorem joined : joinedFacts Try.pinned.checked.prog 7 Try.f7 Rows.fnExactCountSolutionsSpec Rows.fnExactCountSolutionsRow = true := by
  unfold joinedFacts
  exact (and2 (and2 (and2 (and2 (and2 (and2 (and2 (and2 (and2 (and2 (and2 (and2 (and2 (and2 (and2 (and2 (and2 (and2 (and2 (and2 (and2 (and2 (and2 (and2 (and2 (and2 (and2 (and2 (and2 (and2 (and2 (by as_aux_lemma => kernel_rfl) (by as_aux_lemma => kernel_rfl)) (by as_aux_lemma => kernel_rfl)) (by as_aux_lemma => kernel_rfl)) (by as_aux_lemma => kernel_rfl)) (by as_aux_lemma => kernel_rfl)) (by as_aux_lemma => kernel_rfl)) (by as_aux_lemma => kernel_rfl)) (by as_aux_lemma => kernel_rfl)) (by as_aux_lemma => kernel_rfl)) (by as_aux_lemma => kernel_rfl)) (by as_aux_lemma => kernel_rfl)) (by as_aux_lemma => kernel_rfl)) (by as_aux_lemma => kernel_rfl)) (by as_aux_lemma => kernel_rfl)) (by as_aux_lemma => kernel_rfl)) (by as_aux_lemma => kernel_rfl)) (by as_aux_lemma => kernel_rfl)) (by as_aux_lemma => kernel_rfl)) (by as_aux_lemma => kernel_rfl)) (by as_aux_lemma => kernel_rfl)) (by as_aux_lemma => kernel_rfl)) (by as_aux_lemma => kernel_rfl)) (by as_aux_lemma => kernel_rfl)) (by as_aux_lemma => kernel_rfl)) jEnter) jLift) jMake) (by as_aux_lemma => kernel_rfl)) (by as_aux_lemma => kernel_rfl)) (by as_aux_lemma => kernel_rfl)) (by as_aux_lemma => kernel_rfl))

set_option maxHeartbeats 4000000 in
theorem over : Rows.fnExactCountSolutionsRow.holds Try.pinned (OpenSpec.ofChange Rows.fnExactCountSolutionsSpec) :=
  OpenClaim.holds_of_wide 7 Try.f7 rfl rfl rfl rfl rfl rfl rfl ⟨rfl, rfl, rfl, rfl, rfl⟩ rfl rfl rfl rfl rfl (by kernel_rfl) Try.func7 joined
    (of_decide_eq_true (by kernel_rfl)) (by unfold Func.isWrapper; first | (rw [if_pos (by decide +kernel)]; kernel_rfl) | (rw [if_neg (by decide +kernel)]; exact ⟨rfl, rfl⟩))
    (fun os started H enc _ => lifted os started H enc)

theorem proved : Rows.FnExactCountSolutionsSaid := over

end Go.Proofs.Ytnadpcjioakoiaa.exactCountSolutions
