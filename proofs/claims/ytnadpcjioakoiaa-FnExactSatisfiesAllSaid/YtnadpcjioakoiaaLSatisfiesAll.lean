/- laws.FnExactSatisfiesAll: for every list of constraints and all values, the program's SatisfiesAll answers as the reference's and leaves its arguments alone. No condition. -/
import Derived.Test.YtnadpcjioakoiaaSats
import Derived.Test.YtnadpcjioakoiaaOpenC
import Derived.Test.YtnadpcjioakoiaaIntS
import Derived.Test.YtnadpcjioakoiaaSzT
import Derived.Test.YtnadpcjioakoiaaToT
import Derived.Test.YtnadpcjioakoiaaEqT
import Derived.Test.YtnadpcjioakoiaaOpen
import Derived.Test.YtnadpcjioakoiaaFacts
import Derived.Deep.RegionHeld3
import Derived.Deep.RegionWith
namespace Go.Proofs.Ytnadpcjioakoiaa.exactSatisfiesAll
open Go.ChangeShapes Go.WideShapes Go.ChangeAt Go.RowKit
set_option linter.unusedVariables false

set_option maxRecDepth 100000 in
set_option maxHeartbeats 4000000 in
theorem walk (Ax0 : Option Addr) (nx0 capx0 : Nat) (zs0 : List Cn) (Ax1 : Option Addr) (nx1 capx1 : Nat) (zs1 : List Bool) (w : World) (hnx0 : nx0 ≤ maxLen) (sx0 : SegC w Ax0 nx0 zs0) (hnx1 : nx1 ≤ maxLen) (sx1 : Seg w 1 Ax1 nx1 (encB zs1)) :
    Calls Try.prog 5 #[.slice Ax0 nx0 capx0, .slice Ax1 nx1 capx1] w fun e w' => e = .returned (.bool true) ∧ Ext w w' := by
  have HL0 := Lib.hid sx0.len
  have HL1 := Lib.hid sx1.lenB
  by_cases hb1 : 1048576 < nx1
  · clear sx0 sx1
    go_enter Try.func5, Try.ntmps5
    go_wp2
    go_ret
    exact ⟨rfl, by repeat (first | exact Ext.refl _ | refine Ext.alloc ?_ _)⟩
  have ms1 : nx1 ≤ 1048576 := by omega
  have up0 := szCs_le zs0 1048576 (by omega)
  have lw0 := szCs_ge zs0 1048576 (by omega)
  by_cases hb0 : szCs zs0 1048576 < 0
  · go_enter Try.func5, Try.ntmps5
    go_wp2_with fail
    refine (szConstraintS_any Ax0 nx0 capx0 zs0 _ _ hnx0 (by omega) (by omega) sx0).mono ?_
    rintro e w1 ⟨rfl, hE1⟩
    have hC1 : Ext w w1 := hE1
    go_wp2
    go_ret
    exact ⟨rfl, hC1⟩
  have nb0 : 0 ≤ szCs zs0 1048576 := by omega
  have ms0 : nx0 ≤ 1048576 := by rw [← HL0.out]; exact (szCs_small zs0 1048576 (by omega) (by omega) hb0).1
  have hsm0 := Lib.hid (szCs_small zs0 1048576 (by omega) (by omega) hb0).2
  clear hb0
  go_enter Try.func5, Try.ntmps5
  go_wp2_with fail
  refine (szConstraintS_any Ax0 nx0 capx0 zs0 _ _ hnx0 (by omega) (by omega) sx0).mono ?_
  rintro e w1 ⟨rfl, hE1⟩
  have hC1 : Ext w w1 := hE1
  go_wp2_with fail
  refine (toConstraintS_any Ax0 nx0 capx0 zs0 _ ms0 hsm0.out (sx0.ext hC1)).mono ?_
  rintro e w2 ⟨A2, n2, cap2, rfl, hl2, hG2, hE2⟩
  have hC2 : Ext w1 w2 := hE2
  have hs2 : n2 ≤ 1048576 := (by rw [← hl2, HL0.out]; exact ms0)
  have hn2 : n2 ≤ maxLen := (Nat.le_trans hs2 (by unfold maxLen; omega))
  go_wp2_with fail
  refine (toBoolS_any Ax1 nx1 capx1 zs1 _ ms1 (sx1.ext (hC1.trans hC2))).mono ?_
  rintro e w3 ⟨A3, n3, cap3, rfl, hl3, hG3, hE3⟩
  have hC3 : Ext w2 w3 := hE3
  have hs3 : n3 ≤ 1048576 := (by rw [← hl3, HL1.out]; exact ms1)
  have hn3 : n3 ≤ maxLen := (Nat.le_trans hs3 (by unfold maxLen; omega))
  go_wp2_with fail
  refine (specSA_any A2 n2 cap2 zs0 A3 n3 cap3 zs1 _ hn2 (hG2.seg.ext hC3) hn3 hG3.seg).mono ?_
  rintro e w4 ⟨rfl, hE4⟩
  have hC4 : Ext w3 w4 := hE4
  go_wp2_with fail
  refine (toConstraintS_any Ax0 nx0 capx0 zs0 _ ms0 hsm0.out (sx0.ext (((hC1.trans hC2).trans hC3).trans hC4))).mono ?_
  rintro e w5 ⟨A5, n5, cap5, rfl, hl5, hG5, hE5⟩
  have hC5 : Ext w4 w5 := hE5
  have hs5 : n5 ≤ 1048576 := (by rw [← hl5, HL0.out]; exact ms0)
  have hn5 : n5 ≤ maxLen := (Nat.le_trans hs5 (by unfold maxLen; omega))
  go_wp2_with fail
  refine (toBoolS_any Ax1 nx1 capx1 zs1 _ ms1 (sx1.ext ((((hC1.trans hC2).trans hC3).trans hC4).trans hC5))).mono ?_
  rintro e w6 ⟨A6, n6, cap6, rfl, hl6, hG6, hE6⟩
  have hC6 : Ext w5 w6 := hE6
  have hs6 : n6 ≤ 1048576 := (by rw [← hl6, HL1.out]; exact ms1)
  have hn6 : n6 ≤ maxLen := (Nat.le_trans hs6 (by unfold maxLen; omega))
  go_wp2_with fail
  refine (implSA_any A5 n5 cap5 zs0 A6 n6 cap6 zs1 _ hn5 (hG5.seg.ext hC6) hn6 hG6.seg).mono ?_
  rintro e w7 ⟨rfl, hE7⟩
  have hC7 : Ext w6 w7 := hE7
  go_wp2_with fail
  refine (toConstraintS_any Ax0 nx0 capx0 zs0 _ ms0 hsm0.out (sx0.ext ((((((hC1.trans hC2).trans hC3).trans hC4).trans hC5).trans hC6).trans hC7))).mono ?_
  rintro e w8 ⟨A8, n8, cap8, rfl, hl8, hG8, hE8⟩
  have hC8 : Ext w7 w8 := hE8
  have hs8 : n8 ≤ 1048576 := (by rw [← hl8, HL0.out]; exact ms0)
  have hn8 : n8 ≤ maxLen := (Nat.le_trans hs8 (by unfold maxLen; omega))
  go_wp2_with fail
  have hq9 : csEq zs0 zs0 = true := csEq_self _
  refine (eqConstraintS_any A5 n5 cap5 zs0 A8 n8 cap8 zs0 _ hn5 (hG5.seg.ext ((hC6.trans hC7).trans hC8)) hn8 hG8.seg).mono ?_
  rintro e w9 ⟨rfl, hE9⟩
  have hC9 : Ext w8 w9 := hE9
  go_wp2_with fail
  refine (toBoolS_any Ax1 nx1 capx1 zs1 _ ms1 (sx1.ext ((((((((hC1.trans hC2).trans hC3).trans hC4).trans hC5).trans hC6).trans hC7).trans hC8).trans hC9))).mono ?_
  rintro e w10 ⟨A10, n10, cap10, rfl, hl10, hG10, hE10⟩
  have hC10 : Ext w9 w10 := hE10
  have hs10 : n10 ≤ 1048576 := (by rw [← hl10, HL1.out]; exact ms1)
  have hn10 : n10 ≤ maxLen := (Nat.le_trans hs10 (by unfold maxLen; omega))
  go_wp2_with fail
  have hq11 : bEq zs1 zs1 = true := bEq_self _
  refine (eqBoolS_any A6 n6 cap6 zs1 A10 n10 cap10 zs1 _ hn6 (hG6.seg.ext (((hC7.trans hC8).trans hC9).trans hC10)) hn10 hG10.seg).mono ?_
  rintro e w11 ⟨rfl, hE11⟩
  have hC11 : Ext w10 w11 := hE11
  go_wp2
  go_ret
  exact ⟨rfl, ((((((((((hC1.trans hC2).trans hC3).trans hC4).trans hC5).trans hC6).trans hC7).trans hC8).trans hC9).trans hC10).trans hC11)⟩


theorem own : ownKnob Try.prog.godebug = none := by kernel_rfl
theorem laidOut : laidOutB Try.prog = true := by kernel_rfl

set_option maxRecDepth 100000 in
theorem lifted (os : Os) (started : os.Started) (H : Type) (enc : TypeId × Value → H) :
    ReturnsInHanded {} Try.checked os 5 .any (Rows.fnExactSatisfiesAllSpec.pre6 enc Try.prog Try.f5 Rows.fnExactSatisfiesAllRow.domain false) (Rows.fnExactSatisfiesAllSpec.post enc Try.prog Try.f5 false true false false) := by
  refine returnsInHanded_of_change (C := Try.checked) own started (by kernel_rfl) Try.func5
    (ChangeSpec.witness6 (enc := enc) (C := Try.checked) false ⟨#[], #[.slice none 0 0, .slice none 0 0], []⟩ 8 (by kernel_rfl) (by kernel_rfl) (by kernel_rfl) (by kernel_rfl)) ?_
  intro W base args ds gs before hval0 hW hcnd _
  have hval : ∀ (j : Nat) t v, Try.f5.params[j]? = some t → args[j]? = some v → Value.okWide Try.prog W .any base t v := hval0
  have hW' := hW
  obtain ⟨p, q, hA0, hV, rfl, hfz, hnd⟩ := hW
  have hA : DataW.TrodAll enc Try.prog W 0 (fun _ => true) true Try.f5.params.toList args.toList ds p := hA0
  rw [Try.params5] at hA hval
  obtain ⟨v0, vs0, d0, ds0, p0, q0, hargs, rfl, rfl, h0, r0⟩ := trodAll_cons hA
  obtain ⟨v1, vs1, d1, ds1, p1, q1, rfl, rfl, rfl, h1, r1⟩ := trodAll_cons r0
  obtain ⟨rfl, rfl, rfl⟩ := trodAll_nil r1
  obtain rfl : args = #[v0, v1] := by cases args; simp_all
  obtain ⟨rfl, rfl⟩ := trodVars_none hV
  have k0 := h0
  have lt0 : ∀ x ∈ p0, x.block < W.heap.size := by obtain ⟨m, hm⟩ := k0; exact DataW.trod_lt m _ _ _ hm
  obtain ⟨A0, n0, cap0, zs0, rfl, hn0, hs0⟩ := arg_constrs (hval 0 41 v0 rfl rfl) h0
  have k1 := h1
  have lt1 : ∀ x ∈ p1, x.block < W.heap.size := by obtain ⟨m, hm⟩ := k1; exact DataW.trod_lt m _ _ _ hm
  obtain ⟨A1, n1, cap1, zs1, rfl, hn1, hs1⟩ := arg_bools (hval 1 42 v1 rfl rfl) h1
  clear hA0 hval0
  refine (walk A0 n0 cap0 zs0 A1 n1 cap1 zs1 W hn0 hs0 hn1 hs1).mono fun e W' ⟨he, ext⟩ => ?_
  subst he
  have bel := ext.below
  exact ⟨_, rfl, _, _, _, [], _, [], hW', trodAll_mk1 (shut_bool Try.underlying4 _), (trodAll_cons_mk (Below.trod laidOut (by kernel_rfl) (of_decide_eq_true (by kernel_rfl)) k0 bel lt0) (trodAll_cons_mk (Below.trod laidOut (by kernel_rfl) (of_decide_eq_true (by kernel_rfl)) k1 bel lt1) trodAll_mk0)), rfl, bel.frame _, fun h => by cases h⟩

set_option maxHeartbeats 4000000 in
theorem joined : joinedFacts Try.pinned.checked.prog 5 Try.f5 Rows.fnExactSatisfiesAllSpec Rows.fnExactSatisfiesAllRow = true := by
  unfold joinedFacts
  exact (and2 (and2 (and2 (and2 (and2 (and2 (and2 (and2 (and2 (and2 (and2 (and2 (and2 (and2 (and2 (and2 (and2 (and2 (and2 (and2 (and2 (and2 (and2 (and2 (and2 (and2 (and2 (and2 (and2 (and2 (and2 (by as_aux_lemma => kernel_rfl) (by as_aux_lemma => kernel_rfl)) (by as_aux_lemma => kernel_rfl)) (by as_aux_lemma => kernel_rfl)) (by as_aux_lemma => kernel_rfl)) (by as_aux_lemma => kernel_rfl)) (by as_aux_lemma => kernel_rfl)) (by as_aux_lemma => kernel_rfl)) (by as_aux_lemma => kernel_rfl)) (by as_aux_lemma => kernel_rfl)) (by as_aux_lemma => kernel_rfl)) (by as_aux_lemma => kernel_rfl)) (by as_aux_lemma => kernel_rfl)) (by as_aux_lemma => kernel_rfl)) (by as_aux_lemma => kernel_rfl)) (by as_aux_lemma => kernel_rfl)) (by as_aux_lemma => kernel_rfl)) (by as_aux_lemma => kernel_rfl)) (by as_aux_lemma => kernel_rfl)) (by as_aux_lemma => kernel_rfl)) (by as_aux_lemma => kernel_rfl)) (by as_aux_lemma => kernel_rfl)) (by as_aux_lemma => kernel_rfl)) (by as_aux_lemma => kernel_rfl)) (by as_aux_lemma => kernel_rfl)) jEnter) jLift) jMake) (by as_aux_lemma => kernel_rfl)) (by as_aux_lemma => kernel_rfl)) (by as_aux_lemma => kernel_rfl)) (by as_aux_lemma => kernel_rfl))

set_option maxHeartbeats 4000000 in
theorem over : Rows.fnExactSatisfiesAllRow.holds Try.pinned (OpenSpec.ofChange Rows.fnExactSatisfiesAllSpec) :=
  OpenClaim.holds_of_wide 5 Try.f5 rfl rfl rfl rfl rfl rfl rfl ⟨rfl, rfl, rfl, rfl, rfl⟩ rfl rfl rfl rfl rfl (by kernel_rfl) Try.func5 joined
    (of_decide_eq_true (by kernel_rfl)) (by unfold Func.isWrapper; first | (rw [if_pos (by decide +kernel)]; kernel_rfl) | (rw [if_neg (by decide +kernel)]; exact ⟨rfl, rfl⟩))
    (fun os started H enc _ => lifted os started H enc)

theorem proved : Rows.FnExactSatisfiesAllSaid := over

end Go.Proofs.Ytnadpcjioakoiaa.exactSatisfiesAll
