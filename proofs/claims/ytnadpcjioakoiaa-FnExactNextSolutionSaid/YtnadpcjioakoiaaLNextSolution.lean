/- laws.FnExactNextSolution: for every list of constraints and all values, the program's NextSolution returns what the reference's returns, in memory of its own, and leaves its arguments alone. No condition. -/
import Derived.Test.YtnadpcjioakoiaaCnt
import Derived.Test.YtnadpcjioakoiaaMarkC
import Derived.Test.YtnadpcjioakoiaaOpenC
import Derived.Test.YtnadpcjioakoiaaIntM
import Derived.Test.YtnadpcjioakoiaaIntS
import Derived.Test.YtnadpcjioakoiaaMark
import Derived.Test.YtnadpcjioakoiaaSzT
import Derived.Test.YtnadpcjioakoiaaToT
import Derived.Test.YtnadpcjioakoiaaEqT
import Derived.Test.YtnadpcjioakoiaaOpen
import Derived.Test.YtnadpcjioakoiaaFacts
import Derived.Deep.RegionHeld3
import Derived.Deep.RegionWith
namespace Go.Proofs.Ytnadpcjioakoiaa.exactNextSolution
open Go.ChangeShapes Go.WideShapes Go.ChangeAt Go.RowKit
set_option linter.unusedVariables false

set_option maxRecDepth 100000 in
set_option maxHeartbeats 4000000 in
theorem walk (Ax0 : Option Addr) (nx0 capx0 : Nat) (zs0 : List Cn) (Ax1 : Option Addr) (nx1 capx1 : Nat) (zs1 : List Bool) (w : World) (hnx0 : nx0 ≤ maxLen) (sx0 : SegC w Ax0 nx0 zs0) (hnx1 : nx1 ≤ maxLen) (sx1 : Seg w 1 Ax1 nx1 (encB zs1)) :
    Calls Try.prog 11 #[.slice Ax0 nx0 capx0, .slice Ax1 nx1 capx1] w fun e w' => e = .returned (.bool true) ∧ Ext w w' := by
  have hLx1 := sx1.old
  have HL0 := Lib.hid sx0.len
  have HL1 := Lib.hid sx1.lenB
  by_cases hb1 : 1048576 < nx1
  · clear sx0 sx1
    go_enter Try.func11, Try.ntmps11
    go_wp2
    go_ret
    exact ⟨rfl, by repeat (first | exact Ext.refl _ | refine Ext.alloc ?_ _)⟩
  have ms1 : nx1 ≤ 1048576 := by omega
  have up0 := szCs_le zs0 1048576 (by omega)
  have lw0 := szCs_ge zs0 1048576 (by omega)
  by_cases hb0 : szCs zs0 1048576 < 0
  · go_enter Try.func11, Try.ntmps11
    go_wp2_with fail
    refine (szConstraintS_any Ax0 nx0 capx0 zs0 _ _ hnx0 (by omega) (by omega) sx0).mono ?_
    rintro e w1 ⟨rfl, hE1⟩
    have hC1 : Ext w w1 := hE1
    have ze1 := hC1.size
    go_wp2
    go_ret
    exact ⟨rfl, hC1⟩
  have nb0 : 0 ≤ szCs zs0 1048576 := by omega
  have ms0 : nx0 ≤ 1048576 := by rw [← HL0.out]; exact (szCs_small zs0 1048576 (by omega) (by omega) hb0).1
  have hsm0 := Lib.hid (szCs_small zs0 1048576 (by omega) (by omega) hb0).2
  clear hb0
  go_enter Try.func11, Try.ntmps11
  go_wp2_with fail
  refine (szConstraintS_any Ax0 nx0 capx0 zs0 _ _ hnx0 (by omega) (by omega) sx0).mono ?_
  rintro e w1 ⟨rfl, hE1⟩
  have hC1 : Ext w w1 := hE1
  have ze1 := hC1.size
  go_wp2_with fail
  refine (toConstraintS_any Ax0 nx0 capx0 zs0 _ ms0 hsm0.out (sx0.ext hC1)).mono ?_
  rintro e w2 ⟨A2, n2, cap2, rfl, hl2, hG2, hE2⟩
  have hC2 : Ext w1 w2 := hE2
  have ze2 := hC2.size
  obtain ⟨hsh2, fh2, hO2, hR2⟩ := hG2.own
  have hs2 : n2 ≤ 1048576 := (by rw [← hl2, HL0.out]; exact ms0)
  have hn2 : n2 ≤ maxLen := (Nat.le_trans hs2 (by unfold maxLen; omega))
  go_wp2_with fail
  refine (toBoolS_any Ax1 nx1 capx1 zs1 _ ms1 (sx1.ext (hC1.trans hC2))).mono ?_
  rintro e w3 ⟨A3, n3, cap3, rfl, hl3, hG3, hE3⟩
  have hC3 : Ext w2 w3 := hE3
  have ze3 := hC3.size
  have hL3 := hG3.lies.wide (lo' := w2.heap.size) (by simp) (Nat.le_refl _)
  have hs3 : n3 ≤ 1048576 := (by rw [← hl3, HL1.out]; exact ms1)
  have hn3 : n3 ≤ maxLen := (Nat.le_trans hs3 (by unfold maxLen; omega))
  go_wp2_with fail
  refine (specNs_any A2 n2 cap2 zs0 A3 n3 cap3 zs1 _ hn2 (hG2.seg.ext hC3) hn3 hG3.seg).mono ?_
  rintro e w4 ⟨A4, n4, cap4, rfl, hl4, hG4, hE4⟩
  have hC4 : Ext w3 w4 := hE4
  have ze4 := hC4.size
  have hL4 := hG4.lies.wide (lo' := w3.heap.size) (by simp) (Nat.le_refl _)
  have hs4 : n4 ≤ 1048576 := (by rw [← hl4]; exact nsT_len zs0 zs1)
  have hn4 : n4 ≤ maxLen := (Nat.le_trans hs4 (by unfold maxLen; omega))
  go_wp2_with fail
  refine (toConstraintS_any Ax0 nx0 capx0 zs0 _ ms0 hsm0.out (sx0.ext (((hC1.trans hC2).trans hC3).trans hC4))).mono ?_
  rintro e w5 ⟨A5, n5, cap5, rfl, hl5, hG5, hE5⟩
  have hC5 : Ext w4 w5 := hE5
  have ze5 := hC5.size
  obtain ⟨hsh5, fh5, hO5, hR5⟩ := hG5.own
  have hs5 : n5 ≤ 1048576 := (by rw [← hl5, HL0.out]; exact ms0)
  have hn5 : n5 ≤ maxLen := (Nat.le_trans hs5 (by unfold maxLen; omega))
  go_wp2_with fail
  refine (toBoolS_any Ax1 nx1 capx1 zs1 _ ms1 (sx1.ext ((((hC1.trans hC2).trans hC3).trans hC4).trans hC5))).mono ?_
  rintro e w6 ⟨A6, n6, cap6, rfl, hl6, hG6, hE6⟩
  have hC6 : Ext w5 w6 := hE6
  have ze6 := hC6.size
  have hL6 := hG6.lies.wide (lo' := w5.heap.size) (by simp) (Nat.le_refl _)
  have hs6 : n6 ≤ 1048576 := (by rw [← hl6, HL1.out]; exact ms1)
  have hn6 : n6 ≤ maxLen := (Nat.le_trans hs6 (by unfold maxLen; omega))
  go_wp2_with fail
  refine (implNs_any A5 n5 cap5 zs0 A6 n6 cap6 zs1 _ hn5 (hG5.seg.ext hC6) hn6 hG6.seg).mono ?_
  rintro e w7 ⟨A7, n7, cap7, rfl, hl7, hG7, hE7⟩
  have hC7 : Ext w6 w7 := hE7
  have ze7 := hC7.size
  have hL7 := hG7.lies.wide (lo' := w6.heap.size) (by simp) (Nat.le_refl _)
  have hs7 : n7 ≤ 1048576 := (by rw [← hl7]; exact nsT_len zs0 zs1)
  have hn7 : n7 ≤ maxLen := (Nat.le_trans hs7 (by unfold maxLen; omega))
  go_wp2_with fail
  have hq8 : bEq (nsT zs0 zs1) (nsT zs0 zs1) = true := bEq_self _
  refine (eqBoolS_any A7 n7 cap7 (nsT zs0 zs1) A4 n4 cap4 (nsT zs0 zs1) _ hn7 hG7.seg hn4 (hG4.seg.ext ((hC5.trans hC6).trans hC7))).mono ?_
  rintro e w8 ⟨rfl, hE8⟩
  have hC8 : Ext w7 w8 := hE8
  have ze8 := hC8.size
  go_wp2_with fail
  refine (toConstraintS_any Ax0 nx0 capx0 zs0 _ ms0 hsm0.out (sx0.ext (((((((hC1.trans hC2).trans hC3).trans hC4).trans hC5).trans hC6).trans hC7).trans hC8))).mono ?_
  rintro e w9 ⟨A9, n9, cap9, rfl, hl9, hG9, hE9⟩
  have hC9 : Ext w8 w9 := hE9
  have ze9 := hC9.size
  obtain ⟨hsh9, fh9, hO9, hR9⟩ := hG9.own
  have hs9 : n9 ≤ 1048576 := (by rw [← hl9, HL0.out]; exact ms0)
  have hn9 : n9 ≤ maxLen := (Nat.le_trans hs9 (by unfold maxLen; omega))
  go_wp2_with fail
  have hq10 : csEq zs0 zs0 = true := csEq_self _
  refine (eqConstraintS_any A5 n5 cap5 zs0 A9 n9 cap9 zs0 _ hn5 (hG5.seg.ext (((hC6.trans hC7).trans hC8).trans hC9)) hn9 hG9.seg).mono ?_
  rintro e w10 ⟨rfl, hE10⟩
  have hC10 : Ext w9 w10 := hE10
  have ze10 := hC10.size
  go_wp2_with fail
  refine (toBoolS_any Ax1 nx1 capx1 zs1 _ ms1 (sx1.ext (((((((((hC1.trans hC2).trans hC3).trans hC4).trans hC5).trans hC6).trans hC7).trans hC8).trans hC9).trans hC10))).mono ?_
  rintro e w11 ⟨A11, n11, cap11, rfl, hl11, hG11, hE11⟩
  have hC11 : Ext w10 w11 := hE11
  have ze11 := hC11.size
  have hL11 := hG11.lies.wide (lo' := w10.heap.size) (by simp) (Nat.le_refl _)
  have hs11 : n11 ≤ 1048576 := (by rw [← hl11, HL1.out]; exact ms1)
  have hn11 : n11 ≤ maxLen := (Nat.le_trans hs11 (by unfold maxLen; omega))
  go_wp2_with fail
  have hq12 : bEq zs1 zs1 = true := bEq_self _
  refine (eqBoolS_any A6 n6 cap6 zs1 A11 n11 cap11 zs1 _ hn6 (hG6.seg.ext ((((hC7.trans hC8).trans hC9).trans hC10).trans hC11)) hn11 hG11.seg).mono ?_
  rintro e w12 ⟨rfl, hE12⟩
  have hC12 : Ext w11 w12 := hE12
  have ze12 := hC12.size
  go_wp2_with fail
  refine (markConstraintS_any A5 n5 cap5 hsh5 fh5 _ 1 _ w4.heap.size w5.heap.size hs5 (by omega) (by omega) (hO5.ext ((((((hC6.trans hC7).trans hC8).trans hC9).trans hC10).trans hC11).trans hC12)) (hR5.ext ((((((hC6.trans hC7).trans hC8).trans hC9).trans hC10).trans hC11).trans hC12))).mono ?_
  rintro e w13 ⟨z13, rfl, hz013, hz113, hE13⟩
  have hC13 : Kept w4.heap.size w5.heap.size w12 w13 := hE13
  have ze13 := hC13.size
  have hp13 : ¬ (z13 < 0) := (by omega)
  go_wp2_with fail
  refine (markBoolS_any A6 n6 cap6 zs1 z13 _ w5.heap.size w6.heap.size hs6 (by omega) (by omega) ((hG6.seg.ext (((((hC7.trans hC8).trans hC9).trans hC10).trans hC11).trans hC12)).kept hL6 hC13 (by omega)) (Free.kept (Free.ext (Free.ext (Free.ext (Free.ext (Free.ext (Free.ext hG6.free hG6.seg hC7) (hG6.seg.ext hC7) hC8) ((hG6.seg.ext hC7).ext hC8) hC9) (((hG6.seg.ext hC7).ext hC8).ext hC9) hC10) ((((hG6.seg.ext hC7).ext hC8).ext hC9).ext hC10) hC11) (((((hG6.seg.ext hC7).ext hC8).ext hC9).ext hC10).ext hC11) hC12) ((((((hG6.seg.ext hC7).ext hC8).ext hC9).ext hC10).ext hC11).ext hC12) hL6 hC13 (by omega)) hL6).mono ?_
  rintro e w14 ⟨rfl, hS14, hF14, hE14⟩
  have hC14 : Kept w5.heap.size w6.heap.size w13 w14 := hE14
  have ze14 := hC14.size
  have hp14 : ¬ (z13 + (n6 : Int) < 0) := (by omega)
  go_wp2_with fail
  have hq15 : bEq (nsT zs0 zs1) (nsT zs0 zs1) = true := bEq_self _
  refine (eqBoolS_any A7 n7 cap7 (nsT zs0 zs1) A4 n4 cap4 (nsT zs0 zs1) _ hn7 (((hG7.seg.ext ((((hC8.trans hC9).trans hC10).trans hC11).trans hC12)).kept hL7 hC13 (by omega)).kept hL7 hC14 (by omega)) hn4 (((hG4.seg.ext (((((((hC5.trans hC6).trans hC7).trans hC8).trans hC9).trans hC10).trans hC11).trans hC12)).kept hL4 hC13 (by omega)).kept hL4 hC14 (by omega))).mono ?_
  rintro e w15 ⟨rfl, hE15⟩
  have hC15 : Ext w14 w15 := hE15
  have ze15 := hC15.size
  go_wp2_with fail
  refine (markBoolS_any A7 n7 cap7 (nsT zs0 zs1) 1 _ w6.heap.size w7.heap.size hs7 (by omega) (by omega) ((((hG7.seg.ext ((((hC8.trans hC9).trans hC10).trans hC11).trans hC12)).kept hL7 hC13 (by omega)).kept hL7 hC14 (by omega)).ext hC15) (Free.ext (Free.kept (Free.kept (Free.ext (Free.ext (Free.ext (Free.ext (Free.ext hG7.free hG7.seg hC8) (hG7.seg.ext hC8) hC9) ((hG7.seg.ext hC8).ext hC9) hC10) (((hG7.seg.ext hC8).ext hC9).ext hC10) hC11) ((((hG7.seg.ext hC8).ext hC9).ext hC10).ext hC11) hC12) (((((hG7.seg.ext hC8).ext hC9).ext hC10).ext hC11).ext hC12) hL7 hC13 (by omega)) ((((((hG7.seg.ext hC8).ext hC9).ext hC10).ext hC11).ext hC12).kept hL7 hC13 (by omega)) hL7 hC14 (by omega)) (((((((hG7.seg.ext hC8).ext hC9).ext hC10).ext hC11).ext hC12).kept hL7 hC13 (by omega)).kept hL7 hC14 (by omega)) hC15) hL7).mono ?_
  rintro e w16 ⟨rfl, hS16, hF16, hE16⟩
  have hC16 : Kept w6.heap.size w7.heap.size w15 w16 := hE16
  have ze16 := hC16.size
  have hp16 : ¬ (1 + (n7 : Int) < 0) := (by omega)
  go_wp2_with fail
  refine (heldBoolS_any A7 n7 cap7 1 _ hs7 (by omega) (by omega) hS16).mono ?_
  rintro e w17 ⟨rfl, hE17⟩
  have hC17 : Ext w16 w17 := hE17
  have ze17 := hC17.size
  go_wp2_with fail
  refine (toConstraintS_any Ax0 nx0 capx0 zs0 _ ms0 hsm0.out (sx0.ext ((Ext.fresh ((Ext.fresh (Ext.fresh (((((((((((hC1.trans hC2).trans hC3).trans hC4).trans hC5).trans hC6).trans hC7).trans hC8).trans hC9).trans hC10).trans hC11).trans hC12) hC13 (by omega)) hC14 (by omega)).trans hC15) hC16 (by omega)).trans hC17))).mono ?_
  rintro e w18 ⟨A18, n18, cap18, rfl, hl18, hG18, hE18⟩
  have hC18 : Ext w17 w18 := hE18
  have ze18 := hC18.size
  obtain ⟨hsh18, fh18, hO18, hR18⟩ := hG18.own
  have hs18 : n18 ≤ 1048576 := (by rw [← hl18, HL0.out]; exact ms0)
  have hn18 : n18 ≤ maxLen := (Nat.le_trans hs18 (by unfold maxLen; omega))
  go_wp2_with fail
  refine (toBoolS_any Ax1 nx1 capx1 zs1 _ ms1 ((((((sx1.ext (((((((((((hC1.trans hC2).trans hC3).trans hC4).trans hC5).trans hC6).trans hC7).trans hC8).trans hC9).trans hC10).trans hC11).trans hC12)).kept hLx1 hC13 (by omega)).kept hLx1 hC14 (by omega)).ext hC15).kept hLx1 hC16 (by omega)).ext (hC17.trans hC18))).mono ?_
  rintro e w19 ⟨A19, n19, cap19, rfl, hl19, hG19, hE19⟩
  have hC19 : Ext w18 w19 := hE19
  have ze19 := hC19.size
  have hL19 := hG19.lies.wide (lo' := w18.heap.size) (by simp) (Nat.le_refl _)
  have hs19 : n19 ≤ 1048576 := (by rw [← hl19, HL1.out]; exact ms1)
  have hn19 : n19 ≤ maxLen := (Nat.le_trans hs19 (by unfold maxLen; omega))
  go_wp2_with fail
  refine (implNs_any A18 n18 cap18 zs0 A19 n19 cap19 zs1 _ hn18 (hG18.seg.ext hC19) hn19 hG19.seg).mono ?_
  rintro e w20 ⟨A20, n20, cap20, rfl, hl20, hG20, hE20⟩
  have hC20 : Ext w19 w20 := hE20
  have ze20 := hC20.size
  have hL20 := hG20.lies.wide (lo' := w19.heap.size) (by simp) (Nat.le_refl _)
  have hs20 : n20 ≤ 1048576 := (by rw [← hl20]; exact nsT_len zs0 zs1)
  have hn20 : n20 ≤ maxLen := (Nat.le_trans hs20 (by unfold maxLen; omega))
  go_wp2_with fail
  have hq21 : bEq (nsT zs0 zs1) (nsT zs0 zs1) = true := bEq_self _
  refine (eqBoolS_any A20 n20 cap20 (nsT zs0 zs1) A4 n4 cap4 (nsT zs0 zs1) _ hn20 hG20.seg hn4 ((((((hG4.seg.ext (((((((hC5.trans hC6).trans hC7).trans hC8).trans hC9).trans hC10).trans hC11).trans hC12)).kept hL4 hC13 (by omega)).kept hL4 hC14 (by omega)).ext hC15).kept hL4 hC16 (by omega)).ext (((hC17.trans hC18).trans hC19).trans hC20))).mono ?_
  rintro e w21 ⟨rfl, hE21⟩
  have hC21 : Ext w20 w21 := hE21
  have ze21 := hC21.size
  go_wp2_with fail
  refine (heldBoolS_any A7 n7 cap7 1 _ hs7 (by omega) (by omega) (hS16.ext ((((hC17.trans hC18).trans hC19).trans hC20).trans hC21))).mono ?_
  rintro e w22 ⟨rfl, hE22⟩
  have hC22 : Ext w21 w22 := hE22
  have ze22 := hC22.size
  go_wp2
  go_ret
  exact ⟨rfl, (((((((Ext.fresh ((Ext.fresh (Ext.fresh (((((((((((hC1.trans hC2).trans hC3).trans hC4).trans hC5).trans hC6).trans hC7).trans hC8).trans hC9).trans hC10).trans hC11).trans hC12) hC13 (by omega)) hC14 (by omega)).trans hC15) hC16 (by omega)).trans hC17).trans hC18).trans hC19).trans hC20).trans hC21).trans hC22)⟩


theorem own : ownKnob Try.prog.godebug = none := by kernel_rfl
theorem laidOut : laidOutB Try.prog = true := by kernel_rfl

set_option maxRecDepth 100000 in
theorem lifted (os : Os) (started : os.Started) (H : Type) (enc : TypeId × Value → H) :
    ReturnsInHanded {} Try.checked os 11 .any (Rows.fnExactNextSolutionSpec.pre6 enc Try.prog Try.f11 Rows.fnExactNextSolutionRow.domain false) (Rows.fnExactNextSolutionSpec.post enc Try.prog Try.f11 false true false false) := by
  refine returnsInHanded_of_change (C := Try.checked) own started (by kernel_rfl) Try.func11
    (ChangeSpec.witness6 (enc := enc) (C := Try.checked) false ⟨#[], #[.slice none 0 0, .slice none 0 0], []⟩ 8 (by kernel_rfl) (by kernel_rfl) (by kernel_rfl) (by kernel_rfl)) ?_
  intro W base args ds gs before hval0 hW hcnd _
  have hval : ∀ (j : Nat) t v, Try.f11.params[j]? = some t → args[j]? = some v → Value.okWide Try.prog W .any base t v := hval0
  have hW' := hW
  obtain ⟨p, q, hA0, hV, rfl, hfz, hnd⟩ := hW
  have hA : DataW.TrodAll enc Try.prog W 0 (fun _ => true) true Try.f11.params.toList args.toList ds p := hA0
  rw [Try.params11] at hA hval
  obtain ⟨v0, vs0, d0, ds0, p0, q0, hargs, rfl, rfl, h0, r0⟩ := trodAll_cons hA
  obtain ⟨v1, vs1, d1, ds1, p1, q1, rfl, rfl, rfl, h1, r1⟩ := trodAll_cons r0
  obtain ⟨rfl, rfl, rfl⟩ := trodAll_nil r1
  obtain rfl : args = #[v0, v1] := by cases args; simp_all
  obtain ⟨rfl, rfl⟩ := trodVars_none hV
  have k0 := h0
  have lt0 : ∀ x ∈ p0, x.block < W.heap.size := by obtain ⟨m, hm⟩ := k0; exact DataW.trod_lt m _ _ _ hm
  obtain ⟨A0, n0, cap0, zs0, rfl, hn0, hs0⟩ := arg_constrs (hval 0 41 v0 rfl rfl) h0
  have k1 := h1
  have lt1 : ∀ x ∈ p1, x.block < W.heap.size := by obtain ⟨m, hm⟩ := k1; exact DataW.trod_lt m _ _ _ hm
  obtain ⟨A1, n1, cap1, zs1, rfl, hn1, hs1⟩ := arg_bools (hval 1 42 v1 rfl rfl) h1
  clear hA0 hval0
  refine (walk A0 n0 cap0 zs0 A1 n1 cap1 zs1 W hn0 hs0 hn1 hs1).mono fun e W' ⟨he, ext⟩ => ?_
  subst he
  have bel := ext.below
  exact ⟨_, rfl, _, _, _, [], _, [], hW', trodAll_mk1 (shut_bool Try.underlying4 _), (trodAll_cons_mk (Below.trod laidOut (by kernel_rfl) (of_decide_eq_true (by kernel_rfl)) k0 bel lt0) (trodAll_cons_mk (Below.trod laidOut (by kernel_rfl) (of_decide_eq_true (by kernel_rfl)) k1 bel lt1) trodAll_mk0)), rfl, bel.frame _, fun h => by cases h⟩

set_option maxHeartbeats 4000000 in
theorem joined : joinedFacts Try.pinned.checked.prog 11 Try.f11 Rows.fnExactNextSolutionSpec Rows.fnExactNextSolutionRow = true := by
  unfold joinedFacts
  exact (and2 (and2 (and2 (and2 (and2 (and2 (and2 (and2 (and2 (and2 (and2 (and2 (and2 (and2 (and2 (and2 (and2 (and2 (and2 (and2 (and2 (and2 (and2 (and2 (and2 (and2 (and2 (and2 (and2 (and2 (and2 (by as_aux_lemma => kernel_rfl) (by as_aux_lemma => kernel_rfl)) (by as_aux_lemma => kernel_rfl)) (by as_aux_lemma => kernel_rfl)) (by as_aux_lemma => kernel_rfl)) (by as_aux_lemma => kernel_rfl)) (by as_aux_lemma => kernel_rfl)) (by as_aux_lemma => kernel_rfl)) (by as_aux_lemma => kernel_rfl)) (by as_aux_lemma => kernel_rfl)) (by as_aux_lemma => kernel_rfl)) (by as_aux_lemma => kernel_rfl)) (by as_aux_lemma => kernel_rfl)) (by as_aux_lemma => kernel_rfl)) (by as_aux_lemma => kernel_rfl)) (by as_aux_lemma => kernel_rfl)) (by as_aux_lemma => kernel_rfl)) (by as_aux_lemma => kernel_rfl)) (by as_aux_lemma => kernel_rfl)) (by as_aux_lemma => kernel_rfl)) (by as_aux_lemma => kernel_rfl)) (by as_aux_lemma => kernel_rfl)) (by as_aux_lemma => kernel_rfl)) (by as_aux_lemma => kernel_rfl)) (by as_aux_lemma => kernel_rfl)) jEnter) jLift) jMake) (by as_aux_lemma => kernel_rfl)) (by as_aux_lemma => kernel_rfl)) (by as_aux_lemma => kernel_rfl)) (by as_aux_lemma => kernel_rfl))

set_option maxHeartbeats 4000000 in
theorem over : Rows.fnExactNextSolutionRow.holds Try.pinned (OpenSpec.ofChange Rows.fnExactNextSolutionSpec) :=
  OpenClaim.holds_of_wide 11 Try.f11 rfl rfl rfl rfl rfl rfl rfl ⟨rfl, rfl, rfl, rfl, rfl⟩ rfl rfl rfl rfl rfl (by kernel_rfl) Try.func11 joined
    (of_decide_eq_true (by kernel_rfl)) (by unfold Func.isWrapper; first | (rw [if_pos (by decide +kernel)]; kernel_rfl) | (rw [if_neg (by decide +kernel)]; exact ⟨rfl, rfl⟩))
    (fun os started H enc _ => lifted os started H enc)

theorem proved : Rows.FnExactNextSolutionSaid := over

end Go.Proofs.Ytnadpcjioakoiaa.exactNextSolution
