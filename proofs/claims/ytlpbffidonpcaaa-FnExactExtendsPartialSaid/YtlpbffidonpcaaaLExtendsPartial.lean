/- laws.FnExactExtendsPartial: for all lists, the program's ExtendsPartial answers as the reference's and leaves its arguments alone. No condition. -/
import Derived.Test.YtlpbffidonpcaaaEP
import Derived.Test.YtlpbffidonpcaaaOpen
import Derived.Deep.RegionHeld3
import Derived.Deep.RegionWith
namespace Go.Proofs.Ytlpbffidonpcaaa.exactExtendsPartial
open Go.ChangeShapes Go.WideShapes Go.ChangeAt Go.RowKit
set_option linter.unusedVariables false

set_option maxRecDepth 100000 in
set_option maxHeartbeats 4000000 in
theorem walk (Ax0 : Option Addr) (nx0 capx0 : Nat) (zs0 : List Int) (Ax1 : Option Addr) (nx1 capx1 : Nat) (zs1 : List Bool) (w : World) (hnx0 : nx0 ≤ maxLen) (sx0 : Seg w 1 Ax0 nx0 (encI zs0)) (hnx1 : nx1 ≤ maxLen) (sx1 : Seg w 1 Ax1 nx1 (encB zs1)) :
    Calls Try.prog 6 #[.slice Ax0 nx0 capx0, .slice Ax1 nx1 capx1] w fun e w' => e = .returned (.bool true) ∧ Ext w w' := by
  have HL0 := Lib.hid sx0.lenI
  have HL1 := Lib.hid sx1.lenB
  by_cases hb0 : 1048576 < nx0
  · clear sx0 sx1
    go_enter Try.func6, Try.ntmps6
    go_wp2
    go_ret
    exact ⟨rfl, by repeat (first | exact Ext.refl _ | refine Ext.alloc ?_ _)⟩
  have ms0 : nx0 ≤ 1048576 := by omega
  by_cases hb1 : 1048576 < nx1
  · clear sx0 sx1
    go_enter Try.func6, Try.ntmps6
    go_wp2
    go_ret
    exact ⟨rfl, by repeat (first | exact Ext.refl _ | refine Ext.alloc ?_ _)⟩
  have ms1 : nx1 ≤ 1048576 := by omega
  go_enter Try.func6, Try.ntmps6
  go_wp2_with fail
  refine (toIntS_any Ax0 nx0 capx0 zs0 _ ms0 sx0).mono ?_
  rintro e w1 ⟨A1, n1, cap1, rfl, hl1, hG1, hE1⟩
  have hC1 : Ext w w1 := hE1
  have hs1 : n1 ≤ 1048576 := (by rw [← hl1, HL0.out]; exact ms0)
  have hn1 : n1 ≤ maxLen := (Nat.le_trans hs1 (by unfold maxLen; omega))
  go_wp2_with fail
  refine (toBoolS_any Ax1 nx1 capx1 zs1 _ ms1 (sx1.ext hC1)).mono ?_
  rintro e w2 ⟨A2, n2, cap2, rfl, hl2, hG2, hE2⟩
  have hC2 : Ext w1 w2 := hE2
  have hs2 : n2 ≤ 1048576 := (by rw [← hl2, HL1.out]; exact ms1)
  have hn2 : n2 ≤ maxLen := (Nat.le_trans hs2 (by unfold maxLen; omega))
  go_wp2_with fail
  refine (specEP_any A1 n1 cap1 zs0 A2 n2 cap2 zs1 _ hn1 (hG1.seg.ext hC2) hn2 hG2.seg).mono ?_
  rintro e w3 ⟨rfl, hE3⟩
  have hC3 : Ext w2 w3 := hE3
  go_wp2_with fail
  refine (toIntS_any Ax0 nx0 capx0 zs0 _ ms0 (sx0.ext ((hC1.trans hC2).trans hC3))).mono ?_
  rintro e w4 ⟨A4, n4, cap4, rfl, hl4, hG4, hE4⟩
  have hC4 : Ext w3 w4 := hE4
  have hs4 : n4 ≤ 1048576 := (by rw [← hl4, HL0.out]; exact ms0)
  have hn4 : n4 ≤ maxLen := (Nat.le_trans hs4 (by unfold maxLen; omega))
  go_wp2_with fail
  refine (toBoolS_any Ax1 nx1 capx1 zs1 _ ms1 (sx1.ext (((hC1.trans hC2).trans hC3).trans hC4))).mono ?_
  rintro e w5 ⟨A5, n5, cap5, rfl, hl5, hG5, hE5⟩
  have hC5 : Ext w4 w5 := hE5
  have hs5 : n5 ≤ 1048576 := (by rw [← hl5, HL1.out]; exact ms1)
  have hn5 : n5 ≤ maxLen := (Nat.le_trans hs5 (by unfold maxLen; omega))
  go_wp2_with fail
  refine (implEP_any A4 n4 cap4 zs0 A5 n5 cap5 zs1 _ hn4 (hG4.seg.ext hC5) hn5 hG5.seg).mono ?_
  rintro e w6 ⟨rfl, hE6⟩
  have hC6 : Ext w5 w6 := hE6
  go_wp2_with fail
  refine (toIntS_any Ax0 nx0 capx0 zs0 _ ms0 (sx0.ext (((((hC1.trans hC2).trans hC3).trans hC4).trans hC5).trans hC6))).mono ?_
  rintro e w7 ⟨A7, n7, cap7, rfl, hl7, hG7, hE7⟩
  have hC7 : Ext w6 w7 := hE7
  have hs7 : n7 ≤ 1048576 := (by rw [← hl7, HL0.out]; exact ms0)
  have hn7 : n7 ≤ maxLen := (Nat.le_trans hs7 (by unfold maxLen; omega))
  go_wp2_with fail
  have hq8 : iEq zs0 zs0 = true := iEq_self _
  refine (eqIntS_any A4 n4 cap4 zs0 A7 n7 cap7 zs0 _ hn4 (hG4.seg.ext ((hC5.trans hC6).trans hC7)) hn7 hG7.seg).mono ?_
  rintro e w8 ⟨rfl, hE8⟩
  have hC8 : Ext w7 w8 := hE8
  go_wp2_with fail
  refine (toBoolS_any Ax1 nx1 capx1 zs1 _ ms1 (sx1.ext (((((((hC1.trans hC2).trans hC3).trans hC4).trans hC5).trans hC6).trans hC7).trans hC8))).mono ?_
  rintro e w9 ⟨A9, n9, cap9, rfl, hl9, hG9, hE9⟩
  have hC9 : Ext w8 w9 := hE9
  have hs9 : n9 ≤ 1048576 := (by rw [← hl9, HL1.out]; exact ms1)
  have hn9 : n9 ≤ maxLen := (Nat.le_trans hs9 (by unfold maxLen; omega))
  go_wp2_with fail
  have hq10 : bEq zs1 zs1 = true := bEq_self _
  refine (eqBoolS_any A5 n5 cap5 zs1 A9 n9 cap9 zs1 _ hn5 (hG5.seg.ext (((hC6.trans hC7).trans hC8).trans hC9)) hn9 hG9.seg).mono ?_
  rintro e w10 ⟨rfl, hE10⟩
  have hC10 : Ext w9 w10 := hE10
  go_wp2
  go_ret
  exact ⟨rfl, (((((((((hC1.trans hC2).trans hC3).trans hC4).trans hC5).trans hC6).trans hC7).trans hC8).trans hC9).trans hC10)⟩


theorem own : ownKnob Try.prog.godebug = none := by kernel_rfl
theorem laidOut : laidOutB Try.prog = true := by kernel_rfl

set_option maxRecDepth 100000 in
theorem lifted (os : Os) (started : os.Started) (H : Type) (enc : TypeId × Value → H) :
    ReturnsInHanded {} Try.checked os 6 .any (Rows.fnExactExtendsPartialSpec.pre6 enc Try.prog Try.f6 Rows.fnExactExtendsPartialRow.domain false) (Rows.fnExactExtendsPartialSpec.post enc Try.prog Try.f6 false true false false) := by
  refine returnsInHanded_of_change (C := Try.checked) own started (by kernel_rfl) Try.func6
    (ChangeSpec.witness6 (enc := enc) (C := Try.checked) false ⟨#[], #[.slice none 0 0, .slice none 0 0], []⟩ 8 (by kernel_rfl) (by kernel_rfl) (by kernel_rfl) (by kernel_rfl)) ?_
  intro W base args ds gs before hval0 hW hcnd _
  have hval : ∀ (j : Nat) t v, Try.f6.params[j]? = some t → args[j]? = some v → Value.okWide Try.prog W .any base t v := hval0
  have hW' := hW
  obtain ⟨p, q, hA0, hV, rfl, hfz, hnd⟩ := hW
  have hA : DataW.TrodAll enc Try.prog W 0 (fun _ => true) true Try.f6.params.toList args.toList ds p := hA0
  rw [Try.params6] at hA hval
  obtain ⟨v0, vs0, d0, ds0, p0, q0, hargs, rfl, rfl, h0, r0⟩ := trodAll_cons hA
  obtain ⟨v1, vs1, d1, ds1, p1, q1, rfl, rfl, rfl, h1, r1⟩ := trodAll_cons r0
  obtain ⟨rfl, rfl, rfl⟩ := trodAll_nil r1
  obtain rfl : args = #[v0, v1] := by cases args; simp_all
  obtain ⟨rfl, rfl⟩ := trodVars_none hV
  have k0 := h0
  have lt0 : ∀ x ∈ p0, x.block < W.heap.size := by obtain ⟨m, hm⟩ := k0; exact DataW.trod_lt m _ _ _ hm
  obtain ⟨A0, n0, cap0, zs0, rfl, hn0, hs0⟩ := arg_ints (hval 0 23 v0 rfl rfl) h0
  have k1 := h1
  have lt1 : ∀ x ∈ p1, x.block < W.heap.size := by obtain ⟨m, hm⟩ := k1; exact DataW.trod_lt m _ _ _ hm
  obtain ⟨A1, n1, cap1, zs1, rfl, hn1, hs1⟩ := arg_bools (hval 1 35 v1 rfl rfl) h1
  clear hA0 hval0
  refine (walk A0 n0 cap0 zs0 A1 n1 cap1 zs1 W hn0 hs0 hn1 hs1).mono fun e W' ⟨he, ext⟩ => ?_
  subst he
  have bel := ext.below
  exact ⟨_, rfl, _, _, _, [], _, [], hW', trodAll_mk1 (shut_bool Try.underlying4 _), (trodAll_cons_mk (Below.trod laidOut (by kernel_rfl) (of_decide_eq_true (by kernel_rfl)) k0 bel lt0) (trodAll_cons_mk (Below.trod laidOut (by kernel_rfl) (of_decide_eq_true (by kernel_rfl)) k1 bel lt1) trodAll_mk0)), rfl, bel.frame _, fun h => by cases h⟩

theorem over : Rows.fnExactExtendsPartialRow.holds Try.pinned (OpenSpec.ofChange Rows.fnExactExtendsPartialSpec) :=
  OpenClaim.holds_of_wide 6 Try.f6 rfl rfl rfl rfl rfl rfl rfl ⟨rfl, rfl, rfl, rfl, rfl⟩ rfl rfl rfl rfl rfl (by kernel_rfl) Try.func6 (by kernel_rfl)
    (of_decide_eq_true (by kernel_rfl)) (by unfold Func.isWrapper; first | (rw [if_pos (by decide +kernel)]; kernel_rfl) | (rw [if_neg (by decide +kernel)]; exact ⟨rfl, rfl⟩))
    (fun os started H enc _ => lifted os started H enc)

theorem proved : Rows.FnExactExtendsPartialSaid := over

end Go.Proofs.Ytlpbffidonpcaaa.exactExtendsPartial
