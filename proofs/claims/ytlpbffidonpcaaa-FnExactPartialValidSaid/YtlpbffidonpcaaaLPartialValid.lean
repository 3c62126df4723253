/- laws.FnExactPartialValid: for every list of integers, the program's PartialValid answers as the reference's and leaves its argument alone. No condition. -/
import Derived.Test.YtlpbffidonpcaaaPV
import Derived.Test.YtlpbffidonpcaaaOpen
import Derived.Deep.RegionHeld3
import Derived.Deep.RegionWith
namespace Go.Proofs.Ytlpbffidonpcaaa.exactPartialValid
open Go.ChangeShapes Go.WideShapes Go.ChangeAt Go.RowKit
set_option linter.unusedVariables false

set_option maxRecDepth 100000 in
set_option maxHeartbeats 4000000 in
theorem walk (Ax0 : Option Addr) (nx0 capx0 : Nat) (zs0 : List Int) (w : World) (hnx0 : nx0 ≤ maxLen) (sx0 : Seg w 1 Ax0 nx0 (encI zs0)) :
    Calls Try.prog 4 #[.slice Ax0 nx0 capx0] w fun e w' => e = .returned (.bool true) ∧ Ext w w' := by
  have HL0 := Lib.hid sx0.lenI
  by_cases hb0 : 1048576 < nx0
  · clear sx0
    go_enter Try.func4, Try.ntmps4
    go_wp2
    go_ret
    exact ⟨rfl, by repeat (first | exact Ext.refl _ | refine Ext.alloc ?_ _)⟩
  have ms0 : nx0 ≤ 1048576 := by omega
  go_enter Try.func4, Try.ntmps4
  go_wp2_with fail
  refine (toIntS_any Ax0 nx0 capx0 zs0 _ ms0 sx0).mono ?_
  rintro e w1 ⟨A1, n1, cap1, rfl, hl1, hG1, hE1⟩
  have hC1 : Ext w w1 := hE1
  have hs1 : n1 ≤ 1048576 := (by rw [← hl1, HL0.out]; exact ms0)
  have hn1 : n1 ≤ maxLen := (Nat.le_trans hs1 (by unfold maxLen; omega))
  go_wp2_with fail
  refine (specPV_any A1 n1 cap1 zs0 _ hn1 hG1.seg).mono ?_
  rintro e w2 ⟨rfl, hE2⟩
  have hC2 : Ext w1 w2 := hE2
  go_wp2_with fail
  refine (toIntS_any Ax0 nx0 capx0 zs0 _ ms0 (sx0.ext (hC1.trans hC2))).mono ?_
  rintro e w3 ⟨A3, n3, cap3, rfl, hl3, hG3, hE3⟩
  have hC3 : Ext w2 w3 := hE3
  have hs3 : n3 ≤ 1048576 := (by rw [← hl3, HL0.out]; exact ms0)
  have hn3 : n3 ≤ maxLen := (Nat.le_trans hs3 (by unfold maxLen; omega))
  go_wp2_with fail
  refine (implPV_any A3 n3 cap3 zs0 _ hn3 hG3.seg).mono ?_
  rintro e w4 ⟨rfl, hE4⟩
  have hC4 : Ext w3 w4 := hE4
  go_wp2_with fail
  refine (toIntS_any Ax0 nx0 capx0 zs0 _ ms0 (sx0.ext (((hC1.trans hC2).trans hC3).trans hC4))).mono ?_
  rintro e w5 ⟨A5, n5, cap5, rfl, hl5, hG5, hE5⟩
  have hC5 : Ext w4 w5 := hE5
  have hs5 : n5 ≤ 1048576 := (by rw [← hl5, HL0.out]; exact ms0)
  have hn5 : n5 ≤ maxLen := (Nat.le_trans hs5 (by unfold maxLen; omega))
  go_wp2_with fail
  have hq6 : iEq zs0 zs0 = true := iEq_self _
  refine (eqIntS_any A3 n3 cap3 zs0 A5 n5 cap5 zs0 _ hn3 (hG3.seg.ext (hC4.trans hC5)) hn5 hG5.seg).mono ?_
  rintro e w6 ⟨rfl, hE6⟩
  have hC6 : Ext w5 w6 := hE6
  go_wp2
  go_ret
  exact ⟨rfl, (((((hC1.trans hC2).trans hC3).trans hC4).trans hC5).trans hC6)⟩


theorem own : ownKnob Try.prog.godebug = none := by kernel_rfl
theorem laidOut : laidOutB Try.prog = true := by kernel_rfl

set_option maxRecDepth 100000 in
theorem lifted (os : Os) (started : os.Started) (H : Type) (enc : TypeId × Value → H) :
    ReturnsInHanded {} Try.checked os 4 .any (Rows.fnExactPartialValidSpec.pre6 enc Try.prog Try.f4 Rows.fnExactPartialValidRow.domain false) (Rows.fnExactPartialValidSpec.post enc Try.prog Try.f4 false true false false) := by
  refine returnsInHanded_of_change (C := Try.checked) own started (by kernel_rfl) Try.func4
    (ChangeSpec.witness6 (enc := enc) (C := Try.checked) false ⟨#[], #[.slice none 0 0], []⟩ 8 (by kernel_rfl) (by kernel_rfl) (by kernel_rfl) (by kernel_rfl)) ?_
  intro W base args ds gs before hval0 hW hcnd _
  have hval : ∀ (j : Nat) t v, Try.f4.params[j]? = some t → args[j]? = some v → Value.okWide Try.prog W .any base t v := hval0
  have hW' := hW
  obtain ⟨p, q, hA0, hV, rfl, hfz, hnd⟩ := hW
  have hA : DataW.TrodAll enc Try.prog W 0 (fun _ => true) true Try.f4.params.toList args.toList ds p := hA0
  rw [Try.params4] at hA hval
  obtain ⟨v0, vs0, d0, ds0, p0, q0, hargs, rfl, rfl, h0, r0⟩ := trodAll_cons hA
  obtain ⟨rfl, rfl, rfl⟩ := trodAll_nil r0
  obtain rfl : args = #[v0] := by cases args; simp_all
  obtain ⟨rfl, rfl⟩ := trodVars_none hV
  have k0 := h0
  have lt0 : ∀ x ∈ p0, x.block < W.heap.size := by obtain ⟨m, hm⟩ := k0; exact DataW.trod_lt m _ _ _ hm
  obtain ⟨A0, n0, cap0, zs0, rfl, hn0, hs0⟩ := arg_ints (hval 0 23 v0 rfl rfl) h0
  clear hA0 hval0
  refine (walk A0 n0 cap0 zs0 W hn0 hs0).mono fun e W' ⟨he, ext⟩ => ?_
  subst he
  have bel := ext.below
  exact ⟨_, rfl, _, _, _, [], _, [], hW', trodAll_mk1 (shut_bool Try.underlying4 _), (trodAll_cons_mk (Below.trod laidOut (by kernel_rfl) (of_decide_eq_true (by kernel_rfl)) k0 bel lt0) trodAll_mk0), rfl, bel.frame _, fun h => by cases h⟩

theorem over : Rows.fnExactPartialValidRow.holds Try.pinned (OpenSpec.ofChange Rows.fnExactPartialValidSpec) :=
  OpenClaim.holds_of_wide 4 Try.f4 rfl rfl rfl rfl rfl rfl rfl ⟨rfl, rfl, rfl, rfl, rfl⟩ rfl rfl rfl rfl rfl (by kernel_rfl) Try.func4 (by kernel_rfl)
    (of_decide_eq_true (by kernel_rfl)) (by unfold Func.isWrapper; first | (rw [if_pos (by decide +kernel)]; kernel_rfl) | (rw [if_neg (by decide +kernel)]; exact ⟨rfl, rfl⟩))
    (fun os started H enc _ => lifted os started H enc)

theorem proved : Rows.FnExactPartialValidSaid := over

end Go.Proofs.Ytlpbffidonpcaaa.exactPartialValid
