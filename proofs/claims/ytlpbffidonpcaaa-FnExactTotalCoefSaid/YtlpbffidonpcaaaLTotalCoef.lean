/- laws.FnExactTotalCoef: for every constraint, the program's TotalCoef returns what the reference's returns and leaves its argument alone. No condition. -/
import Derived.Test.YtlpbffidonpcaaaTotF
import Derived.Test.YtlpbffidonpcaaaSzT
import Derived.Test.YtlpbffidonpcaaaToT
import Derived.Test.YtlpbffidonpcaaaEqT
import Derived.Test.YtlpbffidonpcaaaOpen
import Derived.Deep.RegionHeld3
import Derived.Deep.RegionWith
namespace Go.Proofs.Ytlpbffidonpcaaa.exactTotalCoef
open Go.ChangeShapes Go.WideShapes Go.ChangeAt Go.RowKit
set_option linter.unusedVariables false

set_option maxRecDepth 100000 in
set_option maxHeartbeats 4000000 in
theorem walk (Ax0 : Option Addr) (nx0 capx0 : Nat) (zs0 : List Tm) (bd0 : Int) (w : World) (hnx0 : nx0 ≤ maxLen) (sx0 : Seg w 2 Ax0 nx0 (encT zs0)) :
    Calls Try.prog 14 #[.agg #[.slice Ax0 nx0 capx0, .int .i64 bd0]] w fun e w' => e = .returned (.bool true) ∧ Ext w w' := by
  have HL0 := Lib.hid sx0.lenT
  have up0 := szB_le nx0 1048576 (by omega)
  have lw0 := szB_ge nx0 1048576 (by omega)
  by_cases hb0 : szB nx0 1048576 < 0
  · go_enter Try.func14, Try.ntmps14
    go_wp2_with fail
    refine (szConstraint_any Ax0 nx0 capx0 bd0 _ _ hnx0 (by omega) (by omega)).mono ?_
    rintro e w1 ⟨rfl, hE1⟩
    have hC1 : Ext w w1 := ((Ext.refl _).alloc _).trans hE1
    have B_x0 := Blk.of1 hE1
    go_wp2
    go_ret
    exact ⟨rfl, hC1⟩
  have nb0 : 0 ≤ szB nx0 1048576 := by omega
  have ms0 : nx0 ≤ 1048576 := szB_small nx0 1048576 (by omega) hb0
  clear hb0
  go_enter Try.func14, Try.ntmps14
  go_wp2_with fail
  refine (szConstraint_any Ax0 nx0 capx0 bd0 _ _ hnx0 (by omega) (by omega)).mono ?_
  rintro e w1 ⟨rfl, hE1⟩
  have hC1 : Ext w w1 := ((Ext.refl _).alloc _).trans hE1
  have B_x0 := Blk.of1 hE1
  have L_x0 := B_x0
  have c_x0_0 := L_x0.cell 0
  have c_x0_1 := L_x0.cell 1
  clear L_x0
  go_wp2_with fail
  refine (toConstraint_any Ax0 nx0 capx0 zs0 bd0 _ ms0 (sx0.ext hC1)).mono ?_
  rintro e w2 ⟨A2, n2, cap2, rfl, hl2, hG2, hE2⟩
  have hC2 : Ext w1 w2 := hE2
  clear c_x0_0 c_x0_1
  have hs2 : n2 ≤ 1048576 := (by rw [← hl2, HL0.out]; exact ms0)
  have hn2 : n2 ≤ maxLen := (Nat.le_trans hs2 (by unfold maxLen; omega))
  go_wp2_with fail
  refine (specTC_any A2 n2 cap2 zs0 bd0 _ hn2 hG2.seg).mono ?_
  rintro e w3 ⟨rfl, hE3⟩
  have hC3 : Ext w2 w3 := hE3
  have L_x0 := (B_x0.ext (hC2.trans hC3))
  have c_x0_0 := L_x0.cell 0
  have c_x0_1 := L_x0.cell 1
  clear L_x0
  go_wp2_with fail
  refine (toConstraint_any Ax0 nx0 capx0 zs0 bd0 _ ms0 (sx0.ext ((hC1.trans hC2).trans hC3))).mono ?_
  rintro e w4 ⟨A4, n4, cap4, rfl, hl4, hG4, hE4⟩
  have hC4 : Ext w3 w4 := hE4
  clear c_x0_0 c_x0_1
  have hs4 : n4 ≤ 1048576 := (by rw [← hl4, HL0.out]; exact ms0)
  have hn4 : n4 ≤ maxLen := (Nat.le_trans hs4 (by unfold maxLen; omega))
  go_wp2_with fail
  refine (implTC_any A4 n4 cap4 zs0 bd0 _ hn4 (hG4.seg.ext ((Ext.refl _).alloc _))).mono ?_
  rintro e w5 ⟨rfl, hE5⟩
  have hC5 : Ext w4 w5 := ((Ext.refl _).alloc _).trans hE5
  have B_x1 := Blk.of1 hE5
  have L_x1 := B_x1
  have L_x0 := (B_x0.ext (((hC2.trans hC3).trans hC4).trans hC5))
  have KS : Hid (∀ w', Ext w5 w' → (w'.cell? ⟨w4.heap.size, 0, none⟩ = some (.slice A4 n4 cap4) ∧ w'.cell? ⟨w4.heap.size, 1, none⟩ = some (.int .i64 bd0) ∧ w'.cell? ⟨w.heap.size, 0, none⟩ = some (.slice Ax0 nx0 capx0) ∧ w'.cell? ⟨w.heap.size, 1, none⟩ = some (.int .i64 bd0))) := fun w' e => ⟨e.cell (L_x1.cell 0), e.cell (L_x1.cell 1), e.cell (L_x0.cell 0), e.cell (L_x0.cell 1)⟩
  have e1 : Ext w5 w5.drew := (Ext.refl _).drew
  clear L_x1 L_x0
  have hq7 : cEq zs0 zs0 bd0 bd0 = true := cEq_self _ _
  go_wp2_with fail
  go_region_held3 (fun w' => w'.cell? ⟨w4.heap.size, 0, none⟩ = some (.slice A4 n4 cap4) ∧ w'.cell? ⟨w4.heap.size, 1, none⟩ = some (.int .i64 bd0) ∧ w'.cell? ⟨w.heap.size, 0, none⟩ = some (.slice Ax0 nx0 capx0) ∧ w'.cell? ⟨w.heap.size, 1, none⟩ = some (.int .i64 bd0))
    ((refine KS.out _ ?_; first | exact e1 | exact (e1.trans hE6) | exact ((e1.trans hE6).trans hE7)))
    ((first | (go_at_call_of 30 (Ax0); refine (toConstraint_any Ax0 nx0 capx0 zs0 bd0 _ ms0 ((sx0.ext ((((hC1.trans hC2).trans hC3).trans hC4).trans hC5)).ext e1)).mono ?_; rintro e w6 ⟨A6, n6, cap6, rfl, hl6, hG6, hE6⟩; have hs6 : n6 ≤ 1048576 := (by rw [← hl6, HL0.out]; exact ms0); have hn6 : n6 ≤ maxLen := (Nat.le_trans hs6 (by unfold maxLen; omega))) | (go_at_call_of 21 (A4); refine (eqConstraint_any A4 A6 n4 n6 cap4 cap6 zs0 zs0 bd0 bd0 _ hn4 hn6 ((hG4.seg.ext hC5).ext (e1.trans hE6)) hG6.seg).mono ?_; rintro e w7 ⟨rfl, hE7⟩)))
  have hC6 : Ext w5 w6 := e1.trans hE6
  have hC7 : Ext w6 w7 := hE7
  clear KS e1
  go_wp2
  go_ret
  exact ⟨rfl, ((((((hC1.trans hC2).trans hC3).trans hC4).trans hC5).trans hC6).trans hC7)⟩


theorem own : ownKnob Try.prog.godebug = none := by kernel_rfl
theorem laidOut : laidOutB Try.prog = true := by kernel_rfl

set_option maxRecDepth 100000 in
theorem lifted (os : Os) (started : os.Started) (H : Type) (enc : TypeId × Value → H) :
    ReturnsInHanded {} Try.checked os 14 .any (Rows.fnExactTotalCoefSpec.pre6 enc Try.prog Try.f14 Rows.fnExactTotalCoefRow.domain false) (Rows.fnExactTotalCoefSpec.post enc Try.prog Try.f14 false true false false) := by
  refine returnsInHanded_of_change (C := Try.checked) own started (by kernel_rfl) Try.func14
    (ChangeSpec.witness6 (enc := enc) (C := Try.checked) false ⟨#[], #[.agg #[.slice none 0 0, .int .i64 0]], []⟩ 8 (by kernel_rfl) (by kernel_rfl) (by kernel_rfl) (by kernel_rfl)) ?_
  intro W base args ds gs before hval0 hW hcnd _
  have hval : ∀ (j : Nat) t v, Try.f14.params[j]? = some t → args[j]? = some v → Value.okWide Try.prog W .any base t v := hval0
  have hW' := hW
  obtain ⟨p, q, hA0, hV, rfl, hfz, hnd⟩ := hW
  have hA : DataW.TrodAll enc Try.prog W 0 (fun _ => true) true Try.f14.params.toList args.toList ds p := hA0
  rw [Try.params14] at hA hval
  obtain ⟨v0, vs0, d0, ds0, p0, q0, hargs, rfl, rfl, h0, r0⟩ := trodAll_cons hA
  obtain ⟨rfl, rfl, rfl⟩ := trodAll_nil r0
  obtain rfl : args = #[v0] := by cases args; simp_all
  obtain ⟨rfl, rfl⟩ := trodVars_none hV
  have k0 := h0
  have lt0 : ∀ x ∈ p0, x.block < W.heap.size := by obtain ⟨m, hm⟩ := k0; exact DataW.trod_lt m _ _ _ hm
  obtain ⟨A0, n0, cap0, zs0, bd0, rfl, hn0, hs0⟩ := arg_constr (hval 0 41 v0 rfl rfl) h0
  clear hA0 hval0
  refine (walk A0 n0 cap0 zs0 bd0 W hn0 hs0).mono fun e W' ⟨he, ext⟩ => ?_
  subst he
  have bel := ext.below
  exact ⟨_, rfl, _, _, _, [], _, [], hW', trodAll_mk1 (shut_bool Try.underlying4 _), (trodAll_cons_mk (Below.trod laidOut (by kernel_rfl) (of_decide_eq_true (by kernel_rfl)) k0 bel lt0) trodAll_mk0), rfl, bel.frame _, fun h => by cases h⟩

theorem over : Rows.fnExactTotalCoefRow.holds Try.pinned (OpenSpec.ofChange Rows.fnExactTotalCoefSpec) :=
  OpenClaim.holds_of_wide 14 Try.f14 rfl rfl rfl rfl rfl rfl rfl ⟨rfl, rfl, rfl, rfl, rfl⟩ rfl rfl rfl rfl rfl (by kernel_rfl) Try.func14 (by kernel_rfl)
    (of_decide_eq_true (by kernel_rfl)) (by unfold Func.isWrapper; first | (rw [if_pos (by decide +kernel)]; kernel_rfl) | (rw [if_neg (by decide +kernel)]; exact ⟨rfl, rfl⟩))
    (fun os started H enc _ => lifted os started H enc)

theorem proved : Rows.FnExactTotalCoefSaid := over

end Go.Proofs.Ytlpbffidonpcaaa.exactTotalCoef
