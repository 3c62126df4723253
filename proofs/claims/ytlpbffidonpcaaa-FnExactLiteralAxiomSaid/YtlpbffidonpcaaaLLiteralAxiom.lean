/- laws.FnExactLiteralAxiom: for every integer, the program's LiteralAxiom returns what the reference's returns, in memory of its own. No condition. -/
import Derived.Test.YtlpbffidonpcaaaLA
import Derived.Test.YtlpbffidonpcaaaEqT
import Derived.Test.YtlpbffidonpcaaaOpen
import Derived.Deep.RegionHeld3
import Derived.Deep.RegionWith
namespace Go.Proofs.Ytlpbffidonpcaaa.exactLiteralAxiom
open Go.ChangeShapes Go.WideShapes Go.ChangeAt Go.RowKit
set_option linter.unusedVariables false

set_option maxRecDepth 100000 in
set_option maxHeartbeats 4000000 in
theorem walk (z0 : Int) (w : World) (lo0 : -9223372036854775808 ≤ z0) (hi0 : z0 ≤ 9223372036854775807) :
    Calls Try.prog 5 #[.int .i64 z0] w fun e w' => e = .returned (.bool true) ∧ Ext w w' := by
  go_enter Try.func5, Try.ntmps5
  go_wp2_with fail
  refine (specLA_any z0 _ ).mono ?_
  rintro e w1 ⟨A1, n1, cap1, rfl, hl1, hG1, hE1⟩
  have hC1 : Ext w w1 := hE1
  have z1 := hC1.size
  have hL1 := hG1.lies.wide (lo' := w.heap.size) (by simp) (Nat.le_refl _)
  have hs1 : n1 ≤ 1048576 := (by rw [← hl1]; exact laT_len z0)
  have hn1 : n1 ≤ maxLen := (Nat.le_trans hs1 (by unfold maxLen; omega))
  go_wp2_with fail
  refine (implLA_any z0 _ ).mono ?_
  rintro e w2 ⟨A2, n2, cap2, rfl, hl2, hG2, hE2⟩
  have hC2 : Ext w1 w2 := ((Ext.refl _).alloc _).trans hE2
  have z2 := hC2.size
  have B_x0 := Blk.of1 hE2
  have zb_x0 := B_x0.lt
  have hL2 := hG2.lies.wide (lo' := w1.heap.size + 1) (by simp) (Nat.le_refl _)
  have hs2 : n2 ≤ 1048576 := (by rw [← hl2]; exact laT_len z0)
  have hn2 : n2 ≤ maxLen := (Nat.le_trans hs2 (by unfold maxLen; omega))
  have L_x0 := B_x0
  have c_x0_0 := L_x0.cell 0
  have c_x0_1 := L_x0.cell 1
  have l_x0 := L_x0.lt
  clear L_x0
  go_wp2_with fail
  have hq3 : cEq (laT z0) (laT z0) 0 0 = true := cEq_self _ _
  refine (eqConstraint_any A2 A1 n2 n1 cap2 cap1 (laT z0) (laT z0) 0 0 _ hn2 hn1 (hG2.seg.ext ((Ext.refl _).alloc _)) ((hG1.seg.ext hC2).ext ((Ext.refl _).alloc _))).mono ?_
  rintro e w3 ⟨rfl, hE3⟩
  have hC3 : Ext w2 w3 := ((Ext.refl _).alloc _).trans hE3
  have z3 := hC3.size
  have B_x1 := Blk.of1 hE3
  have zb_x1 := B_x1.lt
  clear c_x0_0 c_x0_1 l_x0
  have L_x1 := B_x1
  have c_x1_0 := L_x1.cell 0
  have c_x1_1 := L_x1.cell 1
  clear L_x1
  go_wp2_with fail
  refine (markConstraint_any A2 n2 cap2 (laT z0) 0 1 _ (w1.heap.size + 1) w2.heap.size hs2 (by omega) (by omega) (hG2.seg.ext hC3) (Free.ext hG2.free hG2.seg hC3) hL2).mono ?_
  rintro e w4 ⟨rfl, hS4, hF4, hE4⟩
  have hC4 : Kept (w1.heap.size + 1) w2.heap.size w3 w4 := hE4
  have z4 := hC4.size
  clear c_x1_0 c_x1_1
  have hp4 : ¬ (1 + 2 * (n2 : Int) < 0) := (by omega)
  have L_x1 := (B_x1.kept hC4 (by omega))
  have c_x1_0 := L_x1.cell 0
  have c_x1_1 := L_x1.cell 1
  clear L_x1
  go_wp2_with fail
  refine (heldConstraint_any A2 n2 cap2 0 1 _ hs2 (by omega) (by omega) hS4).mono ?_
  rintro e w5 ⟨rfl, hE5⟩
  have hC5 : Ext w4 w5 := hE5
  have z5 := hC5.size
  clear c_x1_0 c_x1_1
  go_wp2_with fail
  refine (implLA_any z0 _ ).mono ?_
  rintro e w6 ⟨A6, n6, cap6, rfl, hl6, hG6, hE6⟩
  have hC6 : Ext w5 w6 := hE6
  have z6 := hC6.size
  have hL6 := hG6.lies.wide (lo' := w5.heap.size) (by simp) (Nat.le_refl _)
  have hs6 : n6 ≤ 1048576 := (by rw [← hl6]; exact laT_len z0)
  have hn6 : n6 ≤ maxLen := (Nat.le_trans hs6 (by unfold maxLen; omega))
  have L_x0 := (((B_x0.ext hC3).kept hC4 (by omega)).ext (hC5.trans hC6))
  have c_x0_0 := L_x0.cell 0
  have c_x0_1 := L_x0.cell 1
  have l_x0 := L_x0.lt
  clear L_x0
  go_wp2_with fail
  have hq7 : cEq (laT z0) (laT z0) 0 0 = true := cEq_self _ _
  refine (eqConstraint_any A6 A1 n6 n1 cap6 cap1 (laT z0) (laT z0) 0 0 _ hn6 hn1 (hG6.seg.ext ((Ext.refl _).alloc _)) ((((hG1.seg.ext (hC2.trans hC3)).kept hL1 hC4 (by omega)).ext (hC5.trans hC6)).ext ((Ext.refl _).alloc _))).mono ?_
  rintro e w7 ⟨rfl, hE7⟩
  have hC7 : Ext w6 w7 := ((Ext.refl _).alloc _).trans hE7
  have z7 := hC7.size
  have B_x2 := Blk.of1 hE7
  have zb_x2 := B_x2.lt
  clear c_x0_0 c_x0_1 l_x0
  have L_x1 := ((B_x1.kept hC4 (by omega)).ext ((hC5.trans hC6).trans hC7))
  have c_x1_0 := L_x1.cell 0
  have c_x1_1 := L_x1.cell 1
  clear L_x1
  go_wp2_with fail
  refine (heldConstraint_any A2 n2 cap2 0 1 _ hs2 (by omega) (by omega) (hS4.ext ((hC5.trans hC6).trans hC7))).mono ?_
  rintro e w8 ⟨rfl, hE8⟩
  have hC8 : Ext w7 w8 := hE8
  have z8 := hC8.size
  clear c_x1_0 c_x1_1
  go_wp2
  go_ret
  exact ⟨rfl, (((((Ext.fresh ((hC1.trans hC2).trans hC3) hC4 (by omega)).trans hC5).trans hC6).trans hC7).trans hC8)⟩


theorem own : ownKnob Try.prog.godebug = none := by kernel_rfl
theorem laidOut : laidOutB Try.prog = true := by kernel_rfl

set_option maxRecDepth 100000 in
theorem lifted (os : Os) (started : os.Started) (H : Type) (enc : TypeId × Value → H) :
    ReturnsInHanded {} Try.checked os 5 .any (Rows.fnExactLiteralAxiomSpec.pre6 enc Try.prog Try.f5 Rows.fnExactLiteralAxiomRow.domain false) (Rows.fnExactLiteralAxiomSpec.post enc Try.prog Try.f5 false true false false) := by
  refine returnsInHanded_of_change (C := Try.checked) own started (by kernel_rfl) Try.func5
    (ChangeSpec.witness6 (enc := enc) (C := Try.checked) false ⟨#[], #[.int .i64 0], []⟩ 8 (by kernel_rfl) (by kernel_rfl) (by kernel_rfl) (by kernel_rfl)) ?_
  intro W base args ds gs before hval0 hW hcnd _
  have hval : ∀ (j : Nat) t v, Try.f5.params[j]? = some t → args[j]? = some v → Value.okWide Try.prog W .any base t v := hval0
  have hW' := hW
  obtain ⟨p, q, hA0, hV, rfl, hfz, hnd⟩ := hW
  have hA : DataW.TrodAll enc Try.prog W 0 (fun _ => true) true Try.f5.params.toList args.toList ds p := hA0
  rw [Try.params5] at hA hval
  obtain ⟨v0, vs0, d0, ds0, p0, q0, hargs, rfl, rfl, h0, r0⟩ := trodAll_cons hA
  obtain ⟨rfl, rfl, rfl⟩ := trodAll_nil r0
  obtain rfl : args = #[v0] := by cases args; simp_all
  obtain ⟨rfl, rfl⟩ := trodVars_none hV
  have k0 := h0
  have lt0 : ∀ x ∈ p0, x.block < W.heap.size := by obtain ⟨m, hm⟩ := k0; exact DataW.trod_lt m _ _ _ hm
  obtain ⟨z0, rfl, lo0, hi0⟩ := arg_int (hval 0 3 v0 rfl rfl) h0
  clear hA0 hval0
  refine (walk z0 W lo0 hi0).mono fun e W' ⟨he, ext⟩ => ?_
  subst he
  have bel := ext.below
  exact ⟨_, rfl, _, _, _, [], _, [], hW', trodAll_mk1 (shut_bool Try.underlying4 _), (trodAll_cons_mk (Below.trod laidOut (by kernel_rfl) (of_decide_eq_true (by kernel_rfl)) k0 bel lt0) trodAll_mk0), rfl, bel.frame _, fun h => by cases h⟩

theorem over : Rows.fnExactLiteralAxiomRow.holds Try.pinned (OpenSpec.ofChange Rows.fnExactLiteralAxiomSpec) :=
  OpenClaim.holds_of_wide 5 Try.f5 rfl rfl rfl rfl rfl rfl rfl ⟨rfl, rfl, rfl, rfl, rfl⟩ rfl rfl rfl rfl rfl (by kernel_rfl) Try.func5 (by kernel_rfl)
    (of_decide_eq_true (by kernel_rfl)) (by unfold Func.isWrapper; first | (rw [if_pos (by decide +kernel)]; kernel_rfl) | (rw [if_neg (by decide +kernel)]; exact ⟨rfl, rfl⟩))
    (fun os started H enc _ => lifted os started H enc)

theorem proved : Rows.FnExactLiteralAxiomSaid := over

end Go.Proofs.Ytlpbffidonpcaaa.exactLiteralAxiom
