/- laws.FnExactMultiplyConstraint: for every constraint and every integer, the program's MultiplyConstraint returns what the reference's returns, in memory of its own, and leaves its arguments alone. No condition. -/
import Derived.Test.YtihmkbfobihddaaMul
import Derived.Test.YtihmkbfobihddaaMark
import Derived.Test.YtihmkbfobihddaaSzT
import Derived.Test.YtihmkbfobihddaaEqT
import Derived.Test.YtihmkbfobihddaaOpen
import Derived.Deep.RegionHeld3
import Derived.Deep.RegionWith
namespace Go.Proofs.Ytihmkbfobihddaa.exactMultiplyConstraint
open Go.ChangeShapes Go.WideShapes Go.ChangeAt Go.RowKit
set_option linter.unusedVariables false

set_option maxRecDepth 100000 in
set_option maxHeartbeats 4000000 in
theorem walk (Ax0 : Option Addr) (nx0 capx0 : Nat) (zs0 : List Tm) (bd0 : Int) (z1 : Int) (w : World) (hnx0 : nx0 ≤ maxLen) (sx0 : Seg w 2 Ax0 nx0 (encT zs0)) (lo1 : -9223372036854775808 ≤ z1) (hi1 : z1 ≤ 9223372036854775807) :
    Calls Try.prog 5 #[.agg #[.slice Ax0 nx0 capx0, .int .i64 bd0], .int .i64 z1] w fun e w' => e = .returned (.bool true) ∧ Ext w w' := by
  have hLx0 := sx0.old
  have HL0 := Lib.hid sx0.lenT
  have up0 := szB_le nx0 1048576 (by omega)
  have lw0 := szB_ge nx0 1048576 (by omega)
  by_cases hb0 : szB nx0 1048576 < 0
  · go_enter Try.func5, Try.ntmps5
    go_wp2_with fail
    refine (szConstraint_any Ax0 nx0 capx0 bd0 _ _ hnx0 (by omega) (by omega)).mono ?_
    rintro e w1 ⟨rfl, hE1⟩
    have hC1 : Ext w w1 := ((Ext.refl _).alloc _).trans hE1
    have ze1 := hC1.size
    have B_x0 := Blk.of1 hE1
    have zb_x0 := B_x0.lt
    go_wp2
    go_ret
    exact ⟨rfl, hC1⟩
  have nb0 : 0 ≤ szB nx0 1048576 := by omega
  have ms0 : nx0 ≤ 1048576 := szB_small nx0 1048576 (by omega) hb0
  clear hb0
  go_enter Try.func5, Try.ntmps5
  go_wp2_with fail
  refine (szConstraint_any Ax0 nx0 capx0 bd0 _ _ hnx0 (by omega) (by omega)).mono ?_
  rintro e w1 ⟨rfl, hE1⟩
  have hC1 : Ext w w1 := ((Ext.refl _).alloc _).trans hE1
  have ze1 := hC1.size
  have B_x0 := Blk.of1 hE1
  have zb_x0 := B_x0.lt
  have L_x0 := B_x0
  have c_x0_0 := L_x0.cell 0
  have c_x0_1 := L_x0.cell 1
  clear L_x0
  go_wp2_with fail
  refine (toConstraint_any Ax0 nx0 capx0 zs0 bd0 _ ms0 (sx0.ext hC1)).mono ?_
  rintro e w2 ⟨A2, n2, cap2, rfl, hl2, hG2, hE2⟩
  have hC2 : Ext w1 w2 := hE2
  have ze2 := hC2.size
  clear c_x0_0 c_x0_1
  have hL2 := hG2.lies.wide (lo' := w1.heap.size) (by simp) (Nat.le_refl _)
  have hs2 : n2 ≤ 1048576 := (by rw [← hl2, HL0.out]; exact ms0)
  have hn2 : n2 ≤ maxLen := (Nat.le_trans hs2 (by unfold maxLen; omega))
  go_wp2_with fail
  refine (specMul_any A2 n2 cap2 zs0 bd0 z1 _ hn2 hG2.seg ).mono ?_
  rintro e w3 ⟨A3, n3, cap3, rfl, hl3, hG3, hE3⟩
  have hC3 : Ext w2 w3 := hE3
  have ze3 := hC3.size
  have hL3 := hG3.lies.wide (lo' := w2.heap.size) (by simp) (Nat.le_refl _)
  have hs3 : n3 ≤ 1048576 := (by rw [← hl3]; exact muT_len zs0 bd0 z1)
  have hn3 : n3 ≤ maxLen := (Nat.le_trans hs3 (by unfold maxLen; omega))
  have L_x0 := (B_x0.ext (hC2.trans hC3))
  have c_x0_0 := L_x0.cell 0
  have c_x0_1 := L_x0.cell 1
  have l_x0 := L_x0.lt
  clear L_x0
  go_wp2_with fail
  refine (toConstraint_any Ax0 nx0 capx0 zs0 bd0 _ ms0 ((sx0.ext ((hC1.trans hC2).trans hC3)).ext ((Ext.refl _).alloc _))).mono ?_
  rintro e w4 ⟨A4, n4, cap4, rfl, hl4, hG4, hE4⟩
  have hC4 : Ext w3 w4 := ((Ext.refl _).alloc _).trans hE4
  have ze4 := hC4.size
  have B_x1 := Blk.of1 hE4
  have zb_x1 := B_x1.lt
  clear c_x0_0 c_x0_1 l_x0
  have hL4 := hG4.lies.wide (lo' := w3.heap.size + 1) (by simp) (Nat.le_refl _)
  have hs4 : n4 ≤ 1048576 := (by rw [← hl4, HL0.out]; exact ms0)
  have hn4 : n4 ≤ maxLen := (Nat.le_trans hs4 (by unfold maxLen; omega))
  go_wp2_with fail
  refine (implMul_any A4 n4 cap4 zs0 bd0 z1 _ hn4 (hG4.seg.ext ((Ext.refl _).alloc _)) ).mono ?_
  rintro e w5 ⟨A5, n5, cap5, rfl, hl5, hG5, hE5⟩
  have hC5 : Ext w4 w5 := ((Ext.refl _).alloc _).trans hE5
  have ze5 := hC5.size
  have B_x2 := Blk.of1 hE5
  have zb_x2 := B_x2.lt
  have hL5 := hG5.lies.wide (lo' := w4.heap.size + 1) (by simp) (Nat.le_refl _)
  have hs5 : n5 ≤ 1048576 := (by rw [← hl5]; exact muT_len zs0 bd0 z1)
  have hn5 : n5 ≤ maxLen := (Nat.le_trans hs5 (by unfold maxLen; omega))
  have L_x1 := (B_x1.ext hC5)
  have c_x1_0 := L_x1.cell 0
  have c_x1_1 := L_x1.cell 1
  have l_x1 := L_x1.lt
  clear L_x1
  go_wp2_with fail
  have hq6 : cEq (muT zs0 bd0 z1) (muT zs0 bd0 z1) (muD zs0 bd0 z1) (muD zs0 bd0 z1) = true := cEq_self _ _
  refine (eqConstraint_any A5 A3 n5 n3 cap5 cap3 (muT zs0 bd0 z1) (muT zs0 bd0 z1) (muD zs0 bd0 z1) (muD zs0 bd0 z1) _ hn5 hn3 (hG5.seg.ext ((Ext.refl _).alloc _)) ((hG3.seg.ext (hC4.trans hC5)).ext ((Ext.refl _).alloc _))).mono ?_
  rintro e w6 ⟨rfl, hE6⟩
  have hC6 : Ext w5 w6 := ((Ext.refl _).alloc _).trans hE6
  have ze6 := hC6.size
  have B_x3 := Blk.of1 hE6
  have zb_x3 := B_x3.lt
  clear c_x1_0 c_x1_1 l_x1
  have L_x2 := (B_x2.ext hC6)
  have L_x0 := (B_x0.ext ((((hC2.trans hC3).trans hC4).trans hC5).trans hC6))
  have KS : Hid (∀ w', Ext w6 w' → (w'.cell? ⟨w4.heap.size, 0, none⟩ = some (.slice A4 n4 cap4) ∧ w'.cell? ⟨w4.heap.size, 1, none⟩ = some (.int .i64 bd0) ∧ w'.cell? ⟨w.heap.size, 0, none⟩ = some (.slice Ax0 nx0 capx0) ∧ w'.cell? ⟨w.heap.size, 1, none⟩ = some (.int .i64 bd0))) := fun w' e => ⟨e.cell (L_x2.cell 0), e.cell (L_x2.cell 1), e.cell (L_x0.cell 0), e.cell (L_x0.cell 1)⟩
  have e1 : Ext w6 w6.drew := (Ext.refl _).drew
  clear L_x2 L_x0
  have hq8 : cEq zs0 zs0 bd0 bd0 = true := cEq_self _ _
  go_wp2_with fail
  go_region_held3 (fun w' => w'.cell? ⟨w4.heap.size, 0, none⟩ = some (.slice A4 n4 cap4) ∧ w'.cell? ⟨w4.heap.size, 1, none⟩ = some (.int .i64 bd0) ∧ w'.cell? ⟨w.heap.size, 0, none⟩ = some (.slice Ax0 nx0 capx0) ∧ w'.cell? ⟨w.heap.size, 1, none⟩ = some (.int .i64 bd0))
    ((refine KS.out _ ?_; first | exact e1 | exact (e1.trans hE7) | exact ((e1.trans hE7).trans hE8)))
    ((first | (go_at_call_of 29 (Ax0); refine (toConstraint_any Ax0 nx0 capx0 zs0 bd0 _ ms0 ((sx0.ext (((((hC1.trans hC2).trans hC3).trans hC4).trans hC5).trans hC6)).ext e1)).mono ?_; rintro e w7 ⟨A7, n7, cap7, rfl, hl7, hG7, hE7⟩; have hL7 := hG7.lies.wide (lo' := w6.heap.size) (by simp) (Nat.le_refl _); have hs7 : n7 ≤ 1048576 := (by rw [← hl7, HL0.out]; exact ms0); have hn7 : n7 ≤ maxLen := (Nat.le_trans hs7 (by unfold maxLen; omega))) | (go_at_call_of 31 (A4); refine (eqConstraint_any A4 A7 n4 n7 cap4 cap7 zs0 zs0 bd0 bd0 _ hn4 hn7 ((hG4.seg.ext (hC5.trans hC6)).ext (e1.trans hE7)) hG7.seg).mono ?_; rintro e w8 ⟨rfl, hE8⟩)))
  have hC7 : Ext w6 w7 := e1.trans hE7
  have ze7 := hC7.size
  have hC8 : Ext w7 w8 := hE8
  have ze8 := hC8.size
  clear KS e1
  have L_x2 := (B_x2.ext ((hC6.trans hC7).trans hC8))
  have c_x2_0 := L_x2.cell 0
  have c_x2_1 := L_x2.cell 1
  clear L_x2
  go_wp2_with fail
  refine (markConstraint_any A4 n4 cap4 zs0 bd0 1 _ (w3.heap.size + 1) w4.heap.size hs4 (by omega) (by omega) (hG4.seg.ext (((hC5.trans hC6).trans hC7).trans hC8)) (Free.ext (Free.ext (Free.ext (Free.ext hG4.free hG4.seg hC5) (hG4.seg.ext hC5) hC6) ((hG4.seg.ext hC5).ext hC6) hC7) (((hG4.seg.ext hC5).ext hC6).ext hC7) hC8) hL4).mono ?_
  rintro e w9 ⟨rfl, hS9, hF9, hE9⟩
  have hC9 : Kept (w3.heap.size + 1) w4.heap.size w8 w9 := hE9
  have ze9 := hC9.size
  clear c_x2_0 c_x2_1
  have hp9 : ¬ (1 + 2 * (n4 : Int) < 0) := (by omega)
  have L_x3 := ((B_x3.ext (hC7.trans hC8)).kept hC9 (by omega))
  have c_x3_0 := L_x3.cell 0
  have c_x3_1 := L_x3.cell 1
  clear L_x3
  have L_x1 := ((B_x1.ext (((hC5.trans hC6).trans hC7).trans hC8)).kept hC9 (by omega))
  have c_x1_0 := L_x1.cell 0
  have c_x1_1 := L_x1.cell 1
  clear L_x1
  go_wp2_with fail
  have hq10 : cEq (muT zs0 bd0 z1) (muT zs0 bd0 z1) (muD zs0 bd0 z1) (muD zs0 bd0 z1) = true := cEq_self _ _
  refine (eqConstraint_any A5 A3 n5 n3 cap5 cap3 (muT zs0 bd0 z1) (muT zs0 bd0 z1) (muD zs0 bd0 z1) (muD zs0 bd0 z1) _ hn5 hn3 ((hG5.seg.ext ((hC6.trans hC7).trans hC8)).kept hL5 hC9 (by omega)) ((hG3.seg.ext ((((hC4.trans hC5).trans hC6).trans hC7).trans hC8)).kept hL3 hC9 (by omega))).mono ?_
  rintro e w10 ⟨rfl, hE10⟩
  have hC10 : Ext w9 w10 := hE10
  have ze10 := hC10.size
  clear c_x3_0 c_x3_1 c_x1_0 c_x1_1
  have L_x3 := (((B_x3.ext (hC7.trans hC8)).kept hC9 (by omega)).ext hC10)
  have c_x3_0 := L_x3.cell 0
  have c_x3_1 := L_x3.cell 1
  clear L_x3
  go_wp2_with fail
  refine (markConstraint_any A5 n5 cap5 (muT zs0 bd0 z1) (muD zs0 bd0 z1) 1 _ (w4.heap.size + 1) w5.heap.size hs5 (by omega) (by omega) (((hG5.seg.ext ((hC6.trans hC7).trans hC8)).kept hL5 hC9 (by omega)).ext hC10) (Free.ext (Free.kept (Free.ext (Free.ext (Free.ext hG5.free hG5.seg hC6) (hG5.seg.ext hC6) hC7) ((hG5.seg.ext hC6).ext hC7) hC8) (((hG5.seg.ext hC6).ext hC7).ext hC8) hL5 hC9 (by omega)) ((((hG5.seg.ext hC6).ext hC7).ext hC8).kept hL5 hC9 (by omega)) hC10) hL5).mono ?_
  rintro e w11 ⟨rfl, hS11, hF11, hE11⟩
  have hC11 : Kept (w4.heap.size + 1) w5.heap.size w10 w11 := hE11
  have ze11 := hC11.size
  clear c_x3_0 c_x3_1
  have hp11 : ¬ (1 + 2 * (n5 : Int) < 0) := (by omega)
  have L_x3 := ((((B_x3.ext (hC7.trans hC8)).kept hC9 (by omega)).ext hC10).kept hC11 (by omega))
  have c_x3_0 := L_x3.cell 0
  have c_x3_1 := L_x3.cell 1
  clear L_x3
  go_wp2_with fail
  refine (heldConstraint_any A5 n5 cap5 (muD zs0 bd0 z1) 1 _ hs5 (by omega) (by omega) hS11).mono ?_
  rintro e w12 ⟨rfl, hE12⟩
  have hC12 : Ext w11 w12 := hE12
  have ze12 := hC12.size
  clear c_x3_0 c_x3_1
  have L_x0 := (((((B_x0.ext ((((((hC2.trans hC3).trans hC4).trans hC5).trans hC6).trans hC7).trans hC8)).kept hC9 (by omega)).ext hC10).kept hC11 (by omega)).ext hC12)
  have c_x0_0 := L_x0.cell 0
  have c_x0_1 := L_x0.cell 1
  clear L_x0
  go_wp2_with fail
  refine (toConstraint_any Ax0 nx0 capx0 zs0 bd0 _ ms0 (((((sx0.ext (((((((hC1.trans hC2).trans hC3).trans hC4).trans hC5).trans hC6).trans hC7).trans hC8)).kept hLx0 hC9 (by omega)).ext hC10).kept hLx0 hC11 (by omega)).ext hC12)).mono ?_
  rintro e w13 ⟨A13, n13, cap13, rfl, hl13, hG13, hE13⟩
  have hC13 : Ext w12 w13 := hE13
  have ze13 := hC13.size
  clear c_x0_0 c_x0_1
  have hL13 := hG13.lies.wide (lo' := w12.heap.size) (by simp) (Nat.le_refl _)
  have hs13 : n13 ≤ 1048576 := (by rw [← hl13, HL0.out]; exact ms0)
  have hn13 : n13 ≤ maxLen := (Nat.le_trans hs13 (by unfold maxLen; omega))
  go_wp2_with fail
  refine (implMul_any A13 n13 cap13 zs0 bd0 z1 _ hn13 hG13.seg ).mono ?_
  rintro e w14 ⟨A14, n14, cap14, rfl, hl14, hG14, hE14⟩
  have hC14 : Ext w13 w14 := hE14
  have ze14 := hC14.size
  have hL14 := hG14.lies.wide (lo' := w13.heap.size) (by simp) (Nat.le_refl _)
  have hs14 : n14 ≤ 1048576 := (by rw [← hl14]; exact muT_len zs0 bd0 z1)
  have hn14 : n14 ≤ maxLen := (Nat.le_trans hs14 (by unfold maxLen; omega))
  have L_x1 := (((((B_x1.ext (((hC5.trans hC6).trans hC7).trans hC8)).kept hC9 (by omega)).ext hC10).kept hC11 (by omega)).ext ((hC12.trans hC13).trans hC14))
  have c_x1_0 := L_x1.cell 0
  have c_x1_1 := L_x1.cell 1
  have l_x1 := L_x1.lt
  clear L_x1
  go_wp2_with fail
  have hq15 : cEq (muT zs0 bd0 z1) (muT zs0 bd0 z1) (muD zs0 bd0 z1) (muD zs0 bd0 z1) = true := cEq_self _ _
  refine (eqConstraint_any A14 A3 n14 n3 cap14 cap3 (muT zs0 bd0 z1) (muT zs0 bd0 z1) (muD zs0 bd0 z1) (muD zs0 bd0 z1) _ hn14 hn3 (hG14.seg.ext ((Ext.refl _).alloc _)) ((((((hG3.seg.ext ((((hC4.trans hC5).trans hC6).trans hC7).trans hC8)).kept hL3 hC9 (by omega)).ext hC10).kept hL3 hC11 (by omega)).ext ((hC12.trans hC13).trans hC14)).ext ((Ext.refl _).alloc _))).mono ?_
  rintro e w15 ⟨rfl, hE15⟩
  have hC15 : Ext w14 w15 := ((Ext.refl _).alloc _).trans hE15
  have ze15 := hC15.size
  have B_x4 := Blk.of1 hE15
  have zb_x4 := B_x4.lt
  clear c_x1_0 c_x1_1 l_x1
  have L_x3 := (((((B_x3.ext (hC7.trans hC8)).kept hC9 (by omega)).ext hC10).kept hC11 (by omega)).ext (((hC12.trans hC13).trans hC14).trans hC15))
  have c_x3_0 := L_x3.cell 0
  have c_x3_1 := L_x3.cell 1
  clear L_x3
  go_wp2_with fail
  refine (heldConstraint_any A5 n5 cap5 (muD zs0 bd0 z1) 1 _ hs5 (by omega) (by omega) (hS11.ext (((hC12.trans hC13).trans hC14).trans hC15))).mono ?_
  rintro e w16 ⟨rfl, hE16⟩
  have hC16 : Ext w15 w16 := hE16
  have ze16 := hC16.size
  clear c_x3_0 c_x3_1
  go_wp2
  go_ret
  exact ⟨rfl, ((((((Ext.fresh ((Ext.fresh (((((((hC1.trans hC2).trans hC3).trans hC4).trans hC5).trans hC6).trans hC7).trans hC8) hC9 (by omega)).trans hC10) hC11 (by omega)).trans hC12).trans hC13).trans hC14).trans hC15).trans hC16)⟩


theorem own : ownKnob Try.prog.godebug = none := by kernel_rfl
theorem laidOut : laidOutB Try.prog = true := by kernel_rfl

set_option maxRecDepth 100000 in
theorem lifted (os : Os) (started : os.Started) (H : Type) (enc : TypeId × Value → H) :
    ReturnsInHanded {} Try.checked os 5 .any (Rows.fnExactMultiplyConstraintSpec.pre6 enc Try.prog Try.f5 Rows.fnExactMultiplyConstraintRow.domain false) (Rows.fnExactMultiplyConstraintSpec.post enc Try.prog Try.f5 false true false false) := by
  refine returnsInHanded_of_change (C := Try.checked) own started (by kernel_rfl) Try.func5
    (ChangeSpec.witness6 (enc := enc) (C := Try.checked) false ⟨#[], #[.agg #[.slice none 0 0, .int .i64 0], .int .i64 0], []⟩ 8 (by kernel_rfl) (by kernel_rfl) (by kernel_rfl) (by kernel_rfl)) ?_
  intro W base args ds gs before hval0 hW hcnd _
  have hval : ∀ (j : Nat) t v, Try.f5.params[j]? = some t → args[j]? = some v → Value.okWide Try.prog W .any base t v := hval0
  have hW' := hW
  obtain ⟨p, q, hA0, hV, rfl, hfz, hnd⟩ := hW
  have hA : DataW.TrodAll enc Try.prog W 0 (fun _ => true) true Try.f5.params.toList args.toList ds p := hA0
  rw [Try.params5] at hA hval
  obtain ⟨v0, vs0, d0, ds0, p0, q0, hargs, rfl, rfl, h0, r0⟩ := trodAll_cons hA
  obtain ⟨v1, vs1, d1, ds1, p1, q1, rfl, rfl, rfl, h1, r1⟩ := trodAll_cons r0
  obtain ⟨rfl, rfl, rfl⟩ := trodAll_nil r1
  obtain rfl : args = #[v0, v1] := by cases args; simp_all
  obtain ⟨rfl, rfl⟩ := trodVars_none hV
  have k0 := h0
  have lt0 : ∀ x ∈ p0, x.block < W.heap.size := by obtain ⟨m, hm⟩ := k0; exact DataW.trod_lt m _ _ _ hm
  obtain ⟨A0, n0, cap0, zs0, bd0, rfl, hn0, hs0⟩ := arg_constr (hval 0 42 v0 rfl rfl) h0
  have k1 := h1
  have lt1 : ∀ x ∈ p1, x.block < W.heap.size := by obtain ⟨m, hm⟩ := k1; exact DataW.trod_lt m _ _ _ hm
  obtain ⟨z1, rfl, lo1, hi1⟩ := arg_int (hval 1 3 v1 rfl rfl) h1
  clear hA0 hval0
  refine (walk A0 n0 cap0 zs0 bd0 z1 W hn0 hs0 lo1 hi1).mono fun e W' ⟨he, ext⟩ => ?_
  subst he
  have bel := ext.below
  exact ⟨_, rfl, _, _, _, [], _, [], hW', trodAll_mk1 (shut_bool Try.underlying4 _), (trodAll_cons_mk (Below.trod laidOut (by kernel_rfl) (of_decide_eq_true (by kernel_rfl)) k0 bel lt0) (trodAll_cons_mk (Below.trod laidOut (by kernel_rfl) (of_decide_eq_true (by kernel_rfl)) k1 bel lt1) trodAll_mk0)), rfl, bel.frame _, fun h => by cases h⟩

theorem over : Rows.fnExactMultiplyConstraintRow.holds Try.pinned (OpenSpec.ofChange Rows.fnExactMultiplyConstraintSpec) :=
  OpenClaim.holds_of_wide 5 Try.f5 rfl rfl rfl rfl rfl rfl rfl ⟨rfl, rfl, rfl, rfl, rfl⟩ rfl rfl rfl rfl rfl (by kernel_rfl) Try.func5 (by kernel_rfl)
    (of_decide_eq_true (by kernel_rfl)) (by unfold Func.isWrapper; first | (rw [if_pos (by decide +kernel)]; kernel_rfl) | (rw [if_neg (by decide +kernel)]; exact ⟨rfl, rfl⟩))
    (fun os started H enc _ => lifted os started H enc)

theorem proved : Rows.FnExactMultiplyConstraintSaid := over

end Go.Proofs.Ytihmkbfobihddaa.exactMultiplyConstraint
