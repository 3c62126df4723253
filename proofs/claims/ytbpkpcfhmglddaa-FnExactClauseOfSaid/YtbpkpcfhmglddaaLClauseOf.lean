/- laws.FnExactClauseOf: for every list of integers, the program's ClauseOf returns what the reference's returns, in memory of its own, and leaves its argument alone. No condition. -/
import Derived.Test.YtbpkpcfhmglddaaCO
import Derived.Test.YtbpkpcfhmglddaaCOI
import Derived.Test.YtbpkpcfhmglddaaIntM
import Derived.Test.YtbpkpcfhmglddaaMark
import Derived.Test.YtbpkpcfhmglddaaSzT
import Derived.Test.YtbpkpcfhmglddaaEqT
import Derived.Test.YtbpkpcfhmglddaaOpen
import Derived.Test.YtbpkpcfhmglddaaFacts
import Derived.Deep.RegionHeld3
import Derived.Deep.RegionWith
namespace Go.Proofs.Ytbpkpcfhmglddaa.exactClauseOf
open Go.ChangeShapes Go.WideShapes Go.ChangeAt Go.RowKit
set_option linter.unusedVariables false

set_option maxRecDepth 100000 in
set_option maxHeartbeats 4000000 in
theorem walk (Ax0 : Option Addr) (nx0 capx0 : Nat) (zs0 : List Int) (w : World) (hnx0 : nx0 ≤ maxLen) (sx0 : Seg w 1 Ax0 nx0 (encI zs0)) :
    Calls Try.prog 3 #[.slice Ax0 nx0 capx0] w fun e w' => e = .returned (.bool true) ∧ Ext w w' := by
  have hLx0 := sx0.old
  have HL0 := Lib.hid sx0.lenI
  by_cases hb0 : 1048576 < nx0
  · clear sx0
    go_enter Try.func3, Try.ntmps3
    go_wp2
    go_ret
    exact ⟨rfl, by repeat (first | exact Ext.refl _ | refine Ext.alloc ?_ _)⟩
  have ms0 : nx0 ≤ 1048576 := by omega
  go_enter Try.func3, Try.ntmps3
  go_wp2_with fail
  refine (toIntS_any Ax0 nx0 capx0 zs0 _ ms0 sx0).mono ?_
  rintro e w1 ⟨A1, n1, cap1, rfl, hl1, hG1, hE1⟩
  have hC1 : Ext w w1 := hE1
  have ze1 := hC1.size
  have hL1 := hG1.lies.wide (lo' := w.heap.size) (by simp) (Nat.le_refl _)
  have hs1 : n1 ≤ 1048576 := (by rw [← hl1, HL0.out]; exact ms0)
  have hn1 : n1 ≤ maxLen := (Nat.le_trans hs1 (by unfold maxLen; omega))
  go_wp2_with fail
  refine (specCO_any A1 n1 cap1 zs0 _ hn1 hG1.seg).mono ?_
  rintro e w2 ⟨A2, n2, cap2, rfl, hl2, hG2, hE2⟩
  have hC2 : Ext w1 w2 := hE2
  have ze2 := hC2.size
  have hL2 := hG2.lies.wide (lo' := w1.heap.size) (by simp) (Nat.le_refl _)
  have hs2 : n2 ≤ 1048576 := (by rw [← hl2]; exact coT_len zs0)
  have hn2 : n2 ≤ maxLen := (Nat.le_trans hs2 (by unfold maxLen; omega))
  go_wp2_with fail
  refine (toIntS_any Ax0 nx0 capx0 zs0 _ ms0 ((sx0.ext (hC1.trans hC2)).ext ((Ext.refl _).alloc _))).mono ?_
  rintro e w3 ⟨A3, n3, cap3, rfl, hl3, hG3, hE3⟩
  have hC3 : Ext w2 w3 := ((Ext.refl _).alloc _).trans hE3
  have ze3 := hC3.size
  have B_x0 := Blk.of1 hE3
  have zb_x0 := B_x0.lt
  have hL3 := hG3.lies.wide (lo' := w2.heap.size + 1) (by simp) (Nat.le_refl _)
  have hs3 : n3 ≤ 1048576 := (by rw [← hl3, HL0.out]; exact ms0)
  have hn3 : n3 ≤ maxLen := (Nat.le_trans hs3 (by unfold maxLen; omega))
  go_wp2_with fail
  refine (implCO_any A3 n3 cap3 zs0 _ hn3 hG3.seg).mono ?_
  rintro e w4 ⟨A4, n4, cap4, rfl, hl4, hG4, hE4⟩
  have hC4 : Ext w3 w4 := hE4
  have ze4 := hC4.size
  have hL4 := hG4.lies.wide (lo' := w3.heap.size) (by simp) (Nat.le_refl _)
  have hs4 : n4 ≤ 1048576 := (by rw [← hl4]; exact coT_len zs0)
  have hn4 : n4 ≤ maxLen := (Nat.le_trans hs4 (by unfold maxLen; omega))
  have L_x0 := (B_x0.ext hC4)
  have c_x0_0 := L_x0.cell 0
  have c_x0_1 := L_x0.cell 1
  have l_x0 := L_x0.lt
  clear L_x0
  go_wp2_with fail
  have hq5 : cEq (coT zs0) (coT zs0) (coD zs0) (coD zs0) = true := cEq_self _ _
  refine (eqConstraint_any A4 A2 n4 n2 cap4 cap2 (coT zs0) (coT zs0) (coD zs0) (coD zs0) _ hn4 hn2 (hG4.seg.ext ((Ext.refl _).alloc _)) ((hG2.seg.ext (hC3.trans hC4)).ext ((Ext.refl _).alloc _))).mono ?_
  rintro e w5 ⟨rfl, hE5⟩
  have hC5 : Ext w4 w5 := ((Ext.refl _).alloc _).trans hE5
  have ze5 := hC5.size
  have B_x1 := Blk.of1 hE5
  have zb_x1 := B_x1.lt
  clear c_x0_0 c_x0_1 l_x0
  go_wp2_with fail
  refine (toIntS_any Ax0 nx0 capx0 zs0 _ ms0 (sx0.ext ((((hC1.trans hC2).trans hC3).trans hC4).trans hC5))).mono ?_
  rintro e w6 ⟨A6, n6, cap6, rfl, hl6, hG6, hE6⟩
  have hC6 : Ext w5 w6 := hE6
  have ze6 := hC6.size
  have hL6 := hG6.lies.wide (lo' := w5.heap.size) (by simp) (Nat.le_refl _)
  have hs6 : n6 ≤ 1048576 := (by rw [← hl6, HL0.out]; exact ms0)
  have hn6 : n6 ≤ maxLen := (Nat.le_trans hs6 (by unfold maxLen; omega))
  go_wp2_with fail
  have hq7 : iEq zs0 zs0 = true := iEq_self _
  refine (eqIntS_any A3 n3 cap3 zs0 A6 n6 cap6 zs0 _ hn3 (hG3.seg.ext ((hC4.trans hC5).trans hC6)) hn6 hG6.seg).mono ?_
  rintro e w7 ⟨rfl, hE7⟩
  have hC7 : Ext w6 w7 := hE7
  have ze7 := hC7.size
  go_wp2_with fail
  refine (markIntS_any A3 n3 cap3 zs0 1 _ (w2.heap.size + 1) w3.heap.size hs3 (by omega) (by omega) (hG3.seg.ext (((hC4.trans hC5).trans hC6).trans hC7)) (Free.ext (Free.ext (Free.ext (Free.ext hG3.free hG3.seg hC4) (hG3.seg.ext hC4) hC5) ((hG3.seg.ext hC4).ext hC5) hC6) (((hG3.seg.ext hC4).ext hC5).ext hC6) hC7) hL3).mono ?_
  rintro e w8 ⟨rfl, hS8, hF8, hE8⟩
  have hC8 : Kept (w2.heap.size + 1) w3.heap.size w7 w8 := hE8
  have ze8 := hC8.size
  have hp8 : ¬ (1 + (n3 : Int) < 0) := (by omega)
  have L_x1 := ((B_x1.ext (hC6.trans hC7)).kept hC8 (by omega))
  have c_x1_0 := L_x1.cell 0
  have c_x1_1 := L_x1.cell 1
  clear L_x1
  have L_x0 := ((B_x0.ext (((hC4.trans hC5).trans hC6).trans hC7)).kept hC8 (by omega))
  have c_x0_0 := L_x0.cell 0
  have c_x0_1 := L_x0.cell 1
  clear L_x0
  go_wp2_with fail
  have hq9 : cEq (coT zs0) (coT zs0) (coD zs0) (coD zs0) = true := cEq_self _ _
  refine (eqConstraint_any A4 A2 n4 n2 cap4 cap2 (coT zs0) (coT zs0) (coD zs0) (coD zs0) _ hn4 hn2 ((hG4.seg.ext ((hC5.trans hC6).trans hC7)).kept hL4 hC8 (by omega)) ((hG2.seg.ext ((((hC3.trans hC4).trans hC5).trans hC6).trans hC7)).kept hL2 hC8 (by omega))).mono ?_
  rintro e w9 ⟨rfl, hE9⟩
  have hC9 : Ext w8 w9 := hE9
  have ze9 := hC9.size
  clear c_x1_0 c_x1_1 c_x0_0 c_x0_1
  have L_x1 := (((B_x1.ext (hC6.trans hC7)).kept hC8 (by omega)).ext hC9)
  have c_x1_0 := L_x1.cell 0
  have c_x1_1 := L_x1.cell 1
  clear L_x1
  go_wp2_with fail
  refine (markConstraint_any A4 n4 cap4 (coT zs0) (coD zs0) 1 _ w3.heap.size w4.heap.size hs4 (by omega) (by omega) (((hG4.seg.ext ((hC5.trans hC6).trans hC7)).kept hL4 hC8 (by omega)).ext hC9) (Free.ext (Free.kept (Free.ext (Free.ext (Free.ext hG4.free hG4.seg hC5) (hG4.seg.ext hC5) hC6) ((hG4.seg.ext hC5).ext hC6) hC7) (((hG4.seg.ext hC5).ext hC6).ext hC7) hL4 hC8 (by omega)) ((((hG4.seg.ext hC5).ext hC6).ext hC7).kept hL4 hC8 (by omega)) hC9) hL4).mono ?_
  rintro e w10 ⟨rfl, hS10, hF10, hE10⟩
  have hC10 : Kept w3.heap.size w4.heap.size w9 w10 := hE10
  have ze10 := hC10.size
  clear c_x1_0 c_x1_1
  have hp10 : ¬ (1 + 2 * (n4 : Int) < 0) := (by omega)
  have L_x1 := ((((B_x1.ext (hC6.trans hC7)).kept hC8 (by omega)).ext hC9).kept hC10 (by omega))
  have c_x1_0 := L_x1.cell 0
  have c_x1_1 := L_x1.cell 1
  clear L_x1
  go_wp2_with fail
  refine (heldConstraint_any A4 n4 cap4 (coD zs0) 1 _ hs4 (by omega) (by omega) hS10).mono ?_
  rintro e w11 ⟨rfl, hE11⟩
  have hC11 : Ext w10 w11 := hE11
  have ze11 := hC11.size
  clear c_x1_0 c_x1_1
  go_wp2_with fail
  refine (toIntS_any Ax0 nx0 capx0 zs0 _ ms0 (((((sx0.ext ((((((hC1.trans hC2).trans hC3).trans hC4).trans hC5).trans hC6).trans hC7)).kept hLx0 hC8 (by omega)).ext hC9).kept hLx0 hC10 (by omega)).ext hC11)).mono ?_
  rintro e w12 ⟨A12, n12, cap12, rfl, hl12, hG12, hE12⟩
  have hC12 : Ext w11 w12 := hE12
  have ze12 := hC12.size
  have hL12 := hG12.lies.wide (lo' := w11.heap.size) (by simp) (Nat.le_refl _)
  have hs12 : n12 ≤ 1048576 := (by rw [← hl12, HL0.out]; exact ms0)
  have hn12 : n12 ≤ maxLen := (Nat.le_trans hs12 (by unfold maxLen; omega))
  go_wp2_with fail
  refine (implCO_any A12 n12 cap12 zs0 _ hn12 hG12.seg).mono ?_
  rintro e w13 ⟨A13, n13, cap13, rfl, hl13, hG13, hE13⟩
  have hC13 : Ext w12 w13 := hE13
  have ze13 := hC13.size
  have hL13 := hG13.lies.wide (lo' := w12.heap.size) (by simp) (Nat.le_refl _)
  have hs13 : n13 ≤ 1048576 := (by rw [← hl13]; exact coT_len zs0)
  have hn13 : n13 ≤ maxLen := (Nat.le_trans hs13 (by unfold maxLen; omega))
  have L_x0 := (((((B_x0.ext (((hC4.trans hC5).trans hC6).trans hC7)).kept hC8 (by omega)).ext hC9).kept hC10 (by omega)).ext ((hC11.trans hC12).trans hC13))
  have c_x0_0 := L_x0.cell 0
  have c_x0_1 := L_x0.cell 1
  have l_x0 := L_x0.lt
  clear L_x0
  go_wp2_with fail
  have hq14 : cEq (coT zs0) (coT zs0) (coD zs0) (coD zs0) = true := cEq_self _ _
  refine (eqConstraint_any A13 A2 n13 n2 cap13 cap2 (coT zs0) (coT zs0) (coD zs0) (coD zs0) _ hn13 hn2 (hG13.seg.ext ((Ext.refl _).alloc _)) ((((((hG2.seg.ext ((((hC3.trans hC4).trans hC5).trans hC6).trans hC7)).kept hL2 hC8 (by omega)).ext hC9).kept hL2 hC10 (by omega)).ext ((hC11.trans hC12).trans hC13)).ext ((Ext.refl _).alloc _))).mono ?_
  rintro e w14 ⟨rfl, hE14⟩
  have hC14 : Ext w13 w14 := ((Ext.refl _).alloc _).trans hE14
  have ze14 := hC14.size
  have B_x2 := Blk.of1 hE14
  have zb_x2 := B_x2.lt
  clear c_x0_0 c_x0_1 l_x0
  have L_x1 := (((((B_x1.ext (hC6.trans hC7)).kept hC8 (by omega)).ext hC9).kept hC10 (by omega)).ext (((hC11.trans hC12).trans hC13).trans hC14))
  have c_x1_0 := L_x1.cell 0
  have c_x1_1 := L_x1.cell 1
  clear L_x1
  go_wp2_with fail
  refine (heldConstraint_any A4 n4 cap4 (coD zs0) 1 _ hs4 (by omega) (by omega) (hS10.ext (((hC11.trans hC12).trans hC13).trans hC14))).mono ?_
  rintro e w15 ⟨rfl, hE15⟩
  have hC15 : Ext w14 w15 := hE15
  have ze15 := hC15.size
  clear c_x1_0 c_x1_1
  go_wp2
  go_ret
  exact ⟨rfl, ((((((Ext.fresh ((Ext.fresh ((((((hC1.trans hC2).trans hC3).trans hC4).trans hC5).trans hC6).trans hC7) hC8 (by omega)).trans hC9) hC10 (by omega)).trans hC11).trans hC12).trans hC13).trans hC14).trans hC15)⟩


theorem own : ownKnob Try.prog.godebug = none := by kernel_rfl
theorem laidOut : laidOutB Try.prog = true := by kernel_rfl

set_option maxRecDepth 100000 in
theorem lifted (os : Os) (started : os.Started) (H : Type) (enc : TypeId × Value → H) :
    ReturnsInHanded {} Try.checked os 3 .any (Rows.fnExactClauseOfSpec.pre6 enc Try.prog Try.f3 Rows.fnExactClauseOfRow.domain false) (Rows.fnExactClauseOfSpec.post enc Try.prog Try.f3 false true false false) := by
  refine returnsInHanded_of_change (C := Try.checked) own started (by kernel_rfl) Try.func3
    (ChangeSpec.witness6 (enc := enc) (C := Try.checked) false ⟨#[], #[.slice none 0 0], []⟩ 8 (by kernel_rfl) (by kernel_rfl) (by kernel_rfl) (by kernel_rfl)) ?_
  intro W base args ds gs before hval0 hW hcnd _
  have hval : ∀ (j : Nat) t v, Try.f3.params[j]? = some t → args[j]? = some v → Value.okWide Try.prog W .any base t v := hval0
  have hW' := hW
  obtain ⟨p, q, hA0, hV, rfl, hfz, hnd⟩ := hW
  have hA : DataW.TrodAll enc Try.prog W 0 (fun _ => true) true Try.f3.params.toList args.toList ds p := hA0
  rw [Try.params3] at hA hval
  obtain ⟨v0, vs0, d0, ds0, p0, q0, hargs, rfl, rfl, h0, r0⟩ := trodAll_cons hA
  obtain ⟨rfl, rfl, rfl⟩ := trodAll_nil r0
  obtain rfl : args = #[v0] := by cases args; simp_all
  obtain ⟨rfl, rfl⟩ := trodVars_none hV
  have k0 := h0
  have lt0 : ∀ x ∈ p0, x.block < W.heap.size := by obtain ⟨m, hm⟩ := k0; exact DataW.trod_lt m _ _ _ hm
  obtain ⟨A0, n0, cap0, zs0, rfl, hn0, hs0⟩ := arg_ints (hval 0 22 v0 rfl rfl) h0
  clear hA0 hval0
  refine (walk A0 n0 cap0 zs0 W hn0 hs0).mono fun e W' ⟨he, ext⟩ => ?_
  subst he
  have bel := ext.below
  exact ⟨_, rfl, _, _, _, [], _, [], hW', trodAll_mk1 (shut_bool Try.underlying4 _), (trodAll_cons_mk (Below.trod laidOut (by kernel_rfl) (of_decide_eq_true (by kernel_rfl)) k0 bel lt0) trodAll_mk0), rfl, bel.frame _, fun h => by cases h⟩

set_option maxHeartbeats 4000000 in
theorem joined : joinedFacts Try.pinned.checked.prog 3 Try.f3 Rows.fnExactClauseOfSpec Rows.fnExactClauseOfRow = true := by
  unfold joinedFacts
  exact (and2 (and2 (and2 (and2 (and2 (and2 (and2 (and2 (and2 (and2 (and2 (and2 (and2 (and2 (and2 (and2 (and2 (and2 (and2 (and2 (and2 (and2 (and2 (and2 (and2 (and2 (and2 (and2 (and2 (and2 (and2 (by as_aux_lemma => kernel_rfl) (by as_aux_lemma => kernel_rfl)) (by as_aux_lemma => kernel_rfl)) (by as_aux_lemma => kernel_rfl)) (by as_aux_lemma => kernel_rfl)) (by as_aux_lemma => kernel_rfl)) (by as_aux_lemma => kernel_rfl)) (by as_aux_lemma => kernel_rfl)) (by as_aux_lemma => kernel_rfl)) (by as_aux_lemma => kernel_rfl)) (by as_aux_lemma => kernel_rfl)) (by as_aux_lemma => kernel_rfl)) (by as_aux_lemma => kernel_rfl)) (by as_aux_lemma => kernel_rfl)) (by as_aux_lemma => kernel_rfl)) (by as_aux_lemma => kernel_rfl)) (by as_aux_lemma => kernel_rfl)) (by as_aux_lemma => kernel_rfl)) (by as_aux_lemma => kernel_rfl)) (by as_aux_lemma => kernel_rfl)) (by as_aux_lemma => kernel_rfl)) (by as_aux_lemma => kernel_rfl)) (by as_aux_lemma => kernel_rfl)) (by as_aux_lemma => kernel_rfl)) (by as_aux_lemma => kernel_rfl)) jEnter) jLift) jMake) (by as_aux_lemma => kernel_rfl)) (by as_aux_lemma => kernel_rfl)) (by as_aux_lemma => kernel_rfl)) (by as_aux_lemma => kernel_rfl))

set_option maxHeartbeats 4000000 in
theorem over : Rows.fnExactClauseOfRow.holds Try.pinned (OpenSpec.ofChange Rows.fnExactClauseOfSpec) :=
  OpenClaim.holds_of_wide 3 Try.f3 rfl rfl rfl rfl rfl rfl rfl ⟨rfl, rfl, rfl, rfl, rfl⟩ rfl rfl rfl rfl rfl (by kernel_rfl) Try.func3 joined
    (of_decide_eq_true (by kernel_rfl)) (by unfold Func.isWrapper; first | (rw [if_pos (by decide +kernel)]; kernel_rfl) | (rw [if_neg (by decide +kernel)]; exact ⟨rfl, rfl⟩))
    (fun os started H enc _ => lifted os started H enc)

theorem proved : Rows.FnExactClauseOfSaid := over

end Go.Proofs.Ytbpkpcfhmglddaa.exactClauseOf
