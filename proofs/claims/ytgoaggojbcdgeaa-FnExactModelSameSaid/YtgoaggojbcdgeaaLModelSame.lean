/- laws.FnExactModelSame: for all arguments, the program's ModelSame answers as the reference's and leaves its arguments alone. No condition. -/
import Derived.Test.YtgoaggojbcdgeaaMdS
import Derived.Test.YtgoaggojbcdgeaaMdQ
import Derived.Test.YtgoaggojbcdgeaaOpenM
import Derived.Test.YtgoaggojbcdgeaaOpen
import Derived.Test.YtgoaggojbcdgeaaFacts
import Derived.Deep.RegionHeld3
import Derived.Deep.RegionWith
namespace Go.Proofs.Ytgoaggojbcdgeaa.exactModelSame
open Go.ChangeShapes Go.WideShapes Go.ChangeAt Go.RowKit
set_option linter.unusedVariables false

set_option maxRecDepth 100000 in
set_option maxHeartbeats 4000000 in
theorem walk (Ax0 : Option Addr) (nx0 cx0 : Nat) (Bx0 : Option Addr) (mx0 qx0 : Nat) (vz0 : List Int) (rz0 : List Rl) (Ax1 : Option Addr) (nx1 cx1 : Nat) (Bx1 : Option Addr) (mx1 qx1 : Nat) (vz1 : List Int) (rz1 : List Rl) (w : World) (hs0 : QI 0 w (Ax0, nx0, cx0) vz0) (hr0 : QRS 0 w (Bx0, mx0, qx0) rz0) (hs1 : QI 0 w (Ax1, nx1, cx1) vz1) (hr1 : QRS 0 w (Bx1, mx1, qx1) rz1) :
    Calls Try.prog 7 #[.agg #[.slice Ax0 nx0 cx0, .slice Bx0 mx0 qx0], .agg #[.slice Ax1 nx1 cx1, .slice Bx1 mx1 qx1]] w fun e w' => e = .returned (.bool true) ∧ Ext w w' := by
  have S0 := Lib.hid hs0
  have R0 := Lib.hid hr0
  clear hs0 hr0
  have S1 := Lib.hid hs1
  have R1 := Lib.hid hr1
  clear hs1 hr1
  go_enter Try.func7, Try.ntmps7
  go_wp2_with fail
  refine (szModel_any Ax0 nx0 cx0 vz0 Bx0 mx0 qx0 rz0 _ _ (by omega) (by omega) (S0.out.ext (((Ext.refl _).alloc _).alloc _)) (R0.out.ext (((Ext.refl _).alloc _).alloc _))).mono ?_
  rintro e w1 ⟨y1, rfl, ylo1, yup1, hy1, hE1⟩
  have hC1 : Ext w w1 := (((Ext.refl _).alloc _).alloc _).trans hE1
  have HE1 := Lib.hid (hC1)
  obtain ⟨K0, K1⟩ := Blk.of2 hE1
  have HB_p0 := Lib.hid K0
  have HB_p1 := Lib.hid K1
  clear K0 K1
  clear hE1
  have HY1 := Lib.hid hy1
  clear hy1
  by_cases hb101 : y1 < 0
  · go_wp2
    go_ret
    exact ⟨rfl, HE1.out⟩
  have sm0 := Lib.hid (HY1.out (by omega))
  have ynn1 : 0 ≤ y1 := by omega
  have L_p1 := HB_p1.out
  have x_p1_0 := L_p1.cell 0
  have x_p1_1 := L_p1.cell 1
  clear L_p1
  go_wp2_with fail
  refine (szModel_any Ax1 nx1 cx1 vz1 Bx1 mx1 qx1 rz1 _ _ (by omega) (by omega) (S1.out.ext HE1.out) (R1.out.ext HE1.out)).mono ?_
  rintro e w2 ⟨y2, rfl, ylo2, yup2, hy2, hE2⟩
  have hC2 : Ext w1 w2 := hE2
  have HE2 := Lib.hid (HE1.out.trans hC2)
  clear x_p1_0 x_p1_1
  clear hE2
  have HY2 := Lib.hid hy2
  clear hy2
  by_cases hb102 : y2 < 0
  · go_wp2
    go_ret
    exact ⟨rfl, HE2.out⟩
  have sm1 := Lib.hid (HY2.out (by omega))
  have ynn2 : 0 ≤ y2 := by omega
  have L_p0 := HB_p0.out.ext hC2
  have L_p1 := HB_p1.out.ext hC2
  have KS : Hid (∀ w', Ext w2 w' → (w'.cell? ⟨w.heap.size, 0, none⟩ = some (.slice Ax0 nx0 cx0) ∧ w'.cell? ⟨w.heap.size, 1, none⟩ = some (.slice Bx0 mx0 qx0) ∧ w'.cell? ⟨w.heap.size + 1, 0, none⟩ = some (.slice Ax1 nx1 cx1) ∧ w'.cell? ⟨w.heap.size + 1, 1, none⟩ = some (.slice Bx1 mx1 qx1))) := fun w' e => ⟨e.cell (L_p0.cell 0), e.cell (L_p0.cell 1), e.cell (L_p1.cell 0), e.cell (L_p1.cell 1)⟩
  have e1 : Ext w2 w2.drew := (Ext.refl _).drew
  clear L_p0 L_p1
  go_wp2_with fail
  go_region_held3 (fun w' => w'.cell? ⟨w.heap.size, 0, none⟩ = some (.slice Ax0 nx0 cx0) ∧ w'.cell? ⟨w.heap.size, 1, none⟩ = some (.slice Bx0 mx0 qx0) ∧ w'.cell? ⟨w.heap.size + 1, 0, none⟩ = some (.slice Ax1 nx1 cx1) ∧ w'.cell? ⟨w.heap.size + 1, 1, none⟩ = some (.slice Bx1 mx1 qx1))
    ((refine KS.out _ ?_; first | exact e1 | exact (e1.trans hE3) | exact ((e1.trans hE3).trans hE4) | exact (((e1.trans hE3).trans hE4).trans hE5)))
    ((first | (go_at_call_of 30 (Ax0); refine (toModel_any Ax0 nx0 cx0 vz0 Bx0 mx0 qx0 rz0 _ sm0.out (S0.out.ext (HE2.out.trans e1)) (R0.out.ext (HE2.out.trans e1))).mono ?_; rintro e w3 ⟨A3, n3, c3, B3, m3, q3, rfl, hI3, hR3, hE3⟩; have I3 := Lib.hid (hI3.wide (lo' := 0) (Nat.zero_le _)); have J3 := Lib.hid (hR3.wide (lo' := 0) (Nat.zero_le _)); clear hI3 hR3) | (go_at_call_of 30 (Ax1); refine (toModel_any Ax1 nx1 cx1 vz1 Bx1 mx1 qx1 rz1 _ sm1.out (S1.out.ext (HE2.out.trans (e1.trans hE3))) (R1.out.ext (HE2.out.trans (e1.trans hE3)))).mono ?_; rintro e w4 ⟨A4, n4, c4, B4, m4, q4, rfl, hI4, hR4, hE4⟩; have I4 := Lib.hid (hI4.wide (lo' := 0) (Nat.zero_le _)); have J4 := Lib.hid (hR4.wide (lo' := 0) (Nat.zero_le _)); clear hI4 hR4) | (go_at_call_of 29 (A3); refine (specMS_any A3 n3 c3 vz0 B3 m3 q3 rz0 A4 n4 c4 vz1 B4 m4 q4 rz1 _ (I3.out.ext hE4) (J3.out.ext hE4) I4.out J4.out).mono ?_; rintro e w5 ⟨rfl, hE5⟩)))
  have hC3 : Ext w2 w3 := e1.trans hE3
  have HE3 := Lib.hid (HE2.out.trans hC3)
  have hC4 : Ext w3 w4 := hE4
  have HE4 := Lib.hid (HE3.out.trans hC4)
  have hC5 : Ext w4 w5 := hE5
  have HE5 := Lib.hid (HE4.out.trans hC5)
  clear KS e1 hE3 hE4 hE5
  have L_p0 := HB_p0.out.ext (((hC2.trans hC3).trans hC4).trans hC5)
  have x_p0_0 := L_p0.cell 0
  have x_p0_1 := L_p0.cell 1
  clear L_p0
  go_wp2_with fail
  refine (toModel_any Ax0 nx0 cx0 vz0 Bx0 mx0 qx0 rz0 _ sm0.out (S0.out.ext HE5.out) (R0.out.ext HE5.out)).mono ?_
  rintro e w6 ⟨A6, n6, c6, B6, m6, q6, rfl, hI6, hR6, hE6⟩
  have hC6 : Ext w5 w6 := hE6
  have HE6 := Lib.hid (HE5.out.trans hC6)
  clear x_p0_0 x_p0_1
  clear hE6
  have I6 := Lib.hid (hI6.wide (lo' := 0) (Nat.zero_le _))
  have J6 := Lib.hid (hR6.wide (lo' := 0) (Nat.zero_le _))
  clear hI6 hR6
  have L_p1 := HB_p1.out.ext ((((hC2.trans hC3).trans hC4).trans hC5).trans hC6)
  have x_p1_0 := L_p1.cell 0
  have x_p1_1 := L_p1.cell 1
  have l_p1 := L_p1.lt
  clear L_p1
  go_wp2_with fail
  refine (toModel_any Ax1 nx1 cx1 vz1 Bx1 mx1 qx1 rz1 _ sm1.out ((S1.out.ext HE6.out).ext ((Ext.refl _).alloc _)) ((R1.out.ext HE6.out).ext ((Ext.refl _).alloc _))).mono ?_
  rintro e w7 ⟨A7, n7, c7, B7, m7, q7, rfl, hI7, hR7, hE7⟩
  have hC7 : Ext w6 w7 := ((Ext.refl _).alloc _).trans hE7
  have HE7 := Lib.hid (HE6.out.trans hC7)
  have K0 := Blk.of1 hE7
  have HB_x0 := Lib.hid K0
  clear K0
  clear x_p1_0 x_p1_1 l_p1
  clear hE7
  have I7 := Lib.hid (hI7.wide (lo' := 0) (Nat.zero_le _))
  have J7 := Lib.hid (hR7.wide (lo' := 0) (Nat.zero_le _))
  clear hI7 hR7
  have L_x0 := HB_x0.out
  have x_x0_0 := L_x0.cell 0
  have x_x0_1 := L_x0.cell 1
  have l_x0 := L_x0.lt
  clear L_x0
  go_wp2_with fail
  refine (implMS_any A6 n6 c6 vz0 B6 m6 q6 rz0 A7 n7 c7 vz1 B7 m7 q7 rz1 _ ((I6.out.ext hC7).ext ((Ext.refl _).alloc _)) ((J6.out.ext hC7).ext ((Ext.refl _).alloc _)) (I7.out.ext ((Ext.refl _).alloc _)) (J7.out.ext ((Ext.refl _).alloc _))).mono ?_
  rintro e w8 ⟨rfl, hE8⟩
  have hC8 : Ext w7 w8 := ((Ext.refl _).alloc _).trans hE8
  have HE8 := Lib.hid (HE7.out.trans hC8)
  have K0 := Blk.of1 hE8
  have HB_x1 := Lib.hid K0
  clear K0
  clear x_x0_0 x_x0_1 l_x0
  clear hE8
  have hq0 : Hid (moEq (vz0, rz0) (vz0, rz0) = true) := moEq_self _
  have L_x0 := HB_x0.out.ext hC8
  have L_p0 := HB_p0.out.ext ((((((hC2.trans hC3).trans hC4).trans hC5).trans hC6).trans hC7).trans hC8)
  have KS : Hid (∀ w', Ext w8 w' → (w'.cell? ⟨w6.heap.size, 0, none⟩ = some (.slice A6 n6 c6) ∧ w'.cell? ⟨w6.heap.size, 1, none⟩ = some (.slice B6 m6 q6) ∧ w'.cell? ⟨w.heap.size, 0, none⟩ = some (.slice Ax0 nx0 cx0) ∧ w'.cell? ⟨w.heap.size, 1, none⟩ = some (.slice Bx0 mx0 qx0))) := fun w' e => ⟨e.cell (L_x0.cell 0), e.cell (L_x0.cell 1), e.cell (L_p0.cell 0), e.cell (L_p0.cell 1)⟩
  have e1 : Ext w8 w8.drew := (Ext.refl _).drew
  clear L_x0 L_p0
  go_wp2_with fail
  go_region_held3 (fun w' => w'.cell? ⟨w6.heap.size, 0, none⟩ = some (.slice A6 n6 c6) ∧ w'.cell? ⟨w6.heap.size, 1, none⟩ = some (.slice B6 m6 q6) ∧ w'.cell? ⟨w.heap.size, 0, none⟩ = some (.slice Ax0 nx0 cx0) ∧ w'.cell? ⟨w.heap.size, 1, none⟩ = some (.slice Bx0 mx0 qx0))
    ((refine KS.out _ ?_; first | exact e1 | exact (e1.trans hE9) | exact ((e1.trans hE9).trans hE10)))
    ((first | (go_at_call_of 30 (Ax0); refine (toModel_any Ax0 nx0 cx0 vz0 Bx0 mx0 qx0 rz0 _ sm0.out (S0.out.ext (HE8.out.trans e1)) (R0.out.ext (HE8.out.trans e1))).mono ?_; rintro e w9 ⟨A9, n9, c9, B9, m9, q9, rfl, hI9, hR9, hE9⟩; have I9 := Lib.hid (hI9.wide (lo' := 0) (Nat.zero_le _)); have J9 := Lib.hid (hR9.wide (lo' := 0) (Nat.zero_le _)); clear hI9 hR9) | (go_at_call_of 32 (A6); refine (calls_val (eqModel_any A6 n6 c6 vz0 B6 m6 q6 rz0 A9 n9 c9 vz0 B9 m9 q9 rz0 _ (I6.out.ext ((hC7.trans hC8).trans (e1.trans hE9))) (J6.out.ext ((hC7.trans hC8).trans (e1.trans hE9))) I9.out J9.out) (congrArg Value.bool hq0.out)).mono ?_; rintro e w10 ⟨rfl, hE10⟩)))
  have hC9 : Ext w8 w9 := e1.trans hE9
  have HE9 := Lib.hid (HE8.out.trans hC9)
  have hC10 : Ext w9 w10 := hE10
  have HE10 := Lib.hid (HE9.out.trans hC10)
  clear KS e1 hE9 hE10
  have hq1 : Hid (moEq (vz1, rz1) (vz1, rz1) = true) := moEq_self _
  have L_x1 := HB_x1.out.ext (hC9.trans hC10)
  have L_p1 := HB_p1.out.ext ((((((((hC2.trans hC3).trans hC4).trans hC5).trans hC6).trans hC7).trans hC8).trans hC9).trans hC10)
  have KS : Hid (∀ w', Ext w10 w' → (w'.cell? ⟨w7.heap.size, 0, none⟩ = some (.slice A7 n7 c7) ∧ w'.cell? ⟨w7.heap.size, 1, none⟩ = some (.slice B7 m7 q7) ∧ w'.cell? ⟨w.heap.size + 1, 0, none⟩ = some (.slice Ax1 nx1 cx1) ∧ w'.cell? ⟨w.heap.size + 1, 1, none⟩ = some (.slice Bx1 mx1 qx1))) := fun w' e => ⟨e.cell (L_x1.cell 0), e.cell (L_x1.cell 1), e.cell (L_p1.cell 0), e.cell (L_p1.cell 1)⟩
  have e1 : Ext w10 w10.drew := (Ext.refl _).drew
  clear L_x1 L_p1
  go_wp2_with fail
  go_region_held3 (fun w' => w'.cell? ⟨w7.heap.size, 0, none⟩ = some (.slice A7 n7 c7) ∧ w'.cell? ⟨w7.heap.size, 1, none⟩ = some (.slice B7 m7 q7) ∧ w'.cell? ⟨w.heap.size + 1, 0, none⟩ = some (.slice Ax1 nx1 cx1) ∧ w'.cell? ⟨w.heap.size + 1, 1, none⟩ = some (.slice Bx1 mx1 qx1))
    ((refine KS.out _ ?_; first | exact e1 | exact (e1.trans hE11) | exact ((e1.trans hE11).trans hE12)))
    ((first | (go_at_call_of 30 (Ax1); refine (toModel_any Ax1 nx1 cx1 vz1 Bx1 mx1 qx1 rz1 _ sm1.out (S1.out.ext (HE10.out.trans e1)) (R1.out.ext (HE10.out.trans e1))).mono ?_; rintro e w11 ⟨A11, n11, c11, B11, m11, q11, rfl, hI11, hR11, hE11⟩; have I11 := Lib.hid (hI11.wide (lo' := 0) (Nat.zero_le _)); have J11 := Lib.hid (hR11.wide (lo' := 0) (Nat.zero_le _)); clear hI11 hR11) | (go_at_call_of 32 (A7); refine (calls_val (eqModel_any A7 n7 c7 vz1 B7 m7 q7 rz1 A11 n11 c11 vz1 B11 m11 q11 rz1 _ (I7.out.ext (((hC8.trans hC9).trans hC10).trans (e1.trans hE11))) (J7.out.ext (((hC8.trans hC9).trans hC10).trans (e1.trans hE11))) I11.out J11.out) (congrArg Value.bool hq1.out)).mono ?_; rintro e w12 ⟨rfl, hE12⟩)))
  have hC11 : Ext w10 w11 := e1.trans hE11
  have HE11 := Lib.hid (HE10.out.trans hC11)
  have hC12 : Ext w11 w12 := hE12
  have HE12 := Lib.hid (HE11.out.trans hC12)
  clear KS e1 hE11 hE12
  go_wp2
  go_ret
  exact ⟨rfl, HE12.out⟩

theorem own : ownKnob Try.prog.godebug = none := by kernel_rfl
theorem laidOut : laidOutB Try.prog = true := by kernel_rfl

set_option maxRecDepth 100000 in
theorem lifted (os : Os) (started : os.Started) (H : Type) (enc : TypeId × Value → H) :
    ReturnsInHanded {} Try.checked os 7 .any (Rows.fnExactModelSameSpec.pre6 enc Try.prog Try.f7 Rows.fnExactModelSameRow.domain false) (Rows.fnExactModelSameSpec.post enc Try.prog Try.f7 false true false false) := by
  refine returnsInHanded_of_change (C := Try.checked) own started (by kernel_rfl) Try.func7
    (ChangeSpec.witness6 (enc := enc) (C := Try.checked) false ⟨#[], #[.agg #[.slice none 0 0, .slice none 0 0], .agg #[.slice none 0 0, .slice none 0 0]], []⟩ 8 (by kernel_rfl) (by kernel_rfl) (by kernel_rfl) (by kernel_rfl)) ?_
  intro W base args ds gs before hval0 hW hcnd _
  have hval : ∀ (j : Nat) t v, Try.f7.params[j]? = some t → args[j]? = some v → Value.okWide Try.prog W .any base t v := hval0
  have hW' := hW
  obtain ⟨p, q, hA0, hV, rfl, hfz, hnd⟩ := hW
  have hA : DataW.TrodAll enc Try.prog W 0 (fun _ => true) true Try.f7.params.toList args.toList ds p := hA0
  rw [Try.params7] at hA hval
  obtain ⟨v0, vs0, d0, ds0, p0, q0, hargs, rfl, rfl, h0, r0⟩ := trodAll_cons hA
  obtain ⟨v1, vs1, d1, ds1, p1, q1, rfl, rfl, rfl, h1, r1⟩ := trodAll_cons r0
  obtain ⟨rfl, rfl, rfl⟩ := trodAll_nil r1
  obtain rfl : args = #[v0, v1] := by cases args; simp_all
  obtain ⟨rfl, rfl⟩ := trodVars_none hV
  have k0 := h0
  have lt0 : ∀ x ∈ p0, x.block < W.heap.size := by obtain ⟨m, hm⟩ := k0; exact DataW.trod_lt m _ _ _ hm
  obtain ⟨A0, n0, cap0, B0, m0, c0, vz0, rz0, rfl, hs0, hr0⟩ := arg_model (hval 0 50 v0 rfl rfl) h0
  have k1 := h1
  have lt1 : ∀ x ∈ p1, x.block < W.heap.size := by obtain ⟨m, hm⟩ := k1; exact DataW.trod_lt m _ _ _ hm
  obtain ⟨A1, n1, cap1, B1, m1, c1, vz1, rz1, rfl, hs1, hr1⟩ := arg_model (hval 1 50 v1 rfl rfl) h1
  clear hA0 hval0
  refine (walk A0 n0 cap0 B0 m0 c0 vz0 rz0 A1 n1 cap1 B1 m1 c1 vz1 rz1 W hs0 hr0 hs1 hr1).mono fun e W' ⟨he, ext⟩ => ?_
  subst he
  have bel := ext.below
  exact ⟨_, rfl, _, _, _, [], _, [], hW', trodAll_mk1 (shut_bool Try.underlying4 _), (trodAll_cons_mk (Below.trod laidOut (by kernel_rfl) (of_decide_eq_true (by kernel_rfl)) k0 bel lt0) (trodAll_cons_mk (Below.trod laidOut (by kernel_rfl) (of_decide_eq_true (by kernel_rfl)) k1 bel lt1) trodAll_mk0)), rfl, bel.frame _, fun h => by cases h⟩

set_option maxHeartbeats 4000000 in
theorem joined : joinedFacts Try.pinned.checked.prog 7 Try.f7 Rows.fnExactModelSameSpec Rows.fnExactModelSameRow = true := by
  unfold joinedFacts
  exact (and2 (and2 (and2 (and2 (and2 (and2 (and2 (and2 (and2 (and2 (and2 (and2 (and2 (and2 (and2 (and2 (and2 (and2 (and2 (and2 (and2 (and2 (and2 (and2 (and2 (and2 (and2 (and2 (and2 (and2 (and2 (by as_aux_lemma => kernel_rfl) (by as_aux_lemma => kernel_rfl)) (by as_aux_lemma => kernel_rfl)) (by as_aux_lemma => kernel_rfl)) (by as_aux_lemma => kernel_rfl)) (by as_aux_lemma => kernel_rfl)) (by as_aux_lemma => kernel_rfl)) (by as_aux_lemma => kernel_rfl)) (by as_aux_lemma => kernel_rfl)) (by as_aux_lemma => kernel_rfl)) (by as_aux_lemma => kernel_rfl)) (by as_aux_lemma => kernel_rfl)) (by as_aux_lemma => kernel_rfl)) (by as_aux_lemma => kernel_rfl)) (by as_aux_lemma => kernel_rfl)) (by as_aux_lemma => kernel_rfl)) (by as_aux_lemma => kernel_rfl)) (by as_aux_lemma => kernel_rfl)) (by as_aux_lemma => kernel_rfl)) (by as_aux_lemma => kernel_rfl)) (by as_aux_lemma => kernel_rfl)) (by as_aux_lemma => kernel_rfl)) (by as_aux_lemma => kernel_rfl)) (by as_aux_lemma => kernel_rfl)) (by as_aux_lemma => kernel_rfl)) jEnter) jLift) jMake) (by as_aux_lemma => kernel_rfl)) (by as_aux_lemma => kernel_rfl)) (by as_aux_lemma => kernel_rfl)) (by as_aux_lemma => kernel_rfl))

set_option maxHeartbeats 4000000 in
theorem over : Rows.fnExactModelSameRow.holds Try.pinned (OpenSpec.ofChange Rows.fnExactModelSameSpec) :=
  OpenClaim.holds_of_wide 7 Try.f7 rfl rfl rfl rfl rfl rfl rfl ⟨rfl, rfl, rfl, rfl, rfl⟩ rfl rfl rfl rfl rfl (by kernel_rfl) Try.func7 joined
    (of_decide_eq_true (by kernel_rfl)) (by unfold Func.isWrapper; first | (rw [if_pos (by decide +kernel)]; kernel_rfl) | (rw [if_neg (by decide +kernel)]; exact ⟨rfl, rfl⟩))
    (fun os started H enc _ => lifted os started H enc)

theorem proved : Rows.FnExactModelSameSaid := over

end Go.Proofs.Ytgoaggojbcdgeaa.exactModelSame
