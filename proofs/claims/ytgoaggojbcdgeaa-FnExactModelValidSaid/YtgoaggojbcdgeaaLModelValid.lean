/- laws.FnExactModelValid: for all arguments, the program's ModelValid answers as the reference's and leaves its arguments alone. No condition. -/
import Derived.Test.YtgoaggojbcdgeaaMvM
import Derived.Test.YtgoaggojbcdgeaaMdQ
import Derived.Test.YtgoaggojbcdgeaaOpenM
import Derived.Test.YtgoaggojbcdgeaaOpen
import Derived.Test.YtgoaggojbcdgeaaFacts
import Derived.Deep.RegionHeld3
import Derived.Deep.RegionWith
namespace Go.Proofs.Ytgoaggojbcdgeaa.exactModelValid
open Go.ChangeShapes Go.WideShapes Go.ChangeAt Go.RowKit
set_option linter.unusedVariables false

set_option maxRecDepth 100000 in
set_option maxHeartbeats 4000000 in
theorem walk (Ax0 : Option Addr) (nx0 cx0 : Nat) (Bx0 : Option Addr) (mx0 qx0 : Nat) (vz0 : List Int) (rz0 : List Rl) (w : World) (hs0 : QI 0 w (Ax0, nx0, cx0) vz0) (hr0 : QRS 0 w (Bx0, mx0, qx0) rz0) :
    Calls Try.prog 8 #[.agg #[.slice Ax0 nx0 cx0, .slice Bx0 mx0 qx0]] w fun e w' => e = .returned (.bool true) ∧ Ext w w' := by
  have S0 := Lib.hid hs0
  have R0 := Lib.hid hr0
  clear hs0 hr0
  go_enter Try.func8, Try.ntmps8
  go_wp2_with fail
  refine (szModel_any Ax0 nx0 cx0 vz0 Bx0 mx0 qx0 rz0 _ _ (by omega) (by omega) (S0.out.ext ((Ext.refl _).alloc _)) (R0.out.ext ((Ext.refl _).alloc _))).mono ?_
  rintro e w1 ⟨y1, rfl, ylo1, yup1, hy1, hE1⟩
  have hC1 : Ext w w1 := ((Ext.refl _).alloc _).trans hE1
  have HE1 := Lib.hid (hC1)
  have K0 := Blk.of1 hE1
  have HB_p0 := Lib.hid K0
  clear K0
  clear hE1
  have HY1 := Lib.hid hy1
  clear hy1
  by_cases hb101 : y1 < 0
  · go_wp2
    go_ret
    exact ⟨rfl, HE1.out⟩
  have sm0 := Lib.hid (HY1.out (by omega))
  have ynn1 : 0 ≤ y1 := by omega
  have L_p0 := HB_p0.out
  have x_p0_0 := L_p0.cell 0
  have x_p0_1 := L_p0.cell 1
  clear L_p0
  go_wp2_with fail
  refine (toModel_any Ax0 nx0 cx0 vz0 Bx0 mx0 qx0 rz0 _ sm0.out (S0.out.ext HE1.out) (R0.out.ext HE1.out)).mono ?_
  rintro e w2 ⟨A2, n2, c2, B2, m2, q2, rfl, hI2, hR2, hE2⟩
  have hC2 : Ext w1 w2 := hE2
  have HE2 := Lib.hid (HE1.out.trans hC2)
  clear x_p0_0 x_p0_1
  clear hE2
  have I2 := Lib.hid (hI2.wide (lo' := 0) (Nat.zero_le _))
  have J2 := Lib.hid (hR2.wide (lo' := 0) (Nat.zero_le _))
  clear hI2 hR2
  go_wp2_with fail
  refine (specMV_any A2 n2 c2 vz0 B2 m2 q2 rz0 _ I2.out J2.out).mono ?_
  rintro e w3 ⟨bs, rfl, hbs, hE3⟩
  have HBS := Lib.hid hbs
  clear hbs
  have hC3 : Ext w2 w3 := hE3
  have HE3 := Lib.hid (HE2.out.trans hC3)
  clear hE3
  have L_p0 := HB_p0.out.ext (hC2.trans hC3)
  have x_p0_0 := L_p0.cell 0
  have x_p0_1 := L_p0.cell 1
  clear L_p0
  go_wp2_with fail
  refine (toModel_any Ax0 nx0 cx0 vz0 Bx0 mx0 qx0 rz0 _ sm0.out (S0.out.ext HE3.out) (R0.out.ext HE3.out)).mono ?_
  rintro e w4 ⟨A4, n4, c4, B4, m4, q4, rfl, hI4, hR4, hE4⟩
  have hC4 : Ext w3 w4 := hE4
  have HE4 := Lib.hid (HE3.out.trans hC4)
  clear x_p0_0 x_p0_1
  clear hE4
  have I4 := Lib.hid (hI4.wide (lo' := 0) (Nat.zero_le _))
  have J4 := Lib.hid (hR4.wide (lo' := 0) (Nat.zero_le _))
  clear hI4 hR4
  go_wp2_with fail
  refine (implMV_any A4 n4 c4 vz0 B4 m4 q4 rz0 _ (I4.out.ext ((Ext.refl _).alloc _)) (J4.out.ext ((Ext.refl _).alloc _))).mono ?_
  rintro e w5 ⟨bi, rfl, hbi, hE5⟩
  obtain rfl : bi = bs := by rw [Bool.eq_iff_iff, hbi, HBS.out]
  clear hbi HBS
  have hC5 : Ext w4 w5 := ((Ext.refl _).alloc _).trans hE5
  have HE5 := Lib.hid (HE4.out.trans hC5)
  have K0 := Blk.of1 hE5
  have HB_x0 := Lib.hid K0
  clear K0
  clear hE5
  have hq0 : Hid (moEq (vz0, rz0) (vz0, rz0) = true) := moEq_self _
  have L_x0 := HB_x0.out
  have L_p0 := HB_p0.out.ext (((hC2.trans hC3).trans hC4).trans hC5)
  have KS : Hid (∀ w', Ext w5 w' → (w'.cell? ⟨w4.heap.size, 0, none⟩ = some (.slice A4 n4 c4) ∧ w'.cell? ⟨w4.heap.size, 1, none⟩ = some (.slice B4 m4 q4) ∧ w'.cell? ⟨w.heap.size, 0, none⟩ = some (.slice Ax0 nx0 cx0) ∧ w'.cell? ⟨w.heap.size, 1, none⟩ = some (.slice Bx0 mx0 qx0))) := fun w' e => ⟨e.cell (L_x0.cell 0), e.cell (L_x0.cell 1), e.cell (L_p0.cell 0), e.cell (L_p0.cell 1)⟩
  have e1 : Ext w5 w5.drew := (Ext.refl _).drew
  clear L_x0 L_p0
  go_wp2_with fail
  go_region_held3 (fun w' => w'.cell? ⟨w4.heap.size, 0, none⟩ = some (.slice A4 n4 c4) ∧ w'.cell? ⟨w4.heap.size, 1, none⟩ = some (.slice B4 m4 q4) ∧ w'.cell? ⟨w.heap.size, 0, none⟩ = some (.slice Ax0 nx0 cx0) ∧ w'.cell? ⟨w.heap.size, 1, none⟩ = some (.slice Bx0 mx0 qx0))
    ((refine KS.out _ ?_; first | exact e1 | exact (e1.trans hE6) | exact ((e1.trans hE6).trans hE7)))
    ((first | (go_at_call_of 30 (Ax0); refine (toModel_any Ax0 nx0 cx0 vz0 Bx0 mx0 qx0 rz0 _ sm0.out (S0.out.ext (HE5.out.trans e1)) (R0.out.ext (HE5.out.trans e1))).mono ?_; rintro e w6 ⟨A6, n6, c6, B6, m6, q6, rfl, hI6, hR6, hE6⟩; have I6 := Lib.hid (hI6.wide (lo' := 0) (Nat.zero_le _)); have J6 := Lib.hid (hR6.wide (lo' := 0) (Nat.zero_le _)); clear hI6 hR6) | (go_at_call_of 32 (A4); refine (calls_val (eqModel_any A4 n4 c4 vz0 B4 m4 q4 rz0 A6 n6 c6 vz0 B6 m6 q6 rz0 _ (I4.out.ext (hC5.trans (e1.trans hE6))) (J4.out.ext (hC5.trans (e1.trans hE6))) I6.out J6.out) (congrArg Value.bool hq0.out)).mono ?_; rintro e w7 ⟨rfl, hE7⟩)))
  have hC6 : Ext w5 w6 := e1.trans hE6
  have HE6 := Lib.hid (HE5.out.trans hC6)
  have hC7 : Ext w6 w7 := hE7
  have HE7 := Lib.hid (HE6.out.trans hC7)
  clear KS e1 hE6 hE7
  go_wp2
  go_ret
  exact ⟨rfl, HE7.out⟩

theorem own : ownKnob Try.prog.godebug = none := by kernel_rfl
theorem laidOut : laidOutB Try.prog = true := by kernel_rfl

set_option maxRecDepth 100000 in
theorem lifted (os : Os) (started : os.Started) (H : Type) (enc : TypeId × Value → H) :
    ReturnsInHanded {} Try.checked os 8 .any (Rows.fnExactModelValidSpec.pre6 enc Try.prog Try.f8 Rows.fnExactModelValidRow.domain false) (Rows.fnExactModelValidSpec.post enc Try.prog Try.f8 false true false false) := by
  refine returnsInHanded_of_change (C := Try.checked) own started (by kernel_rfl) Try.func8
    (ChangeSpec.witness6 (enc := enc) (C := Try.checked) false ⟨#[], #[.agg #[.slice none 0 0, .slice none 0 0]], []⟩ 8 (by kernel_rfl) (by kernel_rfl) (by kernel_rfl) (by kernel_rfl)) ?_
  intro W base args ds gs before hval0 hW hcnd _
  have hval : ∀ (j : Nat) t v, Try.f8.params[j]? = some t → args[j]? = some v → Value.okWide Try.prog W .any base t v := hval0
  have hW' := hW
  obtain ⟨p, q, hA0, hV, rfl, hfz, hnd⟩ := hW
  have hA : DataW.TrodAll enc Try.prog W 0 (fun _ => true) true Try.f8.params.toList args.toList ds p := hA0
  rw [Try.params8] at hA hval
  obtain ⟨v0, vs0, d0, ds0, p0, q0, hargs, rfl, rfl, h0, r0⟩ := trodAll_cons hA
  obtain ⟨rfl, rfl, rfl⟩ := trodAll_nil r0
  obtain rfl : args = #[v0] := by cases args; simp_all
  obtain ⟨rfl, rfl⟩ := trodVars_none hV
  have k0 := h0
  have lt0 : ∀ x ∈ p0, x.block < W.heap.size := by obtain ⟨m, hm⟩ := k0; exact DataW.trod_lt m _ _ _ hm
  obtain ⟨A0, n0, cap0, B0, m0, c0, vz0, rz0, rfl, hs0, hr0⟩ := arg_model (hval 0 50 v0 rfl rfl) h0
  clear hA0 hval0
  refine (walk A0 n0 cap0 B0 m0 c0 vz0 rz0 W hs0 hr0).mono fun e W' ⟨he, ext⟩ => ?_
  subst he
  have bel := ext.below
  exact ⟨_, rfl, _, _, _, [], _, [], hW', trodAll_mk1 (shut_bool Try.underlying4 _), (trodAll_cons_mk (Below.trod laidOut (by kernel_rfl) (of_decide_eq_true (by kernel_rfl)) k0 bel lt0) trodAll_mk0), rfl, bel.frame _, fun h => by cases h⟩

set_option maxHeartbeats 4000000 in
theorem joined : joinedFacts Try.pinned.checked.prog 8 Try.f8 Rows.fnExactModelValidSpec Rows.fnExactModelValidRow = true := by
  unfold joinedFacts
  exact (and2 (and2 (and2 (and2 (and2 (and2 (and2 (and2 (and2 (and2 (and2 (and2 (and2 (and2 (and2 (and2 (and2 (and2 (and2 (and2 (and2 (and2 (and2 (and2 (and2 (and2 (and2 (and2 (and2 (and2 (and2 (by as_aux_lemma => kernel_rfl) (by as_aux_lemma => kernel_rfl)) (by as_aux_lemma => kernel_rfl)) (by as_aux_lemma => kernel_rfl)) (by as_aux_lemma => kernel_rfl)) (by as_aux_lemma => kernel_rfl)) (by as_aux_lemma => kernel_rfl)) (by as_aux_lemma => kernel_rfl)) (by as_aux_lemma => kernel_rfl)) (by as_aux_lemma => kernel_rfl)) (by as_aux_lemma => kernel_rfl)) (by as_aux_lemma => kernel_rfl)) (by as_aux_lemma => kernel_rfl)) (by as_aux_lemma => kernel_rfl)) (by as_aux_lemma => kernel_rfl)) (by as_aux_lemma => kernel_rfl)) (by as_aux_lemma => kernel_rfl)) (by as_aux_lemma => kernel_rfl)) (by as_aux_lemma => kernel_rfl)) (by as_aux_lemma => kernel_rfl)) (by as_aux_lemma => kernel_rfl)) (by as_aux_lemma => kernel_rfl)) (by as_aux_lemma => kernel_rfl)) (by as_aux_lemma => kernel_rfl)) (by as_aux_lemma => kernel_rfl)) jEnter) jLift) jMake) (by as_aux_lemma => kernel_rfl)) (by as_aux_lemma => kernel_rfl)) (by as_aux_lemma => kernel_rfl)) (by as_aux_lemma => kernel_rfl))

set_option maxHeartbeats 4000000 in
theorem over : Rows.fnExactModelValidRow.holds Try.pinned (OpenSpec.ofChange Rows.fnExactModelValidSpec) :=
  OpenClaim.holds_of_wide 8 Try.f8 rfl rfl rfl rfl rfl rfl rfl ⟨rfl, rfl, rfl, rfl, rfl⟩ rfl rfl rfl rfl rfl (by kernel_rfl) Try.func8 joined
    (of_decide_eq_true (by kernel_rfl)) (by unfold Func.isWrapper; first | (rw [if_pos (by decide +kernel)]; kernel_rfl) | (rw [if_neg (by decide +kernel)]; exact ⟨rfl, rfl⟩))
    (fun os started H enc _ => lifted os started H enc)

theorem proved : Rows.FnExactModelValidSaid := over

end Go.Proofs.Ytgoaggojbcdgeaa.exactModelValid
