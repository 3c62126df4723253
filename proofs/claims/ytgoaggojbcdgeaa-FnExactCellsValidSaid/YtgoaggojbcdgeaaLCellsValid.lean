/- laws.FnExactCellsValid: for all arguments, the program's CellsValid answers as the reference's and leaves its arguments alone. No condition. -/
import Derived.Test.YtgoaggojbcdgeaaCvM
import Derived.Test.YtgoaggojbcdgeaaMdQ
import Derived.Test.YtgoaggojbcdgeaaOpenM
import Derived.Test.YtgoaggojbcdgeaaOpen
import Derived.Test.YtgoaggojbcdgeaaFacts
import Derived.Deep.RegionHeld3
import Derived.Deep.RegionWith
namespace Go.Proofs.Ytgoaggojbcdgeaa.exactCellsValid
open Go.ChangeShapes Go.WideShapes Go.ChangeAt Go.RowKit
set_option linter.unusedVariables false

set_option maxRecDepth 100000 in
set_option maxHeartbeats 4000000 in
theorem walk (Ax0 : Option Addr) (nx0 cx0 : Nat) (Bx0 : Option Addr) (mx0 qx0 : Nat) (vz0 : List Int) (rz0 : List Rl) (Ax1 : Option Addr) (nx1 cx1 : Nat) (vz1 : List Int) (w : World) (hs0 : QI 0 w (Ax0, nx0, cx0) vz0) (hr0 : QRS 0 w (Bx0, mx0, qx0) rz0) (hnx1 : nx1 ≤ maxLen) (hs1 : Seg w 1 Ax1 nx1 (encI vz1)) :
    Calls Try.prog 9 #[.agg #[.slice Ax0 nx0 cx0, .slice Bx0 mx0 qx0], .slice Ax1 nx1 cx1] w fun e w' => e = .returned (.bool true) ∧ Ext w w' := by
  have HL1 : Hid (vz1.length = nx1) := hs1.lenI
  by_cases hb1 : 1048576 < nx1
  · clear hs0 hr0 hs1
    unfold maxLen at hnx1
    go_enter Try.func9, Try.ntmps9
    go_wp2
    go_ret
    exact ⟨rfl, by repeat (first | exact Ext.refl _ | refine Ext.alloc ?_ _)⟩
  have ms1 : nx1 ≤ 1048576 := by omega
  have smi1 : Hid (smI vz1) := by unfold Hid smI; rw [HL1.out]; exact ms1
  have S0 := Lib.hid hs0
  have R0 := Lib.hid hr0
  clear hs0 hr0
  have S1 := Lib.hid hs1
  clear hs1
  unfold maxLen at hnx1
  go_enter Try.func9, Try.ntmps9
  go_wp2_with fail
  refine (szModel_any Ax0 nx0 cx0 vz0 Bx0 mx0 qx0 rz0 _ _ (by omega) (by omega) (S0.out.ext ((Ext.refl _).alloc _)) (R0.out.ext ((Ext.refl _).alloc _))).mono ?_
  rintro e w1 ⟨y1, rfl, ylo1, yup1, hy1, hE1⟩
  have hC1 : Ext w w1 := ((Ext.refl _).alloc _).trans hE1
  have HE1 := Lib.hid (hC1)
  have K0 := Blk.of1 hE1
  have HB_p0 := Lib.hid K0
  clear K0
  clear hE1
  have HY1 := Lib.hid hy1
  clear hy1
  by_cases hb101 : y1 < 0
  · go_wp2
    go_ret
    exact ⟨rfl, HE1.out⟩
  have sm0 := Lib.hid (HY1.out (by omega))
  have ynn1 : 0 ≤ y1 := by omega
  have L_p0 := HB_p0.out
  have x_p0_0 := L_p0.cell 0
  have x_p0_1 := L_p0.cell 1
  clear L_p0
  go_wp2_with fail
  refine (toModel_any Ax0 nx0 cx0 vz0 Bx0 mx0 qx0 rz0 _ sm0.out (S0.out.ext HE1.out) (R0.out.ext HE1.out)).mono ?_
  rintro e w2 ⟨A2, n2, c2, B2, m2, q2, rfl, hI2, hR2, hE2⟩
  have hC2 : Ext w1 w2 := hE2
  have HE2 := Lib.hid (HE1.out.trans hC2)
  clear x_p0_0 x_p0_1
  clear hE2
  have I2 := Lib.hid (hI2.wide (lo' := 0) (Nat.zero_le _))
  have J2 := Lib.hid (hR2.wide (lo' := 0) (Nat.zero_le _))
  clear hI2 hR2
  go_wp2_with fail
  refine (toIntSc_any Ax1 nx1 cx1 vz1 _ ms1 (S1.out.ext HE2.out)).mono ?_
  rintro e w3 ⟨A3, n3, c3, rfl, hl3, hcc3, hG3, hE3⟩
  have hC3 : Ext w2 w3 := hE3
  have HE3 := Lib.hid (HE2.out.trans hC3)
  clear hE3
  have I3 := Lib.hid (QI.got (cap := c3) hl3 smi1.out hcc3 hG3 (lo := 0) (Nat.zero_le _))
  have hn3 : n3 ≤ 1048576 := by rw [← hl3, HL1.out]; exact ms1
  clear hG3 hl3 hcc3
  go_wp2_with fail
  refine (specCV_any A2 n2 c2 vz0 B2 m2 q2 rz0 A3 n3 c3 vz1 _ (I2.out.ext hC3) (J2.out.ext hC3) I3.out).mono ?_
  rintro e w4 ⟨bs, rfl, hbs, hE4⟩
  have HBS := Lib.hid hbs
  clear hbs
  have hC4 : Ext w3 w4 := hE4
  have HE4 := Lib.hid (HE3.out.trans hC4)
  clear hE4
  have L_p0 := HB_p0.out.ext ((hC2.trans hC3).trans hC4)
  have x_p0_0 := L_p0.cell 0
  have x_p0_1 := L_p0.cell 1
  clear L_p0
  go_wp2_with fail
  refine (toModel_any Ax0 nx0 cx0 vz0 Bx0 mx0 qx0 rz0 _ sm0.out (S0.out.ext HE4.out) (R0.out.ext HE4.out)).mono ?_
  rintro e w5 ⟨A5, n5, c5, B5, m5, q5, rfl, hI5, hR5, hE5⟩
  have hC5 : Ext w4 w5 := hE5
  have HE5 := Lib.hid (HE4.out.trans hC5)
  clear x_p0_0 x_p0_1
  clear hE5
  have I5 := Lib.hid (hI5.wide (lo' := 0) (Nat.zero_le _))
  have J5 := Lib.hid (hR5.wide (lo' := 0) (Nat.zero_le _))
  clear hI5 hR5
  go_wp2_with fail
  refine (toIntSc_any Ax1 nx1 cx1 vz1 _ ms1 ((S1.out.ext HE5.out).ext ((Ext.refl _).alloc _))).mono ?_
  rintro e w6 ⟨A6, n6, c6, rfl, hl6, hcc6, hG6, hE6⟩
  have hC6 : Ext w5 w6 := ((Ext.refl _).alloc _).trans hE6
  have HE6 := Lib.hid (HE5.out.trans hC6)
  have K0 := Blk.of1 hE6
  have HB_x0 := Lib.hid K0
  clear K0
  clear hE6
  have I6 := Lib.hid (QI.got (cap := c6) hl6 smi1.out hcc6 hG6 (lo := 0) (Nat.zero_le _))
  have hn6 : n6 ≤ 1048576 := by rw [← hl6, HL1.out]; exact ms1
  clear hG6 hl6 hcc6
  have L_x0 := HB_x0.out
  have x_x0_0 := L_x0.cell 0
  have x_x0_1 := L_x0.cell 1
  clear L_x0
  go_wp2_with fail
  refine (implCV_any A5 n5 c5 vz0 B5 m5 q5 rz0 A6 n6 c6 vz1 _ (I5.out.ext hC6) (J5.out.ext hC6) I6.out).mono ?_
  rintro e w7 ⟨bi, rfl, hbi, hE7⟩
  obtain rfl : bi = bs := by rw [Bool.eq_iff_iff, hbi, HBS.out]
  clear hbi HBS
  have hC7 : Ext w6 w7 := hE7
  have HE7 := Lib.hid (HE6.out.trans hC7)
  clear x_x0_0 x_x0_1
  clear hE7
  have hq0 : Hid (moEq (vz0, rz0) (vz0, rz0) = true) := moEq_self _
  have L_x0 := HB_x0.out.ext hC7
  have L_p0 := HB_p0.out.ext (((((hC2.trans hC3).trans hC4).trans hC5).trans hC6).trans hC7)
  have KS : Hid (∀ w', Ext w7 w' → (w'.cell? ⟨w5.heap.size, 0, none⟩ = some (.slice A5 n5 c5) ∧ w'.cell? ⟨w5.heap.size, 1, none⟩ = some (.slice B5 m5 q5) ∧ w'.cell? ⟨w.heap.size, 0, none⟩ = some (.slice Ax0 nx0 cx0) ∧ w'.cell? ⟨w.heap.size, 1, none⟩ = some (.slice Bx0 mx0 qx0))) := fun w' e => ⟨e.cell (L_x0.cell 0), e.cell (L_x0.cell 1), e.cell (L_p0.cell 0), e.cell (L_p0.cell 1)⟩
  have e1 : Ext w7 w7.drew := (Ext.refl _).drew
  clear L_x0 L_p0
  go_wp2_with fail
  go_region_held3 (fun w' => w'.cell? ⟨w5.heap.size, 0, none⟩ = some (.slice A5 n5 c5) ∧ w'.cell? ⟨w5.heap.size, 1, none⟩ = some (.slice B5 m5 q5) ∧ w'.cell? ⟨w.heap.size, 0, none⟩ = some (.slice Ax0 nx0 cx0) ∧ w'.cell? ⟨w.heap.size, 1, none⟩ = some (.slice Bx0 mx0 qx0))
    ((refine KS.out _ ?_; first | exact e1 | exact (e1.trans hE8) | exact ((e1.trans hE8).trans hE9)))
    ((first | (go_at_call_of 30 (Ax0); refine (toModel_any Ax0 nx0 cx0 vz0 Bx0 mx0 qx0 rz0 _ sm0.out (S0.out.ext (HE7.out.trans e1)) (R0.out.ext (HE7.out.trans e1))).mono ?_; rintro e w8 ⟨A8, n8, c8, B8, m8, q8, rfl, hI8, hR8, hE8⟩; have I8 := Lib.hid (hI8.wide (lo' := 0) (Nat.zero_le _)); have J8 := Lib.hid (hR8.wide (lo' := 0) (Nat.zero_le _)); clear hI8 hR8) | (go_at_call_of 32 (A5); refine (calls_val (eqModel_any A5 n5 c5 vz0 B5 m5 q5 rz0 A8 n8 c8 vz0 B8 m8 q8 rz0 _ (I5.out.ext ((hC6.trans hC7).trans (e1.trans hE8))) (J5.out.ext ((hC6.trans hC7).trans (e1.trans hE8))) I8.out J8.out) (congrArg Value.bool hq0.out)).mono ?_; rintro e w9 ⟨rfl, hE9⟩)))
  have hC8 : Ext w7 w8 := e1.trans hE8
  have HE8 := Lib.hid (HE7.out.trans hC8)
  have hC9 : Ext w8 w9 := hE9
  have HE9 := Lib.hid (HE8.out.trans hC9)
  clear KS e1 hE8 hE9
  go_wp2_with fail
  refine (toIntSc_any Ax1 nx1 cx1 vz1 _ ms1 (S1.out.ext HE9.out)).mono ?_
  rintro e w10 ⟨A10, n10, c10, rfl, hl10, hcc10, hG10, hE10⟩
  have hC10 : Ext w9 w10 := hE10
  have HE10 := Lib.hid (HE9.out.trans hC10)
  clear hE10
  have I10 := Lib.hid (QI.got (cap := c10) hl10 smi1.out hcc10 hG10 (lo := 0) (Nat.zero_le _))
  have hn10 : n10 ≤ 1048576 := by rw [← hl10, HL1.out]; exact ms1
  clear hG10 hl10 hcc10
  go_wp2_with fail
  refine (calls_val (eqIntS_any A6 n6 c6 vz1 A10 n10 c10 vz1 _ (I6.out.ext (((hC7.trans hC8).trans hC9).trans hC10)).1 (I6.out.ext (((hC7.trans hC8).trans hC9).trans hC10)).2.1 I10.out.1 I10.out.2.1) (congrArg Value.bool (iEq_self vz1))).mono ?_
  rintro e w11 ⟨rfl, hE11⟩
  have hC11 : Ext w10 w11 := hE11
  have HE11 := Lib.hid (HE10.out.trans hC11)
  clear hE11
  go_wp2
  go_ret
  exact ⟨rfl, HE11.out⟩

theorem own : ownKnob Try.prog.godebug = none := by kernel_rfl
theorem laidOut : laidOutB Try.prog = true := by kernel_rfl

set_option maxRecDepth 100000 in
theorem lifted (os : Os) (started : os.Started) (H : Type) (enc : TypeId × Value → H) :
    ReturnsInHanded {} Try.checked os 9 .any (Rows.fnExactCellsValidSpec.pre6 enc Try.prog Try.f9 Rows.fnExactCellsValidRow.domain false) (Rows.fnExactCellsValidSpec.post enc Try.prog Try.f9 false true false false) := by
  refine returnsInHanded_of_change (C := Try.checked) own started (by kernel_rfl) Try.func9
    (ChangeSpec.witness6 (enc := enc) (C := Try.checked) false ⟨#[], #[.agg #[.slice none 0 0, .slice none 0 0], .slice none 0 0], []⟩ 8 (by kernel_rfl) (by kernel_rfl) (by kernel_rfl) (by kernel_rfl)) ?_
  intro W base args ds gs before hval0 hW hcnd _
  have hval : ∀ (j : Nat) t v, Try.f9.params[j]? = some t → args[j]? = some v → Value.okWide Try.prog W .any base t v := hval0
  have hW' := hW
  obtain ⟨p, q, hA0, hV, rfl, hfz, hnd⟩ := hW
  have hA : DataW.TrodAll enc Try.prog W 0 (fun _ => true) true Try.f9.params.toList args.toList ds p := hA0
  rw [Try.params9] at hA hval
  obtain ⟨v0, vs0, d0, ds0, p0, q0, hargs, rfl, rfl, h0, r0⟩ := trodAll_cons hA
  obtain ⟨v1, vs1, d1, ds1, p1, q1, rfl, rfl, rfl, h1, r1⟩ := trodAll_cons r0
  obtain ⟨rfl, rfl, rfl⟩ := trodAll_nil r1
  obtain rfl : args = #[v0, v1] := by cases args; simp_all
  obtain ⟨rfl, rfl⟩ := trodVars_none hV
  have k0 := h0
  have lt0 : ∀ x ∈ p0, x.block < W.heap.size := by obtain ⟨m, hm⟩ := k0; exact DataW.trod_lt m _ _ _ hm
  obtain ⟨A0, n0, cap0, B0, m0, c0, vz0, rz0, rfl, hs0, hr0⟩ := arg_model (hval 0 50 v0 rfl rfl) h0
  have k1 := h1
  have lt1 : ∀ x ∈ p1, x.block < W.heap.size := by obtain ⟨m, hm⟩ := k1; exact DataW.trod_lt m _ _ _ hm
  obtain ⟨A1, n1, cap1, zs1, rfl, hn1, hs1⟩ := arg_ints (hval 1 22 v1 rfl rfl) h1
  clear hA0 hval0
  refine (walk A0 n0 cap0 B0 m0 c0 vz0 rz0 A1 n1 cap1 zs1 W hs0 hr0 hn1 hs1).mono fun e W' ⟨he, ext⟩ => ?_
  subst he
  have bel := ext.below
  exact ⟨_, rfl, _, _, _, [], _, [], hW', trodAll_mk1 (shut_bool Try.underlying4 _), (trodAll_cons_mk (Below.trod laidOut (by kernel_rfl) (of_decide_eq_true (by kernel_rfl)) k0 bel lt0) (trodAll_cons_mk (Below.trod laidOut (by kernel_rfl) (of_decide_eq_true (by kernel_rfl)) k1 bel lt1) trodAll_mk0)), rfl, bel.frame _, fun h => by cases h⟩

set_option maxHeartbeats 4000000 in
theorem joined : joinedFacts Try.pinned.checked.prog 9 Try.f9 Rows.fnExactCellsValidSpec Rows.fnExactCellsValidRow = true := by
  unfold joinedFacts
  exact (and2 (and2 (and2 (and2 (and2 (and2 (and2 (and2 (and2 (and2 (and2 (and2 (and2 (and2 (and2 (and2 (and2 (and2 (and2 (and2 (and2 (and2 (and2 (and2 (and2 (and2 (and2 (and2 (and2 (and2 (and2 (by as_aux_lemma => kernel_rfl) (by as_aux_lemma => kernel_rfl)) (by as_aux_lemma => kernel_rfl)) (by as_aux_lemma => kernel_rfl)) (by as_aux_lemma => kernel_rfl)) (by as_aux_lemma => kernel_rfl)) (by as_aux_lemma => kernel_rfl)) (by as_aux_lemma => kernel_rfl)) (by as_aux_lemma => kernel_rfl)) (by as_aux_lemma => kernel_rfl)) (by as_aux_lemma => kernel_rfl)) (by as_aux_lemma => kernel_rfl)) (by as_aux_lemma => kernel_rfl)) (by as_aux_lemma => kernel_rfl)) (by as_aux_lemma => kernel_rfl)) (by as_aux_lemma => kernel_rfl)) (by as_aux_lemma => kernel_rfl)) (by as_aux_lemma => kernel_rfl)) (by as_aux_lemma => kernel_rfl)) (by as_aux_lemma => kernel_rfl)) (by as_aux_lemma => kernel_rfl)) (by as_aux_lemma => kernel_rfl)) (by as_aux_lemma => kernel_rfl)) (by as_aux_lemma => kernel_rfl)) (by as_aux_lemma => kernel_rfl)) jEnter) jLift) jMake) (by as_aux_lemma => kernel_rfl)) (by as_aux_lemma => kernel_rfl)) (by as_aux_lemma => kernel_rfl)) (by as_aux_lemma => kernel_rfl))

set_option maxHeartbeats 4000000 in
theorem over : Rows.fnExactCellsValidRow.holds Try.pinned (OpenSpec.ofChange Rows.fnExactCellsValidSpec) :=
  OpenClaim.holds_of_wide 9 Try.f9 rfl rfl rfl rfl rfl rfl rfl ⟨rfl, rfl, rfl, rfl, rfl⟩ rfl rfl rfl rfl rfl (by kernel_rfl) Try.func9 joined
    (of_decide_eq_true (by kernel_rfl)) (by unfold Func.isWrapper; first | (rw [if_pos (by decide +kernel)]; kernel_rfl) | (rw [if_neg (by decide +kernel)]; exact ⟨rfl, rfl⟩))
    (fun os started H enc _ => lifted os started H enc)

theorem proved : Rows.FnExactCellsValidSaid := over

end Go.Proofs.Ytgoaggojbcdgeaa.exactCellsValid
