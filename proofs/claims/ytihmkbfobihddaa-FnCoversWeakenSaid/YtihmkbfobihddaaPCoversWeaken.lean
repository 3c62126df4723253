/- laws.FnCoversWeaken: for all bytes, the program's WeakenConstraint returns what the reference's returns, and the drawn constraint covers it unless its bound is 0. No condition. -/
import Derived.Test.YtihmkbfobihddaaRdW
import Derived.Test.YtihmkbfobihddaaPlS
import Derived.Test.YtihmkbfobihddaaSameC
import Derived.Test.YtihmkbfobihddaaOpenY
namespace Go.Proofs.Ytihmkbfobihddaa.coversWeaken
open Go.ChangeShapes Go.WideShapes Go.ChangeAt Go.RowKit
set_option linter.unusedVariables false

set_option maxRecDepth 100000 in
set_option maxHeartbeats 4000000 in
theorem walk (A0 : Option Addr) (n0 cap0 : Nat) (zs0 : List Int) (w : World) (hn0 : n0 ≤ maxLen) (hc0 : n0 ≤ cap0) (hs0 : Seg w 1 A0 n0 (encY zs0)) (hb0 : bytesB zs0) :
    Calls Try.prog 8 #[.slice A0 n0 cap0] w fun e w' => e = .returned (.bool true) ∧ Ext w w' := by
  by_cases hbig : 1048576 < n0
  · clear hs0
    go_enter Try.func8, Try.ntmps8
    go_wp2
    go_ret
    exact ⟨rfl, Ext.refl _⟩
  go_enter Try.func8, Try.ntmps8
  go_wp2_with fail
  refine (drawWk_any A0 n0 cap0 zs0 _ hn0 hc0 hs0 hb0).mono ?_
  rintro e w1 ⟨A1a, n1a, c1a, ts1a, bd1a, z1b, rfl, hl1a, hm1a, hg1a, hE1⟩
  have hC1 : Ext w w1 := hE1
  have ze1 := hC1.size
  clear hE1
  have hn1a : n1a ≤ maxLen := by unfold maxLen; omega
  have HL1a := Lib.hid hl1a
  have hG1a := Lib.hid hg1a
  clear hl1a hg1a
  by_cases hv : wkB ts1a bd1a z1b = true
  · have HV := Lib.hid hv
    clear hv
    go_wp2_with fail
    refine Calls.mono ((implWk_any A1a n1a c1a ts1a bd1a z1b _ hn1a (hG1a.out.seg.ext ((Ext.refl _).alloc _)) ).mono fun _ _ h => h.of_eq (wcT_of HV.out) (wcD_of HV.out) HV.out) ?_
    rintro e w2 ⟨A2, n2, c2, rfl, hl2, hg2, hE2⟩
    have hC2 : Ext w1 w2 := ((Ext.refl _).alloc _).trans hE2
    have ze2 := hC2.size
    have B_x0 := Lib.hid (Blk.of1 hE2)
    have zb_x0 := B_x0.out.lt
    clear hE2
    have hG2 := Lib.hid hg2
    have HL2 := Lib.hid hl2
    have hs2 : n2 ≤ 1048576 := (by rw [← hl2]; exact by rw [← (wcT_of HV.out)]; exact wcT_len ts1a bd1a z1b)
    have hn2 : n2 ≤ maxLen := (Nat.le_trans hs2 (by unfold maxLen; omega))
    clear hg2 hl2
    have L_x0 := B_x0.out
    have c_x0_0 := L_x0.cell 0
    have c_x0_1 := L_x0.cell 1
    have l_x0 := L_x0.lt
    clear L_x0
    go_wp2_with fail
    refine Calls.mono ((specWk_any A1a n1a c1a ts1a bd1a z1b _ hn1a ((hG1a.out.seg.ext hC2).ext ((Ext.refl _).alloc _)) ).mono fun _ _ h => h.of_eq (wcT_of HV.out) (wcD_of HV.out) HV.out) ?_
    rintro e w3 ⟨A3, n3, c3, rfl, hl3, hg3, hE3⟩
    have hC3 : Ext w2 w3 := ((Ext.refl _).alloc _).trans hE3
    have ze3 := hC3.size
    have B_x1 := Lib.hid (Blk.of1 hE3)
    have zb_x1 := B_x1.out.lt
    clear c_x0_0 c_x0_1 l_x0
    clear hE3
    have hG3 := Lib.hid hg3
    have HL3 := Lib.hid hl3
    have hs3 : n3 ≤ 1048576 := (by rw [← hl3]; exact by rw [← (wcT_of HV.out)]; exact wcT_len ts1a bd1a z1b)
    have hn3 : n3 ≤ maxLen := (Nat.le_trans hs3 (by unfold maxLen; omega))
    clear hg3 hl3
    have HW := Lib.hid (covers_wk (wkB_cv HV.out) z1b)
    by_cases hc : coversB ts1a bd1a (wkMap ts1a z1b) (wkD ts1a bd1a z1b) = true
    · have HC := Lib.hid hc
      clear hc
      have L_x1 := B_x1.out
      have c_x1_0 := L_x1.cell 0
      have c_x1_1 := L_x1.cell 1
      have l_x1 := L_x1.lt
      clear L_x1
      go_wp2_with fail
      refine (calls_val (implCS2 A2 n2 c2 (wkMap ts1a z1b) (wkD ts1a bd1a z1b) A3 n3 c3 (wkMap ts1a z1b) (wkD ts1a bd1a z1b) _ hn2 ((hG2.out.seg.ext hC3).ext ((Ext.refl _).alloc _)) hn3 (hG3.out.seg.ext ((Ext.refl _).alloc _))) (congrArg Value.bool (cEq_self _ _))).mono ?_
      rintro e w4 ⟨rfl, hE4⟩
      have hC4 : Ext w3 w4 := ((Ext.refl _).alloc _).trans hE4
      have ze4 := hC4.size
      have B_x2 := Lib.hid (Blk.of1 hE4)
      have zb_x2 := B_x2.out.lt
      clear c_x1_0 c_x1_1 l_x1
      clear hE4
      have L_x0 := (B_x0.out.ext (hC3.trans hC4))
      have c_x0_0 := L_x0.cell 0
      have c_x0_1 := L_x0.cell 1
      clear L_x0
      have L_x1 := (B_x1.out.ext hC4)
      have c_x1_0 := L_x1.cell 0
      have c_x1_1 := L_x1.cell 1
      clear L_x1
      go_wp2_with fail
      refine (calls_val (implCov_any A1a n1a c1a ts1a bd1a A2 n2 c2 (wkMap ts1a z1b) (wkD ts1a bd1a z1b) _ hn1a (hG1a.out.seg.ext ((hC2.trans hC3).trans hC4)) hn2 (hG2.out.seg.ext (hC3.trans hC4))) (congrArg Value.bool HC.out)).mono ?_
      rintro e w5 ⟨rfl, hE5⟩
      have hC5 : Ext w4 w5 := hE5
      have ze5 := hC5.size
      clear c_x0_0 c_x0_1 c_x1_0 c_x1_1
      clear hE5
      go_wp2
      go_ret
      exact ⟨rfl, ((((hC1.trans hC2).trans hC3).trans hC4).trans hC5)⟩
    · have HC := Lib.hid (show coversB ts1a bd1a (wkMap ts1a z1b) (wkD ts1a bd1a z1b) = false by simpa using hc)
      clear hc
      have H0 : Hid ((wkD ts1a bd1a z1b == 0) = true) := by have := HW.out; rw [HC.out, Bool.false_or] at this; exact this
      have L_x1 := B_x1.out
      have c_x1_0 := L_x1.cell 0
      have c_x1_1 := L_x1.cell 1
      have l_x1 := L_x1.lt
      clear L_x1
      go_wp2_with fail
      refine (calls_val (implCS2 A2 n2 c2 (wkMap ts1a z1b) (wkD ts1a bd1a z1b) A3 n3 c3 (wkMap ts1a z1b) (wkD ts1a bd1a z1b) _ hn2 ((hG2.out.seg.ext hC3).ext ((Ext.refl _).alloc _)) hn3 (hG3.out.seg.ext ((Ext.refl _).alloc _))) (congrArg Value.bool (cEq_self _ _))).mono ?_
      rintro e w4 ⟨rfl, hE4⟩
      have hC4 : Ext w3 w4 := ((Ext.refl _).alloc _).trans hE4
      have ze4 := hC4.size
      have B_x2 := Lib.hid (Blk.of1 hE4)
      have zb_x2 := B_x2.out.lt
      clear c_x1_0 c_x1_1 l_x1
      clear hE4
      have L_x0 := (B_x0.out.ext (hC3.trans hC4))
      have c_x0_0 := L_x0.cell 0
      have c_x0_1 := L_x0.cell 1
      clear L_x0
      have L_x1 := (B_x1.out.ext hC4)
      have c_x1_0 := L_x1.cell 0
      have c_x1_1 := L_x1.cell 1
      clear L_x1
      go_wp2_with fail
      refine (calls_val (implCov_any A1a n1a c1a ts1a bd1a A2 n2 c2 (wkMap ts1a z1b) (wkD ts1a bd1a z1b) _ hn1a (hG1a.out.seg.ext ((hC2.trans hC3).trans hC4)) hn2 (hG2.out.seg.ext (hC3.trans hC4))) (congrArg Value.bool HC.out)).mono ?_
      rintro e w5 ⟨rfl, hE5⟩
      have hC5 : Ext w4 w5 := hE5
      have ze5 := hC5.size
      clear c_x0_0 c_x0_1 c_x1_0 c_x1_1
      clear hE5
      have L_x1 := (B_x1.out.ext (hC4.trans hC5))
      have c_x1_0 := L_x1.cell 0
      have c_x1_1 := L_x1.cell 1
      clear L_x1
      go_wp2
      go_ret
      exact ⟨ret_b H0.out, ((((hC1.trans hC2).trans hC3).trans hC4).trans hC5)⟩
  · have HV := Lib.hid (show wkB ts1a bd1a z1b = false by simpa using hv)
    clear hv
    go_wp2_with fail
    refine Calls.mono ((implWk_any A1a n1a c1a ts1a bd1a z1b _ hn1a (hG1a.out.seg.ext ((Ext.refl _).alloc _)) ).mono fun _ _ h => h.of_eq (wcT_no HV.out) (wcD_no HV.out) HV.out) ?_
    rintro e w2 ⟨A2, n2, c2, rfl, hl2, hg2, hE2⟩
    have hC2 : Ext w1 w2 := ((Ext.refl _).alloc _).trans hE2
    have ze2 := hC2.size
    have B_x0 := Lib.hid (Blk.of1 hE2)
    have zb_x0 := B_x0.out.lt
    clear hE2
    have hG2 := Lib.hid hg2
    have HL2 := Lib.hid hl2
    have hs2 : n2 ≤ 1048576 := (by rw [← hl2]; exact by rw [← (wcT_no HV.out)]; exact wcT_len ts1a bd1a z1b)
    have hn2 : n2 ≤ maxLen := (Nat.le_trans hs2 (by unfold maxLen; omega))
    clear hg2 hl2
    have L_x0 := B_x0.out
    have c_x0_0 := L_x0.cell 0
    have c_x0_1 := L_x0.cell 1
    have l_x0 := L_x0.lt
    clear L_x0
    go_wp2_with fail
    refine Calls.mono ((specWk_any A1a n1a c1a ts1a bd1a z1b _ hn1a ((hG1a.out.seg.ext hC2).ext ((Ext.refl _).alloc _)) ).mono fun _ _ h => h.of_eq (wcT_no HV.out) (wcD_no HV.out) HV.out) ?_
    rintro e w3 ⟨A3, n3, c3, rfl, hl3, hg3, hE3⟩
    have hC3 : Ext w2 w3 := ((Ext.refl _).alloc _).trans hE3
    have ze3 := hC3.size
    have B_x1 := Lib.hid (Blk.of1 hE3)
    have zb_x1 := B_x1.out.lt
    clear c_x0_0 c_x0_1 l_x0
    clear hE3
    have hG3 := Lib.hid hg3
    have HL3 := Lib.hid hl3
    have hs3 : n3 ≤ 1048576 := (by rw [← hl3]; exact by rw [← (wcT_no HV.out)]; exact wcT_len ts1a bd1a z1b)
    have hn3 : n3 ≤ maxLen := (Nat.le_trans hs3 (by unfold maxLen; omega))
    clear hg3 hl3
    have L_x1 := B_x1.out
    have c_x1_0 := L_x1.cell 0
    have c_x1_1 := L_x1.cell 1
    have l_x1 := L_x1.lt
    clear L_x1
    go_wp2_with fail
    refine (calls_val (implCS2 A2 n2 c2 ([]) 0 A3 n3 c3 ([]) 0 _ hn2 ((hG2.out.seg.ext hC3).ext ((Ext.refl _).alloc _)) hn3 (hG3.out.seg.ext ((Ext.refl _).alloc _))) (congrArg Value.bool (cEq_self _ _))).mono ?_
    rintro e w4 ⟨rfl, hE4⟩
    have hC4 : Ext w3 w4 := ((Ext.refl _).alloc _).trans hE4
    have ze4 := hC4.size
    have B_x2 := Lib.hid (Blk.of1 hE4)
    have zb_x2 := B_x2.out.lt
    clear c_x1_0 c_x1_1 l_x1
    clear hE4
    have L_x1 := (B_x1.out.ext hC4)
    have c_x1_0 := L_x1.cell 0
    have c_x1_1 := L_x1.cell 1
    clear L_x1
    have L_x2 := B_x2.out
    have c_x2_0 := L_x2.cell 0
    have c_x2_1 := L_x2.cell 1
    clear L_x2
    go_wp2_with fail
    refine (calls_val (implCS2 A2 n2 c2 ([]) 0 A3 n3 c3 ([]) 0 _ hn2 (hG2.out.seg.ext (hC3.trans hC4)) hn3 (hG3.out.seg.ext hC4)) (congrArg Value.bool (cEq_self _ _))).mono ?_
    rintro e w5 ⟨rfl, hE5⟩
    have hC5 : Ext w4 w5 := hE5
    have ze5 := hC5.size
    clear c_x1_0 c_x1_1 c_x2_0 c_x2_1
    clear hE5
    go_wp2
    go_ret
    exact ⟨rfl, ((((hC1.trans hC2).trans hC3).trans hC4).trans hC5)⟩

theorem own : ownKnob Try.prog.godebug = none := by kernel_rfl
theorem laidOut : laidOutB Try.prog = true := by kernel_rfl

set_option maxRecDepth 100000 in
theorem lifted (os : Os) (started : os.Started) (H : Type) (enc : TypeId × Value → H) :
    ReturnsInHanded {} Try.checked os 8 .any (Rows.fnCoversWeakenSpec.pre6 enc Try.prog Try.f8 Rows.fnCoversWeakenRow.domain false) (Rows.fnCoversWeakenSpec.post enc Try.prog Try.f8 false true false false) := by
  refine returnsInHanded_of_change (C := Try.checked) own started (by kernel_rfl) Try.func8
    (ChangeSpec.witness6 (enc := enc) (C := Try.checked) false ⟨#[], #[.slice none 0 0], []⟩ 8 (by kernel_rfl) (by kernel_rfl) (by kernel_rfl) (by kernel_rfl)) ?_
  intro W base args ds gs before hval0 hW hcnd _
  have hval : ∀ (j : Nat) t v, Try.f8.params[j]? = some t → args[j]? = some v → Value.okWide Try.prog W .any base t v := hval0
  have hW' := hW
  obtain ⟨p, q, hA0, hV, rfl, hfz, hnd⟩ := hW
  have hA : DataW.TrodAll enc Try.prog W 0 (fun _ => true) true Try.f8.params.toList args.toList ds p := hA0
  rw [Try.params8] at hA hval
  obtain ⟨v0, vs0, d0, ds0, p0, q0, hargs, rfl, rfl, h0, r0⟩ := trodAll_cons hA
  obtain ⟨rfl, rfl, rfl⟩ := trodAll_nil r0
  obtain rfl : args = #[v0] := by cases args; simp_all
  obtain ⟨rfl, rfl⟩ := trodVars_none hV
  have k0 := h0
  have lt0 : ∀ x ∈ p0, x.block < W.heap.size := by obtain ⟨m, hm⟩ := k0; exact DataW.trod_lt m _ _ _ hm
  obtain ⟨A0, n0, cap0, zs0, rfl, hn0, hc0, hs0, hb0⟩ := arg_bytes (hval 0 22 v0 rfl rfl) h0
  clear hA0 hval0
  refine (walk A0 n0 cap0 zs0 W hn0 hc0 hs0 hb0).mono fun e W' ⟨he, ext⟩ => ?_
  subst he
  have bel := ext.below
  exact ⟨_, rfl, _, _, _, [], _, [], hW', trodAll_mk1 (shut_bool Try.underlying4 _), (trodAll_cons_mk (Below.trod laidOut (by kernel_rfl) (of_decide_eq_true (by kernel_rfl)) k0 bel lt0) trodAll_mk0), rfl, bel.frame _, fun h => by cases h⟩

theorem over : Rows.fnCoversWeakenRow.holds Try.pinned (OpenSpec.ofChange Rows.fnCoversWeakenSpec) :=
  OpenClaim.holds_of_wide 8 Try.f8 rfl rfl rfl rfl rfl rfl rfl ⟨rfl, rfl, rfl, rfl, rfl⟩ rfl rfl rfl rfl rfl (by kernel_rfl) Try.func8 (by kernel_rfl)
    (of_decide_eq_true (by kernel_rfl)) (by unfold Func.isWrapper; first | (rw [if_pos (by decide +kernel)]; kernel_rfl) | (rw [if_neg (by decide +kernel)]; exact ⟨rfl, rfl⟩))
    (fun os started H enc _ => lifted os started H enc)

theorem proved : Rows.FnCoversWeakenSaid := over

end Go.Proofs.Ytihmkbfobihddaa.coversWeaken
