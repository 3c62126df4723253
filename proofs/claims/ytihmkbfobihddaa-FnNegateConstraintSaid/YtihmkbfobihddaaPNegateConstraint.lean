/- laws.FnNegateConstraint: for all bytes, the program's NegateConstraint returns what the reference's returns, a valid constraint that just the values satisfy that do not satisfy the drawn one. No condition. -/
import Derived.Test.YtihmkbfobihddaaRdV
import Derived.Test.YtihmkbfobihddaaPlN
import Derived.Test.YtihmkbfobihddaaSameC
import Derived.Test.YtihmkbfobihddaaOpenY
namespace Go.Proofs.Ytihmkbfobihddaa.negateConstraint
open Go.ChangeShapes Go.WideShapes Go.ChangeAt Go.RowKit
set_option linter.unusedVariables false

set_option maxRecDepth 100000 in
set_option maxHeartbeats 4000000 in
theorem walk (A0 : Option Addr) (n0 cap0 : Nat) (zs0 : List Int) (w : World) (hn0 : n0 ≤ maxLen) (hc0 : n0 ≤ cap0) (hs0 : Seg w 1 A0 n0 (encY zs0)) (hb0 : bytesB zs0) :
    Calls Try.prog 9 #[.slice A0 n0 cap0] w fun e w' => e = .returned (.bool true) ∧ Ext w w' := by
  by_cases hbig : 1048576 < n0
  · clear hs0
    go_enter Try.func9, Try.ntmps9
    go_wp2
    go_ret
    exact ⟨rfl, Ext.refl _⟩
  go_enter Try.func9, Try.ntmps9
  go_wp2_with fail
  refine (drawEval_any A0 n0 cap0 zs0 _ hn0 hc0 hs0 hb0).mono ?_
  rintro e w1 ⟨A1a, n1a, c1a, ts1a, bd1a, A1b, n1b, c1b, vs1b, rfl, hl1a, hm1a, hl1b, hm1b, hg1a, hg1b, hE1⟩
  have hC1 : Ext w w1 := hE1
  have ze1 := hC1.size
  clear hE1
  have hn1a : n1a ≤ maxLen := by unfold maxLen; omega
  have HL1a := Lib.hid hl1a
  have hG1a := Lib.hid hg1a
  clear hl1a hg1a
  have hn1b : n1b ≤ maxLen := by unfold maxLen; omega
  have HL1b := Lib.hid hl1b
  have hG1b := Lib.hid hg1b
  clear hl1b hg1b
  by_cases hv : cvB ts1a bd1a = true
  · have HV := Lib.hid hv
    clear hv
    go_wp2_with fail
    refine Calls.mono ((implNeg_any A1a n1a c1a ts1a bd1a _ hn1a (hG1a.out.seg.ext ((Ext.refl _).alloc _))).mono fun _ _ h => h.of_eq (ngT_of HV.out) (ngD_of HV.out) HV.out) ?_
    rintro e w2 ⟨A2, n2, c2, rfl, hl2, hg2, hE2⟩
    have hC2 : Ext w1 w2 := ((Ext.refl _).alloc _).trans hE2
    have ze2 := hC2.size
    have B_x0 := Lib.hid (Blk.of1 hE2)
    have zb_x0 := B_x0.out.lt
    clear hE2
    have hG2 := Lib.hid hg2
    have HL2 := Lib.hid hl2
    have hs2 : n2 ≤ 1048576 := (by rw [← hl2]; exact by rw [← (ngT_of HV.out)]; exact ngT_len ts1a bd1a)
    have hn2 : n2 ≤ maxLen := (Nat.le_trans hs2 (by unfold maxLen; omega))
    clear hg2 hl2
    have L_x0 := B_x0.out
    have c_x0_0 := L_x0.cell 0
    have c_x0_1 := L_x0.cell 1
    have l_x0 := L_x0.lt
    clear L_x0
    go_wp2_with fail
    refine Calls.mono ((specNeg_any A1a n1a c1a ts1a bd1a _ hn1a ((hG1a.out.seg.ext hC2).ext ((Ext.refl _).alloc _))).mono fun _ _ h => h.of_eq (ngT_of HV.out) (ngD_of HV.out) HV.out) ?_
    rintro e w3 ⟨A3, n3, c3, rfl, hl3, hg3, hE3⟩
    have hC3 : Ext w2 w3 := ((Ext.refl _).alloc _).trans hE3
    have ze3 := hC3.size
    have B_x1 := Lib.hid (Blk.of1 hE3)
    have zb_x1 := B_x1.out.lt
    clear c_x0_0 c_x0_1 l_x0
    clear hE3
    have hG3 := Lib.hid hg3
    have HL3 := Lib.hid hl3
    have hs3 : n3 ≤ 1048576 := (by rw [← hl3]; exact by rw [← (ngT_of HV.out)]; exact ngT_len ts1a bd1a)
    have hn3 : n3 ≤ maxLen := (Nat.le_trans hs3 (by unfold maxLen; omega))
    clear hg3 hl3
    by_cases h12 : n1b = 12
    · have HL12 := Lib.hid (show vs1b.length = 12 by rw [HL1b.out]; exact h12)
      subst h12
      have HN := Lib.hid (cvB_neg HV.out)
      obtain ⟨e1, he1⟩ : ∃ b, Hid (evB ts1a bd1a vs1b = b) := ⟨_, rfl⟩
      obtain ⟨e2, he2⟩ : ∃ b, Hid (evB (negT ts1a) (negD ts1a bd1a) vs1b = b) := ⟨_, rfl⟩
      have HX : Hid ((e2 != e1) = true) := by have := neg_eval HV.out HL12.out; rw [he1.out, he2.out] at this; exact this
      have L_x1 := B_x1.out
      have c_x1_0 := L_x1.cell 0
      have c_x1_1 := L_x1.cell 1
      have l_x1 := L_x1.lt
      clear L_x1
      go_wp2_with fail
      refine (calls_val (implCS2 A2 n2 c2 (negT ts1a) (negD ts1a bd1a) A3 n3 c3 (negT ts1a) (negD ts1a bd1a) _ hn2 ((hG2.out.seg.ext hC3).ext ((Ext.refl _).alloc _)) hn3 (hG3.out.seg.ext ((Ext.refl _).alloc _))) (congrArg Value.bool (cEq_self _ _))).mono ?_
      rintro e w4 ⟨rfl, hE4⟩
      have hC4 : Ext w3 w4 := ((Ext.refl _).alloc _).trans hE4
      have ze4 := hC4.size
      have B_x2 := Lib.hid (Blk.of1 hE4)
      have zb_x2 := B_x2.out.lt
      clear c_x1_0 c_x1_1 l_x1
      clear hE4
      go_wp2_with fail
      have L_x1 : Blk w4 w2.heap.size 33 #[.slice A2 n2 c2, .int .i64 (negD ts1a bd1a)] := (B_x1.out.ext hC4)
      have c_x1_0 : ∀ p : ExtBy w4, p.to.cell? ⟨w2.heap.size, 0, none⟩ = some (.slice A2 n2 c2) := fun p => p.cell (L_x1.cell 0)
      have c_x1_1 : ∀ p : ExtBy w4, p.to.cell? ⟨w2.heap.size, 1, none⟩ = some (.int .i64 (negD ts1a bd1a)) := fun p => p.cell (L_x1.cell 1)
      clear L_x1
      have L_x0 : Blk w4 w1.heap.size 33 #[.slice A1a n1a c1a, .int .i64 bd1a] := (B_x0.out.ext (hC3.trans hC4))
      have c_x0_0 : ∀ p : ExtBy w4, p.to.cell? ⟨w1.heap.size, 0, none⟩ = some (.slice A1a n1a c1a) := fun p => p.cell (L_x0.cell 0)
      have c_x0_1 : ∀ p : ExtBy w4, p.to.cell? ⟨w1.heap.size, 1, none⟩ = some (.int .i64 bd1a) := fun p => p.cell (L_x0.cell 1)
      clear L_x0
      refine wp_region_ext_lit (by kernel_rfl) (by kernel_rfl) ?_
      repeat (go_big_quiet_step (first | (go_at_call_of 24 (A2); exact ext_call (calls_val (implCV_any A2 n2 c2 (negT ts1a) (negD ts1a bd1a) _ hn2 ((hG2.out.seg.ext (hC3.trans hC4)).ext (ExtBy.ext _))) (congrArg Value.bool HN.out))) | (go_at_call_of 25 (A2); exact ext_call (calls_val (implEV_any A2 n2 c2 (negT ts1a) (negD ts1a bd1a) A1b 12 c1b vs1b _ hn2 ((hG2.out.seg.ext (hC3.trans hC4)).ext (ExtBy.ext _)) hn1b ((hG1b.out.seg.ext ((hC2.trans hC3).trans hC4)).ext (ExtBy.ext _))) (congrArg Value.bool he2.out))) | (go_at_call_of 25 (A1a); exact ext_call (calls_val (implEV_any A1a n1a c1a ts1a bd1a A1b 12 c1b vs1b _ hn1a ((hG1a.out.seg.ext ((hC2.trans hC3).trans hC4)).ext (ExtBy.ext _)) hn1b ((hG1b.out.seg.ext ((hC2.trans hC3).trans hC4)).ext (ExtBy.ext _))) (congrArg Value.bool he1.out)))))
      refine wpQuiet_nil ?_
      intro w5 hw'
      obtain ⟨⟨wq, hE5⟩, hw''⟩ := hw'
      subst hw''
      clear c_x1_0 c_x1_1 c_x0_0 c_x0_1
      replace hE5 : Ext w4 w5 := hE5
      have hC5 : Ext w4 w5 := hE5
      have ze5 := hC5.size
      clear hE5
      go_wp2
      go_ret
      exact ⟨ret_b (by simpa using HX.out), ((((hC1.trans hC2).trans hC3).trans hC4).trans hC5)⟩
    · have hne : ((n1b : Int) != 12) = true := by simp; omega
      clear h12
      have L_x1 := B_x1.out
      have c_x1_0 := L_x1.cell 0
      have c_x1_1 := L_x1.cell 1
      have l_x1 := L_x1.lt
      clear L_x1
      go_wp2_with fail
      refine (calls_val (implCS2 A2 n2 c2 (negT ts1a) (negD ts1a bd1a) A3 n3 c3 (negT ts1a) (negD ts1a bd1a) _ hn2 ((hG2.out.seg.ext hC3).ext ((Ext.refl _).alloc _)) hn3 (hG3.out.seg.ext ((Ext.refl _).alloc _))) (congrArg Value.bool (cEq_self _ _))).mono ?_
      rintro e w4 ⟨rfl, hE4⟩
      have hC4 : Ext w3 w4 := ((Ext.refl _).alloc _).trans hE4
      have ze4 := hC4.size
      have B_x2 := Lib.hid (Blk.of1 hE4)
      have zb_x2 := B_x2.out.lt
      clear c_x1_0 c_x1_1 l_x1
      clear hE4
      have L_x1 := (B_x1.out.ext hC4)
      have c_x1_0 := L_x1.cell 0
      have c_x1_1 := L_x1.cell 1
      clear L_x1
      have L_x2 := B_x2.out
      have c_x2_0 := L_x2.cell 0
      have c_x2_1 := L_x2.cell 1
      clear L_x2
      go_wp2_with fail
      refine (calls_val (implCS2 A2 n2 c2 (negT ts1a) (negD ts1a bd1a) A3 n3 c3 (negT ts1a) (negD ts1a bd1a) _ hn2 (hG2.out.seg.ext (hC3.trans hC4)) hn3 (hG3.out.seg.ext hC4)) (congrArg Value.bool (cEq_self _ _))).mono ?_
      rintro e w5 ⟨rfl, hE5⟩
      have hC5 : Ext w4 w5 := hE5
      have ze5 := hC5.size
      clear c_x1_0 c_x1_1 c_x2_0 c_x2_1
      clear hE5
      go_wp2
      go_ret
      exact ⟨rfl, ((((hC1.trans hC2).trans hC3).trans hC4).trans hC5)⟩
  · have HV := Lib.hid (show cvB ts1a bd1a = false by simpa using hv)
    clear hv
    go_wp2_with fail
    refine Calls.mono ((implNeg_any A1a n1a c1a ts1a bd1a _ hn1a (hG1a.out.seg.ext ((Ext.refl _).alloc _))).mono fun _ _ h => h.of_eq (ngT_no HV.out) (ngD_no HV.out) HV.out) ?_
    rintro e w2 ⟨A2, n2, c2, rfl, hl2, hg2, hE2⟩
    have hC2 : Ext w1 w2 := ((Ext.refl _).alloc _).trans hE2
    have ze2 := hC2.size
    have B_x0 := Lib.hid (Blk.of1 hE2)
    have zb_x0 := B_x0.out.lt
    clear hE2
    have hG2 := Lib.hid hg2
    have HL2 := Lib.hid hl2
    have hs2 : n2 ≤ 1048576 := (by rw [← hl2]; exact by rw [← (ngT_no HV.out)]; exact ngT_len ts1a bd1a)
    have hn2 : n2 ≤ maxLen := (Nat.le_trans hs2 (by unfold maxLen; omega))
    clear hg2 hl2
    have L_x0 := B_x0.out
    have c_x0_0 := L_x0.cell 0
    have c_x0_1 := L_x0.cell 1
    have l_x0 := L_x0.lt
    clear L_x0
    go_wp2_with fail
    refine Calls.mono ((specNeg_any A1a n1a c1a ts1a bd1a _ hn1a ((hG1a.out.seg.ext hC2).ext ((Ext.refl _).alloc _))).mono fun _ _ h => h.of_eq (ngT_no HV.out) (ngD_no HV.out) HV.out) ?_
    rintro e w3 ⟨A3, n3, c3, rfl, hl3, hg3, hE3⟩
    have hC3 : Ext w2 w3 := ((Ext.refl _).alloc _).trans hE3
    have ze3 := hC3.size
    have B_x1 := Lib.hid (Blk.of1 hE3)
    have zb_x1 := B_x1.out.lt
    clear c_x0_0 c_x0_1 l_x0
    clear hE3
    have hG3 := Lib.hid hg3
    have HL3 := Lib.hid hl3
    have hs3 : n3 ≤ 1048576 := (by rw [← hl3]; exact by rw [← (ngT_no HV.out)]; exact ngT_len ts1a bd1a)
    have hn3 : n3 ≤ maxLen := (Nat.le_trans hs3 (by unfold maxLen; omega))
    clear hg3 hl3
    have L_x1 := B_x1.out
    have c_x1_0 := L_x1.cell 0
    have c_x1_1 := L_x1.cell 1
    have l_x1 := L_x1.lt
    clear L_x1
    go_wp2_with fail
    refine (calls_val (implCS2 A2 n2 c2 ([]) 0 A3 n3 c3 ([]) 0 _ hn2 ((hG2.out.seg.ext hC3).ext ((Ext.refl _).alloc _)) hn3 (hG3.out.seg.ext ((Ext.refl _).alloc _))) (congrArg Value.bool (cEq_self _ _))).mono ?_
    rintro e w4 ⟨rfl, hE4⟩
    have hC4 : Ext w3 w4 := ((Ext.refl _).alloc _).trans hE4
    have ze4 := hC4.size
    have B_x2 := Lib.hid (Blk.of1 hE4)
    have zb_x2 := B_x2.out.lt
    clear c_x1_0 c_x1_1 l_x1
    clear hE4
    have L_x1 := (B_x1.out.ext hC4)
    have c_x1_0 := L_x1.cell 0
    have c_x1_1 := L_x1.cell 1
    clear L_x1
    have L_x2 := B_x2.out
    have c_x2_0 := L_x2.cell 0
    have c_x2_1 := L_x2.cell 1
    clear L_x2
    go_wp2_with fail
    refine (calls_val (implCS2 A2 n2 c2 ([]) 0 A3 n3 c3 ([]) 0 _ hn2 (hG2.out.seg.ext (hC3.trans hC4)) hn3 (hG3.out.seg.ext hC4)) (congrArg Value.bool (cEq_self _ _))).mono ?_
    rintro e w5 ⟨rfl, hE5⟩
    have hC5 : Ext w4 w5 := hE5
    have ze5 := hC5.size
    clear c_x1_0 c_x1_1 c_x2_0 c_x2_1
    clear hE5
    go_wp2
    go_ret
    exact ⟨rfl, ((((hC1.trans hC2).trans hC3).trans hC4).trans hC5)⟩

theorem own : ownKnob Try.prog.godebug = none := by kernel_rfl
theorem laidOut : laidOutB Try.prog = true := by kernel_rfl

set_option maxRecDepth 100000 in
theorem lifted (os : Os) (started : os.Started) (H : Type) (enc : TypeId × Value → H) :
    ReturnsInHanded {} Try.checked os 9 .any (Rows.fnNegateConstraintSpec.pre6 enc Try.prog Try.f9 Rows.fnNegateConstraintRow.domain false) (Rows.fnNegateConstraintSpec.post enc Try.prog Try.f9 false true false false) := by
  refine returnsInHanded_of_change (C := Try.checked) own started (by kernel_rfl) Try.func9
    (ChangeSpec.witness6 (enc := enc) (C := Try.checked) false ⟨#[], #[.slice none 0 0], []⟩ 8 (by kernel_rfl) (by kernel_rfl) (by kernel_rfl) (by kernel_rfl)) ?_
  intro W base args ds gs before hval0 hW hcnd _
  have hval : ∀ (j : Nat) t v, Try.f9.params[j]? = some t → args[j]? = some v → Value.okWide Try.prog W .any base t v := hval0
  have hW' := hW
  obtain ⟨p, q, hA0, hV, rfl, hfz, hnd⟩ := hW
  have hA : DataW.TrodAll enc Try.prog W 0 (fun _ => true) true Try.f9.params.toList args.toList ds p := hA0
  rw [Try.params9] at hA hval
  obtain ⟨v0, vs0, d0, ds0, p0, q0, hargs, rfl, rfl, h0, r0⟩ := trodAll_cons hA
  obtain ⟨rfl, rfl, rfl⟩ := trodAll_nil r0
  obtain rfl : args = #[v0] := by cases args; simp_all
  obtain ⟨rfl, rfl⟩ := trodVars_none hV
  have k0 := h0
  have lt0 : ∀ x ∈ p0, x.block < W.heap.size := by obtain ⟨m, hm⟩ := k0; exact DataW.trod_lt m _ _ _ hm
  obtain ⟨A0, n0, cap0, zs0, rfl, hn0, hc0, hs0, hb0⟩ := arg_bytes (hval 0 22 v0 rfl rfl) h0
  clear hA0 hval0
  refine (walk A0 n0 cap0 zs0 W hn0 hc0 hs0 hb0).mono fun e W' ⟨he, ext⟩ => ?_
  subst he
  have bel := ext.below
  exact ⟨_, rfl, _, _, _, [], _, [], hW', trodAll_mk1 (shut_bool Try.underlying4 _), (trodAll_cons_mk (Below.trod laidOut (by kernel_rfl) (of_decide_eq_true (by kernel_rfl)) k0 bel lt0) trodAll_mk0), rfl, bel.frame _, fun h => by cases h⟩

theorem over : Rows.fnNegateConstraintRow.holds Try.pinned (OpenSpec.ofChange Rows.fnNegateConstraintSpec) :=
  OpenClaim.holds_of_wide 9 Try.f9 rfl rfl rfl rfl rfl rfl rfl ⟨rfl, rfl, rfl, rfl, rfl⟩ rfl rfl rfl rfl rfl (by kernel_rfl) Try.func9 (by kernel_rfl)
    (of_decide_eq_true (by kernel_rfl)) (by unfold Func.isWrapper; first | (rw [if_pos (by decide +kernel)]; kernel_rfl) | (rw [if_neg (by decide +kernel)]; exact ⟨rfl, rfl⟩))
    (fun os started H enc _ => lifted os started H enc)

theorem proved : Rows.FnNegateConstraintSaid := over

end Go.Proofs.Ytihmkbfobihddaa.negateConstraint
