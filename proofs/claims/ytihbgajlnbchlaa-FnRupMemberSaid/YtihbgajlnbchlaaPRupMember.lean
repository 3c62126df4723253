/- laws.FnRupMember: for all bytes, the program's RupConstraint answers as the reference's, and each constraint of a valid problem whose bound is at most 1 follows by reverse unit propagation. No condition. -/
import Derived.Test.YtihbgajlnbchlaaRdR
import Derived.Test.YtihbgajlnbchlaaPlG
import Derived.Test.YtihbgajlnbchlaaSameC
import Derived.Test.YtihbgajlnbchlaaRup
import Derived.Test.YtihbgajlnbchlaaProbV
import Derived.Test.YtihbgajlnbchlaaOpenY
import Derived.Test.YtihbgajlnbchlaaFacts
namespace Go.Proofs.Ytihbgajlnbchlaa.rupMember
open Go.ChangeShapes Go.WideShapes Go.ChangeAt Go.RowKit
set_option linter.unusedVariables false

set_option maxRecDepth 100000 in
set_option maxHeartbeats 4000000 in
theorem walk (A0 : Option Addr) (n0 cap0 : Nat) (zs0 : List Int) (A1 : Option Addr) (n1 cap1 : Nat) (zs1 : List Int) (w : World) (hn0 : n0 ≤ maxLen) (hc0 : n0 ≤ cap0) (hs0 : Seg w 1 A0 n0 (encY zs0)) (hb0 : bytesB zs0) (hn1 : n1 ≤ maxLen) (hc1 : n1 ≤ cap1) (hs1 : Seg w 1 A1 n1 (encY zs1)) (hb1 : bytesB zs1) :
    Calls Try.prog 14 #[.slice A0 n0 cap0, .slice A1 n1 cap1] w fun e w' => e = .returned (.bool true) ∧ Ext w w' := by
  by_cases hbig : 1048576 < n0
  · clear hs0 hs1
    go_enter Try.func14, Try.ntmps14
    go_wp2
    go_ret
    exact ⟨rfl, Ext.refl _⟩
  by_cases hbig1 : 1048576 < n1
  · clear hs0 hs1
    have hb2 : decide ((1048576 : Int) < (n0 : Int)) = false := decide_eq_false (by omega)
    go_enter Try.func14, Try.ntmps14
    go_wp2
    go_ret
    exact ⟨rfl, Ext.refl _⟩
  have hb2 : decide ((1048576 : Int) < (n0 : Int)) = false := decide_eq_false (by omega)
  have hb3 : decide ((1048576 : Int) < (n1 : Int)) = false := decide_eq_false (by omega)
  go_enter Try.func14, Try.ntmps14
  go_wp2_with fail
  refine (drawRup_any A0 n0 cap0 zs0 _ hn0 hc0 hs0 hb0).mono ?_
  rintro e w1 ⟨A1a, n1a, c1a, cs1a, A1b, n1b, c1b, ts1b, bd1b, rfl, hl1a, hm1a, hl1b, hm1b, hg1a, hg1b, hE1⟩
  have hC1 : Ext w w1 := hE1
  have ze1 := hC1.size
  clear hE1
  have hn1a : n1a ≤ maxLen := by unfold maxLen; omega
  have HL1a := Lib.hid hl1a
  have hG1a := Lib.hid hg1a
  clear hl1a hg1a
  have hn1b : n1b ≤ maxLen := by unfold maxLen; omega
  have HL1b := Lib.hid hl1b
  have hG1b := Lib.hid hg1b
  clear hl1b hg1b
  obtain ⟨rb, hrb⟩ : ∃ b, Hid (rupB cs1a ts1b bd1b = b) := ⟨_, rfl⟩
  by_cases hv : probB cs1a = true
  · have HV := Lib.hid hv
    clear hv
    by_cases hn0 : n1a = 0
    · subst hn0
      go_wp2_with fail
      refine (calls_val (implRup_any A1a 0 c1a cs1a A1b n1b c1b ts1b bd1b _ hn1a (hG1a.out.ext ((Ext.refl _).alloc _)) hn1b (hG1b.out.seg.ext ((Ext.refl _).alloc _))) (congrArg Value.bool hrb.out)).mono ?_
      rintro e w2 ⟨rfl, hE2⟩
      have hC2 : Ext w1 w2 := ((Ext.refl _).alloc _).trans hE2
      have ze2 := hC2.size
      have B_x0 := Lib.hid (Blk.of1 hE2)
      have zb_x0 := B_x0.out.lt
      clear hE2
      have L_x0 := B_x0.out
      have c_x0_0 := L_x0.cell 0
      have c_x0_1 := L_x0.cell 1
      clear L_x0
      go_wp2_with fail
      refine (calls_val (specRup_any A1a 0 c1a cs1a A1b n1b c1b ts1b bd1b _ hn1a (hG1a.out.ext hC2) hn1b (hG1b.out.seg.ext hC2)) (congrArg Value.bool hrb.out)).mono ?_
      rintro e w3 ⟨rfl, hE3⟩
      have hC3 : Ext w2 w3 := hE3
      have ze3 := hC3.size
      clear c_x0_0 c_x0_1
      clear hE3
      go_wp2_with fail
      refine (calls_val (implProbV_any A1a 0 c1a cs1a _ hn1a (hG1a.out.ext (hC2.trans hC3))) (congrArg Value.bool HV.out)).mono ?_
      rintro e w4 ⟨rfl, hE4⟩
      have hC4 : Ext w3 w4 := hE4
      have ze4 := hC4.size
      clear hE4
      have L_x0 := (B_x0.out.ext (hC3.trans hC4))
      have c_x0_0 := L_x0.cell 0
      have c_x0_1 := L_x0.cell 1
      clear L_x0
      go_wp2_with fail
      refine (calls_val (specRup_any A1a 0 c1a cs1a A1b n1b c1b ts1b bd1b _ hn1a (hG1a.out.ext ((hC2.trans hC3).trans hC4)) hn1b (hG1b.out.seg.ext ((hC2.trans hC3).trans hC4))) (congrArg Value.bool hrb.out)).mono ?_
      rintro e w5 ⟨rfl, hE5⟩
      have hC5 : Ext w4 w5 := hE5
      have ze5 := hC5.size
      clear c_x0_0 c_x0_1
      clear hE5
      go_wp2
      go_ret
      exact ⟨rfl, ((((hC1.trans hC2).trans hC3).trans hC4).trans hC5)⟩
    · have hpos : 0 < n1a := by omega
      have d1 : ((n1a : Int) == 0) = false := by simp; omega
      clear hn0
      go_wp2_with fail
      refine (calls_val (implRup_any A1a n1a c1a cs1a A1b n1b c1b ts1b bd1b _ hn1a (hG1a.out.ext ((Ext.refl _).alloc _)) hn1b (hG1b.out.seg.ext ((Ext.refl _).alloc _))) (congrArg Value.bool hrb.out)).mono ?_
      rintro e w2 ⟨rfl, hE2⟩
      have hC2 : Ext w1 w2 := ((Ext.refl _).alloc _).trans hE2
      have ze2 := hC2.size
      have B_x0 := Lib.hid (Blk.of1 hE2)
      have zb_x0 := B_x0.out.lt
      clear hE2
      have L_x0 := B_x0.out
      have c_x0_0 := L_x0.cell 0
      have c_x0_1 := L_x0.cell 1
      clear L_x0
      go_wp2_with fail
      refine (calls_val (specRup_any A1a n1a c1a cs1a A1b n1b c1b ts1b bd1b _ hn1a (hG1a.out.ext hC2) hn1b (hG1b.out.seg.ext hC2)) (congrArg Value.bool hrb.out)).mono ?_
      rintro e w3 ⟨rfl, hE3⟩
      have hC3 : Ext w2 w3 := hE3
      have ze3 := hC3.size
      clear c_x0_0 c_x0_1
      clear hE3
      go_wp2_with fail
      refine (calls_val (implProbV_any A1a n1a c1a cs1a _ hn1a (hG1a.out.ext (hC2.trans hC3))) (congrArg Value.bool HV.out)).mono ?_
      rintro e w4 ⟨rfl, hE4⟩
      have hC4 : Ext w3 w4 := hE4
      have ze4 := hC4.size
      clear hE4
      obtain ⟨k, hk, hkn⟩ : ∃ k, n1 % n1a = k ∧ k < n1a := ⟨_, rfl, Nat.mod_lt _ hpos⟩
      have HEK : Hid ((n1 : Int) % (n1a : Int) = (k : Int)) := by rw [← hk]; rfl
      have hek := HEK.out
      have k0 : (0 : Int) ≤ (k : Int) := Int.natCast_nonneg _
      have k1 : (k : Int) < (n1a : Int) := by omega
      obtain ⟨bm, offm, Am, nm, cm, tsm, bdm, rfl, hxm, t1, t2, hnm, hSm⟩ := (hG1a.out.ext ((hC2.trans hC3).trans hC4)).at_ hkn
      have HXM := Lib.hid hxm
      have HSM := Lib.hid hSm
      clear hk hxm hSm
      by_cases hbm : 1 < bdm
      · have d0 : decide (1 < bdm) = true := decide_eq_true hbm
        go_wp2
        go_ret
        exact ⟨rfl, (((hC1.trans hC2).trans hC3).trans hC4).alloc _⟩
      · have d0 : decide (1 < bdm) = false := decide_eq_false hbm
        have HRM := Lib.hid (rup_mem HV.out (List.mem_of_getElem? HXM.out) hbm)
        go_wp2_with fail
        refine (calls_val (implRup_any (some ⟨bm, offm, none⟩) n1a c1a cs1a Am nm cm tsm bdm _ hn1a ((hG1a.out.ext ((hC2.trans hC3).trans hC4)).alloc _) hnm (HSM.out.alloc _)) (congrArg Value.bool HRM.out)).mono ?_
        rintro e w9 ⟨rfl, hE9⟩
        go_wp2
        go_ret
        exact ⟨rfl, ((((hC1.trans hC2).trans hC3).trans hC4).alloc _).trans hE9⟩
  · have HV := Lib.hid (show probB cs1a = false by simpa using hv)
    clear hv
    go_wp2_with fail
    refine (calls_val (implRup_any A1a n1a c1a cs1a A1b n1b c1b ts1b bd1b _ hn1a (hG1a.out.ext ((Ext.refl _).alloc _)) hn1b (hG1b.out.seg.ext ((Ext.refl _).alloc _))) (congrArg Value.bool hrb.out)).mono ?_
    rintro e w2 ⟨rfl, hE2⟩
    have hC2 : Ext w1 w2 := ((Ext.refl _).alloc _).trans hE2
    have ze2 := hC2.size
    have B_x0 := Lib.hid (Blk.of1 hE2)
    have zb_x0 := B_x0.out.lt
    clear hE2
    have L_x0 := B_x0.out
    have c_x0_0 := L_x0.cell 0
    have c_x0_1 := L_x0.cell 1
    clear L_x0
    go_wp2_with fail
    refine (calls_val (specRup_any A1a n1a c1a cs1a A1b n1b c1b ts1b bd1b _ hn1a (hG1a.out.ext hC2) hn1b (hG1b.out.seg.ext hC2)) (congrArg Value.bool hrb.out)).mono ?_
    rintro e w3 ⟨rfl, hE3⟩
    have hC3 : Ext w2 w3 := hE3
    have ze3 := hC3.size
    clear c_x0_0 c_x0_1
    clear hE3
    go_wp2_with fail
    refine (calls_val (implProbV_any A1a n1a c1a cs1a _ hn1a (hG1a.out.ext (hC2.trans hC3))) (congrArg Value.bool HV.out)).mono ?_
    rintro e w4 ⟨rfl, hE4⟩
    have hC4 : Ext w3 w4 := hE4
    have ze4 := hC4.size
    clear hE4
    have L_x0 := (B_x0.out.ext (hC3.trans hC4))
    have c_x0_0 := L_x0.cell 0
    have c_x0_1 := L_x0.cell 1
    clear L_x0
    go_wp2_with fail
    refine (calls_val (specRup_any A1a n1a c1a cs1a A1b n1b c1b ts1b bd1b _ hn1a (hG1a.out.ext ((hC2.trans hC3).trans hC4)) hn1b (hG1b.out.seg.ext ((hC2.trans hC3).trans hC4))) (congrArg Value.bool hrb.out)).mono ?_
    rintro e w5 ⟨rfl, hE5⟩
    have hC5 : Ext w4 w5 := hE5
    have ze5 := hC5.size
    clear c_x0_0 c_x0_1
    clear hE5
    go_wp2
    go_ret
    exact ⟨rfl, ((((hC1.trans hC2).trans hC3).trans hC4).trans hC5)⟩

theorem own : ownKnob Try.prog.godebug = none := by kernel_rfl
theorem laidOut : laidOutB Try.prog = true := by kernel_rfl

set_option maxRecDepth 100000 in
theorem lifted (os : Os) (started : os.Started) (H : Type) (enc : TypeId × Value → H) :
    ReturnsInHanded {} Try.checked os 14 .any (Rows.fnRupMemberSpec.pre6 enc Try.prog Try.f14 Rows.fnRupMemberRow.domain false) (Rows.fnRupMemberSpec.post enc Try.prog Try.f14 false true false false) := by
  refine returnsInHanded_of_change (C := Try.checked) own started (by kernel_rfl) Try.func14
    (ChangeSpec.witness6 (enc := enc) (C := Try.checked) false ⟨#[], #[.slice none 0 0, .slice none 0 0], []⟩ 8 (by kernel_rfl) (by kernel_rfl) (by kernel_rfl) (by kernel_rfl)) ?_
  intro W base args ds gs before hval0 hW hcnd _
  have hval : ∀ (j : Nat) t v, Try.f14.params[j]? = some t → args[j]? = some v → Value.okWide Try.prog W .any base t v := hval0
  have hW' := hW
  obtain ⟨p, q, hA0, hV, rfl, hfz, hnd⟩ := hW
  have hA : DataW.TrodAll enc Try.prog W 0 (fun _ => true) true Try.f14.params.toList args.toList ds p := hA0
  rw [Try.params14] at hA hval
  obtain ⟨v0, vs0, d0, ds0, p0, q0, hargs, rfl, rfl, h0, r0⟩ := trodAll_cons hA
  obtain ⟨v1, vs1, d1, ds1, p1, q1, rfl, rfl, rfl, h1, r1⟩ := trodAll_cons r0
  obtain ⟨rfl, rfl, rfl⟩ := trodAll_nil r1
  obtain rfl : args = #[v0, v1] := by cases args; simp_all
  obtain ⟨rfl, rfl⟩ := trodVars_none hV
  have k0 := h0
  have lt0 : ∀ x ∈ p0, x.block < W.heap.size := by obtain ⟨m, hm⟩ := k0; exact DataW.trod_lt m _ _ _ hm
  obtain ⟨A0, n0, cap0, zs0, rfl, hn0, hc0, hs0, hb0⟩ := arg_bytes (hval 0 22 v0 rfl rfl) h0
  have k1 := h1
  have lt1 : ∀ x ∈ p1, x.block < W.heap.size := by obtain ⟨m, hm⟩ := k1; exact DataW.trod_lt m _ _ _ hm
  obtain ⟨A1, n1, cap1, zs1, rfl, hn1, hc1, hs1, hb1⟩ := arg_bytes (hval 1 22 v1 rfl rfl) h1
  clear hA0 hval0
  refine (walk A0 n0 cap0 zs0 A1 n1 cap1 zs1 W hn0 hc0 hs0 hb0 hn1 hc1 hs1 hb1).mono fun e W' ⟨he, ext⟩ => ?_
  subst he
  have bel := ext.below
  exact ⟨_, rfl, _, _, _, [], _, [], hW', trodAll_mk1 (shut_bool Try.underlying4 _), (trodAll_cons_mk (Below.trod laidOut (by kernel_rfl) (of_decide_eq_true (by kernel_rfl)) k0 bel lt0) (trodAll_cons_mk (Below.trod laidOut (by kernel_rfl) (of_decide_eq_true (by kernel_rfl)) k1 bel lt1) trodAll_mk0)), rfl, bel.frame _, fun h => by cases h⟩

set_option maxHeartbeats 4000000 in
theorem joined : joinedFacts Try.pinned.checked.prog 14 Try.f14 Rows.fnRupMemberSpec Rows.fnRupMemberRow = true := by
  unfold joinedFacts
  exact (and2 (and2 (and2 (and2 (and2 (and2 (and2 (and2 (and2 (and2 (and2 (and2 (and2 (and2 (and2 (and2 (and2 (and2 (and2 (and2 (and2 (and2 (and2 (and2 (and2 (and2 (and2 (and2 (and2 (and2 (and2 (by as_aux_lemma => kernel_rfl) (by as_aux_lemma => kernel_rfl)) (by as_aux_lemma => kernel_rfl)) (by as_aux_lemma => kernel_rfl)) (by as_aux_lemma => kernel_rfl)) (by as_aux_lemma => kernel_rfl)) (by as_aux_lemma => kernel_rfl)) (by as_aux_lemma => kernel_rfl)) (by as_aux_lemma => kernel_rfl)) (by as_aux_lemma => kernel_rfl)) (by as_aux_lemma => kernel_rfl)) (by as_aux_lemma => kernel_rfl)) (by as_aux_lemma => kernel_rfl)) (by as_aux_lemma => kernel_rfl)) (by as_aux_lemma => kernel_rfl)) (by as_aux_lemma => kernel_rfl)) (by as_aux_lemma => kernel_rfl)) (by as_aux_lemma => kernel_rfl)) (by as_aux_lemma => kernel_rfl)) (by as_aux_lemma => kernel_rfl)) (by as_aux_lemma => kernel_rfl)) (by as_aux_lemma => kernel_rfl)) (by as_aux_lemma => kernel_rfl)) (by as_aux_lemma => kernel_rfl)) (by as_aux_lemma => kernel_rfl)) jEnter) jLift) jMake) (by as_aux_lemma => kernel_rfl)) (by as_aux_lemma => kernel_rfl)) (by as_aux_lemma => kernel_rfl)) (by as_aux_lemma => kernel_rfl))

set_option maxHeartbeats 4000000 in
theorem over : Rows.fnRupMemberRow.holds Try.pinned (OpenSpec.ofChange Rows.fnRupMemberSpec) :=
  OpenClaim.holds_of_wide 14 Try.f14 rfl rfl rfl rfl rfl rfl rfl ⟨rfl, rfl, rfl, rfl, rfl⟩ rfl rfl rfl rfl rfl (by kernel_rfl) Try.func14 joined
    (of_decide_eq_true (by kernel_rfl)) (by unfold Func.isWrapper; first | (rw [if_pos (by decide +kernel)]; kernel_rfl) | (rw [if_neg (by decide +kernel)]; exact ⟨rfl, rfl⟩))
    (fun os started H enc _ => lifted os started H enc)

theorem proved : Rows.FnRupMemberSaid := over

end Go.Proofs.Ytihbgajlnbchlaa.rupMember
