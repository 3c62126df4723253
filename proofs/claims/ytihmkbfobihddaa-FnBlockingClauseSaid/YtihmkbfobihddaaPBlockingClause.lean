/- laws.FnBlockingClause: for all bytes, the program's BlockingClause returns what the reference's returns, a valid constraint that just the values satisfy that are not the drawn ones. No condition. -/
import Derived.Test.YtihmkbfobihddaaRdW
import Derived.Test.YtihmkbfobihddaaPlB
import Derived.Test.YtihmkbfobihddaaSameC
import Derived.Test.YtihmkbfobihddaaCpB
import Derived.Test.YtihmkbfobihddaaOpenY
namespace Go.Proofs.Ytihmkbfobihddaa.blockingClause
open Go.ChangeShapes Go.WideShapes Go.ChangeAt Go.RowKit
set_option linter.unusedVariables false

set_option maxRecDepth 100000 in
set_option maxHeartbeats 4000000 in
theorem walk (A0 : Option Addr) (n0 cap0 : Nat) (zs0 : List Int) (A1 : Option Addr) (n1 cap1 : Nat) (zs1 : List Int) (w : World) (hn0 : n0 ≤ maxLen) (hc0 : n0 ≤ cap0) (hs0 : Seg w 1 A0 n0 (encY zs0)) (hb0 : bytesB zs0) (hn1 : n1 ≤ maxLen) (hc1 : n1 ≤ cap1) (hs1 : Seg w 1 A1 n1 (encY zs1)) (hb1 : bytesB zs1) :
    Calls Try.prog 4 #[.slice A0 n0 cap0, .slice A1 n1 cap1] w fun e w' => e = .returned (.bool true) ∧ Ext w w' := by
  by_cases hbig : 1048576 < n0
  · clear hs0 hs1
    go_enter Try.func4, Try.ntmps4
    go_wp2
    go_ret
    exact ⟨rfl, Ext.refl _⟩
  by_cases hbig1 : 1048576 < n1
  · clear hs0 hs1
    have hb2 : decide ((1048576 : Int) < (n0 : Int)) = false := decide_eq_false (by omega)
    go_enter Try.func4, Try.ntmps4
    go_wp2
    go_ret
    exact ⟨rfl, Ext.refl _⟩
  have hb2 : decide ((1048576 : Int) < (n0 : Int)) = false := decide_eq_false (by omega)
  have hb3 : decide ((1048576 : Int) < (n1 : Int)) = false := decide_eq_false (by omega)
  go_enter Try.func4, Try.ntmps4
  go_wp2_with fail
  refine (drawBC_any A0 n0 cap0 zs0 _ hn0 hc0 hs0 hb0).mono ?_
  rintro e w1 ⟨A1a, n1a, c1a, vs1a, rfl, hl1a, hm1a, hg1a, hE1⟩
  have hC1 : Ext w w1 := hE1
  have ze1 := hC1.size
  clear hE1
  have hn1a : n1a ≤ maxLen := by unfold maxLen; omega
  have HL1a := Lib.hid hl1a
  have hG1a := Lib.hid hg1a
  clear hl1a hg1a
  go_wp2_with fail
  refine (drawBC_any A1 n1 cap1 zs1 _ hn1 hc1 (hs1.ext hC1) hb1).mono ?_
  rintro e w2 ⟨A2a, n2a, c2a, vs2a, rfl, hl2a, hm2a, hg2a, hE2⟩
  have hC2 : Ext w1 w2 := hE2
  have ze2 := hC2.size
  clear hE2
  have hn2a : n2a ≤ maxLen := by unfold maxLen; omega
  have HL2a := Lib.hid hl2a
  have hG2a := Lib.hid hg2a
  clear hl2a hg2a
  by_cases h1 : n1a = 12
  · have HL12 := Lib.hid (show vs1a.length = 12 by rw [HL1a.out]; exact h1)
    have HV := Lib.hid (show bcOk vs1a = true by unfold bcOk; rw [HL12.out]; rfl)
    have HT := Lib.hid (show bcT vs1a = bcFrom 1 vs1a by unfold bcT; rw [if_pos HL12.out])
    have HD := Lib.hid (show bcD vs1a = 1 by unfold bcD; rw [if_pos HL12.out])
    clear h1
    go_wp2_with fail
    refine Calls.mono ((implBC_any A1a n1a c1a vs1a _ hn1a (hG1a.out.seg.ext hC2)).mono fun _ _ h => h.of_eq HT.out HD.out HV.out) ?_
    rintro e w3 ⟨A3, n3, c3, rfl, hl3, hg3, hE3⟩
    have hC3 : Ext w2 w3 := hE3
    have ze3 := hC3.size
    clear hE3
    have hG3 := Lib.hid hg3
    have HL3 := Lib.hid hl3
    have hs3 : n3 ≤ 1048576 := (by rw [← hl3]; exact by rw [← HT.out]; exact bcT_len vs1a)
    have hn3 : n3 ≤ maxLen := (Nat.le_trans hs3 (by unfold maxLen; omega))
    clear hg3 hl3
    go_wp2_with fail
    refine Calls.mono ((specBC_any A1a n1a c1a vs1a _ hn1a ((hG1a.out.seg.ext (hC2.trans hC3)).ext ((Ext.refl _).alloc _))).mono fun _ _ h => h.of_eq HT.out HD.out HV.out) ?_
    rintro e w4 ⟨A4, n4, c4, rfl, hl4, hg4, hE4⟩
    have hC4 : Ext w3 w4 := ((Ext.refl _).alloc _).trans hE4
    have ze4 := hC4.size
    have B_x0 := Lib.hid (Blk.of1 hE4)
    have zb_x0 := B_x0.out.lt
    clear hE4
    have hG4 := Lib.hid hg4
    have HL4 := Lib.hid hl4
    have hs4 : n4 ≤ 1048576 := (by rw [← hl4]; exact by rw [← HT.out]; exact bcT_len vs1a)
    have hn4 : n4 ≤ maxLen := (Nat.le_trans hs4 (by unfold maxLen; omega))
    clear hg4 hl4
    by_cases h2 : n2a = 12
    · have HM12 := Lib.hid (show vs2a.length = 12 by rw [HL2a.out]; exact h2)
      subst h2
      have HC := Lib.hid (bc_valid HL12.out)
      have HE := Lib.hid (bc_eval HL12.out HM12.out)
      obtain ⟨eb, heb⟩ : ∃ b, Hid (cbEq vs1a vs2a = b) := ⟨_, rfl⟩
      have HE2 : Hid (evB (bcFrom 1 vs1a) 1 vs2a = !eb) := by have := HE.out; rw [heb.out] at this; exact this
      have L_x0 := B_x0.out
      have c_x0_0 := L_x0.cell 0
      have c_x0_1 := L_x0.cell 1
      have l_x0 := L_x0.lt
      clear L_x0
      go_wp2_with fail
      refine (calls_val (implCS2 A3 n3 c3 (bcFrom 1 vs1a) 1 A4 n4 c4 (bcFrom 1 vs1a) 1 _ hn3 ((hG3.out.seg.ext hC4).ext ((Ext.refl _).alloc _)) hn4 (hG4.out.seg.ext ((Ext.refl _).alloc _))) (congrArg Value.bool (cEq_self _ _))).mono ?_
      rintro e w5 ⟨rfl, hE5⟩
      have hC5 : Ext w4 w5 := ((Ext.refl _).alloc _).trans hE5
      have ze5 := hC5.size
      have B_x1 := Lib.hid (Blk.of1 hE5)
      have zb_x1 := B_x1.out.lt
      clear c_x0_0 c_x0_1 l_x0
      clear hE5
      have L_x0 := (B_x0.out.ext hC5)
      have c_x0_0 := L_x0.cell 0
      have c_x0_1 := L_x0.cell 1
      clear L_x0
      go_wp2_with fail
      refine (calls_val (implCV_any A3 n3 c3 (bcFrom 1 vs1a) 1 _ hn3 (hG3.out.seg.ext (hC4.trans hC5))) (congrArg Value.bool HC.out)).mono ?_
      rintro e w6 ⟨rfl, hE6⟩
      have hC6 : Ext w5 w6 := hE6
      have ze6 := hC6.size
      clear c_x0_0 c_x0_1
      clear hE6
      have L_x0 := (B_x0.out.ext (hC5.trans hC6))
      have c_x0_0 := L_x0.cell 0
      have c_x0_1 := L_x0.cell 1
      clear L_x0
      go_wp2_with fail
      refine (calls_val (implEV_any A3 n3 c3 (bcFrom 1 vs1a) 1 A2a 12 c2a vs2a _ hn3 (hG3.out.seg.ext ((hC4.trans hC5).trans hC6)) hn2a (hG2a.out.seg.ext (((hC3.trans hC4).trans hC5).trans hC6))) (congrArg Value.bool HE2.out)).mono ?_
      rintro e w7 ⟨rfl, hE7⟩
      have hC7 : Ext w6 w7 := hE7
      have ze7 := hC7.size
      clear c_x0_0 c_x0_1
      clear hE7
      go_wp2_with fail
      refine (calls_val (cpB_any A1a n1a c1a vs1a A2a 12 c2a vs2a _ hn1a (hG1a.out.seg.ext (((((hC2.trans hC3).trans hC4).trans hC5).trans hC6).trans hC7)) hn2a (hG2a.out.seg.ext ((((hC3.trans hC4).trans hC5).trans hC6).trans hC7))) (congrArg Value.bool heb.out)).mono ?_
      rintro e w8 ⟨rfl, hE8⟩
      have hC8 : Ext w7 w8 := hE8
      have ze8 := hC8.size
      clear hE8
      go_wp2
      go_ret
      exact ⟨ret_b (by cases eb <;> rfl), (((((((hC1.trans hC2).trans hC3).trans hC4).trans hC5).trans hC6).trans hC7).trans hC8)⟩
    · have hne : ((n2a : Int) != 12) = true := by simp; omega
      clear h2
      have L_x0 := B_x0.out
      have c_x0_0 := L_x0.cell 0
      have c_x0_1 := L_x0.cell 1
      have l_x0 := L_x0.lt
      clear L_x0
      go_wp2_with fail
      refine (calls_val (implCS2 A3 n3 c3 (bcFrom 1 vs1a) 1 A4 n4 c4 (bcFrom 1 vs1a) 1 _ hn3 ((hG3.out.seg.ext hC4).ext ((Ext.refl _).alloc _)) hn4 (hG4.out.seg.ext ((Ext.refl _).alloc _))) (congrArg Value.bool (cEq_self _ _))).mono ?_
      rintro e w5 ⟨rfl, hE5⟩
      have hC5 : Ext w4 w5 := ((Ext.refl _).alloc _).trans hE5
      have ze5 := hC5.size
      have B_x1 := Lib.hid (Blk.of1 hE5)
      have zb_x1 := B_x1.out.lt
      clear c_x0_0 c_x0_1 l_x0
      clear hE5
      have L_x0 := (B_x0.out.ext hC5)
      have c_x0_0 := L_x0.cell 0
      have c_x0_1 := L_x0.cell 1
      clear L_x0
      have L_x1 := B_x1.out
      have c_x1_0 := L_x1.cell 0
      have c_x1_1 := L_x1.cell 1
      clear L_x1
      go_wp2_with fail
      refine (calls_val (implCS2 A3 n3 c3 (bcFrom 1 vs1a) 1 A4 n4 c4 (bcFrom 1 vs1a) 1 _ hn3 (hG3.out.seg.ext (hC4.trans hC5)) hn4 (hG4.out.seg.ext hC5)) (congrArg Value.bool (cEq_self _ _))).mono ?_
      rintro e w6 ⟨rfl, hE6⟩
      have hC6 : Ext w5 w6 := hE6
      have ze6 := hC6.size
      clear c_x0_0 c_x0_1 c_x1_0 c_x1_1
      clear hE6
      go_wp2
      go_ret
      exact ⟨rfl, (((((hC1.trans hC2).trans hC3).trans hC4).trans hC5).trans hC6)⟩
  · have HV := Lib.hid (show bcOk vs1a = false by unfold bcOk; rw [HL1a.out]; simpa using h1)
    have HT := Lib.hid (show bcT vs1a = [] by unfold bcT; rw [if_neg (by rw [HL1a.out]; exact h1)])
    have HD := Lib.hid (show bcD vs1a = 0 by unfold bcD; rw [if_neg (by rw [HL1a.out]; exact h1)])
    clear h1
    go_wp2_with fail
    refine Calls.mono ((implBC_any A1a n1a c1a vs1a _ hn1a (hG1a.out.seg.ext hC2)).mono fun _ _ h => h.of_eq HT.out HD.out HV.out) ?_
    rintro e w3 ⟨A3, n3, c3, rfl, hl3, hg3, hE3⟩
    have hC3 : Ext w2 w3 := hE3
    have ze3 := hC3.size
    clear hE3
    have hG3 := Lib.hid hg3
    have HL3 := Lib.hid hl3
    have hs3 : n3 ≤ 1048576 := (by rw [← hl3]; exact by rw [← HT.out]; exact bcT_len vs1a)
    have hn3 : n3 ≤ maxLen := (Nat.le_trans hs3 (by unfold maxLen; omega))
    clear hg3 hl3
    go_wp2_with fail
    refine Calls.mono ((specBC_any A1a n1a c1a vs1a _ hn1a ((hG1a.out.seg.ext (hC2.trans hC3)).ext ((Ext.refl _).alloc _))).mono fun _ _ h => h.of_eq HT.out HD.out HV.out) ?_
    rintro e w4 ⟨A4, n4, c4, rfl, hl4, hg4, hE4⟩
    have hC4 : Ext w3 w4 := ((Ext.refl _).alloc _).trans hE4
    have ze4 := hC4.size
    have B_x0 := Lib.hid (Blk.of1 hE4)
    have zb_x0 := B_x0.out.lt
    clear hE4
    have hG4 := Lib.hid hg4
    have HL4 := Lib.hid hl4
    have hs4 : n4 ≤ 1048576 := (by rw [← hl4]; exact by rw [← HT.out]; exact bcT_len vs1a)
    have hn4 : n4 ≤ maxLen := (Nat.le_trans hs4 (by unfold maxLen; omega))
    clear hg4 hl4
    have L_x0 := B_x0.out
    have c_x0_0 := L_x0.cell 0
    have c_x0_1 := L_x0.cell 1
    have l_x0 := L_x0.lt
    clear L_x0
    go_wp2_with fail
    refine (calls_val (implCS2 A3 n3 c3 ([]) 0 A4 n4 c4 ([]) 0 _ hn3 ((hG3.out.seg.ext hC4).ext ((Ext.refl _).alloc _)) hn4 (hG4.out.seg.ext ((Ext.refl _).alloc _))) (congrArg Value.bool (cEq_self _ _))).mono ?_
    rintro e w5 ⟨rfl, hE5⟩
    have hC5 : Ext w4 w5 := ((Ext.refl _).alloc _).trans hE5
    have ze5 := hC5.size
    have B_x1 := Lib.hid (Blk.of1 hE5)
    have zb_x1 := B_x1.out.lt
    clear c_x0_0 c_x0_1 l_x0
    clear hE5
    have L_x0 := (B_x0.out.ext hC5)
    have c_x0_0 := L_x0.cell 0
    have c_x0_1 := L_x0.cell 1
    clear L_x0
    have L_x1 := B_x1.out
    have c_x1_0 := L_x1.cell 0
    have c_x1_1 := L_x1.cell 1
    clear L_x1
    go_wp2_with fail
    refine (calls_val (implCS2 A3 n3 c3 ([]) 0 A4 n4 c4 ([]) 0 _ hn3 (hG3.out.seg.ext (hC4.trans hC5)) hn4 (hG4.out.seg.ext hC5)) (congrArg Value.bool (cEq_self _ _))).mono ?_
    rintro e w6 ⟨rfl, hE6⟩
    have hC6 : Ext w5 w6 := hE6
    have ze6 := hC6.size
    clear c_x0_0 c_x0_1 c_x1_0 c_x1_1
    clear hE6
    go_wp2
    go_ret
    exact ⟨rfl, (((((hC1.trans hC2).trans hC3).trans hC4).trans hC5).trans hC6)⟩

theorem own : ownKnob Try.prog.godebug = none := by kernel_rfl
theorem laidOut : laidOutB Try.prog = true := by kernel_rfl

set_option maxRecDepth 100000 in
theorem lifted (os : Os) (started : os.Started) (H : Type) (enc : TypeId × Value → H) :
    ReturnsInHanded {} Try.checked os 4 .any (Rows.fnBlockingClauseSpec.pre6 enc Try.prog Try.f4 Rows.fnBlockingClauseRow.domain false) (Rows.fnBlockingClauseSpec.post enc Try.prog Try.f4 false true false false) := by
  refine returnsInHanded_of_change (C := Try.checked) own started (by kernel_rfl) Try.func4
    (ChangeSpec.witness6 (enc := enc) (C := Try.checked) false ⟨#[], #[.slice none 0 0, .slice none 0 0], []⟩ 8 (by kernel_rfl) (by kernel_rfl) (by kernel_rfl) (by kernel_rfl)) ?_
  intro W base args ds gs before hval0 hW hcnd _
  have hval : ∀ (j : Nat) t v, Try.f4.params[j]? = some t → args[j]? = some v → Value.okWide Try.prog W .any base t v := hval0
  have hW' := hW
  obtain ⟨p, q, hA0, hV, rfl, hfz, hnd⟩ := hW
  have hA : DataW.TrodAll enc Try.prog W 0 (fun _ => true) true Try.f4.params.toList args.toList ds p := hA0
  rw [Try.params4] at hA hval
  obtain ⟨v0, vs0, d0, ds0, p0, q0, hargs, rfl, rfl, h0, r0⟩ := trodAll_cons hA
  obtain ⟨v1, vs1, d1, ds1, p1, q1, rfl, rfl, rfl, h1, r1⟩ := trodAll_cons r0
  obtain ⟨rfl, rfl, rfl⟩ := trodAll_nil r1
  obtain rfl : args = #[v0, v1] := by cases args; simp_all
  obtain ⟨rfl, rfl⟩ := trodVars_none hV
  have k0 := h0
  have lt0 : ∀ x ∈ p0, x.block < W.heap.size := by obtain ⟨m, hm⟩ := k0; exact DataW.trod_lt m _ _ _ hm
  obtain ⟨A0, n0, cap0, zs0, rfl, hn0, hc0, hs0, hb0⟩ := arg_bytes (hval 0 22 v0 rfl rfl) h0
  have k1 := h1
  have lt1 : ∀ x ∈ p1, x.block < W.heap.size := by obtain ⟨m, hm⟩ := k1; exact DataW.trod_lt m _ _ _ hm
  obtain ⟨A1, n1, cap1, zs1, rfl, hn1, hc1, hs1, hb1⟩ := arg_bytes (hval 1 22 v1 rfl rfl) h1
  clear hA0 hval0
  refine (walk A0 n0 cap0 zs0 A1 n1 cap1 zs1 W hn0 hc0 hs0 hb0 hn1 hc1 hs1 hb1).mono fun e W' ⟨he, ext⟩ => ?_
  subst he
  have bel := ext.below
  exact ⟨_, rfl, _, _, _, [], _, [], hW', trodAll_mk1 (shut_bool Try.underlying4 _), (trodAll_cons_mk (Below.trod laidOut (by kernel_rfl) (of_decide_eq_true (by kernel_rfl)) k0 bel lt0) (trodAll_cons_mk (Below.trod laidOut (by kernel_rfl) (of_decide_eq_true (by kernel_rfl)) k1 bel lt1) trodAll_mk0)), rfl, bel.frame _, fun h => by cases h⟩

theorem over : Rows.fnBlockingClauseRow.holds Try.pinned (OpenSpec.ofChange Rows.fnBlockingClauseSpec) :=
  OpenClaim.holds_of_wide 4 Try.f4 rfl rfl rfl rfl rfl rfl rfl ⟨rfl, rfl, rfl, rfl, rfl⟩ rfl rfl rfl rfl rfl (by kernel_rfl) Try.func4 (by kernel_rfl)
    (of_decide_eq_true (by kernel_rfl)) (by unfold Func.isWrapper; first | (rw [if_pos (by decide +kernel)]; kernel_rfl) | (rw [if_neg (by decide +kernel)]; exact ⟨rfl, rfl⟩))
    (fun os started H enc _ => lifted os started H enc)

theorem proved : Rows.FnBlockingClauseSaid := over

end Go.Proofs.Ytihmkbfobihddaa.blockingClause
