/- laws.FnCoversConstraint: for all bytes, the program's CoversConstraint answers as the reference's, each valid constraint covers itself, and what satisfies a constraint satisfies those that it covers. No condition. -/
import Derived.Test.YtihmkbfobihddaaRdK
import Derived.Test.YtihmkbfobihddaaPlS
import Derived.Test.YtihmkbfobihddaaEval
import Derived.Test.YtihmkbfobihddaaOpenY
namespace Go.Proofs.Ytihmkbfobihddaa.coversConstraint
open Go.ChangeShapes Go.WideShapes Go.ChangeAt Go.RowKit
set_option linter.unusedVariables false

set_option maxRecDepth 100000 in
set_option maxHeartbeats 4000000 in
theorem walk (A0 : Option Addr) (n0 cap0 : Nat) (zs0 : List Int) (A1 : Option Addr) (n1 cap1 : Nat) (zs1 : List Int) (w : World) (hn0 : n0 ≤ maxLen) (hc0 : n0 ≤ cap0) (hs0 : Seg w 1 A0 n0 (encY zs0)) (hb0 : bytesB zs0) (hn1 : n1 ≤ maxLen) (hc1 : n1 ≤ cap1) (hs1 : Seg w 1 A1 n1 (encY zs1)) (hb1 : bytesB zs1) :
    Calls Try.prog 14 #[.slice A0 n0 cap0, .slice A1 n1 cap1] w fun e w' => e = .returned (.bool true) ∧ Ext w w' := by
  by_cases hbig : 1048576 < n0
  · clear hs0 hs1
    go_enter Try.func14, Try.ntmps14
    go_wp2
    go_ret
    exact ⟨rfl, Ext.refl _⟩
  by_cases hbig1 : 1048576 < n1
  · clear hs0 hs1
    have hb2 : decide ((1048576 : Int) < (n0 : Int)) = false := decide_eq_false (by omega)
    go_enter Try.func14, Try.ntmps14
    go_wp2
    go_ret
    exact ⟨rfl, Ext.refl _⟩
  have hb2 : decide ((1048576 : Int) < (n0 : Int)) = false := decide_eq_false (by omega)
  have hb3 : decide ((1048576 : Int) < (n1 : Int)) = false := decide_eq_false (by omega)
  go_enter Try.func14, Try.ntmps14
  go_wp2_with fail
  refine (drawCov_any A0 n0 cap0 zs0 _ hn0 hc0 hs0 hb0).mono ?_
  rintro e w1 ⟨A1a, n1a, c1a, ts1a, bd1a, A1b, n1b, c1b, ts1b, bd1b, rfl, hl1a, hm1a, hl1b, hm1b, hg1a, hg1b, hE1⟩
  have hC1 : Ext w w1 := hE1
  have ze1 := hC1.size
  clear hE1
  have hn1a : n1a ≤ maxLen := by unfold maxLen; omega
  have HL1a := Lib.hid hl1a
  have hG1a := Lib.hid hg1a
  clear hl1a hg1a
  have hn1b : n1b ≤ maxLen := by unfold maxLen; omega
  have HL1b := Lib.hid hl1b
  have hG1b := Lib.hid hg1b
  clear hl1b hg1b
  go_wp2_with fail
  refine (drawEval_any A1 n1 cap1 zs1 _ hn1 hc1 ((hs1.ext hC1).ext (((Ext.refl _).alloc _).alloc _)) hb1).mono ?_
  rintro e w2 ⟨A2a, n2a, c2a, ts2a, bd2a, A2b, n2b, c2b, vs2b, rfl, hl2a, hm2a, hl2b, hm2b, hg2a, hg2b, hE2⟩
  have hC2 : Ext w1 w2 := (((Ext.refl _).alloc _).alloc _).trans hE2
  have ze2 := hC2.size
  obtain ⟨B_x0', B_x1'⟩ := Blk.of2 hE2
  have B_x0 := Lib.hid B_x0'
  clear B_x0'
  have zb_x0 := B_x0.out.lt
  have B_x1 := Lib.hid B_x1'
  clear B_x1'
  have zb_x1 := B_x1.out.lt
  clear hE2
  have hn2a : n2a ≤ maxLen := by unfold maxLen; omega
  have HL2a := Lib.hid hl2a
  have hG2a := Lib.hid hg2a
  clear hl2a hg2a
  have hn2b : n2b ≤ maxLen := by unfold maxLen; omega
  have HL2b := Lib.hid hl2b
  have hG2b := Lib.hid hg2b
  clear hl2b hg2b
  obtain ⟨cb, hcb⟩ : ∃ b, Hid (coversB ts1a bd1a ts1b bd1b = b) := ⟨_, rfl⟩
  obtain ⟨vb, hvb⟩ : ∃ b, Hid (cvB ts1a bd1a = b) := ⟨_, rfl⟩
  have HSf : Hid (coversB ts1a bd1a ts1a bd1a = vb) := (covers_self _ _).trans hvb.out
  obtain ⟨ea, hea⟩ : ∃ b, Hid (evB ts1a bd1a vs2b = b) := ⟨_, rfl⟩
  obtain ⟨eb, heb⟩ : ∃ b, Hid (evB ts1b bd1b vs2b = b) := ⟨_, rfl⟩
  have HX : Hid (cb = true → ea = true → eb = true) := fun h1 h2 => by rw [← heb.out]; exact cov_sound (hcb.out.trans h1) (hea.out.trans h2)
  cases cb
  · skip
    have L_x0 := B_x0.out
    have c_x0_0 := L_x0.cell 0
    have c_x0_1 := L_x0.cell 1
    have l_x0 := L_x0.lt
    clear L_x0
    have L_x1 := B_x1.out
    have c_x1_0 := L_x1.cell 0
    have c_x1_1 := L_x1.cell 1
    have l_x1 := L_x1.lt
    clear L_x1
    go_wp2_with fail
    refine (calls_val (implCov_any A1a n1a c1a ts1a bd1a A1b n1b c1b ts1b bd1b _ hn1a ((hG1a.out.seg.ext hC2).ext ((Ext.refl _).alloc _)) hn1b ((hG1b.out.seg.ext hC2).ext ((Ext.refl _).alloc _))) (congrArg Value.bool hcb.out)).mono ?_
    rintro e w3 ⟨rfl, hE3⟩
    have hC3 : Ext w2 w3 := ((Ext.refl _).alloc _).trans hE3
    have ze3 := hC3.size
    have B_x2 := Lib.hid (Blk.of1 hE3)
    have zb_x2 := B_x2.out.lt
    clear c_x0_0 c_x0_1 l_x0 c_x1_0 c_x1_1 l_x1
    clear hE3
    go_wp2_with fail
    have L_x0 : Blk w3 w1.heap.size 33 #[.slice A1a n1a c1a, .int .i64 bd1a] := (B_x0.out.ext hC3)
    have c_x0_0 : ∀ p : ExtBy w3, p.to.cell? ⟨w1.heap.size, 0, none⟩ = some (.slice A1a n1a c1a) := fun p => p.cell (L_x0.cell 0)
    have c_x0_1 : ∀ p : ExtBy w3, p.to.cell? ⟨w1.heap.size, 1, none⟩ = some (.int .i64 bd1a) := fun p => p.cell (L_x0.cell 1)
    clear L_x0
    have L_x1 : Blk w3 (w1.heap.size + 1) 33 #[.slice A1b n1b c1b, .int .i64 bd1b] := (B_x1.out.ext hC3)
    have c_x1_0 : ∀ p : ExtBy w3, p.to.cell? ⟨w1.heap.size + 1, 0, none⟩ = some (.slice A1b n1b c1b) := fun p => p.cell (L_x1.cell 0)
    have c_x1_1 : ∀ p : ExtBy w3, p.to.cell? ⟨w1.heap.size + 1, 1, none⟩ = some (.int .i64 bd1b) := fun p => p.cell (L_x1.cell 1)
    clear L_x1
    refine wp_region_ext_lit (by kernel_rfl) (by kernel_rfl) ?_
    repeat (go_big_quiet_step (first | (go_at_call_of 53 (A1a); go_at_call_of 53 (A1b); exact ext_call (calls_val (specCov_any A1a n1a c1a ts1a bd1a A1b n1b c1b ts1b bd1b _ hn1a ((hG1a.out.seg.ext (hC2.trans hC3)).ext (ExtBy.ext _)) hn1b ((hG1b.out.seg.ext (hC2.trans hC3)).ext (ExtBy.ext _))) (congrArg Value.bool hcb.out))) | (go_at_call_of 44 (A1a); exact ext_call (calls_val (implCov_any A1a n1a c1a ts1a bd1a A1a n1a c1a ts1a bd1a _ hn1a ((hG1a.out.seg.ext (hC2.trans hC3)).ext (ExtBy.ext _)) hn1a ((hG1a.out.seg.ext (hC2.trans hC3)).ext (ExtBy.ext _))) (congrArg Value.bool HSf.out))) | (go_at_call_of 24 (A1a); exact ext_call (calls_val (implCV_any A1a n1a c1a ts1a bd1a _ hn1a ((hG1a.out.seg.ext (hC2.trans hC3)).ext (ExtBy.ext _))) (congrArg Value.bool hvb.out)))))
    refine wpQuiet_nil ?_
    intro w4 hw'
    obtain ⟨⟨wq, hE4⟩, hw''⟩ := hw'
    subst hw''
    clear c_x0_0 c_x0_1 c_x1_0 c_x1_1
    replace hE4 : Ext w3 w4 := hE4
    have hC4 : Ext w3 w4 := hE4
    have ze4 := hC4.size
    clear hE4
    go_wp2
    go_ret
    exact ⟨rfl, (((hC1.trans hC2).trans hC3).trans hC4)⟩
  · cases ea
    · skip
      have L_x0 := B_x0.out
      have c_x0_0 := L_x0.cell 0
      have c_x0_1 := L_x0.cell 1
      have l_x0 := L_x0.lt
      clear L_x0
      have L_x1 := B_x1.out
      have c_x1_0 := L_x1.cell 0
      have c_x1_1 := L_x1.cell 1
      have l_x1 := L_x1.lt
      clear L_x1
      go_wp2_with fail
      refine (calls_val (implCov_any A1a n1a c1a ts1a bd1a A1b n1b c1b ts1b bd1b _ hn1a ((hG1a.out.seg.ext hC2).ext ((Ext.refl _).alloc _)) hn1b ((hG1b.out.seg.ext hC2).ext ((Ext.refl _).alloc _))) (congrArg Value.bool hcb.out)).mono ?_
      rintro e w3 ⟨rfl, hE3⟩
      have hC3 : Ext w2 w3 := ((Ext.refl _).alloc _).trans hE3
      have ze3 := hC3.size
      have B_x2 := Lib.hid (Blk.of1 hE3)
      have zb_x2 := B_x2.out.lt
      clear c_x0_0 c_x0_1 l_x0 c_x1_0 c_x1_1 l_x1
      clear hE3
      go_wp2_with fail
      have L_x0 : Blk w3 w1.heap.size 33 #[.slice A1a n1a c1a, .int .i64 bd1a] := (B_x0.out.ext hC3)
      have c_x0_0 : ∀ p : ExtBy w3, p.to.cell? ⟨w1.heap.size, 0, none⟩ = some (.slice A1a n1a c1a) := fun p => p.cell (L_x0.cell 0)
      have c_x0_1 : ∀ p : ExtBy w3, p.to.cell? ⟨w1.heap.size, 1, none⟩ = some (.int .i64 bd1a) := fun p => p.cell (L_x0.cell 1)
      clear L_x0
      have L_x1 : Blk w3 (w1.heap.size + 1) 33 #[.slice A1b n1b c1b, .int .i64 bd1b] := (B_x1.out.ext hC3)
      have c_x1_0 : ∀ p : ExtBy w3, p.to.cell? ⟨w1.heap.size + 1, 0, none⟩ = some (.slice A1b n1b c1b) := fun p => p.cell (L_x1.cell 0)
      have c_x1_1 : ∀ p : ExtBy w3, p.to.cell? ⟨w1.heap.size + 1, 1, none⟩ = some (.int .i64 bd1b) := fun p => p.cell (L_x1.cell 1)
      clear L_x1
      refine wp_region_ext_lit (by kernel_rfl) (by kernel_rfl) ?_
      repeat (go_big_quiet_step (first | (go_at_call_of 53 (A1a); go_at_call_of 53 (A1b); exact ext_call (calls_val (specCov_any A1a n1a c1a ts1a bd1a A1b n1b c1b ts1b bd1b _ hn1a ((hG1a.out.seg.ext (hC2.trans hC3)).ext (ExtBy.ext _)) hn1b ((hG1b.out.seg.ext (hC2.trans hC3)).ext (ExtBy.ext _))) (congrArg Value.bool hcb.out))) | (go_at_call_of 44 (A1a); exact ext_call (calls_val (implCov_any A1a n1a c1a ts1a bd1a A1a n1a c1a ts1a bd1a _ hn1a ((hG1a.out.seg.ext (hC2.trans hC3)).ext (ExtBy.ext _)) hn1a ((hG1a.out.seg.ext (hC2.trans hC3)).ext (ExtBy.ext _))) (congrArg Value.bool HSf.out))) | (go_at_call_of 24 (A1a); exact ext_call (calls_val (implCV_any A1a n1a c1a ts1a bd1a _ hn1a ((hG1a.out.seg.ext (hC2.trans hC3)).ext (ExtBy.ext _))) (congrArg Value.bool hvb.out)))))
      refine wpQuiet_nil ?_
      intro w4 hw'
      obtain ⟨⟨wq, hE4⟩, hw''⟩ := hw'
      subst hw''
      clear c_x0_0 c_x0_1 c_x1_0 c_x1_1
      replace hE4 : Ext w3 w4 := hE4
      have hC4 : Ext w3 w4 := hE4
      have ze4 := hC4.size
      clear hE4
      have L_x0 := (B_x0.out.ext (hC3.trans hC4))
      have c_x0_0 := L_x0.cell 0
      have c_x0_1 := L_x0.cell 1
      clear L_x0
      go_wp2_with fail
      refine (calls_val (implEV_any A1a n1a c1a ts1a bd1a A2b n2b c2b vs2b _ hn1a (hG1a.out.seg.ext ((hC2.trans hC3).trans hC4)) hn2b (hG2b.out.seg.ext (hC3.trans hC4))) (congrArg Value.bool hea.out)).mono ?_
      rintro e w5 ⟨rfl, hE5⟩
      have hC5 : Ext w4 w5 := hE5
      have ze5 := hC5.size
      clear c_x0_0 c_x0_1
      clear hE5
      go_wp2
      go_ret
      exact ⟨rfl, ((((hC1.trans hC2).trans hC3).trans hC4).trans hC5)⟩
    · have HX2 : Hid (evB ts1b bd1b vs2b = true) := heb.out.trans (HX.out rfl rfl)
      have L_x0 := B_x0.out
      have c_x0_0 := L_x0.cell 0
      have c_x0_1 := L_x0.cell 1
      have l_x0 := L_x0.lt
      clear L_x0
      have L_x1 := B_x1.out
      have c_x1_0 := L_x1.cell 0
      have c_x1_1 := L_x1.cell 1
      have l_x1 := L_x1.lt
      clear L_x1
      go_wp2_with fail
      refine (calls_val (implCov_any A1a n1a c1a ts1a bd1a A1b n1b c1b ts1b bd1b _ hn1a ((hG1a.out.seg.ext hC2).ext ((Ext.refl _).alloc _)) hn1b ((hG1b.out.seg.ext hC2).ext ((Ext.refl _).alloc _))) (congrArg Value.bool hcb.out)).mono ?_
      rintro e w3 ⟨rfl, hE3⟩
      have hC3 : Ext w2 w3 := ((Ext.refl _).alloc _).trans hE3
      have ze3 := hC3.size
      have B_x2 := Lib.hid (Blk.of1 hE3)
      have zb_x2 := B_x2.out.lt
      clear c_x0_0 c_x0_1 l_x0 c_x1_0 c_x1_1 l_x1
      clear hE3
      go_wp2_with fail
      have L_x0 : Blk w3 w1.heap.size 33 #[.slice A1a n1a c1a, .int .i64 bd1a] := (B_x0.out.ext hC3)
      have c_x0_0 : ∀ p : ExtBy w3, p.to.cell? ⟨w1.heap.size, 0, none⟩ = some (.slice A1a n1a c1a) := fun p => p.cell (L_x0.cell 0)
      have c_x0_1 : ∀ p : ExtBy w3, p.to.cell? ⟨w1.heap.size, 1, none⟩ = some (.int .i64 bd1a) := fun p => p.cell (L_x0.cell 1)
      clear L_x0
      have L_x1 : Blk w3 (w1.heap.size + 1) 33 #[.slice A1b n1b c1b, .int .i64 bd1b] := (B_x1.out.ext hC3)
      have c_x1_0 : ∀ p : ExtBy w3, p.to.cell? ⟨w1.heap.size + 1, 0, none⟩ = some (.slice A1b n1b c1b) := fun p => p.cell (L_x1.cell 0)
      have c_x1_1 : ∀ p : ExtBy w3, p.to.cell? ⟨w1.heap.size + 1, 1, none⟩ = some (.int .i64 bd1b) := fun p => p.cell (L_x1.cell 1)
      clear L_x1
      refine wp_region_ext_lit (by kernel_rfl) (by kernel_rfl) ?_
      repeat (go_big_quiet_step (first | (go_at_call_of 53 (A1a); go_at_call_of 53 (A1b); exact ext_call (calls_val (specCov_any A1a n1a c1a ts1a bd1a A1b n1b c1b ts1b bd1b _ hn1a ((hG1a.out.seg.ext (hC2.trans hC3)).ext (ExtBy.ext _)) hn1b ((hG1b.out.seg.ext (hC2.trans hC3)).ext (ExtBy.ext _))) (congrArg Value.bool hcb.out))) | (go_at_call_of 44 (A1a); exact ext_call (calls_val (implCov_any A1a n1a c1a ts1a bd1a A1a n1a c1a ts1a bd1a _ hn1a ((hG1a.out.seg.ext (hC2.trans hC3)).ext (ExtBy.ext _)) hn1a ((hG1a.out.seg.ext (hC2.trans hC3)).ext (ExtBy.ext _))) (congrArg Value.bool HSf.out))) | (go_at_call_of 24 (A1a); exact ext_call (calls_val (implCV_any A1a n1a c1a ts1a bd1a _ hn1a ((hG1a.out.seg.ext (hC2.trans hC3)).ext (ExtBy.ext _))) (congrArg Value.bool hvb.out)))))
      refine wpQuiet_nil ?_
      intro w4 hw'
      obtain ⟨⟨wq, hE4⟩, hw''⟩ := hw'
      subst hw''
      clear c_x0_0 c_x0_1 c_x1_0 c_x1_1
      replace hE4 : Ext w3 w4 := hE4
      have hC4 : Ext w3 w4 := hE4
      have ze4 := hC4.size
      clear hE4
      have L_x0 := (B_x0.out.ext (hC3.trans hC4))
      have c_x0_0 := L_x0.cell 0
      have c_x0_1 := L_x0.cell 1
      clear L_x0
      go_wp2_with fail
      refine (calls_val (implEV_any A1a n1a c1a ts1a bd1a A2b n2b c2b vs2b _ hn1a (hG1a.out.seg.ext ((hC2.trans hC3).trans hC4)) hn2b (hG2b.out.seg.ext (hC3.trans hC4))) (congrArg Value.bool hea.out)).mono ?_
      rintro e w5 ⟨rfl, hE5⟩
      have hC5 : Ext w4 w5 := hE5
      have ze5 := hC5.size
      clear c_x0_0 c_x0_1
      clear hE5
      have L_x1 := (B_x1.out.ext ((hC3.trans hC4).trans hC5))
      have c_x1_0 := L_x1.cell 0
      have c_x1_1 := L_x1.cell 1
      clear L_x1
      go_wp2_with fail
      refine (calls_val (implEV_any A1b n1b c1b ts1b bd1b A2b n2b c2b vs2b _ hn1b (hG1b.out.seg.ext (((hC2.trans hC3).trans hC4).trans hC5)) hn2b (hG2b.out.seg.ext ((hC3.trans hC4).trans hC5))) (congrArg Value.bool HX2.out)).mono ?_
      rintro e w6 ⟨rfl, hE6⟩
      have hC6 : Ext w5 w6 := hE6
      have ze6 := hC6.size
      clear c_x1_0 c_x1_1
      clear hE6
      go_wp2
      go_ret
      exact ⟨rfl, (((((hC1.trans hC2).trans hC3).trans hC4).trans hC5).trans hC6)⟩

theorem own : ownKnob Try.prog.godebug = none := by kernel_rfl
theorem laidOut : laidOutB Try.prog = true := by kernel_rfl

set_option maxRecDepth 100000 in
theorem lifted (os : Os) (started : os.Started) (H : Type) (enc : TypeId × Value → H) :
    ReturnsInHanded {} Try.checked os 14 .any (Rows.fnCoversConstraintSpec.pre6 enc Try.prog Try.f14 Rows.fnCoversConstraintRow.domain false) (Rows.fnCoversConstraintSpec.post enc Try.prog Try.f14 false true false false) := by
  refine returnsInHanded_of_change (C := Try.checked) own started (by kernel_rfl) Try.func14
    (ChangeSpec.witness6 (enc := enc) (C := Try.checked) false ⟨#[], #[.slice none 0 0, .slice none 0 0], []⟩ 8 (by kernel_rfl) (by kernel_rfl) (by kernel_rfl) (by kernel_rfl)) ?_
  intro W base args ds gs before hval0 hW hcnd _
  have hval : ∀ (j : Nat) t v, Try.f14.params[j]? = some t → args[j]? = some v → Value.okWide Try.prog W .any base t v := hval0
  have hW' := hW
  obtain ⟨p, q, hA0, hV, rfl, hfz, hnd⟩ := hW
  have hA : DataW.TrodAll enc Try.prog W 0 (fun _ => true) true Try.f14.params.toList args.toList ds p := hA0
  rw [Try.params14] at hA hval
  obtain ⟨v0, vs0, d0, ds0, p0, q0, hargs, rfl, rfl, h0, r0⟩ := trodAll_cons hA
  obtain ⟨v1, vs1, d1, ds1, p1, q1, rfl, rfl, rfl, h1, r1⟩ := trodAll_cons r0
  obtain ⟨rfl, rfl, rfl⟩ := trodAll_nil r1
  obtain rfl : args = #[v0, v1] := by cases args; simp_all
  obtain ⟨rfl, rfl⟩ := trodVars_none hV
  have k0 := h0
  have lt0 : ∀ x ∈ p0, x.block < W.heap.size := by obtain ⟨m, hm⟩ := k0; exact DataW.trod_lt m _ _ _ hm
  obtain ⟨A0, n0, cap0, zs0, rfl, hn0, hc0, hs0, hb0⟩ := arg_bytes (hval 0 22 v0 rfl rfl) h0
  have k1 := h1
  have lt1 : ∀ x ∈ p1, x.block < W.heap.size := by obtain ⟨m, hm⟩ := k1; exact DataW.trod_lt m _ _ _ hm
  obtain ⟨A1, n1, cap1, zs1, rfl, hn1, hc1, hs1, hb1⟩ := arg_bytes (hval 1 22 v1 rfl rfl) h1
  clear hA0 hval0
  refine (walk A0 n0 cap0 zs0 A1 n1 cap1 zs1 W hn0 hc0 hs0 hb0 hn1 hc1 hs1 hb1).mono fun e W' ⟨he, ext⟩ => ?_
  subst he
  have bel := ext.below
  exact ⟨_, rfl, _, _, _, [], _, [], hW', trodAll_mk1 (shut_bool Try.underlying4 _), (trodAll_cons_mk (Below.trod laidOut (by kernel_rfl) (of_decide_eq_true (by kernel_rfl)) k0 bel lt0) (trodAll_cons_mk (Below.trod laidOut (by kernel_rfl) (of_decide_eq_true (by kernel_rfl)) k1 bel lt1) trodAll_mk0)), rfl, bel.frame _, fun h => by cases h⟩

theorem over : Rows.fnCoversConstraintRow.holds Try.pinned (OpenSpec.ofChange Rows.fnCoversConstraintSpec) :=
  OpenClaim.holds_of_wide 14 Try.f14 rfl rfl rfl rfl rfl rfl rfl ⟨rfl, rfl, rfl, rfl, rfl⟩ rfl rfl rfl rfl rfl (by kernel_rfl) Try.func14 (by kernel_rfl)
    (of_decide_eq_true (by kernel_rfl)) (by unfold Func.isWrapper; first | (rw [if_pos (by decide +kernel)]; kernel_rfl) | (rw [if_neg (by decide +kernel)]; exact ⟨rfl, rfl⟩))
    (fun os started H enc _ => lifted os started H enc)

theorem proved : Rows.FnCoversConstraintSaid := over

end Go.Proofs.Ytihmkbfobihddaa.coversConstraint
