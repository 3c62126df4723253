/- laws.FnDivideTwice: for all bytes, the program's DivideConstraint returns what the reference's returns, and divisions compose. No condition. -/
import Derived.Test.YtihmkbfobihddaaRdW
import Derived.Test.YtihmkbfobihddaaPlD
import Derived.Test.YtihmkbfobihddaaDiv2
import Derived.Test.YtihmkbfobihddaaSameC
import Derived.Test.YtihmkbfobihddaaOpenY
namespace Go.Proofs.Ytihmkbfobihddaa.divideTwice
open Go.ChangeShapes Go.WideShapes Go.ChangeAt Go.RowKit
set_option linter.unusedVariables false

set_option maxRecDepth 100000 in
set_option maxHeartbeats 4000000 in
theorem walk (A0 : Option Addr) (n0 cap0 : Nat) (zs0 : List Int) (A1 : Option Addr) (n1 cap1 : Nat) (zs1 : List Int) (w : World) (hn0 : n0 ≤ maxLen) (hc0 : n0 ≤ cap0) (hs0 : Seg w 1 A0 n0 (encY zs0)) (hb0 : bytesB zs0) (hn1 : n1 ≤ maxLen) (hc1 : n1 ≤ cap1) (hs1 : Seg w 1 A1 n1 (encY zs1)) (hb1 : bytesB zs1) :
    Calls Try.prog 6 #[.slice A0 n0 cap0, .slice A1 n1 cap1] w fun e w' => e = .returned (.bool true) ∧ Ext w w' := by
  by_cases hbig : 1048576 < n0
  · clear hs0 hs1
    go_enter Try.func6, Try.ntmps6
    go_wp2
    go_ret
    exact ⟨rfl, Ext.refl _⟩
  by_cases hbig1 : 1048576 < n1
  · clear hs0 hs1
    have hb2 : decide ((1048576 : Int) < (n0 : Int)) = false := decide_eq_false (by omega)
    go_enter Try.func6, Try.ntmps6
    go_wp2
    go_ret
    exact ⟨rfl, Ext.refl _⟩
  have hb2 : decide ((1048576 : Int) < (n0 : Int)) = false := decide_eq_false (by omega)
  have hb3 : decide ((1048576 : Int) < (n1 : Int)) = false := decide_eq_false (by omega)
  go_enter Try.func6, Try.ntmps6
  go_wp2_with fail
  refine (drawDiv_any A0 n0 cap0 zs0 _ hn0 hc0 hs0 hb0).mono ?_
  rintro e w1 ⟨A1a, n1a, c1a, ts1a, bd1a, z1b, rfl, hl1a, hm1a, hg1a, hE1⟩
  have hC1 : Ext w w1 := hE1
  have ze1 := hC1.size
  clear hE1
  have hn1a : n1a ≤ maxLen := by unfold maxLen; omega
  have HL1a := Lib.hid hl1a
  have hG1a := Lib.hid hg1a
  clear hl1a hg1a
  have m5a : 0 ≤ (n1 : Int) % 5 := Int.emod_nonneg _ (by omega)
  have m5b : (n1 : Int) % 5 < 5 := Int.emod_lt_of_pos _ (by omega)
  by_cases hv : dvB ts1a bd1a z1b = true
  · have HV := Lib.hid hv
    clear hv
    go_wp2_with fail
    refine Calls.mono ((implDiv_any A1a n1a c1a ts1a bd1a z1b _ hn1a (hG1a.out.seg.ext ((Ext.refl _).alloc _)) ).mono fun _ _ h => h.of_eq (dvT_of HV.out) (dvD_of HV.out) HV.out) ?_
    rintro e w2 ⟨A2, n2, c2, rfl, hl2, hg2, hE2⟩
    have hC2 : Ext w1 w2 := ((Ext.refl _).alloc _).trans hE2
    have ze2 := hC2.size
    have B_x0 := Lib.hid (Blk.of1 hE2)
    have zb_x0 := B_x0.out.lt
    clear hE2
    have hG2 := Lib.hid hg2
    have HL2 := Lib.hid hl2
    have hs2 : n2 ≤ 1048576 := (by rw [← hl2]; exact by rw [← (dvT_of HV.out)]; exact dvT_len ts1a bd1a z1b)
    have hn2 : n2 ≤ maxLen := (Nat.le_trans hs2 (by unfold maxLen; omega))
    clear hg2 hl2
    have L_x0 := B_x0.out
    have c_x0_0 := L_x0.cell 0
    have c_x0_1 := L_x0.cell 1
    have l_x0 := L_x0.lt
    clear L_x0
    go_wp2_with fail
    refine Calls.mono ((specDiv_any A1a n1a c1a ts1a bd1a z1b _ hn1a ((hG1a.out.seg.ext hC2).ext ((Ext.refl _).alloc _)) ).mono fun _ _ h => h.of_eq (dvT_of HV.out) (dvD_of HV.out) HV.out) ?_
    rintro e w3 ⟨A3, n3, c3, rfl, hl3, hg3, hE3⟩
    have hC3 : Ext w2 w3 := ((Ext.refl _).alloc _).trans hE3
    have ze3 := hC3.size
    have B_x1 := Lib.hid (Blk.of1 hE3)
    have zb_x1 := B_x1.out.lt
    clear c_x0_0 c_x0_1 l_x0
    clear hE3
    have hG3 := Lib.hid hg3
    have HL3 := Lib.hid hl3
    have hs3 : n3 ≤ 1048576 := (by rw [← hl3]; exact by rw [← (dvT_of HV.out)]; exact dvT_len ts1a bd1a z1b)
    have hn3 : n3 ≤ maxLen := (Nat.le_trans hs3 (by unfold maxLen; omega))
    clear hg3 hl3
    obtain ⟨kk1, kk2⟩ := dvB_k HV.out
    have HD := Lib.hid (dvB_of (k := 1 + (n1 : Int) % 5) (cvB_div (dvB_cv HV.out) kk1) (by omega) (by omega))
    have pk1 := Int.mul_le_mul kk2 (show 1 + (n1 : Int) % 5 ≤ 5 by omega) (by omega) (by omega)
    have pk0 := Int.mul_le_mul kk1 (show 1 ≤ 1 + (n1 : Int) % 5 by omega) (by omega) (by omega)
    have pw : IntKind.i64.wrap (z1b * (1 + (n1 : Int) % 5)) = z1b * (1 + (n1 : Int) % 5) := IntWalk.i64_in _ (by omega)
    by_cases hq : dvB ts1a bd1a (z1b * (1 + (n1 : Int) % 5)) = true
    · have HQ := Lib.hid hq
      clear hq
      have HT := Lib.hid (div_twice (ts := ts1a) (bd := bd1a) kk1 (show 1 ≤ 1 + (n1 : Int) % 5 by omega) pk0)
      have L_x1 := B_x1.out
      have c_x1_0 := L_x1.cell 0
      have c_x1_1 := L_x1.cell 1
      have l_x1 := L_x1.lt
      clear L_x1
      go_wp2_with fail
      refine (calls_val (implCS2 A2 n2 c2 (chMap (upM z1b) ts1a) (upM z1b bd1a) A3 n3 c3 (chMap (upM z1b) ts1a) (upM z1b bd1a) _ hn2 ((hG2.out.seg.ext hC3).ext ((Ext.refl _).alloc _)) hn3 (hG3.out.seg.ext ((Ext.refl _).alloc _))) (congrArg Value.bool (cEq_self _ _))).mono ?_
      rintro e w4 ⟨rfl, hE4⟩
      have hC4 : Ext w3 w4 := ((Ext.refl _).alloc _).trans hE4
      have ze4 := hC4.size
      have B_x2 := Lib.hid (Blk.of1 hE4)
      have zb_x2 := B_x2.out.lt
      clear c_x1_0 c_x1_1 l_x1
      clear hE4
      have L_x1 := (B_x1.out.ext hC4)
      have c_x1_0 := L_x1.cell 0
      have c_x1_1 := L_x1.cell 1
      clear L_x1
      go_wp2_with fail
      refine Calls.mono ((implDiv_any A2 n2 c2 (chMap (upM z1b) ts1a) (upM z1b bd1a) (1 + (n1 : Int) % 5) _ hn2 (hG2.out.seg.ext (hC3.trans hC4)) ).mono fun _ _ h => h.of_eq (dvT_of HD.out) (dvD_of HD.out) HD.out) ?_
      rintro e w5 ⟨A5, n5, c5, rfl, hl5, hg5, hE5⟩
      have hC5 : Ext w4 w5 := hE5
      have ze5 := hC5.size
      clear c_x1_0 c_x1_1
      clear hE5
      have hG5 := Lib.hid hg5
      have HL5 := Lib.hid hl5
      have hs5 : n5 ≤ 1048576 := (by rw [← hl5]; exact by rw [← (dvT_of HD.out)]; exact dvT_len (chMap (upM z1b) ts1a) (upM z1b bd1a) (1 + (n1 : Int) % 5))
      have hn5 : n5 ≤ maxLen := (Nat.le_trans hs5 (by unfold maxLen; omega))
      clear hg5 hl5
      have L_x0 := (B_x0.out.ext ((hC3.trans hC4).trans hC5))
      have c_x0_0 := L_x0.cell 0
      have c_x0_1 := L_x0.cell 1
      have l_x0 := L_x0.lt
      clear L_x0
      go_wp2_with fail
      refine Calls.mono ((implDiv_any A1a n1a c1a ts1a bd1a (z1b * (1 + (n1 : Int) % 5)) _ hn1a ((hG1a.out.seg.ext (((hC2.trans hC3).trans hC4).trans hC5)).ext ((Ext.refl _).alloc _)) ).mono fun _ _ h => h.of_eq (dvT_of HQ.out) (dvD_of HQ.out) HQ.out) ?_
      rintro e w6 ⟨A6, n6, c6, rfl, hl6, hg6, hE6⟩
      have hC6 : Ext w5 w6 := ((Ext.refl _).alloc _).trans hE6
      have ze6 := hC6.size
      have B_x3 := Lib.hid (Blk.of1 hE6)
      have zb_x3 := B_x3.out.lt
      clear c_x0_0 c_x0_1 l_x0
      clear hE6
      have hG6 := Lib.hid hg6
      have HL6 := Lib.hid hl6
      have hs6 : n6 ≤ 1048576 := (by rw [← hl6]; exact by rw [← (dvT_of HQ.out)]; exact dvT_len ts1a bd1a (z1b * (1 + (n1 : Int) % 5)))
      have hn6 : n6 ≤ maxLen := (Nat.le_trans hs6 (by unfold maxLen; omega))
      clear hg6 hl6
      have L_x3 := B_x3.out
      have c_x3_0 := L_x3.cell 0
      have c_x3_1 := L_x3.cell 1
      have l_x3 := L_x3.lt
      clear L_x3
      go_wp2_with fail
      refine (calls_val (implCS2 A5 n5 c5 (chMap (upM (1 + (n1 : Int) % 5)) (chMap (upM z1b) ts1a)) (upM (1 + (n1 : Int) % 5) (upM z1b bd1a)) A6 n6 c6 (chMap (upM (z1b * (1 + (n1 : Int) % 5))) ts1a) (upM (z1b * (1 + (n1 : Int) % 5)) bd1a) _ hn5 ((hG5.out.seg.ext hC6).ext ((Ext.refl _).alloc _)) hn6 (hG6.out.seg.ext ((Ext.refl _).alloc _))) (congrArg Value.bool HT.out)).mono ?_
      rintro e w7 ⟨rfl, hE7⟩
      have hC7 : Ext w6 w7 := ((Ext.refl _).alloc _).trans hE7
      have ze7 := hC7.size
      have B_x4 := Lib.hid (Blk.of1 hE7)
      have zb_x4 := B_x4.out.lt
      clear c_x3_0 c_x3_1 l_x3
      clear hE7
      go_wp2
      go_ret
      exact ⟨rfl, ((((((hC1.trans hC2).trans hC3).trans hC4).trans hC5).trans hC6).trans hC7)⟩
    · have HQ := Lib.hid (show dvB ts1a bd1a (z1b * (1 + (n1 : Int) % 5)) = false by simpa using hq)
      clear hq
      have L_x1 := B_x1.out
      have c_x1_0 := L_x1.cell 0
      have c_x1_1 := L_x1.cell 1
      have l_x1 := L_x1.lt
      clear L_x1
      go_wp2_with fail
      refine (calls_val (implCS2 A2 n2 c2 (chMap (upM z1b) ts1a) (upM z1b bd1a) A3 n3 c3 (chMap (upM z1b) ts1a) (upM z1b bd1a) _ hn2 ((hG2.out.seg.ext hC3).ext ((Ext.refl _).alloc _)) hn3 (hG3.out.seg.ext ((Ext.refl _).alloc _))) (congrArg Value.bool (cEq_self _ _))).mono ?_
      rintro e w4 ⟨rfl, hE4⟩
      have hC4 : Ext w3 w4 := ((Ext.refl _).alloc _).trans hE4
      have ze4 := hC4.size
      have B_x2 := Lib.hid (Blk.of1 hE4)
      have zb_x2 := B_x2.out.lt
      clear c_x1_0 c_x1_1 l_x1
      clear hE4
      have L_x1 := (B_x1.out.ext hC4)
      have c_x1_0 := L_x1.cell 0
      have c_x1_1 := L_x1.cell 1
      clear L_x1
      go_wp2_with fail
      refine Calls.mono ((implDiv_any A2 n2 c2 (chMap (upM z1b) ts1a) (upM z1b bd1a) (1 + (n1 : Int) % 5) _ hn2 (hG2.out.seg.ext (hC3.trans hC4)) ).mono fun _ _ h => h.of_eq (dvT_of HD.out) (dvD_of HD.out) HD.out) ?_
      rintro e w5 ⟨A5, n5, c5, rfl, hl5, hg5, hE5⟩
      have hC5 : Ext w4 w5 := hE5
      have ze5 := hC5.size
      clear c_x1_0 c_x1_1
      clear hE5
      have hG5 := Lib.hid hg5
      have HL5 := Lib.hid hl5
      have hs5 : n5 ≤ 1048576 := (by rw [← hl5]; exact by rw [← (dvT_of HD.out)]; exact dvT_len (chMap (upM z1b) ts1a) (upM z1b bd1a) (1 + (n1 : Int) % 5))
      have hn5 : n5 ≤ maxLen := (Nat.le_trans hs5 (by unfold maxLen; omega))
      clear hg5 hl5
      have L_x0 := (B_x0.out.ext ((hC3.trans hC4).trans hC5))
      have c_x0_0 := L_x0.cell 0
      have c_x0_1 := L_x0.cell 1
      have l_x0 := L_x0.lt
      clear L_x0
      go_wp2_with fail
      refine Calls.mono ((implDiv_any A1a n1a c1a ts1a bd1a (z1b * (1 + (n1 : Int) % 5)) _ hn1a ((hG1a.out.seg.ext (((hC2.trans hC3).trans hC4).trans hC5)).ext ((Ext.refl _).alloc _)) ).mono fun _ _ h => h.of_eq (dvT_no HQ.out) (dvD_no HQ.out) HQ.out) ?_
      rintro e w6 ⟨A6, n6, c6, rfl, hl6, hg6, hE6⟩
      have hC6 : Ext w5 w6 := ((Ext.refl _).alloc _).trans hE6
      have ze6 := hC6.size
      have B_x3 := Lib.hid (Blk.of1 hE6)
      have zb_x3 := B_x3.out.lt
      clear c_x0_0 c_x0_1 l_x0
      clear hE6
      have hG6 := Lib.hid hg6
      have HL6 := Lib.hid hl6
      have hs6 : n6 ≤ 1048576 := (by rw [← hl6]; exact by rw [← (dvT_no HQ.out)]; exact dvT_len ts1a bd1a (z1b * (1 + (n1 : Int) % 5)))
      have hn6 : n6 ≤ maxLen := (Nat.le_trans hs6 (by unfold maxLen; omega))
      clear hg6 hl6
      go_wp2
      go_ret
      exact ⟨rfl, ((((((hC1.trans hC2).trans hC3).trans hC4).trans hC5).trans hC6).alloc _)⟩
  · have HV := Lib.hid (show dvB ts1a bd1a z1b = false by simpa using hv)
    clear hv
    go_wp2_with fail
    refine Calls.mono ((implDiv_any A1a n1a c1a ts1a bd1a z1b _ hn1a (hG1a.out.seg.ext ((Ext.refl _).alloc _)) ).mono fun _ _ h => h.of_eq (dvT_no HV.out) (dvD_no HV.out) HV.out) ?_
    rintro e w2 ⟨A2, n2, c2, rfl, hl2, hg2, hE2⟩
    have hC2 : Ext w1 w2 := ((Ext.refl _).alloc _).trans hE2
    have ze2 := hC2.size
    have B_x0 := Lib.hid (Blk.of1 hE2)
    have zb_x0 := B_x0.out.lt
    clear hE2
    have hG2 := Lib.hid hg2
    have HL2 := Lib.hid hl2
    have hs2 : n2 ≤ 1048576 := (by rw [← hl2]; exact by rw [← (dvT_no HV.out)]; exact dvT_len ts1a bd1a z1b)
    have hn2 : n2 ≤ maxLen := (Nat.le_trans hs2 (by unfold maxLen; omega))
    clear hg2 hl2
    have L_x0 := B_x0.out
    have c_x0_0 := L_x0.cell 0
    have c_x0_1 := L_x0.cell 1
    have l_x0 := L_x0.lt
    clear L_x0
    go_wp2_with fail
    refine Calls.mono ((specDiv_any A1a n1a c1a ts1a bd1a z1b _ hn1a ((hG1a.out.seg.ext hC2).ext ((Ext.refl _).alloc _)) ).mono fun _ _ h => h.of_eq (dvT_no HV.out) (dvD_no HV.out) HV.out) ?_
    rintro e w3 ⟨A3, n3, c3, rfl, hl3, hg3, hE3⟩
    have hC3 : Ext w2 w3 := ((Ext.refl _).alloc _).trans hE3
    have ze3 := hC3.size
    have B_x1 := Lib.hid (Blk.of1 hE3)
    have zb_x1 := B_x1.out.lt
    clear c_x0_0 c_x0_1 l_x0
    clear hE3
    have hG3 := Lib.hid hg3
    have HL3 := Lib.hid hl3
    have hs3 : n3 ≤ 1048576 := (by rw [← hl3]; exact by rw [← (dvT_no HV.out)]; exact dvT_len ts1a bd1a z1b)
    have hn3 : n3 ≤ maxLen := (Nat.le_trans hs3 (by unfold maxLen; omega))
    clear hg3 hl3
    have L_x1 := B_x1.out
    have c_x1_0 := L_x1.cell 0
    have c_x1_1 := L_x1.cell 1
    have l_x1 := L_x1.lt
    clear L_x1
    go_wp2_with fail
    refine (calls_val (implCS2 A2 n2 c2 ([]) 0 A3 n3 c3 ([]) 0 _ hn2 ((hG2.out.seg.ext hC3).ext ((Ext.refl _).alloc _)) hn3 (hG3.out.seg.ext ((Ext.refl _).alloc _))) (congrArg Value.bool (cEq_self _ _))).mono ?_
    rintro e w4 ⟨rfl, hE4⟩
    have hC4 : Ext w3 w4 := ((Ext.refl _).alloc _).trans hE4
    have ze4 := hC4.size
    have B_x2 := Lib.hid (Blk.of1 hE4)
    have zb_x2 := B_x2.out.lt
    clear c_x1_0 c_x1_1 l_x1
    clear hE4
    have L_x1 := (B_x1.out.ext hC4)
    have c_x1_0 := L_x1.cell 0
    have c_x1_1 := L_x1.cell 1
    clear L_x1
    have L_x2 := B_x2.out
    have c_x2_0 := L_x2.cell 0
    have c_x2_1 := L_x2.cell 1
    clear L_x2
    go_wp2_with fail
    refine (calls_val (implCS2 A2 n2 c2 ([]) 0 A3 n3 c3 ([]) 0 _ hn2 (hG2.out.seg.ext (hC3.trans hC4)) hn3 (hG3.out.seg.ext hC4)) (congrArg Value.bool (cEq_self _ _))).mono ?_
    rintro e w5 ⟨rfl, hE5⟩
    have hC5 : Ext w4 w5 := hE5
    have ze5 := hC5.size
    clear c_x1_0 c_x1_1 c_x2_0 c_x2_1
    clear hE5
    go_wp2
    go_ret
    exact ⟨rfl, ((((hC1.trans hC2).trans hC3).trans hC4).trans hC5)⟩

theorem own : ownKnob Try.prog.godebug = none := by kernel_rfl
theorem laidOut : laidOutB Try.prog = true := by kernel_rfl

set_option maxRecDepth 100000 in
theorem lifted (os : Os) (started : os.Started) (H : Type) (enc : TypeId × Value → H) :
    ReturnsInHanded {} Try.checked os 6 .any (Rows.fnDivideTwiceSpec.pre6 enc Try.prog Try.f6 Rows.fnDivideTwiceRow.domain false) (Rows.fnDivideTwiceSpec.post enc Try.prog Try.f6 false true false false) := by
  refine returnsInHanded_of_change (C := Try.checked) own started (by kernel_rfl) Try.func6
    (ChangeSpec.witness6 (enc := enc) (C := Try.checked) false ⟨#[], #[.slice none 0 0, .slice none 0 0], []⟩ 8 (by kernel_rfl) (by kernel_rfl) (by kernel_rfl) (by kernel_rfl)) ?_
  intro W base args ds gs before hval0 hW hcnd _
  have hval : ∀ (j : Nat) t v, Try.f6.params[j]? = some t → args[j]? = some v → Value.okWide Try.prog W .any base t v := hval0
  have hW' := hW
  obtain ⟨p, q, hA0, hV, rfl, hfz, hnd⟩ := hW
  have hA : DataW.TrodAll enc Try.prog W 0 (fun _ => true) true Try.f6.params.toList args.toList ds p := hA0
  rw [Try.params6] at hA hval
  obtain ⟨v0, vs0, d0, ds0, p0, q0, hargs, rfl, rfl, h0, r0⟩ := trodAll_cons hA
  obtain ⟨v1, vs1, d1, ds1, p1, q1, rfl, rfl, rfl, h1, r1⟩ := trodAll_cons r0
  obtain ⟨rfl, rfl, rfl⟩ := trodAll_nil r1
  obtain rfl : args = #[v0, v1] := by cases args; simp_all
  obtain ⟨rfl, rfl⟩ := trodVars_none hV
  have k0 := h0
  have lt0 : ∀ x ∈ p0, x.block < W.heap.size := by obtain ⟨m, hm⟩ := k0; exact DataW.trod_lt m _ _ _ hm
  obtain ⟨A0, n0, cap0, zs0, rfl, hn0, hc0, hs0, hb0⟩ := arg_bytes (hval 0 22 v0 rfl rfl) h0
  have k1 := h1
  have lt1 : ∀ x ∈ p1, x.block < W.heap.size := by obtain ⟨m, hm⟩ := k1; exact DataW.trod_lt m _ _ _ hm
  obtain ⟨A1, n1, cap1, zs1, rfl, hn1, hc1, hs1, hb1⟩ := arg_bytes (hval 1 22 v1 rfl rfl) h1
  clear hA0 hval0
  refine (walk A0 n0 cap0 zs0 A1 n1 cap1 zs1 W hn0 hc0 hs0 hb0 hn1 hc1 hs1 hb1).mono fun e W' ⟨he, ext⟩ => ?_
  subst he
  have bel := ext.below
  exact ⟨_, rfl, _, _, _, [], _, [], hW', trodAll_mk1 (shut_bool Try.underlying4 _), (trodAll_cons_mk (Below.trod laidOut (by kernel_rfl) (of_decide_eq_true (by kernel_rfl)) k0 bel lt0) (trodAll_cons_mk (Below.trod laidOut (by kernel_rfl) (of_decide_eq_true (by kernel_rfl)) k1 bel lt1) trodAll_mk0)), rfl, bel.frame _, fun h => by cases h⟩

theorem over : Rows.fnDivideTwiceRow.holds Try.pinned (OpenSpec.ofChange Rows.fnDivideTwiceSpec) :=
  OpenClaim.holds_of_wide 6 Try.f6 rfl rfl rfl rfl rfl rfl rfl ⟨rfl, rfl, rfl, rfl, rfl⟩ rfl rfl rfl rfl rfl (by kernel_rfl) Try.func6 (by kernel_rfl)
    (of_decide_eq_true (by kernel_rfl)) (by unfold Func.isWrapper; first | (rw [if_pos (by decide +kernel)]; kernel_rfl) | (rw [if_neg (by decide +kernel)]; exact ⟨rfl, rfl⟩))
    (fun os started H enc _ => lifted os started H enc)

theorem proved : Rows.FnDivideTwiceSaid := over

end Go.Proofs.Ytihmkbfobihddaa.divideTwice
