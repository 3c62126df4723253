/- laws.FnSaturateCovers: for all bytes, the program's SaturateConstraint returns what the reference's returns, and where the drawn constraint's bound is 1 it is the clause of the constraint's literals. No condition. -/
import Derived.Test.YtbpkpcfhmglddaaRdV
import Derived.Test.YtbpkpcfhmglddaaPlSC
import Derived.Test.YtbpkpcfhmglddaaCOI
import Derived.Test.YtbpkpcfhmglddaaSat
import Derived.Test.YtbpkpcfhmglddaaSameC
import Derived.Test.YtbpkpcfhmglddaaOpenY
import Derived.Test.YtbpkpcfhmglddaaFacts
namespace Go.Proofs.Ytbpkpcfhmglddaa.saturateCovers
open Go.ChangeShapes Go.WideShapes Go.ChangeAt Go.RowKit
set_option linter.unusedVariables false

set_option maxRecDepth 100000 in
set_option maxHeartbeats 4000000 in
theorem walk (A0 : Option Addr) (n0 cap0 : Nat) (zs0 : List Int) (w : World) (hn0 : n0 ≤ maxLen) (hc0 : n0 ≤ cap0) (hs0 : Seg w 1 A0 n0 (encY zs0)) (hb0 : bytesB zs0) :
    Calls Try.prog 4 #[.slice A0 n0 cap0] w fun e w' => e = .returned (.bool true) ∧ Ext w w' := by
  by_cases hbig : 1048576 < n0
  · clear hs0
    go_enter Try.func4, Try.ntmps4
    go_wp2
    go_ret
    exact ⟨rfl, Ext.refl _⟩
  go_enter Try.func4, Try.ntmps4
  go_wp2_with fail
  refine (drawSaturateConstraint_any A0 n0 cap0 zs0 _ hn0 hc0 hs0 hb0).mono ?_
  rintro e w1 ⟨A1a, n1a, c1a, ts1a, bd1a, rfl, hl1a, hm1a, hg1a, hE1⟩
  have hC1 : Ext w w1 := hE1
  have ze1 := hC1.size
  clear hE1
  have hn1a : n1a ≤ maxLen := by unfold maxLen; omega
  have HL1a := Lib.hid hl1a
  have hG1a := Lib.hid hg1a
  clear hl1a hg1a
  by_cases hv : cvB ts1a bd1a = true
  · have HV := Lib.hid hv
    clear hv
    go_wp2_with fail
    refine Calls.mono ((implSat_any A1a n1a c1a ts1a bd1a _ hn1a (hG1a.out.seg.ext ((Ext.refl _).alloc _))).mono fun _ _ h => h.of_eq (stT_of HV.out) (stD_of HV.out) HV.out) ?_
    rintro e w2 ⟨A2, n2, c2, rfl, hl2, hg2, hE2⟩
    have hC2 : Ext w1 w2 := ((Ext.refl _).alloc _).trans hE2
    have ze2 := hC2.size
    have B_x0 := Lib.hid (Blk.of1 hE2)
    have zb_x0 := B_x0.out.lt
    clear hE2
    have hG2 := Lib.hid hg2
    have HL2 := Lib.hid hl2
    have hs2 : n2 ≤ 1048576 := (by rw [← hl2]; exact by rw [← (stT_of HV.out)]; exact stT_len ts1a bd1a)
    have hn2 : n2 ≤ maxLen := (Nat.le_trans hs2 (by unfold maxLen; omega))
    clear hg2 hl2
    have L_x0 := B_x0.out
    have c_x0_0 := L_x0.cell 0
    have c_x0_1 := L_x0.cell 1
    have l_x0 := L_x0.lt
    clear L_x0
    go_wp2_with fail
    refine Calls.mono ((specSat_any A1a n1a c1a ts1a bd1a _ hn1a ((hG1a.out.seg.ext hC2).ext ((Ext.refl _).alloc _))).mono fun _ _ h => h.of_eq (stT_of HV.out) (stD_of HV.out) HV.out) ?_
    rintro e w3 ⟨A3, n3, c3, rfl, hl3, hg3, hE3⟩
    have hC3 : Ext w2 w3 := ((Ext.refl _).alloc _).trans hE3
    have ze3 := hC3.size
    have B_x1 := Lib.hid (Blk.of1 hE3)
    have zb_x1 := B_x1.out.lt
    clear c_x0_0 c_x0_1 l_x0
    clear hE3
    have hG3 := Lib.hid hg3
    have HL3 := Lib.hid hl3
    have hs3 : n3 ≤ 1048576 := (by rw [← hl3]; exact by rw [← (stT_of HV.out)]; exact stT_len ts1a bd1a)
    have hn3 : n3 ≤ maxLen := (Nat.le_trans hs3 (by unfold maxLen; omega))
    clear hg3 hl3
    by_cases h1 : bd1a = 1
    · subst h1
      have L_x1 := B_x1.out
      have c_x1_0 := L_x1.cell 0
      have c_x1_1 := L_x1.cell 1
      have l_x1 := L_x1.lt
      clear L_x1
      go_wp2_with fail
      refine (calls_val (implCS2 A2 n2 c2 (saT ts1a 1) 1 A3 n3 c3 (saT ts1a 1) 1 _ hn2 ((hG2.out.seg.ext hC3).ext ((Ext.refl _).alloc _)) hn3 (hG3.out.seg.ext ((Ext.refl _).alloc _))) (congrArg Value.bool (cEq_self _ _))).mono ?_
      rintro e w4 ⟨rfl, hE4⟩
      have hC4 : Ext w3 w4 := ((Ext.refl _).alloc _).trans hE4
      have ze4 := hC4.size
      have B_x2 := Lib.hid (Blk.of1 hE4)
      have zb_x2 := B_x2.out.lt
      clear c_x1_0 c_x1_1 l_x1
      clear hE4
      obtain ⟨i0, hi, hz0, hz1, hz2⟩ := info_parts Try.infoClO
      have HI := Lib.hid hi
      have HZ0 := Lib.hid hz0
      have HZ1 := Lib.hid hz1
      have HZ2 := Lib.hid hz2
      clear hi hz0 hz1 hz2
      have OE := own_empty w4 w4.heap.size 3 1 (Nat.le_refl _)
      have HBX := Lib.hid (B_x0.out.ext (hC3.trans hC4))
      have HSX := Lib.hid (hG1a.out.seg.ext ((hC2.trans hC3).trans hC4))
      have d0 := (HBX.out.alloc (.cells #[] 3)).cell 0
      have d1 := HBX.out.cell 1
      have hn12 : n1a ≤ 12 := by have := cvB_len HV.out; rw [HL1a.out] at this; exact this
      go_wp2_with fail
      go_loopw [8, 9] (fun s i W => ∃ (j : Nat), j ≤ n1a ∧ i = .int .i64 j ∧ Ext w4 W ∧ Hid (W.ownsRow w4.heap.size 3 1 s j (encI (litsOf (ts1a.take j))))) (fun _ i _ => n1a - (intOf i).toNat)
      case atStart => exact ⟨0, Nat.zero_le _, rfl, (Ext.refl _).alloc _, OE⟩
      case round =>
        obtain ⟨j, hj, rfl, hE, hown⟩ := hrel
        by_cases hlt : j < n1a
        · have d0 := (HBX.out.ext hE).cell 0
          obtain ⟨b, off, c, l, rfl, hx, t1, t2⟩ := (HSX.out.ext hE).term (k := j) hlt
          have HX := Lib.hid (litsOf_take hx)
          obtain ⟨A5, c5, rfl⟩ := own_slice hown.out
          clear hx
          go_wp2_with (first
            | (at_builtin
               refine wpList_append_own _ rfl (.tmp 61) (.tmp 68) 22 rfl w4.heap.size 3 i0 _ 1 8 Try.underlying22 HI.out HZ0.out HZ1.out HZ2.out rfl (by omega) (.slice A5 j c5) j _ rfl (hown.out.alloc _) ⟨wr.heap.size, 0, none⟩ 1 1 [.int .i64 l] rfl rfl (World.news_of_block (cs := #[.int .i64 l]) (t := 3) (fr := (0, 0)) (heap_alloc_new wr _)) ?_ ?_ ?_ ?_ ?_
               (intro u hu; simp at hu; subst hu; rfl)
               (unfold maxLen; omega)
               omega
               (have := hE.size; simp; omega)
               (intro v1 w5 hown5 hg5 _)))
          go_roundw
          case rel =>
            have EG := own_ext (hE.alloc (.cells #[.int .i64 l] 3)) (hown.out.alloc (.cells #[.int .i64 l] 3)) (Nat.le_refl _) hg5
            refine ⟨j + 1, by omega, by go_num, EG, ?_⟩
            rw [HX.out]
            have e : encI (litsOf (ts1a.take j) ++ [l]) = encI (litsOf (ts1a.take j)) ++ [.int .i64 l] := by simp [encI]
            rw [e]; exact hown5
          case measure => simp only [intOf]; omega
        · obtain rfl : j = n1a := by omega
          rw [List.take_of_length_le (by rw [HL1a.out]; exact Nat.le_refl _)] at hown
          obtain ⟨A9, c9, rfl⟩ := own_slice hown.out
          have S9 := Lib.hid (own_parts hown.out).1
          have HE9 := Lib.hid hE
          have HCB := Lib.hid (cv_coB HV.out)
          have HCT := Lib.hid (cv_coT HV.out)
          have HCD := Lib.hid (cv_coD HV.out)
          have d0 := (HBX.out.ext HE9.out).cell 0
          clear hown hE d0
          have d0 := (HBX.out.ext HE9.out).cell 0
          have hC5 : Ext w4 wr := HE9.out
          have ze5 := hC5.size
          have L_x0 := (B_x0.out.ext ((hC3.trans hC4).trans hC5))
          have c_x0_0 := L_x0.cell 0
          have c_x0_1 := L_x0.cell 1
          clear L_x0
          go_wp2_with fail
          refine Calls.mono ((implCO_any A9 j c9 (litsOf ts1a) _ hn1a S9.out).mono fun _ _ h => h.of_eq HCT.out HCD.out HCB.out) ?_
          rintro e w6 ⟨A6, n6, c6, rfl, hl6, hg6, hE6⟩
          have hC6 : Ext wr w6 := hE6
          have ze6 := hC6.size
          clear c_x0_0 c_x0_1
          clear hE6
          have hG6 := Lib.hid hg6
          have HL6 := Lib.hid hl6
          have hs6 : n6 ≤ 1048576 := (by rw [← hl6]; exact by rw [← HCT.out]; exact coT_len (litsOf ts1a))
          have hn6 : n6 ≤ maxLen := (Nat.le_trans hs6 (by unfold maxLen; omega))
          clear hg6 hl6
          have L_x1 := (B_x1.out.ext ((hC4.trans hC5).trans hC6))
          have c_x1_0 := L_x1.cell 0
          have c_x1_1 := L_x1.cell 1
          have l_x1 := L_x1.lt
          clear L_x1
          go_wp2_with fail
          refine (calls_val (implCS2 A6 n6 c6 (saT ts1a 1) 1 A2 n2 c2 (saT ts1a 1) 1 _ hn6 (hG6.out.seg.ext ((Ext.refl _).alloc _)) hn2 ((hG2.out.seg.ext (((hC3.trans hC4).trans hC5).trans hC6)).ext ((Ext.refl _).alloc _))) (congrArg Value.bool (cEq_self _ _))).mono ?_
          rintro e w7 ⟨rfl, hE7⟩
          have hC7 : Ext w6 w7 := ((Ext.refl _).alloc _).trans hE7
          have ze7 := hC7.size
          have B_x3 := Lib.hid (Blk.of1 hE7)
          have zb_x3 := B_x3.out.lt
          clear c_x1_0 c_x1_1 l_x1
          clear hE7
          go_wp2
          go_ret
          exact ⟨rfl, ((((((hC1.trans hC2).trans hC3).trans hC4).trans hC5).trans hC6).trans hC7)⟩
    · have hb1 : (bd1a != 1) = true := by simpa using h1
      clear h1
      have L_x1 := B_x1.out
      have c_x1_0 := L_x1.cell 0
      have c_x1_1 := L_x1.cell 1
      have l_x1 := L_x1.lt
      clear L_x1
      go_wp2_with fail
      refine (calls_val (implCS2 A2 n2 c2 (saT ts1a bd1a) bd1a A3 n3 c3 (saT ts1a bd1a) bd1a _ hn2 ((hG2.out.seg.ext hC3).ext ((Ext.refl _).alloc _)) hn3 (hG3.out.seg.ext ((Ext.refl _).alloc _))) (congrArg Value.bool (cEq_self _ _))).mono ?_
      rintro e w4 ⟨rfl, hE4⟩
      have hC4 : Ext w3 w4 := ((Ext.refl _).alloc _).trans hE4
      have ze4 := hC4.size
      have B_x2 := Lib.hid (Blk.of1 hE4)
      have zb_x2 := B_x2.out.lt
      clear c_x1_0 c_x1_1 l_x1
      clear hE4
      have L_x0 := (B_x0.out.ext (hC3.trans hC4))
      have c_x0_0 := L_x0.cell 0
      have c_x0_1 := L_x0.cell 1
      clear L_x0
      have L_x1 := (B_x1.out.ext hC4)
      have c_x1_0 := L_x1.cell 0
      have c_x1_1 := L_x1.cell 1
      clear L_x1
      have L_x2 := B_x2.out
      have c_x2_0 := L_x2.cell 0
      have c_x2_1 := L_x2.cell 1
      clear L_x2
      go_wp2_with fail
      refine (calls_val (implCS2 A2 n2 c2 (saT ts1a bd1a) bd1a A3 n3 c3 (saT ts1a bd1a) bd1a _ hn2 (hG2.out.seg.ext (hC3.trans hC4)) hn3 (hG3.out.seg.ext hC4)) (congrArg Value.bool (cEq_self _ _))).mono ?_
      rintro e w5 ⟨rfl, hE5⟩
      have hC5 : Ext w4 w5 := hE5
      have ze5 := hC5.size
      clear c_x0_0 c_x0_1 c_x1_0 c_x1_1 c_x2_0 c_x2_1
      clear hE5
      go_wp2
      go_ret
      exact ⟨rfl, ((((hC1.trans hC2).trans hC3).trans hC4).trans hC5)⟩
  · have HV := Lib.hid (show cvB ts1a bd1a = false by simpa using hv)
    clear hv
    go_wp2_with fail
    refine Calls.mono ((implSat_any A1a n1a c1a ts1a bd1a _ hn1a (hG1a.out.seg.ext ((Ext.refl _).alloc _))).mono fun _ _ h => h.of_eq (stT_no HV.out) (stD_no HV.out) HV.out) ?_
    rintro e w2 ⟨A2, n2, c2, rfl, hl2, hg2, hE2⟩
    have hC2 : Ext w1 w2 := ((Ext.refl _).alloc _).trans hE2
    have ze2 := hC2.size
    have B_x0 := Lib.hid (Blk.of1 hE2)
    have zb_x0 := B_x0.out.lt
    clear hE2
    have hG2 := Lib.hid hg2
    have HL2 := Lib.hid hl2
    have hs2 : n2 ≤ 1048576 := (by rw [← hl2]; exact by rw [← (stT_no HV.out)]; exact stT_len ts1a bd1a)
    have hn2 : n2 ≤ maxLen := (Nat.le_trans hs2 (by unfold maxLen; omega))
    clear hg2 hl2
    have L_x0 := B_x0.out
    have c_x0_0 := L_x0.cell 0
    have c_x0_1 := L_x0.cell 1
    have l_x0 := L_x0.lt
    clear L_x0
    go_wp2_with fail
    refine Calls.mono ((specSat_any A1a n1a c1a ts1a bd1a _ hn1a ((hG1a.out.seg.ext hC2).ext ((Ext.refl _).alloc _))).mono fun _ _ h => h.of_eq (stT_no HV.out) (stD_no HV.out) HV.out) ?_
    rintro e w3 ⟨A3, n3, c3, rfl, hl3, hg3, hE3⟩
    have hC3 : Ext w2 w3 := ((Ext.refl _).alloc _).trans hE3
    have ze3 := hC3.size
    have B_x1 := Lib.hid (Blk.of1 hE3)
    have zb_x1 := B_x1.out.lt
    clear c_x0_0 c_x0_1 l_x0
    clear hE3
    have hG3 := Lib.hid hg3
    have HL3 := Lib.hid hl3
    have hs3 : n3 ≤ 1048576 := (by rw [← hl3]; exact by rw [← (stT_no HV.out)]; exact stT_len ts1a bd1a)
    have hn3 : n3 ≤ maxLen := (Nat.le_trans hs3 (by unfold maxLen; omega))
    clear hg3 hl3
    have L_x1 := B_x1.out
    have c_x1_0 := L_x1.cell 0
    have c_x1_1 := L_x1.cell 1
    have l_x1 := L_x1.lt
    clear L_x1
    go_wp2_with fail
    refine (calls_val (implCS2 A2 n2 c2 ([]) 0 A3 n3 c3 ([]) 0 _ hn2 ((hG2.out.seg.ext hC3).ext ((Ext.refl _).alloc _)) hn3 (hG3.out.seg.ext ((Ext.refl _).alloc _))) (congrArg Value.bool (cEq_self _ _))).mono ?_
    rintro e w4 ⟨rfl, hE4⟩
    have hC4 : Ext w3 w4 := ((Ext.refl _).alloc _).trans hE4
    have ze4 := hC4.size
    have B_x2 := Lib.hid (Blk.of1 hE4)
    have zb_x2 := B_x2.out.lt
    clear c_x1_0 c_x1_1 l_x1
    clear hE4
    have L_x1 := (B_x1.out.ext hC4)
    have c_x1_0 := L_x1.cell 0
    have c_x1_1 := L_x1.cell 1
    clear L_x1
    have L_x2 := B_x2.out
    have c_x2_0 := L_x2.cell 0
    have c_x2_1 := L_x2.cell 1
    clear L_x2
    go_wp2_with fail
    refine (calls_val (implCS2 A2 n2 c2 ([]) 0 A3 n3 c3 ([]) 0 _ hn2 (hG2.out.seg.ext (hC3.trans hC4)) hn3 (hG3.out.seg.ext hC4)) (congrArg Value.bool (cEq_self _ _))).mono ?_
    rintro e w5 ⟨rfl, hE5⟩
    have hC5 : Ext w4 w5 := hE5
    have ze5 := hC5.size
    clear c_x1_0 c_x1_1 c_x2_0 c_x2_1
    clear hE5
    go_wp2
    go_ret
    exact ⟨rfl, ((((hC1.trans hC2).trans hC3).trans hC4).trans hC5)⟩

theorem own : ownKnob Try.prog.godebug = none := by kernel_rfl
theorem laidOut : laidOutB Try.prog = true := by kernel_rfl

set_option maxRecDepth 100000 in
theorem lifted (os : Os) (started : os.Started) (H : Type) (enc : TypeId × Value → H) :
    ReturnsInHanded {} Try.checked os 4 .any (Rows.fnSaturateCoversSpec.pre6 enc Try.prog Try.f4 Rows.fnSaturateCoversRow.domain false) (Rows.fnSaturateCoversSpec.post enc Try.prog Try.f4 false true false false) := by
  refine returnsInHanded_of_change (C := Try.checked) own started (by kernel_rfl) Try.func4
    (ChangeSpec.witness6 (enc := enc) (C := Try.checked) false ⟨#[], #[.slice none 0 0], []⟩ 8 (by kernel_rfl) (by kernel_rfl) (by kernel_rfl) (by kernel_rfl)) ?_
  intro W base args ds gs before hval0 hW hcnd _
  have hval : ∀ (j : Nat) t v, Try.f4.params[j]? = some t → args[j]? = some v → Value.okWide Try.prog W .any base t v := hval0
  have hW' := hW
  obtain ⟨p, q, hA0, hV, rfl, hfz, hnd⟩ := hW
  have hA : DataW.TrodAll enc Try.prog W 0 (fun _ => true) true Try.f4.params.toList args.toList ds p := hA0
  rw [Try.params4] at hA hval
  obtain ⟨v0, vs0, d0, ds0, p0, q0, hargs, rfl, rfl, h0, r0⟩ := trodAll_cons hA
  obtain ⟨rfl, rfl, rfl⟩ := trodAll_nil r0
  obtain rfl : args = #[v0] := by cases args; simp_all
  obtain ⟨rfl, rfl⟩ := trodVars_none hV
  have k0 := h0
  have lt0 : ∀ x ∈ p0, x.block < W.heap.size := by obtain ⟨m, hm⟩ := k0; exact DataW.trod_lt m _ _ _ hm
  obtain ⟨A0, n0, cap0, zs0, rfl, hn0, hc0, hs0, hb0⟩ := arg_bytes (hval 0 34 v0 rfl rfl) h0
  clear hA0 hval0
  refine (walk A0 n0 cap0 zs0 W hn0 hc0 hs0 hb0).mono fun e W' ⟨he, ext⟩ => ?_
  subst he
  have bel := ext.below
  exact ⟨_, rfl, _, _, _, [], _, [], hW', trodAll_mk1 (shut_bool Try.underlying4 _), (trodAll_cons_mk (Below.trod laidOut (by kernel_rfl) (of_decide_eq_true (by kernel_rfl)) k0 bel lt0) trodAll_mk0), rfl, bel.frame _, fun h => by cases h⟩

set_option maxHeartbeats 4000000 in
theorem joined : joinedFacts Try.pinned.checked.prog 4 Try.f4 Rows.fnSaturateCoversSpec Rows.fnSaturateCoversRow = true := by
  unfold joinedFacts
  exact (and2 (and2 (and2 (and2 (and2 (and2 (and2 (and2 (and2 (and2 (and2 (and2 (and2 (and2 (and2 (and2 (and2 (and2 (and2 (and2 (and2 (and2 (and2 (and2 (and2 (and2 (and2 (and2 (and2 (and2 (and2 (by as_aux_lemma => kernel_rfl) (by as_aux_lemma => kernel_rfl)) (by as_aux_lemma => kernel_rfl)) (by as_aux_lemma => kernel_rfl)) (by as_aux_lemma => kernel_rfl)) (by as_aux_lemma => kernel_rfl)) (by as_aux_lemma => kernel_rfl)) (by as_aux_lemma => kernel_rfl)) (by as_aux_lemma => kernel_rfl)) (by as_aux_lemma => kernel_rfl)) (by as_aux_lemma => kernel_rfl)) (by as_aux_lemma => kernel_rfl)) (by as_aux_lemma => kernel_rfl)) (by as_aux_lemma => kernel_rfl)) (by as_aux_lemma => kernel_rfl)) (by as_aux_lemma => kernel_rfl)) (by as_aux_lemma => kernel_rfl)) (by as_aux_lemma => kernel_rfl)) (by as_aux_lemma => kernel_rfl)) (by as_aux_lemma => kernel_rfl)) (by as_aux_lemma => kernel_rfl)) (by as_aux_lemma => kernel_rfl)) (by as_aux_lemma => kernel_rfl)) (by as_aux_lemma => kernel_rfl)) (by as_aux_lemma => kernel_rfl)) jEnter) jLift) jMake) (by as_aux_lemma => kernel_rfl)) (by as_aux_lemma => kernel_rfl)) (by as_aux_lemma => kernel_rfl)) (by as_aux_lemma => kernel_rfl))

set_option maxHeartbeats 4000000 in
theorem over : Rows.fnSaturateCoversRow.holds Try.pinned (OpenSpec.ofChange Rows.fnSaturateCoversSpec) :=
  OpenClaim.holds_of_wide 4 Try.f4 rfl rfl rfl rfl rfl rfl rfl ⟨rfl, rfl, rfl, rfl, rfl⟩ rfl rfl rfl rfl rfl (by kernel_rfl) Try.func4 joined
    (of_decide_eq_true (by kernel_rfl)) (by unfold Func.isWrapper; first | (rw [if_pos (by decide +kernel)]; kernel_rfl) | (rw [if_neg (by decide +kernel)]; exact ⟨rfl, rfl⟩))
    (fun os started H enc _ => lifted os started H enc)

theorem proved : Rows.FnSaturateCoversSaid := over

end Go.Proofs.Ytbpkpcfhmglddaa.saturateCovers
