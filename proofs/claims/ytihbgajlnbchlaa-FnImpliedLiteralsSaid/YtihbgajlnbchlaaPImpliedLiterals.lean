/- laws.FnImpliedLiterals: for all bytes, the program's ImpliedLiterals and SlackOf return what the reference's return, and the implied literals are just those whose negation would violate the constraint. No condition. -/
import Derived.Test.YtihbgajlnbchlaaRdI
import Derived.Test.YtihbgajlnbchlaaPlIm
import Derived.Test.YtihbgajlnbchlaaSameC
import Derived.Test.YtihbgajlnbchlaaCpB
import Derived.Test.YtihbgajlnbchlaaSlack
import Derived.Test.YtihbgajlnbchlaaImpl
import Derived.Test.YtihbgajlnbchlaaSetAt
import Derived.Test.YtihbgajlnbchlaaApp
import Derived.Test.YtihbgajlnbchlaaOpenY
import Derived.Test.YtihbgajlnbchlaaFacts
namespace Go.Proofs.Ytihbgajlnbchlaa.impliedLiterals
open Go.ChangeShapes Go.WideShapes Go.ChangeAt Go.RowKit
set_option linter.unusedVariables false

set_option maxRecDepth 100000 in
set_option maxHeartbeats 16000000 in
theorem walk (A0 : Option Addr) (n0 cap0 : Nat) (zs0 : List Int) (w : World) (hn0 : n0 ≤ maxLen) (hc0 : n0 ≤ cap0) (hs0 : Seg w 1 A0 n0 (encY zs0)) (hb0 : bytesB zs0) :
    Calls Try.prog 4 #[.slice A0 n0 cap0] w fun e w' => e = .returned (.bool true) ∧ Ext w w' := by
  by_cases hbig : 1048576 < n0
  · clear hs0
    go_enter Try.func4, Try.ntmps4
    go_wp2
    go_ret
    exact ⟨rfl, Ext.refl _⟩
  go_enter Try.func4, Try.ntmps4
  go_wp2_with fail
  refine (drawImpl_any A0 n0 cap0 zs0 _ hn0 hc0 hs0 hb0).mono ?_
  rintro e w1 ⟨A1a, n1a, c1a, ts1a, bd1a, A1b, n1b, c1b, vs1b, rfl, hl1a, hm1a, hl1b, hm1b, hg1a, hg1b, hE1⟩
  have hC1 : Ext w w1 := hE1
  have ze1 := hC1.size
  clear hE1
  have hn1a : n1a ≤ maxLen := by unfold maxLen; omega
  have HL1a := Lib.hid hl1a
  have hG1a := Lib.hid hg1a
  clear hl1a hg1a
  have hn1b : n1b ≤ maxLen := by unfold maxLen; omega
  have HL1b := Lib.hid hl1b
  have hG1b := Lib.hid hg1b
  clear hl1b hg1b
  obtain ⟨z, hz⟩ : ∃ z, Hid (slI ts1a bd1a vs1b = z) := ⟨_, rfl⟩
  by_cases hv : slB ts1a bd1a vs1b = true
  · have HV := Lib.hid hv
    clear hv
    by_cases h0 : 0 ≤ z
    · have d0 : decide (z < 0) = false := decide_eq_false (by omega)
      go_wp2_with fail
      refine (implIm_any A1a n1a c1a ts1a bd1a A1b n1b c1b vs1b _ hn1a (hG1a.out.seg.ext ((Ext.refl _).alloc _)) hn1b (hG1b.out.seg.ext ((Ext.refl _).alloc _))).mono ?_
      rintro e w2 ⟨A2, n2, c2, rfl, hl2, hg2, hE2⟩
      have hC2 : Ext w1 w2 := ((Ext.refl _).alloc _).trans hE2
      have ze2 := hC2.size
      have B_x0 := Lib.hid (Blk.of1 hE2)
      have zb_x0 := B_x0.out.lt
      clear hE2
      have hG2 := Lib.hid hg2
      have HL2 := Lib.hid hl2
      have hs2 : n2 ≤ 1048576 := (by rw [← hl2]; exact imT_len ts1a bd1a vs1b)
      have hn2 : n2 ≤ maxLen := (Nat.le_trans hs2 (by unfold maxLen; omega))
      clear hg2 hl2
      have L_x0 := B_x0.out
      have c_x0_0 := L_x0.cell 0
      have c_x0_1 := L_x0.cell 1
      clear L_x0
      go_wp2_with fail
      refine (calls_val (implSlack_any A1a n1a c1a ts1a bd1a A1b n1b c1b vs1b _ hn1a (hG1a.out.seg.ext hC2) hn1b (hG1b.out.seg.ext hC2)) (by rw [hz.out, HV.out])).mono ?_
      rintro e w3 ⟨rfl, hE3⟩
      have hC3 : Ext w2 w3 := hE3
      have ze3 := hC3.size
      clear c_x0_0 c_x0_1
      clear hE3
      have L_x0 := (B_x0.out.ext hC3)
      have c_x0_0 := L_x0.cell 0
      have c_x0_1 := L_x0.cell 1
      clear L_x0
      go_wp2_with fail
      refine (calls_val (specSlack_any A1a n1a c1a ts1a bd1a A1b n1b c1b vs1b _ hn1a (hG1a.out.seg.ext (hC2.trans hC3)) hn1b (hG1b.out.seg.ext (hC2.trans hC3))) (by rw [hz.out, HV.out])).mono ?_
      rintro e w4 ⟨rfl, hE4⟩
      have hC4 : Ext w3 w4 := hE4
      have ze4 := hC4.size
      clear c_x0_0 c_x0_1
      clear hE4
      have L_x0 := (B_x0.out.ext (hC3.trans hC4))
      have c_x0_0 := L_x0.cell 0
      have c_x0_1 := L_x0.cell 1
      clear L_x0
      go_wp2_with fail
      refine (specIm_any A1a n1a c1a ts1a bd1a A1b n1b c1b vs1b _ hn1a (hG1a.out.seg.ext ((hC2.trans hC3).trans hC4)) hn1b (hG1b.out.seg.ext ((hC2.trans hC3).trans hC4))).mono ?_
      rintro e w5 ⟨A5, n5, c5, rfl, hl5, hg5, hE5⟩
      have hC5 : Ext w4 w5 := hE5
      have ze5 := hC5.size
      clear c_x0_0 c_x0_1
      clear hE5
      have hG5 := Lib.hid hg5
      have HL5 := Lib.hid hl5
      have hs5 : n5 ≤ 1048576 := (by rw [← hl5]; exact imT_len ts1a bd1a vs1b)
      have hn5 : n5 ≤ maxLen := (Nat.le_trans hs5 (by unfold maxLen; omega))
      clear hg5 hl5
      go_wp2_with fail
      refine (calls_val (cpI_any A2 n2 c2 (imT ts1a bd1a vs1b) A5 n5 c5 (imT ts1a bd1a vs1b) _ hn2 (hG2.out.seg.ext ((hC3.trans hC4).trans hC5)) hn5 hG5.out.seg) (congrArg Value.bool (ciEq_self _))).mono ?_
      rintro e w6 ⟨rfl, hE6⟩
      have hC6 : Ext w5 w6 := hE6
      have ze6 := hC6.size
      clear hE6
      obtain ⟨hcv, hpv⟩ : cvB ts1a bd1a = true ∧ pvB vs1b = true := by have := HV.out; unfold slB at this; rw [Bool.and_eq_true] at this; exact this
      have HCV := Lib.hid hcv
      have HPV := Lib.hid hpv
      obtain rfl : n1b = 12 := by rw [← HL1b.out]; exact pvB_len hpv
      clear hcv hpv
      have ST := Lib.hid (hG1a.out.seg.ext ((((hC2.trans hC3).trans hC4).trans hC5).trans hC6))
      have S1 := Lib.hid (hG1b.out.seg.ext ((((hC2.trans hC3).trans hC4).trans hC5).trans hC6))
      have S2 := Lib.hid (hG2.out.seg.ext (((hC3.trans hC4).trans hC5).trans hC6))
      have HBX := Lib.hid (B_x0.out.ext (((hC3.trans hC4).trans hC5).trans hC6))
      have E0 := Lib.hid (((((hC1.trans hC2).trans hC3).trans hC4).trans hC5).trans hC6)
      have h12 : (12 : Nat) ≤ maxLen := by unfold maxLen; omega
      obtain ⟨i0, hi, hz0, hz1, hz2⟩ := info_parts Try.infoInM
      have HI := Lib.hid hi
      have HZ0 := Lib.hid hz0
      have HZ1 := Lib.hid hz1
      have HZ2 := Lib.hid hz2
      clear hi hz0 hz1 hz2
      go_wp2
      go_loopw [10] (fun i wr => ∃ k : Nat, k ≤ n1a ∧ i = .int .i64 k ∧ Ext w6 wr) (fun i _ => n1a - (intOf i).toNat)
      case atStart => exact ⟨0, by omega, rfl, Ext.refl _⟩
      case round =>
        obtain ⟨k, hk, rfl, hE⟩ := hrel
        have HE := Lib.hid hE
        have d0 := (HBX.out.ext hE).cell 0
        have d1 := (HBX.out.ext hE).cell 1
        clear hE
        by_cases hlt : k < n1a
        · obtain ⟨b, off, c, l, rfl, hx, t1, t2⟩ := (ST.out.ext HE.out).term hlt
          have HX := Lib.hid hx
          obtain ⟨m, hm, hlm⟩ := lit_cases (cvB_lit HCV.out _ (List.mem_of_getElem? hx))
          simp only at hlm
          obtain ⟨b', off', pm, hAp, hp, tp⟩ := (S1.out.ext HE.out).int hm
          subst hAp
          have HP := Lib.hid hp
          have m0 : (0 : Int) ≤ (m : Int) := Int.natCast_nonneg _
          have m1 : (m : Int) < 12 := by omega
          clear hx hp
          rcases hlm with rfl | rfl
          · have HST : Hid (stI vs1b ((m : Int) + 1) = pm) := stI_pos vs1b m pm HP.out
            have HAS : Hid (asg vs1b (-((m : Int) + 1)) = vs1b.set m (-1)) := by
              unfold asg Hid; rw [if_neg (by omega)]; congr 1; omega
            obtain ⟨s2, hsq2⟩ : ∃ z, Hid (slI ts1a bd1a (vs1b.set m (-1)) = z) := ⟨_, rfl⟩
            obtain ⟨o2, ho2⟩ : ∃ b, Hid (slB ts1a bd1a (vs1b.set m (-1)) = b) := ⟨_, rfl⟩
            have HHAS : Hid (hasL (imT ts1a bd1a vs1b) ((m : Int) + 1) = (decide (pm = 0) && decide (s2 < 0))) := by
              rw [Hid, im_has HV.out (by rw [hz.out]; exact h0) (List.mem_of_getElem? HX.out), HAS.out, hsq2.out, HST.out]
            clear HAS HST
            obtain ⟨sm, hsm⟩ : ∃ b, Hid (hasL (imT ts1a bd1a vs1b) ((m : Int) + 1) = b) := ⟨_, rfl⟩
            go_wp2
            go_loopw [12, 13] (fun s i W => ∃ j : Nat, j ≤ n2 ∧ i = .int .i64 j ∧ s = .bool (hasL ((imT ts1a bd1a vs1b).take j) ((m : Int) + 1)) ∧ Ext wr W) (fun _ i _ => n2 - (intOf i).toNat)
            case atStart => exact ⟨0, by omega, rfl, rfl, Ext.refl _⟩
            case round =>
              rename_i wo
              obtain ⟨j, hj, rfl, rfl, hEj⟩ := hrel
              by_cases hltj : j < n2
              · obtain ⟨b9, off9, x, hA9, hx9, t9⟩ := ((S2.out.ext HE.out).ext hEj).int hltj
                subst hA9
                have hsn : hasL ((imT ts1a bd1a vs1b).take (j + 1)) ((m : Int) + 1) = (hasL ((imT ts1a bd1a vs1b).take j) ((m : Int) + 1) || x == ((m : Int) + 1)) := by rw [take_of_get _ _ _ hx9, hasL_snoc]
                have HSN := Lib.hid hsn
                obtain ⟨h9, hh9⟩ : ∃ b, hasL ((imT ts1a bd1a vs1b).take j) ((m : Int) + 1) = b := ⟨_, rfl⟩
                rw [hh9]
                have HH9 := Lib.hid hh9
                clear hx9 hsn hh9
                cases h9
                · by_cases hxl : x = ((m : Int) + 1)
                  · have hxb : (x == ((m : Int) + 1)) = true := by simpa using hxl
                    have HN : Hid (hasL ((imT ts1a bd1a vs1b).take (j + 1)) ((m : Int) + 1) = true) := by rw [Hid, HSN.out, HH9.out, hxb]; rfl
                    clear hxl
                    go_wp2
                    go_roundw
                    case rel => exact ⟨j + 1, by omega, by go_num, by rw [HN.out], hEj⟩
                    case measure => simp [intOf]; omega
                  · have hxb : (x == ((m : Int) + 1)) = false := by simpa using hxl
                    have HN : Hid (hasL ((imT ts1a bd1a vs1b).take (j + 1)) ((m : Int) + 1) = false) := by rw [Hid, HSN.out, HH9.out, hxb]; rfl
                    clear hxl
                    go_wp2
                    go_roundw
                    case rel => exact ⟨j + 1, by omega, by go_num, by rw [HN.out], hEj⟩
                    case measure => simp [intOf]; omega
                · have HN : Hid (hasL ((imT ts1a bd1a vs1b).take (j + 1)) ((m : Int) + 1) = true) := by rw [Hid, HSN.out, HH9.out]; rfl
                  go_wp2
                  go_roundw
                  case rel => exact ⟨j + 1, by omega, by go_num, by rw [HN.out], hEj⟩
                  case measure => simp [intOf]; omega
              · obtain rfl : j = n2 := by omega
                rw [List.take_of_length_le (by rw [HL2.out]; exact Nat.le_refl _), hsm.out]
                have OE := own_empty wr wr.heap.size 3 1 (Nat.le_refl _)
                have SV := Lib.hid (((S1.out.ext HE.out).ext hEj).alloc (.cells #[] 3))
                have sg : (0 : Int) < (m : Int) + 1 := by omega
                have k2 : (m : Int) + 1 - 1 = (m : Int) := by omega
                have wn : IntKind.i64.wrap ((m : Int) + 1) = (m : Int) + 1 := IntWalk.i64_in _ (by omega)
                by_cases hpm : pm = 0
                · by_cases hs : s2 < 0
                  · have ds : decide (s2 < 0) = true := decide_eq_true hs
                    obtain rfl : sm = true := by
                      have := HHAS.out
                      rw [hsm.out] at this
                      rw [this]; simp [hpm, hs]
                    subst hpm
                    go_wp2_with (first
                      | (at_builtin
                         refine wpList_append_seg _ rfl (.tmp 113) (.tmp 114) 26 rfl wr.heap.size 3 i0 _ 1 8 Try.underlying26 HI.out HZ0.out HZ1.out HZ2.out rfl (by omega) (.slice (some ⟨wr.heap.size, 0, none⟩) 0 0) 0 [] rfl OE (some ⟨b', off', none⟩) 12 c1b (encI vs1b) rfl SV.out (oneCI _) ?_ ?_ ?_ ?_
                         (unfold maxLen; omega)
                         omega
                         (first | exact Nat.le_refl _ | simp)
                         (intro A9 c9 w9 hown9 hg9)
                         (have P9 := own_parts (show w9.ownsRow wr.heap.size 3 1 (.slice A9 12 c9) 12 (encI vs1b) from (by simpa using hown9)))
                         (obtain ⟨bq, offq, xq, rfl, hxq, q9⟩ := P9.1.int hm)
                         (have fq := P9.2.1 bq offq rfl m (by omega))
                         (have hbq : wr.heap.size ≤ bq := (P9.2.2 (by omega) _ rfl).1)
                         (have E9 : Hid (Ext wr w9) := ((Ext.refl wr).alloc _).grown hg9 (fun k hk => Nat.le_of_eq (Option.some.inj hk)))
                         (have E9s : Hid (Ext wr (w9.setCell ⟨bq, offq + m, none⟩ (.int .i64 (-1)))) := E9.out.setNew (show wr.heap.size ≤ bq from hbq) _)
                         (have S9 := Lib.hid (P9.1.setAt (i := m) (by rw [P9.1.1]; omega) (.int .i64 (-1))))
                         (have tq := E9.out.cell (hEj.cell tp))
                         (have HK9 := Lib.hid (HBX.out.ext (HE.out.trans (hEj.trans E9s.out))))
                         (have d0 := HK9.out.cell 0)
                         (have d1 := HK9.out.cell 1)
                         (clear hxq P9 hown9 hg9 OE)))
                    have e9 : (encI vs1b).set m (.int .i64 (-1)) = encI (vs1b.set m (-1)) := by simp [encI, List.map_set]
                    rw [e9] at S9
                    clear e9
                    refine (calls_val (implSlack_any (some ⟨b, off, none⟩) n1a c1a ts1a bd1a (some ⟨bq, offq, none⟩) 12 c9 (vs1b.set m (-1)) _ hn1a (ST.out.ext (HE.out.trans (hEj.trans E9s.out))) h12 S9.out) (by rw [hsq2.out, ho2.out])).mono ?_
                    rintro e wS ⟨rfl, hES⟩
                    have HFS := Lib.hid (HE.out.trans ((hEj.trans E9s.out).trans hES))
                    clear hES d0 d1 q9 fq tq
                    go_wp2
                    go_roundw
                    case rel => exact ⟨k + 1, by omega, by go_num, HFS.out⟩
                    case measure => simp [intOf]; omega
                  · have ds : decide (s2 < 0) = false := decide_eq_false hs
                    obtain rfl : sm = false := by
                      have := HHAS.out
                      rw [hsm.out] at this
                      rw [this]; simp [hpm, hs]
                    subst hpm
                    go_wp2_with (first
                      | (at_builtin
                         refine wpList_append_seg _ rfl (.tmp 113) (.tmp 114) 26 rfl wr.heap.size 3 i0 _ 1 8 Try.underlying26 HI.out HZ0.out HZ1.out HZ2.out rfl (by omega) (.slice (some ⟨wr.heap.size, 0, none⟩) 0 0) 0 [] rfl OE (some ⟨b', off', none⟩) 12 c1b (encI vs1b) rfl SV.out (oneCI _) ?_ ?_ ?_ ?_
                         (unfold maxLen; omega)
                         omega
                         (first | exact Nat.le_refl _ | simp)
                         (intro A9 c9 w9 hown9 hg9)
                         (have P9 := own_parts (show w9.ownsRow wr.heap.size 3 1 (.slice A9 12 c9) 12 (encI vs1b) from (by simpa using hown9)))
                         (obtain ⟨bq, offq, xq, rfl, hxq, q9⟩ := P9.1.int hm)
                         (have fq := P9.2.1 bq offq rfl m (by omega))
                         (have hbq : wr.heap.size ≤ bq := (P9.2.2 (by omega) _ rfl).1)
                         (have E9 : Hid (Ext wr w9) := ((Ext.refl wr).alloc _).grown hg9 (fun k hk => Nat.le_of_eq (Option.some.inj hk)))
                         (have E9s : Hid (Ext wr (w9.setCell ⟨bq, offq + m, none⟩ (.int .i64 (-1)))) := E9.out.setNew (show wr.heap.size ≤ bq from hbq) _)
                         (have S9 := Lib.hid (P9.1.setAt (i := m) (by rw [P9.1.1]; omega) (.int .i64 (-1))))
                         (have tq := E9.out.cell (hEj.cell tp))
                         (have HK9 := Lib.hid (HBX.out.ext (HE.out.trans (hEj.trans E9s.out))))
                         (have d0 := HK9.out.cell 0)
                         (have d1 := HK9.out.cell 1)
                         (clear hxq P9 hown9 hg9 OE)))
                    have e9 : (encI vs1b).set m (.int .i64 (-1)) = encI (vs1b.set m (-1)) := by simp [encI, List.map_set]
                    rw [e9] at S9
                    clear e9
                    refine (calls_val (implSlack_any (some ⟨b, off, none⟩) n1a c1a ts1a bd1a (some ⟨bq, offq, none⟩) 12 c9 (vs1b.set m (-1)) _ hn1a (ST.out.ext (HE.out.trans (hEj.trans E9s.out))) h12 S9.out) (by rw [hsq2.out, ho2.out])).mono ?_
                    rintro e wS ⟨rfl, hES⟩
                    have HFS := Lib.hid (HE.out.trans ((hEj.trans E9s.out).trans hES))
                    clear hES d0 d1 q9 fq tq
                    go_wp2
                    go_roundw
                    case rel => exact ⟨k + 1, by omega, by go_num, HFS.out⟩
                    case measure => simp [intOf]; omega
                · by_cases hs : s2 < 0
                  · have ds : decide (s2 < 0) = true := decide_eq_true hs
                    obtain rfl : sm = false := by
                      have := HHAS.out
                      rw [hsm.out] at this
                      rw [this]; simp [hpm, hs]
                    have hpb : (pm == 0) = false := by simpa using hpm
                    go_wp2_with (first
                      | (at_builtin
                         refine wpList_append_seg _ rfl (.tmp 113) (.tmp 114) 26 rfl wr.heap.size 3 i0 _ 1 8 Try.underlying26 HI.out HZ0.out HZ1.out HZ2.out rfl (by omega) (.slice (some ⟨wr.heap.size, 0, none⟩) 0 0) 0 [] rfl OE (some ⟨b', off', none⟩) 12 c1b (encI vs1b) rfl SV.out (oneCI _) ?_ ?_ ?_ ?_
                         (unfold maxLen; omega)
                         omega
                         (first | exact Nat.le_refl _ | simp)
                         (intro A9 c9 w9 hown9 hg9)
                         (have P9 := own_parts (show w9.ownsRow wr.heap.size 3 1 (.slice A9 12 c9) 12 (encI vs1b) from (by simpa using hown9)))
                         (obtain ⟨bq, offq, xq, rfl, hxq, q9⟩ := P9.1.int hm)
                         (have fq := P9.2.1 bq offq rfl m (by omega))
                         (have hbq : wr.heap.size ≤ bq := (P9.2.2 (by omega) _ rfl).1)
                         (have E9 : Hid (Ext wr w9) := ((Ext.refl wr).alloc _).grown hg9 (fun k hk => Nat.le_of_eq (Option.some.inj hk)))
                         (have E9s : Hid (Ext wr (w9.setCell ⟨bq, offq + m, none⟩ (.int .i64 (-1)))) := E9.out.setNew (show wr.heap.size ≤ bq from hbq) _)
                         (have S9 := Lib.hid (P9.1.setAt (i := m) (by rw [P9.1.1]; omega) (.int .i64 (-1))))
                         (have tq := E9.out.cell (hEj.cell tp))
                         (have HK9 := Lib.hid (HBX.out.ext (HE.out.trans (hEj.trans E9s.out))))
                         (have d0 := HK9.out.cell 0)
                         (have d1 := HK9.out.cell 1)
                         (clear hxq P9 hown9 hg9 OE)))
                    have e9 : (encI vs1b).set m (.int .i64 (-1)) = encI (vs1b.set m (-1)) := by simp [encI, List.map_set]
                    rw [e9] at S9
                    clear e9
                    refine (calls_val (implSlack_any (some ⟨b, off, none⟩) n1a c1a ts1a bd1a (some ⟨bq, offq, none⟩) 12 c9 (vs1b.set m (-1)) _ hn1a (ST.out.ext (HE.out.trans (hEj.trans E9s.out))) h12 S9.out) (by rw [hsq2.out, ho2.out])).mono ?_
                    rintro e wS ⟨rfl, hES⟩
                    have HFS := Lib.hid (HE.out.trans ((hEj.trans E9s.out).trans hES))
                    clear hES d0 d1 q9 fq tq
                    go_wp2
                    go_roundw
                    case rel => exact ⟨k + 1, by omega, by go_num, HFS.out⟩
                    case measure => simp [intOf]; omega
                  · have ds : decide (s2 < 0) = false := decide_eq_false hs
                    obtain rfl : sm = false := by
                      have := HHAS.out
                      rw [hsm.out] at this
                      rw [this]; simp [hpm, hs]
                    have hpb : (pm == 0) = false := by simpa using hpm
                    go_wp2_with (first
                      | (at_builtin
                         refine wpList_append_seg _ rfl (.tmp 113) (.tmp 114) 26 rfl wr.heap.size 3 i0 _ 1 8 Try.underlying26 HI.out HZ0.out HZ1.out HZ2.out rfl (by omega) (.slice (some ⟨wr.heap.size, 0, none⟩) 0 0) 0 [] rfl OE (some ⟨b', off', none⟩) 12 c1b (encI vs1b) rfl SV.out (oneCI _) ?_ ?_ ?_ ?_
                         (unfold maxLen; omega)
                         omega
                         (first | exact Nat.le_refl _ | simp)
                         (intro A9 c9 w9 hown9 hg9)
                         (have P9 := own_parts (show w9.ownsRow wr.heap.size 3 1 (.slice A9 12 c9) 12 (encI vs1b) from (by simpa using hown9)))
                         (obtain ⟨bq, offq, xq, rfl, hxq, q9⟩ := P9.1.int hm)
                         (have fq := P9.2.1 bq offq rfl m (by omega))
                         (have hbq : wr.heap.size ≤ bq := (P9.2.2 (by omega) _ rfl).1)
                         (have E9 : Hid (Ext wr w9) := ((Ext.refl wr).alloc _).grown hg9 (fun k hk => Nat.le_of_eq (Option.some.inj hk)))
                         (have E9s : Hid (Ext wr (w9.setCell ⟨bq, offq + m, none⟩ (.int .i64 (-1)))) := E9.out.setNew (show wr.heap.size ≤ bq from hbq) _)
                         (have S9 := Lib.hid (P9.1.setAt (i := m) (by rw [P9.1.1]; omega) (.int .i64 (-1))))
                         (have tq := E9.out.cell (hEj.cell tp))
                         (have HK9 := Lib.hid (HBX.out.ext (HE.out.trans (hEj.trans E9s.out))))
                         (have d0 := HK9.out.cell 0)
                         (have d1 := HK9.out.cell 1)
                         (clear hxq P9 hown9 hg9 OE)))
                    have e9 : (encI vs1b).set m (.int .i64 (-1)) = encI (vs1b.set m (-1)) := by simp [encI, List.map_set]
                    rw [e9] at S9
                    clear e9
                    refine (calls_val (implSlack_any (some ⟨b, off, none⟩) n1a c1a ts1a bd1a (some ⟨bq, offq, none⟩) 12 c9 (vs1b.set m (-1)) _ hn1a (ST.out.ext (HE.out.trans (hEj.trans E9s.out))) h12 S9.out) (by rw [hsq2.out, ho2.out])).mono ?_
                    rintro e wS ⟨rfl, hES⟩
                    have HFS := Lib.hid (HE.out.trans ((hEj.trans E9s.out).trans hES))
                    clear hES d0 d1 q9 fq tq
                    go_wp2
                    go_roundw
                    case rel => exact ⟨k + 1, by omega, by go_num, HFS.out⟩
                    case measure => simp [intOf]; omega
          · have HST : Hid (stI vs1b (-((m : Int) + 1)) = -pm) := stI_neg vs1b m pm HP.out
            have HAS : Hid (asg vs1b (-(-((m : Int) + 1))) = vs1b.set m 1) := by
              unfold asg Hid; rw [if_pos (by omega)]; congr 1; omega
            obtain ⟨s2, hsq2⟩ : ∃ z, Hid (slI ts1a bd1a (vs1b.set m 1) = z) := ⟨_, rfl⟩
            obtain ⟨o2, ho2⟩ : ∃ b, Hid (slB ts1a bd1a (vs1b.set m 1) = b) := ⟨_, rfl⟩
            have HHAS : Hid (hasL (imT ts1a bd1a vs1b) (-((m : Int) + 1)) = (decide (pm = 0) && decide (s2 < 0))) := by
              rw [Hid, im_has HV.out (by rw [hz.out]; exact h0) (List.mem_of_getElem? HX.out), HAS.out, hsq2.out, HST.out]
              rw [decide_eq_decide.2 (show -pm = 0 ↔ pm = 0 by omega)]
            clear HAS HST
            obtain ⟨sm, hsm⟩ : ∃ b, Hid (hasL (imT ts1a bd1a vs1b) (-((m : Int) + 1)) = b) := ⟨_, rfl⟩
            go_wp2
            go_loopw [12, 13] (fun s i W => ∃ j : Nat, j ≤ n2 ∧ i = .int .i64 j ∧ s = .bool (hasL ((imT ts1a bd1a vs1b).take j) (-((m : Int) + 1))) ∧ Ext wr W) (fun _ i _ => n2 - (intOf i).toNat)
            case atStart => exact ⟨0, by omega, rfl, rfl, Ext.refl _⟩
            case round =>
              rename_i wo
              obtain ⟨j, hj, rfl, rfl, hEj⟩ := hrel
              by_cases hltj : j < n2
              · obtain ⟨b9, off9, x, hA9, hx9, t9⟩ := ((S2.out.ext HE.out).ext hEj).int hltj
                subst hA9
                have hsn : hasL ((imT ts1a bd1a vs1b).take (j + 1)) (-((m : Int) + 1)) = (hasL ((imT ts1a bd1a vs1b).take j) (-((m : Int) + 1)) || x == (-((m : Int) + 1))) := by rw [take_of_get _ _ _ hx9, hasL_snoc]
                have HSN := Lib.hid hsn
                obtain ⟨h9, hh9⟩ : ∃ b, hasL ((imT ts1a bd1a vs1b).take j) (-((m : Int) + 1)) = b := ⟨_, rfl⟩
                rw [hh9]
                have HH9 := Lib.hid hh9
                clear hx9 hsn hh9
                cases h9
                · by_cases hxl : x = (-((m : Int) + 1))
                  · have hxb : (x == (-((m : Int) + 1))) = true := by simpa using hxl
                    have HN : Hid (hasL ((imT ts1a bd1a vs1b).take (j + 1)) (-((m : Int) + 1)) = true) := by rw [Hid, HSN.out, HH9.out, hxb]; rfl
                    clear hxl
                    go_wp2
                    go_roundw
                    case rel => exact ⟨j + 1, by omega, by go_num, by rw [HN.out], hEj⟩
                    case measure => simp [intOf]; omega
                  · have hxb : (x == (-((m : Int) + 1))) = false := by simpa using hxl
                    have HN : Hid (hasL ((imT ts1a bd1a vs1b).take (j + 1)) (-((m : Int) + 1)) = false) := by rw [Hid, HSN.out, HH9.out, hxb]; rfl
                    clear hxl
                    go_wp2
                    go_roundw
                    case rel => exact ⟨j + 1, by omega, by go_num, by rw [HN.out], hEj⟩
                    case measure => simp [intOf]; omega
                · have HN : Hid (hasL ((imT ts1a bd1a vs1b).take (j + 1)) (-((m : Int) + 1)) = true) := by rw [Hid, HSN.out, HH9.out]; rfl
                  go_wp2
                  go_roundw
                  case rel => exact ⟨j + 1, by omega, by go_num, by rw [HN.out], hEj⟩
                  case measure => simp [intOf]; omega
              · obtain rfl : j = n2 := by omega
                rw [List.take_of_length_le (by rw [HL2.out]; exact Nat.le_refl _), hsm.out]
                have OE := own_empty wr wr.heap.size 3 1 (Nat.le_refl _)
                have SV := Lib.hid (((S1.out.ext HE.out).ext hEj).alloc (.cells #[] 3))
                have sg : ¬ ((0 : Int) < -((m : Int) + 1)) := by omega
                have k2 : (m : Int) + 1 - 1 = (m : Int) := by omega
                have wn : IntKind.i64.wrap ((m : Int) + 1) = (m : Int) + 1 := IntWalk.i64_in _ (by omega)
                by_cases hpm : pm = 0
                · by_cases hs : s2 < 0
                  · have ds : decide (s2 < 0) = true := decide_eq_true hs
                    obtain rfl : sm = true := by
                      have := HHAS.out
                      rw [hsm.out] at this
                      rw [this]; simp [hpm, hs]
                    subst hpm
                    go_wp2_with (first
                      | (at_builtin
                         refine wpList_append_seg _ rfl (.tmp 113) (.tmp 114) 26 rfl wr.heap.size 3 i0 _ 1 8 Try.underlying26 HI.out HZ0.out HZ1.out HZ2.out rfl (by omega) (.slice (some ⟨wr.heap.size, 0, none⟩) 0 0) 0 [] rfl OE (some ⟨b', off', none⟩) 12 c1b (encI vs1b) rfl SV.out (oneCI _) ?_ ?_ ?_ ?_
                         (unfold maxLen; omega)
                         omega
                         (first | exact Nat.le_refl _ | simp)
                         (intro A9 c9 w9 hown9 hg9)
                         (have P9 := own_parts (show w9.ownsRow wr.heap.size 3 1 (.slice A9 12 c9) 12 (encI vs1b) from (by simpa using hown9)))
                         (obtain ⟨bq, offq, xq, rfl, hxq, q9⟩ := P9.1.int hm)
                         (have fq := P9.2.1 bq offq rfl m (by omega))
                         (have hbq : wr.heap.size ≤ bq := (P9.2.2 (by omega) _ rfl).1)
                         (have E9 : Hid (Ext wr w9) := ((Ext.refl wr).alloc _).grown hg9 (fun k hk => Nat.le_of_eq (Option.some.inj hk)))
                         (have E9s : Hid (Ext wr (w9.setCell ⟨bq, offq + m, none⟩ (.int .i64 1))) := E9.out.setNew (show wr.heap.size ≤ bq from hbq) _)
                         (have S9 := Lib.hid (P9.1.setAt (i := m) (by rw [P9.1.1]; omega) (.int .i64 1)))
                         (have tq := E9.out.cell (hEj.cell tp))
                         (have HK9 := Lib.hid (HBX.out.ext (HE.out.trans (hEj.trans E9s.out))))
                         (have d0 := HK9.out.cell 0)
                         (have d1 := HK9.out.cell 1)
                         (clear hxq P9 hown9 hg9 OE)))
                    have e9 : (encI vs1b).set m (.int .i64 1) = encI (vs1b.set m 1) := by simp [encI, List.map_set]
                    rw [e9] at S9
                    clear e9
                    refine (calls_val (implSlack_any (some ⟨b, off, none⟩) n1a c1a ts1a bd1a (some ⟨bq, offq, none⟩) 12 c9 (vs1b.set m 1) _ hn1a (ST.out.ext (HE.out.trans (hEj.trans E9s.out))) h12 S9.out) (by rw [hsq2.out, ho2.out])).mono ?_
                    rintro e wS ⟨rfl, hES⟩
                    have HFS := Lib.hid (HE.out.trans ((hEj.trans E9s.out).trans hES))
                    clear hES d0 d1 q9 fq tq
                    go_wp2
                    go_roundw
                    case rel => exact ⟨k + 1, by omega, by go_num, HFS.out⟩
                    case measure => simp [intOf]; omega
                  · have ds : decide (s2 < 0) = false := decide_eq_false hs
                    obtain rfl : sm = false := by
                      have := HHAS.out
                      rw [hsm.out] at this
                      rw [this]; simp [hpm, hs]
                    subst hpm
                    go_wp2_with (first
                      | (at_builtin
                         refine wpList_append_seg _ rfl (.tmp 113) (.tmp 114) 26 rfl wr.heap.size 3 i0 _ 1 8 Try.underlying26 HI.out HZ0.out HZ1.out HZ2.out rfl (by omega) (.slice (some ⟨wr.heap.size, 0, none⟩) 0 0) 0 [] rfl OE (some ⟨b', off', none⟩) 12 c1b (encI vs1b) rfl SV.out (oneCI _) ?_ ?_ ?_ ?_
                         (unfold maxLen; omega)
                         omega
                         (first | exact Nat.le_refl _ | simp)
                         (intro A9 c9 w9 hown9 hg9)
                         (have P9 := own_parts (show w9.ownsRow wr.heap.size 3 1 (.slice A9 12 c9) 12 (encI vs1b) from (by simpa using hown9)))
                         (obtain ⟨bq, offq, xq, rfl, hxq, q9⟩ := P9.1.int hm)
                         (have fq := P9.2.1 bq offq rfl m (by omega))
                         (have hbq : wr.heap.size ≤ bq := (P9.2.2 (by omega) _ rfl).1)
                         (have E9 : Hid (Ext wr w9) := ((Ext.refl wr).alloc _).grown hg9 (fun k hk => Nat.le_of_eq (Option.some.inj hk)))
                         (have E9s : Hid (Ext wr (w9.setCell ⟨bq, offq + m, none⟩ (.int .i64 1))) := E9.out.setNew (show wr.heap.size ≤ bq from hbq) _)
                         (have S9 := Lib.hid (P9.1.setAt (i := m) (by rw [P9.1.1]; omega) (.int .i64 1)))
                         (have tq := E9.out.cell (hEj.cell tp))
                         (have HK9 := Lib.hid (HBX.out.ext (HE.out.trans (hEj.trans E9s.out))))
                         (have d0 := HK9.out.cell 0)
                         (have d1 := HK9.out.cell 1)
                         (clear hxq P9 hown9 hg9 OE)))
                    have e9 : (encI vs1b).set m (.int .i64 1) = encI (vs1b.set m 1) := by simp [encI, List.map_set]
                    rw [e9] at S9
                    clear e9
                    refine (calls_val (implSlack_any (some ⟨b, off, none⟩) n1a c1a ts1a bd1a (some ⟨bq, offq, none⟩) 12 c9 (vs1b.set m 1) _ hn1a (ST.out.ext (HE.out.trans (hEj.trans E9s.out))) h12 S9.out) (by rw [hsq2.out, ho2.out])).mono ?_
                    rintro e wS ⟨rfl, hES⟩
                    have HFS := Lib.hid (HE.out.trans ((hEj.trans E9s.out).trans hES))
                    clear hES d0 d1 q9 fq tq
                    go_wp2
                    go_roundw
                    case rel => exact ⟨k + 1, by omega, by go_num, HFS.out⟩
                    case measure => simp [intOf]; omega
                · by_cases hs : s2 < 0
                  · have ds : decide (s2 < 0) = true := decide_eq_true hs
                    obtain rfl : sm = false := by
                      have := HHAS.out
                      rw [hsm.out] at this
                      rw [this]; simp [hpm, hs]
                    have hpb : (pm == 0) = false := by simpa using hpm
                    go_wp2_with (first
                      | (at_builtin
                         refine wpList_append_seg _ rfl (.tmp 113) (.tmp 114) 26 rfl wr.heap.size 3 i0 _ 1 8 Try.underlying26 HI.out HZ0.out HZ1.out HZ2.out rfl (by omega) (.slice (some ⟨wr.heap.size, 0, none⟩) 0 0) 0 [] rfl OE (some ⟨b', off', none⟩) 12 c1b (encI vs1b) rfl SV.out (oneCI _) ?_ ?_ ?_ ?_
                         (unfold maxLen; omega)
                         omega
                         (first | exact Nat.le_refl _ | simp)
                         (intro A9 c9 w9 hown9 hg9)
                         (have P9 := own_parts (show w9.ownsRow wr.heap.size 3 1 (.slice A9 12 c9) 12 (encI vs1b) from (by simpa using hown9)))
                         (obtain ⟨bq, offq, xq, rfl, hxq, q9⟩ := P9.1.int hm)
                         (have fq := P9.2.1 bq offq rfl m (by omega))
                         (have hbq : wr.heap.size ≤ bq := (P9.2.2 (by omega) _ rfl).1)
                         (have E9 : Hid (Ext wr w9) := ((Ext.refl wr).alloc _).grown hg9 (fun k hk => Nat.le_of_eq (Option.some.inj hk)))
                         (have E9s : Hid (Ext wr (w9.setCell ⟨bq, offq + m, none⟩ (.int .i64 1))) := E9.out.setNew (show wr.heap.size ≤ bq from hbq) _)
                         (have S9 := Lib.hid (P9.1.setAt (i := m) (by rw [P9.1.1]; omega) (.int .i64 1)))
                         (have tq := E9.out.cell (hEj.cell tp))
                         (have HK9 := Lib.hid (HBX.out.ext (HE.out.trans (hEj.trans E9s.out))))
                         (have d0 := HK9.out.cell 0)
                         (have d1 := HK9.out.cell 1)
                         (clear hxq P9 hown9 hg9 OE)))
                    have e9 : (encI vs1b).set m (.int .i64 1) = encI (vs1b.set m 1) := by simp [encI, List.map_set]
                    rw [e9] at S9
                    clear e9
                    refine (calls_val (implSlack_any (some ⟨b, off, none⟩) n1a c1a ts1a bd1a (some ⟨bq, offq, none⟩) 12 c9 (vs1b.set m 1) _ hn1a (ST.out.ext (HE.out.trans (hEj.trans E9s.out))) h12 S9.out) (by rw [hsq2.out, ho2.out])).mono ?_
                    rintro e wS ⟨rfl, hES⟩
                    have HFS := Lib.hid (HE.out.trans ((hEj.trans E9s.out).trans hES))
                    clear hES d0 d1 q9 fq tq
                    go_wp2
                    go_roundw
                    case rel => exact ⟨k + 1, by omega, by go_num, HFS.out⟩
                    case measure => simp [intOf]; omega
                  · have ds : decide (s2 < 0) = false := decide_eq_false hs
                    obtain rfl : sm = false := by
                      have := HHAS.out
                      rw [hsm.out] at this
                      rw [this]; simp [hpm, hs]
                    have hpb : (pm == 0) = false := by simpa using hpm
                    go_wp2_with (first
                      | (at_builtin
                         refine wpList_append_seg _ rfl (.tmp 113) (.tmp 114) 26 rfl wr.heap.size 3 i0 _ 1 8 Try.underlying26 HI.out HZ0.out HZ1.out HZ2.out rfl (by omega) (.slice (some ⟨wr.heap.size, 0, none⟩) 0 0) 0 [] rfl OE (some ⟨b', off', none⟩) 12 c1b (encI vs1b) rfl SV.out (oneCI _) ?_ ?_ ?_ ?_
                         (unfold maxLen; omega)
                         omega
                         (first | exact Nat.le_refl _ | simp)
                         (intro A9 c9 w9 hown9 hg9)
                         (have P9 := own_parts (show w9.ownsRow wr.heap.size 3 1 (.slice A9 12 c9) 12 (encI vs1b) from (by simpa using hown9)))
                         (obtain ⟨bq, offq, xq, rfl, hxq, q9⟩ := P9.1.int hm)
                         (have fq := P9.2.1 bq offq rfl m (by omega))
                         (have hbq : wr.heap.size ≤ bq := (P9.2.2 (by omega) _ rfl).1)
                         (have E9 : Hid (Ext wr w9) := ((Ext.refl wr).alloc _).grown hg9 (fun k hk => Nat.le_of_eq (Option.some.inj hk)))
                         (have E9s : Hid (Ext wr (w9.setCell ⟨bq, offq + m, none⟩ (.int .i64 1))) := E9.out.setNew (show wr.heap.size ≤ bq from hbq) _)
                         (have S9 := Lib.hid (P9.1.setAt (i := m) (by rw [P9.1.1]; omega) (.int .i64 1)))
                         (have tq := E9.out.cell (hEj.cell tp))
                         (have HK9 := Lib.hid (HBX.out.ext (HE.out.trans (hEj.trans E9s.out))))
                         (have d0 := HK9.out.cell 0)
                         (have d1 := HK9.out.cell 1)
                         (clear hxq P9 hown9 hg9 OE)))
                    have e9 : (encI vs1b).set m (.int .i64 1) = encI (vs1b.set m 1) := by simp [encI, List.map_set]
                    rw [e9] at S9
                    clear e9
                    refine (calls_val (implSlack_any (some ⟨b, off, none⟩) n1a c1a ts1a bd1a (some ⟨bq, offq, none⟩) 12 c9 (vs1b.set m 1) _ hn1a (ST.out.ext (HE.out.trans (hEj.trans E9s.out))) h12 S9.out) (by rw [hsq2.out, ho2.out])).mono ?_
                    rintro e wS ⟨rfl, hES⟩
                    have HFS := Lib.hid (HE.out.trans ((hEj.trans E9s.out).trans hES))
                    clear hES d0 d1 q9 fq tq
                    go_wp2
                    go_roundw
                    case rel => exact ⟨k + 1, by omega, by go_num, HFS.out⟩
                    case measure => simp [intOf]; omega
        · obtain rfl : k = n1a := by omega
          go_wp2
          go_ret
          exact ⟨rfl, E0.out.trans HE.out⟩
    · have d0 : decide (z < 0) = true := decide_eq_true (by omega)
      have HNE := Lib.hid (im_neg (.inr (by rw [hz.out]; omega)) : imT ts1a bd1a vs1b = [])
      go_wp2_with fail
      refine (implIm_any A1a n1a c1a ts1a bd1a A1b n1b c1b vs1b _ hn1a (hG1a.out.seg.ext ((Ext.refl _).alloc _)) hn1b (hG1b.out.seg.ext ((Ext.refl _).alloc _))).mono ?_
      rintro e w2 ⟨A2, n2, c2, rfl, hl2, hg2, hE2⟩
      have hC2 : Ext w1 w2 := ((Ext.refl _).alloc _).trans hE2
      have ze2 := hC2.size
      have B_x0 := Lib.hid (Blk.of1 hE2)
      have zb_x0 := B_x0.out.lt
      clear hE2
      have hG2 := Lib.hid hg2
      have HL2 := Lib.hid hl2
      have hs2 : n2 ≤ 1048576 := (by rw [← hl2]; exact imT_len ts1a bd1a vs1b)
      have hn2 : n2 ≤ maxLen := (Nat.le_trans hs2 (by unfold maxLen; omega))
      clear hg2 hl2
      obtain rfl : n2 = 0 := by rw [← HL2.out, HNE.out]; rfl
      have L_x0 := B_x0.out
      have c_x0_0 := L_x0.cell 0
      have c_x0_1 := L_x0.cell 1
      clear L_x0
      go_wp2_with fail
      refine (calls_val (implSlack_any A1a n1a c1a ts1a bd1a A1b n1b c1b vs1b _ hn1a (hG1a.out.seg.ext hC2) hn1b (hG1b.out.seg.ext hC2)) (by rw [hz.out, HV.out])).mono ?_
      rintro e w3 ⟨rfl, hE3⟩
      have hC3 : Ext w2 w3 := hE3
      have ze3 := hC3.size
      clear c_x0_0 c_x0_1
      clear hE3
      have L_x0 := (B_x0.out.ext hC3)
      have c_x0_0 := L_x0.cell 0
      have c_x0_1 := L_x0.cell 1
      clear L_x0
      go_wp2_with fail
      refine (calls_val (specSlack_any A1a n1a c1a ts1a bd1a A1b n1b c1b vs1b _ hn1a (hG1a.out.seg.ext (hC2.trans hC3)) hn1b (hG1b.out.seg.ext (hC2.trans hC3))) (by rw [hz.out, HV.out])).mono ?_
      rintro e w4 ⟨rfl, hE4⟩
      have hC4 : Ext w3 w4 := hE4
      have ze4 := hC4.size
      clear c_x0_0 c_x0_1
      clear hE4
      have L_x0 := (B_x0.out.ext (hC3.trans hC4))
      have c_x0_0 := L_x0.cell 0
      have c_x0_1 := L_x0.cell 1
      clear L_x0
      go_wp2_with fail
      refine (specIm_any A1a n1a c1a ts1a bd1a A1b n1b c1b vs1b _ hn1a (hG1a.out.seg.ext ((hC2.trans hC3).trans hC4)) hn1b (hG1b.out.seg.ext ((hC2.trans hC3).trans hC4))).mono ?_
      rintro e w5 ⟨A5, n5, c5, rfl, hl5, hg5, hE5⟩
      have hC5 : Ext w4 w5 := hE5
      have ze5 := hC5.size
      clear c_x0_0 c_x0_1
      clear hE5
      have hG5 := Lib.hid hg5
      have HL5 := Lib.hid hl5
      have hs5 : n5 ≤ 1048576 := (by rw [← hl5]; exact imT_len ts1a bd1a vs1b)
      have hn5 : n5 ≤ maxLen := (Nat.le_trans hs5 (by unfold maxLen; omega))
      clear hg5 hl5
      go_wp2_with fail
      refine (calls_val (cpI_any A2 0 c2 (imT ts1a bd1a vs1b) A5 n5 c5 (imT ts1a bd1a vs1b) _ hn2 (hG2.out.seg.ext ((hC3.trans hC4).trans hC5)) hn5 hG5.out.seg) (congrArg Value.bool (ciEq_self _))).mono ?_
      rintro e w6 ⟨rfl, hE6⟩
      have hC6 : Ext w5 w6 := hE6
      have ze6 := hC6.size
      clear hE6
      have L_x0 := (B_x0.out.ext (((hC3.trans hC4).trans hC5).trans hC6))
      have c_x0_0 := L_x0.cell 0
      have c_x0_1 := L_x0.cell 1
      clear L_x0
      go_wp2_with fail
      refine (specIm_any A1a n1a c1a ts1a bd1a A1b n1b c1b vs1b _ hn1a (hG1a.out.seg.ext ((((hC2.trans hC3).trans hC4).trans hC5).trans hC6)) hn1b (hG1b.out.seg.ext ((((hC2.trans hC3).trans hC4).trans hC5).trans hC6))).mono ?_
      rintro e w7 ⟨A7, n7, c7, rfl, hl7, hg7, hE7⟩
      have hC7 : Ext w6 w7 := hE7
      have ze7 := hC7.size
      clear c_x0_0 c_x0_1
      clear hE7
      have hG7 := Lib.hid hg7
      have HL7 := Lib.hid hl7
      have hs7 : n7 ≤ 1048576 := (by rw [← hl7]; exact imT_len ts1a bd1a vs1b)
      have hn7 : n7 ≤ maxLen := (Nat.le_trans hs7 (by unfold maxLen; omega))
      clear hg7 hl7
      go_wp2_with fail
      refine (calls_val (cpI_any A2 0 c2 (imT ts1a bd1a vs1b) A7 n7 c7 (imT ts1a bd1a vs1b) _ hn2 (hG2.out.seg.ext ((((hC3.trans hC4).trans hC5).trans hC6).trans hC7)) hn7 hG7.out.seg) (congrArg Value.bool (ciEq_self _))).mono ?_
      rintro e w8 ⟨rfl, hE8⟩
      have hC8 : Ext w7 w8 := hE8
      have ze8 := hC8.size
      clear hE8
      go_wp2
      go_ret
      exact ⟨rfl, (((((((hC1.trans hC2).trans hC3).trans hC4).trans hC5).trans hC6).trans hC7).trans hC8)⟩
  · have HV := Lib.hid (show slB ts1a bd1a vs1b = false by simpa using hv)
    clear hv
    have HNE := Lib.hid (im_neg (.inl HV.out) : imT ts1a bd1a vs1b = [])
    go_wp2_with fail
    refine (implIm_any A1a n1a c1a ts1a bd1a A1b n1b c1b vs1b _ hn1a (hG1a.out.seg.ext ((Ext.refl _).alloc _)) hn1b (hG1b.out.seg.ext ((Ext.refl _).alloc _))).mono ?_
    rintro e w2 ⟨A2, n2, c2, rfl, hl2, hg2, hE2⟩
    have hC2 : Ext w1 w2 := ((Ext.refl _).alloc _).trans hE2
    have ze2 := hC2.size
    have B_x0 := Lib.hid (Blk.of1 hE2)
    have zb_x0 := B_x0.out.lt
    clear hE2
    have hG2 := Lib.hid hg2
    have HL2 := Lib.hid hl2
    have hs2 : n2 ≤ 1048576 := (by rw [← hl2]; exact imT_len ts1a bd1a vs1b)
    have hn2 : n2 ≤ maxLen := (Nat.le_trans hs2 (by unfold maxLen; omega))
    clear hg2 hl2
    obtain rfl : n2 = 0 := by rw [← HL2.out, HNE.out]; rfl
    have L_x0 := B_x0.out
    have c_x0_0 := L_x0.cell 0
    have c_x0_1 := L_x0.cell 1
    clear L_x0
    go_wp2_with fail
    refine (calls_val (implSlack_any A1a n1a c1a ts1a bd1a A1b n1b c1b vs1b _ hn1a (hG1a.out.seg.ext hC2) hn1b (hG1b.out.seg.ext hC2)) (by rw [hz.out, HV.out])).mono ?_
    rintro e w3 ⟨rfl, hE3⟩
    have hC3 : Ext w2 w3 := hE3
    have ze3 := hC3.size
    clear c_x0_0 c_x0_1
    clear hE3
    have L_x0 := (B_x0.out.ext hC3)
    have c_x0_0 := L_x0.cell 0
    have c_x0_1 := L_x0.cell 1
    clear L_x0
    go_wp2_with fail
    refine (calls_val (specSlack_any A1a n1a c1a ts1a bd1a A1b n1b c1b vs1b _ hn1a (hG1a.out.seg.ext (hC2.trans hC3)) hn1b (hG1b.out.seg.ext (hC2.trans hC3))) (by rw [hz.out, HV.out])).mono ?_
    rintro e w4 ⟨rfl, hE4⟩
    have hC4 : Ext w3 w4 := hE4
    have ze4 := hC4.size
    clear c_x0_0 c_x0_1
    clear hE4
    have L_x0 := (B_x0.out.ext (hC3.trans hC4))
    have c_x0_0 := L_x0.cell 0
    have c_x0_1 := L_x0.cell 1
    clear L_x0
    go_wp2_with fail
    refine (specIm_any A1a n1a c1a ts1a bd1a A1b n1b c1b vs1b _ hn1a (hG1a.out.seg.ext ((hC2.trans hC3).trans hC4)) hn1b (hG1b.out.seg.ext ((hC2.trans hC3).trans hC4))).mono ?_
    rintro e w5 ⟨A5, n5, c5, rfl, hl5, hg5, hE5⟩
    have hC5 : Ext w4 w5 := hE5
    have ze5 := hC5.size
    clear c_x0_0 c_x0_1
    clear hE5
    have hG5 := Lib.hid hg5
    have HL5 := Lib.hid hl5
    have hs5 : n5 ≤ 1048576 := (by rw [← hl5]; exact imT_len ts1a bd1a vs1b)
    have hn5 : n5 ≤ maxLen := (Nat.le_trans hs5 (by unfold maxLen; omega))
    clear hg5 hl5
    go_wp2_with fail
    refine (calls_val (cpI_any A2 0 c2 (imT ts1a bd1a vs1b) A5 n5 c5 (imT ts1a bd1a vs1b) _ hn2 (hG2.out.seg.ext ((hC3.trans hC4).trans hC5)) hn5 hG5.out.seg) (congrArg Value.bool (ciEq_self _))).mono ?_
    rintro e w6 ⟨rfl, hE6⟩
    have hC6 : Ext w5 w6 := hE6
    have ze6 := hC6.size
    clear hE6
    have L_x0 := (B_x0.out.ext (((hC3.trans hC4).trans hC5).trans hC6))
    have c_x0_0 := L_x0.cell 0
    have c_x0_1 := L_x0.cell 1
    clear L_x0
    go_wp2_with fail
    refine (specIm_any A1a n1a c1a ts1a bd1a A1b n1b c1b vs1b _ hn1a (hG1a.out.seg.ext ((((hC2.trans hC3).trans hC4).trans hC5).trans hC6)) hn1b (hG1b.out.seg.ext ((((hC2.trans hC3).trans hC4).trans hC5).trans hC6))).mono ?_
    rintro e w7 ⟨A7, n7, c7, rfl, hl7, hg7, hE7⟩
    have hC7 : Ext w6 w7 := hE7
    have ze7 := hC7.size
    clear c_x0_0 c_x0_1
    clear hE7
    have hG7 := Lib.hid hg7
    have HL7 := Lib.hid hl7
    have hs7 : n7 ≤ 1048576 := (by rw [← hl7]; exact imT_len ts1a bd1a vs1b)
    have hn7 : n7 ≤ maxLen := (Nat.le_trans hs7 (by unfold maxLen; omega))
    clear hg7 hl7
    go_wp2_with fail
    refine (calls_val (cpI_any A2 0 c2 (imT ts1a bd1a vs1b) A7 n7 c7 (imT ts1a bd1a vs1b) _ hn2 (hG2.out.seg.ext ((((hC3.trans hC4).trans hC5).trans hC6).trans hC7)) hn7 hG7.out.seg) (congrArg Value.bool (ciEq_self _))).mono ?_
    rintro e w8 ⟨rfl, hE8⟩
    have hC8 : Ext w7 w8 := hE8
    have ze8 := hC8.size
    clear hE8
    go_wp2
    go_ret
    exact ⟨rfl, (((((((hC1.trans hC2).trans hC3).trans hC4).trans hC5).trans hC6).trans hC7).trans hC8)⟩

theorem own : ownKnob Try.prog.godebug = none := by kernel_rfl
theorem laidOut : laidOutB Try.prog = true := by kernel_rfl

set_option maxRecDepth 100000 in
theorem lifted (os : Os) (started : os.Started) (H : Type) (enc : TypeId × Value → H) :
    ReturnsInHanded {} Try.checked os 4 .any (Rows.fnImpliedLiteralsSpec.pre6 enc Try.prog Try.f4 Rows.fnImpliedLiteralsRow.domain false) (Rows.fnImpliedLiteralsSpec.post enc Try.prog Try.f4 false true false false) := by
  refine returnsInHanded_of_change (C := Try.checked) own started (by kernel_rfl) Try.func4
    (ChangeSpec.witness6 (enc := enc) (C := Try.checked) false ⟨#[], #[.slice none 0 0], []⟩ 8 (by kernel_rfl) (by kernel_rfl) (by kernel_rfl) (by kernel_rfl)) ?_
  intro W base args ds gs before hval0 hW hcnd _
  have hval : ∀ (j : Nat) t v, Try.f4.params[j]? = some t → args[j]? = some v → Value.okWide Try.prog W .any base t v := hval0
  have hW' := hW
  obtain ⟨p, q, hA0, hV, rfl, hfz, hnd⟩ := hW
  have hA : DataW.TrodAll enc Try.prog W 0 (fun _ => true) true Try.f4.params.toList args.toList ds p := hA0
  rw [Try.params4] at hA hval
  obtain ⟨v0, vs0, d0, ds0, p0, q0, hargs, rfl, rfl, h0, r0⟩ := trodAll_cons hA
  obtain ⟨rfl, rfl, rfl⟩ := trodAll_nil r0
  obtain rfl : args = #[v0] := by cases args; simp_all
  obtain ⟨rfl, rfl⟩ := trodVars_none hV
  have k0 := h0
  have lt0 : ∀ x ∈ p0, x.block < W.heap.size := by obtain ⟨m, hm⟩ := k0; exact DataW.trod_lt m _ _ _ hm
  obtain ⟨A0, n0, cap0, zs0, rfl, hn0, hc0, hs0, hb0⟩ := arg_bytes (hval 0 22 v0 rfl rfl) h0
  clear hA0 hval0
  refine (walk A0 n0 cap0 zs0 W hn0 hc0 hs0 hb0).mono fun e W' ⟨he, ext⟩ => ?_
  subst he
  have bel := ext.below
  exact ⟨_, rfl, _, _, _, [], _, [], hW', trodAll_mk1 (shut_bool Try.underlying4 _), (trodAll_cons_mk (Below.trod laidOut (by kernel_rfl) (of_decide_eq_true (by kernel_rfl)) k0 bel lt0) trodAll_mk0), rfl, bel.frame _, fun h => by cases h⟩

set_option maxHeartbeats 4000000 in
theorem joined : joinedFacts Try.pinned.checked.prog 4 Try.f4 Rows.fnImpliedLiteralsSpec Rows.fnImpliedLiteralsRow = true := by
  unfold joinedFacts
  exact (and2 (and2 (and2 (and2 (and2 (and2 (and2 (and2 (and2 (and2 (and2 (and2 (and2 (and2 (and2 (and2 (and2 (and2 (and2 (and2 (and2 (and2 (and2 (and2 (and2 (and2 (and2 (and2 (and2 (and2 (and2 (by as_aux_lemma => kernel_rfl) (by as_aux_lemma => kernel_rfl)) (by as_aux_lemma => kernel_rfl)) (by as_aux_lemma => kernel_rfl)) (by as_aux_lemma => kernel_rfl)) (by as_aux_lemma => kernel_rfl)) (by as_aux_lemma => kernel_rfl)) (by as_aux_lemma => kernel_rfl)) (by as_aux_lemma => kernel_rfl)) (by as_aux_lemma => kernel_rfl)) (by as_aux_lemma => kernel_rfl)) (by as_aux_lemma => kernel_rfl)) (by as_aux_lemma => kernel_rfl)) (by as_aux_lemma => kernel_rfl)) (by as_aux_lemma => kernel_rfl)) (by as_aux_lemma => kernel_rfl)) (by as_aux_lemma => kernel_rfl)) (by as_aux_lemma => kernel_rfl)) (by as_aux_lemma => kernel_rfl)) (by as_aux_lemma => kernel_rfl)) (by as_aux_lemma => kernel_rfl)) (by as_aux_lemma => kernel_rfl)) (by as_aux_lemma => kernel_rfl)) (by as_aux_lemma => kernel_rfl)) (by as_aux_lemma => kernel_rfl)) jEnter) jLift) jMake) (by as_aux_lemma => kernel_rfl)) (by as_aux_lemma => kernel_rfl)) (by as_aux_lemma => kernel_rfl)) (by as_aux_lemma => kernel_rfl))

set_option maxHeartbeats 4000000 in
theorem over : Rows.fnImpliedLiteralsRow.holds Try.pinned (OpenSpec.ofChange Rows.fnImpliedLiteralsSpec) :=
  OpenClaim.holds_of_wide 4 Try.f4 rfl rfl rfl rfl rfl rfl rfl ⟨rfl, rfl, rfl, rfl, rfl⟩ rfl rfl rfl rfl rfl (by kernel_rfl) Try.func4 joined
    (of_decide_eq_true (by kernel_rfl)) (by unfold Func.isWrapper; first | (rw [if_pos (by decide +kernel)]; kernel_rfl) | (rw [if_neg (by decide +kernel)]; exact ⟨rfl, rfl⟩))
    (fun os started H enc _ => lifted os started H enc)

theorem proved : Rows.FnImpliedLiteralsSaid := over

end Go.Proofs.Ytihbgajlnbchlaa.impliedLiterals
