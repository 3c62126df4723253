/- laws.FnWeakenConstraint: for all bytes, the program's WeakenConstraint returns what the reference's returns, a valid constraint that whatever satisfies the drawn one satisfies, and in which the variable plays no part. No condition. -/
import Derived.Test.YtihmkbfobihddaaRdW
import Derived.Test.YtihmkbfobihddaaPlS
import Derived.Test.YtihmkbfobihddaaSameC
import Derived.Test.YtihmkbfobihddaaApp
import Derived.Test.YtihmkbfobihddaaOpenY
namespace Go.Proofs.Ytihmkbfobihddaa.weakenConstraint
open Go.ChangeShapes Go.WideShapes Go.ChangeAt Go.RowKit
set_option linter.unusedVariables false

set_option maxRecDepth 100000 in
set_option maxHeartbeats 4000000 in
theorem walk (A0 : Option Addr) (n0 cap0 : Nat) (zs0 : List Int) (A1 : Option Addr) (n1 cap1 : Nat) (zs1 : List Int) (w : World) (hn0 : n0 ≤ maxLen) (hc0 : n0 ≤ cap0) (hs0 : Seg w 1 A0 n0 (encY zs0)) (hb0 : bytesB zs0) (hn1 : n1 ≤ maxLen) (hc1 : n1 ≤ cap1) (hs1 : Seg w 1 A1 n1 (encY zs1)) (hb1 : bytesB zs1) :
    Calls Try.prog 11 #[.slice A0 n0 cap0, .slice A1 n1 cap1] w fun e w' => e = .returned (.bool true) ∧ Ext w w' := by
  by_cases hbig : 1048576 < n0
  · clear hs0 hs1
    go_enter Try.func11, Try.ntmps11
    go_wp2
    go_ret
    exact ⟨rfl, Ext.refl _⟩
  by_cases hbig1 : 1048576 < n1
  · clear hs0 hs1
    have hb2 : decide ((1048576 : Int) < (n0 : Int)) = false := decide_eq_false (by omega)
    go_enter Try.func11, Try.ntmps11
    go_wp2
    go_ret
    exact ⟨rfl, Ext.refl _⟩
  have hb2 : decide ((1048576 : Int) < (n0 : Int)) = false := decide_eq_false (by omega)
  have hb3 : decide ((1048576 : Int) < (n1 : Int)) = false := decide_eq_false (by omega)
  go_enter Try.func11, Try.ntmps11
  go_wp2_with fail
  refine (drawWk_any A0 n0 cap0 zs0 _ hn0 hc0 hs0 hb0).mono ?_
  rintro e w1 ⟨A1a, n1a, c1a, ts1a, bd1a, z1b, rfl, hl1a, hm1a, hg1a, hE1⟩
  have hC1 : Ext w w1 := hE1
  have ze1 := hC1.size
  clear hE1
  have hn1a : n1a ≤ maxLen := by unfold maxLen; omega
  have HL1a := Lib.hid hl1a
  have hG1a := Lib.hid hg1a
  clear hl1a hg1a
  go_wp2_with fail
  refine (drawEval_any A1 n1 cap1 zs1 _ hn1 hc1 ((hs1.ext hC1).ext ((Ext.refl _).alloc _)) hb1).mono ?_
  rintro e w2 ⟨A2a, n2a, c2a, ts2a, bd2a, A2b, n2b, c2b, vs2b, rfl, hl2a, hm2a, hl2b, hm2b, hg2a, hg2b, hE2⟩
  have hC2 : Ext w1 w2 := ((Ext.refl _).alloc _).trans hE2
  have ze2 := hC2.size
  have B_x0 := Lib.hid (Blk.of1 hE2)
  have zb_x0 := B_x0.out.lt
  clear hE2
  have hn2a : n2a ≤ maxLen := by unfold maxLen; omega
  have HL2a := Lib.hid hl2a
  have hG2a := Lib.hid hg2a
  clear hl2a hg2a
  have hn2b : n2b ≤ maxLen := by unfold maxLen; omega
  have HL2b := Lib.hid hl2b
  have hG2b := Lib.hid hg2b
  clear hl2b hg2b
  by_cases hv : wkB ts1a bd1a z1b = true
  · have HV := Lib.hid hv
    clear hv
    have L_x0 := B_x0.out
    have c_x0_0 := L_x0.cell 0
    have c_x0_1 := L_x0.cell 1
    have l_x0 := L_x0.lt
    clear L_x0
    go_wp2_with fail
    refine Calls.mono ((implWk_any A1a n1a c1a ts1a bd1a z1b _ hn1a ((hG1a.out.seg.ext hC2).ext ((Ext.refl _).alloc _)) ).mono fun _ _ h => h.of_eq (wcT_of HV.out) (wcD_of HV.out) HV.out) ?_
    rintro e w3 ⟨A3, n3, c3, rfl, hl3, hg3, hE3⟩
    have hC3 : Ext w2 w3 := ((Ext.refl _).alloc _).trans hE3
    have ze3 := hC3.size
    have B_x1 := Lib.hid (Blk.of1 hE3)
    have zb_x1 := B_x1.out.lt
    clear c_x0_0 c_x0_1 l_x0
    clear hE3
    have hG3 := Lib.hid hg3
    have HL3 := Lib.hid hl3
    have hs3 : n3 ≤ 1048576 := (by rw [← hl3]; exact by rw [← (wcT_of HV.out)]; exact wcT_len ts1a bd1a z1b)
    have hn3 : n3 ≤ maxLen := (Nat.le_trans hs3 (by unfold maxLen; omega))
    clear hg3 hl3
    have L_x0 := (B_x0.out.ext hC3)
    have c_x0_0 := L_x0.cell 0
    have c_x0_1 := L_x0.cell 1
    have l_x0 := L_x0.lt
    clear L_x0
    go_wp2_with fail
    refine Calls.mono ((specWk_any A1a n1a c1a ts1a bd1a z1b _ hn1a ((hG1a.out.seg.ext (hC2.trans hC3)).ext ((Ext.refl _).alloc _)) ).mono fun _ _ h => h.of_eq (wcT_of HV.out) (wcD_of HV.out) HV.out) ?_
    rintro e w4 ⟨A4, n4, c4, rfl, hl4, hg4, hE4⟩
    have hC4 : Ext w3 w4 := ((Ext.refl _).alloc _).trans hE4
    have ze4 := hC4.size
    have B_x2 := Lib.hid (Blk.of1 hE4)
    have zb_x2 := B_x2.out.lt
    clear c_x0_0 c_x0_1 l_x0
    clear hE4
    have hG4 := Lib.hid hg4
    have HL4 := Lib.hid hl4
    have hs4 : n4 ≤ 1048576 := (by rw [← hl4]; exact by rw [← (wcT_of HV.out)]; exact wcT_len ts1a bd1a z1b)
    have hn4 : n4 ≤ maxLen := (Nat.le_trans hs4 (by unfold maxLen; omega))
    clear hg4 hl4
    by_cases h12 : n2b = 12
    · have HL12 := Lib.hid (show vs2b.length = 12 by rw [HL2b.out]; exact h12)
      subst h12
      have HN := Lib.hid (cvB_wk (wkB_cv HV.out) z1b)
      obtain ⟨v1, v2⟩ := wkB_v HV.out
      obtain ⟨m, hm⟩ : ∃ m : Nat, z1b = (m : Int) + 1 := ⟨(z1b - 1).toNat, by omega⟩
      have hm12 : m < 12 := by omega
      obtain ⟨x0, hx0⟩ : ∃ x, vs2b[m]? = some x := ⟨vs2b[m]'(by rw [HL12.out]; exact hm12), List.getElem?_eq_getElem _⟩
      have HX0 := Lib.hid hx0
      clear hx0
      obtain ⟨e1, he1⟩ : ∃ b, Hid (evB ts1a bd1a vs2b = b) := ⟨_, rfl⟩
      obtain ⟨e2, he2⟩ : ∃ b, Hid (evB (wkMap ts1a z1b) (wkD ts1a bd1a z1b) vs2b = b) := ⟨_, rfl⟩
      have HSd : Hid (e1 = true → e2 = true) := fun h => by rw [← he2.out]; exact wk_sound (wkB_cv HV.out) (he1.out.trans h)
      have he3 : Hid (evB (wkMap ts1a z1b) (wkD ts1a bd1a z1b) (vs2b.set m (!x0)) = e2) := by have := wk_other (wkB_cv HV.out) v1 vs2b (!x0); rw [show (z1b - 1).toNat = m from by omega] at this; exact this.trans he2.out
      subst hm
      have m0 : (0 : Int) ≤ (m : Int) := Int.natCast_nonneg _
      have m1 : (m : Int) < 12 := by omega
      have L_x2 := B_x2.out
      have c_x2_0 := L_x2.cell 0
      have c_x2_1 := L_x2.cell 1
      have l_x2 := L_x2.lt
      clear L_x2
      go_wp2_with fail
      refine (calls_val (implCS2 A3 n3 c3 (wkMap ts1a ((m : Int) + 1)) (wkD ts1a bd1a ((m : Int) + 1)) A4 n4 c4 (wkMap ts1a ((m : Int) + 1)) (wkD ts1a bd1a ((m : Int) + 1)) _ hn3 ((hG3.out.seg.ext hC4).ext ((Ext.refl _).alloc _)) hn4 (hG4.out.seg.ext ((Ext.refl _).alloc _))) (congrArg Value.bool (cEq_self _ _))).mono ?_
      rintro e w5 ⟨rfl, hE5⟩
      have hC5 : Ext w4 w5 := ((Ext.refl _).alloc _).trans hE5
      have ze5 := hC5.size
      have B_x3 := Lib.hid (Blk.of1 hE5)
      have zb_x3 := B_x3.out.lt
      clear c_x2_0 c_x2_1 l_x2
      clear hE5
      obtain ⟨i0, hi, hz0, hz1, hz2⟩ := info_parts Try.infoBoR
      have HI := Lib.hid hi
      have HZ0 := Lib.hid hz0
      have HZ1 := Lib.hid hz1
      have HZ2 := Lib.hid hz2
      clear hi hz0 hz1 hz2
      have OE := own_empty w5 w5.heap.size 4 1 (Nat.le_refl _)
      have SV := Lib.hid ((hG2b.out.seg.ext ((hC3.trans hC4).trans hC5)).alloc (.cells #[] 4))
      go_wp2_with (first
        | (at_builtin
           refine wpList_append_seg _ rfl (.tmp 70) (.tmp 71) 24 rfl w5.heap.size 4 i0 _ 1 1 Try.underlying24 HI.out HZ0.out HZ1.out HZ2.out rfl (by omega) _ 0 [] rfl OE A2b 12 c2b (encB vs2b) rfl SV.out (oneCB _) ?_ ?_ ?_ ?_
           (unfold maxLen; omega)
           omega
           (first | exact Nat.le_refl _ | simp)
           (intro A9 c9 w9 hown9 hg9)
           (have P9 := own_parts (show w9.ownsRow w5.heap.size 4 1 (.slice A9 12 c9) 12 (encB vs2b) from (by simpa using hown9)))
           (obtain ⟨b9, off9, x9, rfl, hx9, q9⟩ := P9.1.bool hm12)
           (obtain rfl : x9 = x0 := by rw [HX0.out] at hx9; exact (Option.some.inj hx9).symm)
           (have f9 := P9.2.1 b9 off9 rfl m (by omega))
           (have hb9 : w5.heap.size ≤ b9 := (P9.2.2 (by omega) _ rfl).1)
           (have E9 : Hid (Ext w5 (w9.setCell ⟨b9, off9 + m, none⟩ (.bool (!x9)))) := (((Ext.refl w5).alloc _).grown hg9 (fun k hk => Nat.le_of_eq (Option.some.inj hk))).setNew (show w5.heap.size ≤ b9 from hb9) _)
           (have S9 := Lib.hid (P9.1.setAt (i := m) (by rw [P9.1.1]; omega) (.bool (!x9))))
           (clear hx9 P9 hown9 hg9 OE)))
      have e10 : (encB vs2b).set m (.bool (!x9)) = encB (vs2b.set m (!x9)) := by simp [encB, List.map_set]
      rw [e10] at S9
      clear e10 f9 q9
      have hn12 : (12 : Nat) ≤ maxLen := by unfold maxLen; omega
      have hC6 : Ext w5 (w9.setCell ⟨b9, off9 + m, none⟩ (.bool (!x9))) := E9.out
      have ze6 := hC6.size
      cases e1
      · skip
        go_wp2_with fail
        have L_x2 : Blk (w9.setCell ⟨b9, off9 + m, none⟩ (.bool (!x9))) w3.heap.size 33 #[.slice A3 n3 c3, .int .i64 (wkD ts1a bd1a ((m : Int) + 1))] := (B_x2.out.ext (hC5.trans hC6))
        have c_x2_0 : ∀ p : ExtBy (w9.setCell ⟨b9, off9 + m, none⟩ (.bool (!x9))), p.to.cell? ⟨w3.heap.size, 0, none⟩ = some (.slice A3 n3 c3) := fun p => p.cell (L_x2.cell 0)
        have c_x2_1 : ∀ p : ExtBy (w9.setCell ⟨b9, off9 + m, none⟩ (.bool (!x9))), p.to.cell? ⟨w3.heap.size, 1, none⟩ = some (.int .i64 (wkD ts1a bd1a ((m : Int) + 1))) := fun p => p.cell (L_x2.cell 1)
        clear L_x2
        have L_x0 : Blk (w9.setCell ⟨b9, off9 + m, none⟩ (.bool (!x9))) w1.heap.size 33 #[.slice A1a n1a c1a, .int .i64 bd1a] := (B_x0.out.ext (((hC3.trans hC4).trans hC5).trans hC6))
        have c_x0_0 : ∀ p : ExtBy (w9.setCell ⟨b9, off9 + m, none⟩ (.bool (!x9))), p.to.cell? ⟨w1.heap.size, 0, none⟩ = some (.slice A1a n1a c1a) := fun p => p.cell (L_x0.cell 0)
        have c_x0_1 : ∀ p : ExtBy (w9.setCell ⟨b9, off9 + m, none⟩ (.bool (!x9))), p.to.cell? ⟨w1.heap.size, 1, none⟩ = some (.int .i64 bd1a) := fun p => p.cell (L_x0.cell 1)
        clear L_x0
        refine wp_region_ext_lit (by kernel_rfl) (by kernel_rfl) ?_
        repeat (go_big_quiet_step (first | (go_at_call_of 24 (A3); exact ext_call (calls_val (implCV_any A3 n3 c3 (wkMap ts1a ((m : Int) + 1)) (wkD ts1a bd1a ((m : Int) + 1)) _ hn3 ((hG3.out.seg.ext ((hC4.trans hC5).trans hC6)).ext (ExtBy.ext _))) (congrArg Value.bool HN.out))) | (go_at_call_of 25 (A1a); go_at_call_of 25 (A2b); exact ext_call (calls_val (implEV_any A1a n1a c1a ts1a bd1a A2b 12 c2b vs2b _ hn1a ((hG1a.out.seg.ext ((((hC2.trans hC3).trans hC4).trans hC5).trans hC6)).ext (ExtBy.ext _)) hn2b ((hG2b.out.seg.ext (((hC3.trans hC4).trans hC5).trans hC6)).ext (ExtBy.ext _))) (congrArg Value.bool he1.out))) | (go_at_call_of 25 (A3); go_at_call_of 25 ((some ⟨b9, off9, none⟩) : Option Addr); exact ext_call (calls_val (implEV_any A3 n3 c3 (wkMap ts1a ((m : Int) + 1)) (wkD ts1a bd1a ((m : Int) + 1)) (some ⟨b9, off9, none⟩) 12 c9 (vs2b.set m (!x9)) _ hn3 ((hG3.out.seg.ext ((hC4.trans hC5).trans hC6)).ext (ExtBy.ext _)) hn12 (S9.out.ext (ExtBy.ext _))) (congrArg Value.bool he3.out))) | (go_at_call_of 25 (A3); go_at_call_of 25 (A2b); exact ext_call (calls_val (implEV_any A3 n3 c3 (wkMap ts1a ((m : Int) + 1)) (wkD ts1a bd1a ((m : Int) + 1)) A2b 12 c2b vs2b _ hn3 ((hG3.out.seg.ext ((hC4.trans hC5).trans hC6)).ext (ExtBy.ext _)) hn2b ((hG2b.out.seg.ext (((hC3.trans hC4).trans hC5).trans hC6)).ext (ExtBy.ext _))) (congrArg Value.bool he2.out)))))
        refine wpQuiet_nil ?_
        intro w7 hw'
        obtain ⟨⟨wq, hE7⟩, hw''⟩ := hw'
        subst hw''
        clear c_x2_0 c_x2_1 c_x0_0 c_x0_1
        replace hE7 : Ext (w9.setCell ⟨b9, off9 + m, none⟩ (.bool (!x9))) w7 := hE7
        have hC7 : Ext (w9.setCell ⟨b9, off9 + m, none⟩ (.bool (!x9))) w7 := hE7
        have ze7 := hC7.size
        clear hE7
        go_wp2
        go_ret
        exact ⟨rfl, ((((((hC1.trans hC2).trans hC3).trans hC4).trans hC5).trans hC6).trans hC7)⟩
      · have he2t := Lib.hid (he2.out.trans (HSd.out rfl))
        have he3t := Lib.hid (he3.out.trans (HSd.out rfl))
        go_wp2_with fail
        have L_x2 : Blk (w9.setCell ⟨b9, off9 + m, none⟩ (.bool (!x9))) w3.heap.size 33 #[.slice A3 n3 c3, .int .i64 (wkD ts1a bd1a ((m : Int) + 1))] := (B_x2.out.ext (hC5.trans hC6))
        have c_x2_0 : ∀ p : ExtBy (w9.setCell ⟨b9, off9 + m, none⟩ (.bool (!x9))), p.to.cell? ⟨w3.heap.size, 0, none⟩ = some (.slice A3 n3 c3) := fun p => p.cell (L_x2.cell 0)
        have c_x2_1 : ∀ p : ExtBy (w9.setCell ⟨b9, off9 + m, none⟩ (.bool (!x9))), p.to.cell? ⟨w3.heap.size, 1, none⟩ = some (.int .i64 (wkD ts1a bd1a ((m : Int) + 1))) := fun p => p.cell (L_x2.cell 1)
        clear L_x2
        have L_x0 : Blk (w9.setCell ⟨b9, off9 + m, none⟩ (.bool (!x9))) w1.heap.size 33 #[.slice A1a n1a c1a, .int .i64 bd1a] := (B_x0.out.ext (((hC3.trans hC4).trans hC5).trans hC6))
        have c_x0_0 : ∀ p : ExtBy (w9.setCell ⟨b9, off9 + m, none⟩ (.bool (!x9))), p.to.cell? ⟨w1.heap.size, 0, none⟩ = some (.slice A1a n1a c1a) := fun p => p.cell (L_x0.cell 0)
        have c_x0_1 : ∀ p : ExtBy (w9.setCell ⟨b9, off9 + m, none⟩ (.bool (!x9))), p.to.cell? ⟨w1.heap.size, 1, none⟩ = some (.int .i64 bd1a) := fun p => p.cell (L_x0.cell 1)
        clear L_x0
        refine wp_region_ext_lit (by kernel_rfl) (by kernel_rfl) ?_
        repeat (go_big_quiet_step (first | (go_at_call_of 24 (A3); exact ext_call (calls_val (implCV_any A3 n3 c3 (wkMap ts1a ((m : Int) + 1)) (wkD ts1a bd1a ((m : Int) + 1)) _ hn3 ((hG3.out.seg.ext ((hC4.trans hC5).trans hC6)).ext (ExtBy.ext _))) (congrArg Value.bool HN.out))) | (go_at_call_of 25 (A1a); go_at_call_of 25 (A2b); exact ext_call (calls_val (implEV_any A1a n1a c1a ts1a bd1a A2b 12 c2b vs2b _ hn1a ((hG1a.out.seg.ext ((((hC2.trans hC3).trans hC4).trans hC5).trans hC6)).ext (ExtBy.ext _)) hn2b ((hG2b.out.seg.ext (((hC3.trans hC4).trans hC5).trans hC6)).ext (ExtBy.ext _))) (congrArg Value.bool he1.out))) | (go_at_call_of 25 (A3); go_at_call_of 25 (A2b); exact ext_call (calls_val (implEV_any A3 n3 c3 (wkMap ts1a ((m : Int) + 1)) (wkD ts1a bd1a ((m : Int) + 1)) A2b 12 c2b vs2b _ hn3 ((hG3.out.seg.ext ((hC4.trans hC5).trans hC6)).ext (ExtBy.ext _)) hn2b ((hG2b.out.seg.ext (((hC3.trans hC4).trans hC5).trans hC6)).ext (ExtBy.ext _))) (congrArg Value.bool he2t.out))) | (go_at_call_of 25 (A3); go_at_call_of 25 ((some ⟨b9, off9, none⟩) : Option Addr); exact ext_call (calls_val (implEV_any A3 n3 c3 (wkMap ts1a ((m : Int) + 1)) (wkD ts1a bd1a ((m : Int) + 1)) (some ⟨b9, off9, none⟩) 12 c9 (vs2b.set m (!x9)) _ hn3 ((hG3.out.seg.ext ((hC4.trans hC5).trans hC6)).ext (ExtBy.ext _)) hn12 (S9.out.ext (ExtBy.ext _))) (congrArg Value.bool he3t.out)))))
        refine wpQuiet_nil ?_
        intro w7 hw'
        obtain ⟨⟨wq, hE7⟩, hw''⟩ := hw'
        subst hw''
        clear c_x2_0 c_x2_1 c_x0_0 c_x0_1
        replace hE7 : Ext (w9.setCell ⟨b9, off9 + m, none⟩ (.bool (!x9))) w7 := hE7
        have hC7 : Ext (w9.setCell ⟨b9, off9 + m, none⟩ (.bool (!x9))) w7 := hE7
        have ze7 := hC7.size
        clear hE7
        go_wp2
        go_ret
        exact ⟨rfl, ((((((hC1.trans hC2).trans hC3).trans hC4).trans hC5).trans hC6).trans hC7)⟩
    · have hne : ((n2b : Int) != 12) = true := by simp; omega
      clear h12
      have L_x2 := B_x2.out
      have c_x2_0 := L_x2.cell 0
      have c_x2_1 := L_x2.cell 1
      have l_x2 := L_x2.lt
      clear L_x2
      go_wp2_with fail
      refine (calls_val (implCS2 A3 n3 c3 (wkMap ts1a z1b) (wkD ts1a bd1a z1b) A4 n4 c4 (wkMap ts1a z1b) (wkD ts1a bd1a z1b) _ hn3 ((hG3.out.seg.ext hC4).ext ((Ext.refl _).alloc _)) hn4 (hG4.out.seg.ext ((Ext.refl _).alloc _))) (congrArg Value.bool (cEq_self _ _))).mono ?_
      rintro e w5 ⟨rfl, hE5⟩
      have hC5 : Ext w4 w5 := ((Ext.refl _).alloc _).trans hE5
      have ze5 := hC5.size
      have B_x3 := Lib.hid (Blk.of1 hE5)
      have zb_x3 := B_x3.out.lt
      clear c_x2_0 c_x2_1 l_x2
      clear hE5
      have L_x2 := (B_x2.out.ext hC5)
      have c_x2_0 := L_x2.cell 0
      have c_x2_1 := L_x2.cell 1
      clear L_x2
      have L_x3 := B_x3.out
      have c_x3_0 := L_x3.cell 0
      have c_x3_1 := L_x3.cell 1
      clear L_x3
      go_wp2_with fail
      refine (calls_val (implCS2 A3 n3 c3 (wkMap ts1a z1b) (wkD ts1a bd1a z1b) A4 n4 c4 (wkMap ts1a z1b) (wkD ts1a bd1a z1b) _ hn3 (hG3.out.seg.ext (hC4.trans hC5)) hn4 (hG4.out.seg.ext hC5)) (congrArg Value.bool (cEq_self _ _))).mono ?_
      rintro e w6 ⟨rfl, hE6⟩
      have hC6 : Ext w5 w6 := hE6
      have ze6 := hC6.size
      clear c_x2_0 c_x2_1 c_x3_0 c_x3_1
      clear hE6
      go_wp2
      go_ret
      exact ⟨rfl, (((((hC1.trans hC2).trans hC3).trans hC4).trans hC5).trans hC6)⟩
  · have HV := Lib.hid (show wkB ts1a bd1a z1b = false by simpa using hv)
    clear hv
    have L_x0 := B_x0.out
    have c_x0_0 := L_x0.cell 0
    have c_x0_1 := L_x0.cell 1
    have l_x0 := L_x0.lt
    clear L_x0
    go_wp2_with fail
    refine Calls.mono ((implWk_any A1a n1a c1a ts1a bd1a z1b _ hn1a ((hG1a.out.seg.ext hC2).ext ((Ext.refl _).alloc _)) ).mono fun _ _ h => h.of_eq (wcT_no HV.out) (wcD_no HV.out) HV.out) ?_
    rintro e w3 ⟨A3, n3, c3, rfl, hl3, hg3, hE3⟩
    have hC3 : Ext w2 w3 := ((Ext.refl _).alloc _).trans hE3
    have ze3 := hC3.size
    have B_x1 := Lib.hid (Blk.of1 hE3)
    have zb_x1 := B_x1.out.lt
    clear c_x0_0 c_x0_1 l_x0
    clear hE3
    have hG3 := Lib.hid hg3
    have HL3 := Lib.hid hl3
    have hs3 : n3 ≤ 1048576 := (by rw [← hl3]; exact by rw [← (wcT_no HV.out)]; exact wcT_len ts1a bd1a z1b)
    have hn3 : n3 ≤ maxLen := (Nat.le_trans hs3 (by unfold maxLen; omega))
    clear hg3 hl3
    have L_x0 := (B_x0.out.ext hC3)
    have c_x0_0 := L_x0.cell 0
    have c_x0_1 := L_x0.cell 1
    have l_x0 := L_x0.lt
    clear L_x0
    go_wp2_with fail
    refine Calls.mono ((specWk_any A1a n1a c1a ts1a bd1a z1b _ hn1a ((hG1a.out.seg.ext (hC2.trans hC3)).ext ((Ext.refl _).alloc _)) ).mono fun _ _ h => h.of_eq (wcT_no HV.out) (wcD_no HV.out) HV.out) ?_
    rintro e w4 ⟨A4, n4, c4, rfl, hl4, hg4, hE4⟩
    have hC4 : Ext w3 w4 := ((Ext.refl _).alloc _).trans hE4
    have ze4 := hC4.size
    have B_x2 := Lib.hid (Blk.of1 hE4)
    have zb_x2 := B_x2.out.lt
    clear c_x0_0 c_x0_1 l_x0
    clear hE4
    have hG4 := Lib.hid hg4
    have HL4 := Lib.hid hl4
    have hs4 : n4 ≤ 1048576 := (by rw [← hl4]; exact by rw [← (wcT_no HV.out)]; exact wcT_len ts1a bd1a z1b)
    have hn4 : n4 ≤ maxLen := (Nat.le_trans hs4 (by unfold maxLen; omega))
    clear hg4 hl4
    have L_x2 := B_x2.out
    have c_x2_0 := L_x2.cell 0
    have c_x2_1 := L_x2.cell 1
    have l_x2 := L_x2.lt
    clear L_x2
    go_wp2_with fail
    refine (calls_val (implCS2 A3 n3 c3 ([]) 0 A4 n4 c4 ([]) 0 _ hn3 ((hG3.out.seg.ext hC4).ext ((Ext.refl _).alloc _)) hn4 (hG4.out.seg.ext ((Ext.refl _).alloc _))) (congrArg Value.bool (cEq_self _ _))).mono ?_
    rintro e w5 ⟨rfl, hE5⟩
    have hC5 : Ext w4 w5 := ((Ext.refl _).alloc _).trans hE5
    have ze5 := hC5.size
    have B_x3 := Lib.hid (Blk.of1 hE5)
    have zb_x3 := B_x3.out.lt
    clear c_x2_0 c_x2_1 l_x2
    clear hE5
    have L_x2 := (B_x2.out.ext hC5)
    have c_x2_0 := L_x2.cell 0
    have c_x2_1 := L_x2.cell 1
    clear L_x2
    have L_x3 := B_x3.out
    have c_x3_0 := L_x3.cell 0
    have c_x3_1 := L_x3.cell 1
    clear L_x3
    go_wp2_with fail
    refine (calls_val (implCS2 A3 n3 c3 ([]) 0 A4 n4 c4 ([]) 0 _ hn3 (hG3.out.seg.ext (hC4.trans hC5)) hn4 (hG4.out.seg.ext hC5)) (congrArg Value.bool (cEq_self _ _))).mono ?_
    rintro e w6 ⟨rfl, hE6⟩
    have hC6 : Ext w5 w6 := hE6
    have ze6 := hC6.size
    clear c_x2_0 c_x2_1 c_x3_0 c_x3_1
    clear hE6
    go_wp2
    go_ret
    exact ⟨rfl, (((((hC1.trans hC2).trans hC3).trans hC4).trans hC5).trans hC6)⟩

theorem own : ownKnob Try.prog.godebug = none := by kernel_rfl
theorem laidOut : laidOutB Try.prog = true := by kernel_rfl

set_option maxRecDepth 100000 in
theorem lifted (os : Os) (started : os.Started) (H : Type) (enc : TypeId × Value → H) :
    ReturnsInHanded {} Try.checked os 11 .any (Rows.fnWeakenConstraintSpec.pre6 enc Try.prog Try.f11 Rows.fnWeakenConstraintRow.domain false) (Rows.fnWeakenConstraintSpec.post enc Try.prog Try.f11 false true false false) := by
  refine returnsInHanded_of_change (C := Try.checked) own started (by kernel_rfl) Try.func11
    (ChangeSpec.witness6 (enc := enc) (C := Try.checked) false ⟨#[], #[.slice none 0 0, .slice none 0 0], []⟩ 8 (by kernel_rfl) (by kernel_rfl) (by kernel_rfl) (by kernel_rfl)) ?_
  intro W base args ds gs before hval0 hW hcnd _
  have hval : ∀ (j : Nat) t v, Try.f11.params[j]? = some t → args[j]? = some v → Value.okWide Try.prog W .any base t v := hval0
  have hW' := hW
  obtain ⟨p, q, hA0, hV, rfl, hfz, hnd⟩ := hW
  have hA : DataW.TrodAll enc Try.prog W 0 (fun _ => true) true Try.f11.params.toList args.toList ds p := hA0
  rw [Try.params11] at hA hval
  obtain ⟨v0, vs0, d0, ds0, p0, q0, hargs, rfl, rfl, h0, r0⟩ := trodAll_cons hA
  obtain ⟨v1, vs1, d1, ds1, p1, q1, rfl, rfl, rfl, h1, r1⟩ := trodAll_cons r0
  obtain ⟨rfl, rfl, rfl⟩ := trodAll_nil r1
  obtain rfl : args = #[v0, v1] := by cases args; simp_all
  obtain ⟨rfl, rfl⟩ := trodVars_none hV
  have k0 := h0
  have lt0 : ∀ x ∈ p0, x.block < W.heap.size := by obtain ⟨m, hm⟩ := k0; exact DataW.trod_lt m _ _ _ hm
  obtain ⟨A0, n0, cap0, zs0, rfl, hn0, hc0, hs0, hb0⟩ := arg_bytes (hval 0 22 v0 rfl rfl) h0
  have k1 := h1
  have lt1 : ∀ x ∈ p1, x.block < W.heap.size := by obtain ⟨m, hm⟩ := k1; exact DataW.trod_lt m _ _ _ hm
  obtain ⟨A1, n1, cap1, zs1, rfl, hn1, hc1, hs1, hb1⟩ := arg_bytes (hval 1 22 v1 rfl rfl) h1
  clear hA0 hval0
  refine (walk A0 n0 cap0 zs0 A1 n1 cap1 zs1 W hn0 hc0 hs0 hb0 hn1 hc1 hs1 hb1).mono fun e W' ⟨he, ext⟩ => ?_
  subst he
  have bel := ext.below
  exact ⟨_, rfl, _, _, _, [], _, [], hW', trodAll_mk1 (shut_bool Try.underlying4 _), (trodAll_cons_mk (Below.trod laidOut (by kernel_rfl) (of_decide_eq_true (by kernel_rfl)) k0 bel lt0) (trodAll_cons_mk (Below.trod laidOut (by kernel_rfl) (of_decide_eq_true (by kernel_rfl)) k1 bel lt1) trodAll_mk0)), rfl, bel.frame _, fun h => by cases h⟩

theorem over : Rows.fnWeakenConstraintRow.holds Try.pinned (OpenSpec.ofChange Rows.fnWeakenConstraintSpec) :=
  OpenClaim.holds_of_wide 11 Try.f11 rfl rfl rfl rfl rfl rfl rfl ⟨rfl, rfl, rfl, rfl, rfl⟩ rfl rfl rfl rfl rfl (by kernel_rfl) Try.func11 (by kernel_rfl)
    (of_decide_eq_true (by kernel_rfl)) (by unfold Func.isWrapper; first | (rw [if_pos (by decide +kernel)]; kernel_rfl) | (rw [if_neg (by decide +kernel)]; exact ⟨rfl, rfl⟩))
    (fun os started H enc _ => lifted os started H enc)

theorem proved : Rows.FnWeakenConstraintSaid := over

end Go.Proofs.Ytihmkbfobihddaa.weakenConstraint
