/- laws.FnPropagateMonotone: for all bytes, the program's Propagate returns what the reference's returns, and with more constraints it finds at least the same literals or a conflict. No condition. -/
import Derived.Test.YtihbgajlnbchlaaRdL
import Derived.Test.YtihbgajlnbchlaaPlG
import Derived.Test.YtihbgajlnbchlaaSameC
import Derived.Test.YtihbgajlnbchlaaCpB
import Derived.Test.YtihbgajlnbchlaaPrg
import Derived.Test.YtihbgajlnbchlaaPV
import Derived.Test.YtihbgajlnbchlaaAppC
import Derived.Test.YtihbgajlnbchlaaOpenY
import Derived.Test.YtihbgajlnbchlaaFacts
namespace Go.Proofs.Ytihbgajlnbchlaa.propagateMonotone
open Go.ChangeShapes Go.WideShapes Go.ChangeAt Go.RowKit
set_option linter.unusedVariables false

set_option maxRecDepth 100000 in
set_option maxHeartbeats 4000000 in
theorem walk (A0 : Option Addr) (n0 cap0 : Nat) (zs0 : List Int) (A1 : Option Addr) (n1 cap1 : Nat) (zs1 : List Int) (w : World) (hn0 : n0 ≤ maxLen) (hc0 : n0 ≤ cap0) (hs0 : Seg w 1 A0 n0 (encY zs0)) (hb0 : bytesB zs0) (hn1 : n1 ≤ maxLen) (hc1 : n1 ≤ cap1) (hs1 : Seg w 1 A1 n1 (encY zs1)) (hb1 : bytesB zs1) :
    Calls Try.prog 12 #[.slice A0 n0 cap0, .slice A1 n1 cap1] w fun e w' => e = .returned (.bool true) ∧ Ext w w' := by
  by_cases hbig : 1048576 < n0
  · clear hs0 hs1
    go_enter Try.func12, Try.ntmps12
    go_wp2
    go_ret
    exact ⟨rfl, Ext.refl _⟩
  by_cases hbig1 : 1048576 < n1
  · clear hs0 hs1
    have hb2 : decide ((1048576 : Int) < (n0 : Int)) = false := decide_eq_false (by omega)
    go_enter Try.func12, Try.ntmps12
    go_wp2
    go_ret
    exact ⟨rfl, Ext.refl _⟩
  have hb2 : decide ((1048576 : Int) < (n0 : Int)) = false := decide_eq_false (by omega)
  have hb3 : decide ((1048576 : Int) < (n1 : Int)) = false := decide_eq_false (by omega)
  go_enter Try.func12, Try.ntmps12
  go_wp2_with fail
  refine (drawPr_any A0 n0 cap0 zs0 _ hn0 hc0 hs0 hb0).mono ?_
  rintro e w1 ⟨A1a, n1a, c1a, cs1a, A1b, n1b, c1b, vs1b, rfl, hl1a, hm1a, hl1b, hm1b, hg1a, hg1b, hE1⟩
  have hC1 : Ext w w1 := hE1
  have ze1 := hC1.size
  clear hE1
  have hn1a : n1a ≤ maxLen := by unfold maxLen; omega
  have HL1a := Lib.hid hl1a
  have hG1a := Lib.hid hg1a
  clear hl1a hg1a
  have hn1b : n1b ≤ maxLen := by unfold maxLen; omega
  have HL1b := Lib.hid hl1b
  have hG1b := Lib.hid hg1b
  clear hl1b hg1b
  go_wp2_with fail
  refine (drawPr_any A1 n1 cap1 zs1 _ hn1 hc1 (hs1.ext hC1) hb1).mono ?_
  rintro e w2 ⟨A2a, n2a, c2a, cs2a, A2b, n2b, c2b, vs2b, rfl, hl2a, hm2a, hl2b, hm2b, hg2a, hg2b, hE2⟩
  have hC2 : Ext w1 w2 := hE2
  have ze2 := hC2.size
  clear hE2
  have hn2a : n2a ≤ maxLen := by unfold maxLen; omega
  have HL2a := Lib.hid hl2a
  have hG2a := Lib.hid hg2a
  clear hl2a hg2a
  have hn2b : n2b ≤ maxLen := by unfold maxLen; omega
  have HL2b := Lib.hid hl2b
  have hG2b := Lib.hid hg2b
  clear hl2b hg2b
  obtain ⟨zk, hzk⟩ : ∃ z, Hid (prK cs1a vs1b = z) := ⟨_, rfl⟩
  by_cases hv : prB cs1a vs1b = true
  · have HV := Lib.hid hv
    clear hv
    obtain rfl : n1b = 12 := by rw [← HL1b.out]; exact (pvB_at (prB_parts HV.out).2).1
    by_cases hpo : probB cs2a = true
    · have HPO := Lib.hid hpo
      clear hpo
      go_wp2_with fail
      refine Calls.mono ((implPr_any A1a n1a c1a cs1a A1b 12 c1b vs1b _ hn1a (hG1a.out.ext hC2) hn1b (hG1b.out.seg.ext hC2)).mono fun _ _ h => h.of_eq rfl hzk.out HV.out) ?_
      rintro e w3 ⟨A3, n3, c3, rfl, hl3, hg3, hE3⟩
      have hC3 : Ext w2 w3 := hE3
      have ze3 := hC3.size
      clear hE3
      have hG3 := Lib.hid hg3
      have HL3 := Lib.hid hl3
      have hs3 : n3 ≤ 1048576 := (by rw [← hl3]; exact prT_len cs1a vs1b)
      have hn3 : n3 ≤ maxLen := (Nat.le_trans hs3 (by unfold maxLen; omega))
      clear hg3 hl3
      go_wp2_with fail
      refine Calls.mono ((specPr_any A1a n1a c1a cs1a A1b 12 c1b vs1b _ hn1a (hG1a.out.ext (hC2.trans hC3)) hn1b (hG1b.out.seg.ext (hC2.trans hC3))).mono fun _ _ h => h.of_eq rfl hzk.out HV.out) ?_
      rintro e w4 ⟨A4, n4, c4, rfl, hl4, hg4, hE4⟩
      have hC4 : Ext w3 w4 := hE4
      have ze4 := hC4.size
      clear hE4
      have hG4 := Lib.hid hg4
      have HL4 := Lib.hid hl4
      have hs4 : n4 ≤ 1048576 := (by rw [← hl4]; exact prT_len cs1a vs1b)
      have hn4 : n4 ≤ maxLen := (Nat.le_trans hs4 (by unfold maxLen; omega))
      clear hg4 hl4
      go_wp2_with fail
      refine (calls_val (cpI_any A3 n3 c3 (prT cs1a vs1b) A4 n4 c4 (prT cs1a vs1b) _ hn3 (hG3.out.seg.ext hC4) hn4 hG4.out.seg) (congrArg Value.bool (ciEq_self _))).mono ?_
      rintro e w5 ⟨rfl, hE5⟩
      have hC5 : Ext w4 w5 := hE5
      have ze5 := hC5.size
      clear hE5
      go_wp2_with fail
      refine (calls_val (implProbV_any A2a n2a c2a cs2a _ hn2a (hG2a.out.ext ((hC3.trans hC4).trans hC5))) (congrArg Value.bool HPO.out)).mono ?_
      rintro e w6 ⟨rfl, hE6⟩
      have hC6 : Ext w5 w6 := hE6
      have ze6 := hC6.size
      clear hE6
      obtain rfl : n3 = 12 := by rw [← HL3.out]; exact prT_12 HV.out
      have S1 := Lib.hid (hG1b.out.seg.ext ((((hC2.trans hC3).trans hC4).trans hC5).trans hC6))
      have S2 := Lib.hid (hG3.out.seg.ext ((hC4.trans hC5).trans hC6))
      have SL := Lib.hid (hG1a.out.ext ((((hC2.trans hC3).trans hC4).trans hC5).trans hC6))
      have SO := Lib.hid (hG2a.out.ext (((hC3.trans hC4).trans hC5).trans hC6))
      have E0 := Lib.hid (((((hC1.trans hC2).trans hC3).trans hC4).trans hC5).trans hC6)
      have h12 : (12 : Nat) ≤ maxLen := by unfold maxLen; omega
      obtain ⟨i0, hi, hz0, hz1, hz2⟩ := info_parts Try.infoCnL
      have HI := Lib.hid hi
      have HZ0 := Lib.hid hz0
      have HZ1 := Lib.hid hz1
      have HZ2 := Lib.hid hz2
      clear hi hz0 hz1 hz2
      obtain ⟨hsa, hla, hSa, hina⟩ := SO.out
      obtain ⟨hsb, hlb, hSb, hinb⟩ := SL.out
      have HINA := Lib.hid hina
      have HINB := Lib.hid hinb
      have HLA := Lib.hid hla
      have HLB := Lib.hid hlb
      have SVA := Lib.hid (hSa.alloc (.cells #[] 25))
      have SVB := Lib.hid hSb
      have OE := own_empty w6 (w6).heap.size 25 2 (Nat.le_refl _)
      clear hina hinb hla hlb hSa hSb
      go_wp2_with (first
        | (at_builtin
           refine wpList_append_seg _ rfl (.tmp 88) (.tmp 89) 42 rfl (w6).heap.size 25 i0 _ 2 32 Try.underlying42 HI.out HZ0.out HZ1.out HZ2.out rfl (by omega) (.slice (some ⟨(w6).heap.size, 0, none⟩) 0 0) 0 [] rfl OE A2a n2a c2a (encH hsa cs2a) rfl SVA.out (oneCHl _ _) ?_ ?_ ?_ ?_
           (unfold maxLen; omega)
           omega
           (first | exact Nat.le_refl _ | simp)
           (intro A8 c8 w8 hown8 hg8)
           (simp only [Nat.zero_add, List.nil_append] at hown8 ⊢)
           (have HO8 := Lib.hid hown8)
           (have HE8 : Hid (Ext (w6) w8) := ((Ext.refl (w6)).alloc _).grown hg8 (fun k hk => Nat.le_of_eq (Option.some.inj hk)))
           (have hz8 := HE8.out.size)
           (have SVB8 := Lib.hid (SVB.out.ext HE8.out))
           (clear hown8 hg8 OE SVA))
        | (at_builtin
           refine wpList_append_seg _ rfl (.tmp 90) (.tmp 91) 42 rfl (w6).heap.size 25 i0 _ 2 32 Try.underlying42 HI.out HZ0.out HZ1.out HZ2.out rfl (by omega) (.slice A8 n2a c8) n2a (encH hsa cs2a) rfl HO8.out A1a n1a c1a (encH hsb cs1a) rfl SVB8.out (oneCHl _ _) ?_ ?_ ?_ ?_
           (unfold maxLen; omega)
           omega
           omega
           (intro A9 c9 w9 hown9 hg9)
           (have HE9 : Hid (Ext (w6) w9) := own_ext HE8.out HO8.out (Nat.le_refl _) hg9)
           (have HS9 : Hid (SegC w9 A9 (n2a + n1a) (cs2a ++ cs1a)) := segC_app HLA.out HLB.out (own_parts hown9).1 (fun i h c e1 e2 => ⟨(HINA.out i h c e1 e2).1, (HINA.out i h c e1 e2).2.ext HE9.out⟩) (fun i h c e1 e2 => ⟨(HINB.out i h c e1 e2).1, (HINB.out i h c e1 e2).2.ext HE9.out⟩))
           (clear hown9 hg9 HO8 SVB SVB8 HINA HINB HE8)))
      have hn9 : n2a + n1a ≤ maxLen := by unfold maxLen; omega
      have HOK : Hid (prB (cs2a ++ cs1a) vs1b = true) := by unfold prB Hid; rw [probB_app HPO.out (prB_parts HV.out).1 (by rw [HL1a.out, HL2a.out]; omega), (prB_parts HV.out).2]; rfl
      obtain ⟨z2, hz2⟩ : ∃ z, Hid (prK (cs2a ++ cs1a) vs1b = z) := ⟨_, rfl⟩
      go_wp2_with fail
      refine Calls.mono ((implPr_any A9 (n2a + n1a) c9 (cs2a ++ cs1a) A1b 12 c1b vs1b _ hn9 HS9.out h12 (S1.out.ext HE9.out)).mono fun _ _ h => h.of_eq rfl hz2.out HOK.out) ?_
      rintro e w10 ⟨A10, n10, c10, rfl, hl10, hg10, hE10⟩
      have HL10 := Lib.hid hl10
      have HG10 := Lib.hid hg10.seg
      have HE10 := Lib.hid (HE9.out.trans hE10)
      clear hl10 hg10 hE10
      by_cases h0 : 0 ≤ z2
      · have d0 : decide (0 ≤ z2) = true := decide_eq_true h0
        go_wp2
        go_ret
        exact ⟨rfl, E0.out.trans HE10.out⟩
      · have d0 : decide (0 ≤ z2) = false := decide_eq_false h0
        have HM := Lib.hid (fun i z => (pr_mono_at HV.out HOK.out (by rw [hz2.out]; exact h0)).2 (i := i) (z := z))
        have hzn := (pr_mono_at HV.out HOK.out (by rw [hz2.out]; exact h0)).1
        rw [hzk.out] at hzn
        have d1 : decide (zk < 0) = true := decide_eq_true hzn
        obtain rfl : n10 = 12 := by rw [← HL10.out]; exact prT_12 HOK.out
        go_wp2
        go_loopw [18] (fun i wr => ∃ k : Nat, k ≤ 12 ∧ i = .int .i64 k ∧ Ext w10 wr) (fun i _ => 12 - (intOf i).toNat)
        case atStart => exact ⟨0, by omega, rfl, Ext.refl _⟩
        case round =>
          obtain ⟨k, hk, rfl, hE⟩ := hrel
          by_cases hlt : k < 12
          · obtain ⟨b, off, z, rfl, hx, c1⟩ := (S2.out.ext (HE10.out.trans hE)).int hlt
            obtain ⟨b', off', z', rfl, hx', c1'⟩ := (HG10.out.ext hE).int hlt
            by_cases h0 : z = 0
            · have hb : (z != 0) = false := by simpa using h0
              clear hx hx' h0
              have e1 : ∀ p : ExtBy wr, p.to.cell? ⟨b, off + k, none⟩ = some (.int .i64 z) := fun p => p.cell c1
              have e2 : ∀ p : ExtBy wr, p.to.cell? ⟨b', off' + k, none⟩ = some (.int .i64 z') := fun p => p.cell c1'
              clear c1 c1'
              go_wp2_with fail
              refine wp_region_ext_lit (by kernel_rfl) (by kernel_rfl) ?_
              repeat (go_big_quiet_step (fail))
              refine wpQuiet_nil ?_
              intro _ hw'
              obtain ⟨⟨wq, hq⟩, hw''⟩ := hw'
              subst hw''
              clear e1 e2
              go_wp2
              go_roundw
              case rel => exact ⟨k + 1, by omega, by go_num, hE.trans hq⟩
              case measure => simp [intOf]; omega
            · have hb : (z != 0) = true := by simpa using h0
              have he := HM.out k z hx h0
              rw [hx'] at he
              obtain rfl : z = z' := (Option.some.inj he).symm
              clear hx hx' h0 he
              have e1 : ∀ p : ExtBy wr, p.to.cell? ⟨b, off + k, none⟩ = some (.int .i64 z) := fun p => p.cell c1
              have e2 : ∀ p : ExtBy wr, p.to.cell? ⟨b', off' + k, none⟩ = some (.int .i64 z) := fun p => p.cell c1'
              clear c1 c1'
              go_wp2_with fail
              refine wp_region_ext_lit (by kernel_rfl) (by kernel_rfl) ?_
              repeat (go_big_quiet_step (fail))
              refine wpQuiet_nil ?_
              intro _ hw'
              obtain ⟨⟨wq, hq⟩, hw''⟩ := hw'
              subst hw''
              clear e1 e2
              go_wp2
              go_roundw
              case rel => exact ⟨k + 1, by omega, by go_num, hE.trans hq⟩
              case measure => simp [intOf]; omega
          · obtain rfl : k = 12 := by omega
            go_wp2
            go_ret
            exact ⟨rfl, E0.out.trans (HE10.out.trans hE)⟩
    · have HPO := Lib.hid (show probB cs2a = false by simpa using hpo)
      clear hpo
      go_wp2_with fail
      refine Calls.mono ((implPr_any A1a n1a c1a cs1a A1b 12 c1b vs1b _ hn1a (hG1a.out.ext hC2) hn1b (hG1b.out.seg.ext hC2)).mono fun _ _ h => h.of_eq rfl hzk.out HV.out) ?_
      rintro e w3 ⟨A3, n3, c3, rfl, hl3, hg3, hE3⟩
      have hC3 : Ext w2 w3 := hE3
      have ze3 := hC3.size
      clear hE3
      have hG3 := Lib.hid hg3
      have HL3 := Lib.hid hl3
      have hs3 : n3 ≤ 1048576 := (by rw [← hl3]; exact prT_len cs1a vs1b)
      have hn3 : n3 ≤ maxLen := (Nat.le_trans hs3 (by unfold maxLen; omega))
      clear hg3 hl3
      go_wp2_with fail
      refine Calls.mono ((specPr_any A1a n1a c1a cs1a A1b 12 c1b vs1b _ hn1a (hG1a.out.ext (hC2.trans hC3)) hn1b (hG1b.out.seg.ext (hC2.trans hC3))).mono fun _ _ h => h.of_eq rfl hzk.out HV.out) ?_
      rintro e w4 ⟨A4, n4, c4, rfl, hl4, hg4, hE4⟩
      have hC4 : Ext w3 w4 := hE4
      have ze4 := hC4.size
      clear hE4
      have hG4 := Lib.hid hg4
      have HL4 := Lib.hid hl4
      have hs4 : n4 ≤ 1048576 := (by rw [← hl4]; exact prT_len cs1a vs1b)
      have hn4 : n4 ≤ maxLen := (Nat.le_trans hs4 (by unfold maxLen; omega))
      clear hg4 hl4
      go_wp2_with fail
      refine (calls_val (cpI_any A3 n3 c3 (prT cs1a vs1b) A4 n4 c4 (prT cs1a vs1b) _ hn3 (hG3.out.seg.ext hC4) hn4 hG4.out.seg) (congrArg Value.bool (ciEq_self _))).mono ?_
      rintro e w5 ⟨rfl, hE5⟩
      have hC5 : Ext w4 w5 := hE5
      have ze5 := hC5.size
      clear hE5
      go_wp2_with fail
      refine (calls_val (implProbV_any A2a n2a c2a cs2a _ hn2a (hG2a.out.ext ((hC3.trans hC4).trans hC5))) (congrArg Value.bool HPO.out)).mono ?_
      rintro e w6 ⟨rfl, hE6⟩
      have hC6 : Ext w5 w6 := hE6
      have ze6 := hC6.size
      clear hE6
      go_wp2_with fail
      refine (calls_val (cpI_any A3 n3 c3 (prT cs1a vs1b) A4 n4 c4 (prT cs1a vs1b) _ hn3 (hG3.out.seg.ext ((hC4.trans hC5).trans hC6)) hn4 (hG4.out.seg.ext (hC5.trans hC6))) (congrArg Value.bool (ciEq_self _))).mono ?_
      rintro e w7 ⟨rfl, hE7⟩
      have hC7 : Ext w6 w7 := hE7
      have ze7 := hC7.size
      clear hE7
      go_wp2
      go_ret
      exact ⟨rfl, ((((((hC1.trans hC2).trans hC3).trans hC4).trans hC5).trans hC6).trans hC7)⟩
  · have HV := Lib.hid (show prB cs1a vs1b = false by simpa using hv)
    clear hv
    go_wp2_with fail
    refine Calls.mono ((implPr_any A1a n1a c1a cs1a A1b n1b c1b vs1b _ hn1a (hG1a.out.ext hC2) hn1b (hG1b.out.seg.ext hC2)).mono fun _ _ h => h.of_eq rfl rfl HV.out) ?_
    rintro e w3 ⟨A3, n3, c3, rfl, hl3, hg3, hE3⟩
    have hC3 : Ext w2 w3 := hE3
    have ze3 := hC3.size
    clear hE3
    have hG3 := Lib.hid hg3
    have HL3 := Lib.hid hl3
    have hs3 : n3 ≤ 1048576 := (by rw [← hl3]; exact prT_len cs1a vs1b)
    have hn3 : n3 ≤ maxLen := (Nat.le_trans hs3 (by unfold maxLen; omega))
    clear hg3 hl3
    go_wp2_with fail
    refine Calls.mono ((specPr_any A1a n1a c1a cs1a A1b n1b c1b vs1b _ hn1a (hG1a.out.ext (hC2.trans hC3)) hn1b (hG1b.out.seg.ext (hC2.trans hC3))).mono fun _ _ h => h.of_eq rfl rfl HV.out) ?_
    rintro e w4 ⟨A4, n4, c4, rfl, hl4, hg4, hE4⟩
    have hC4 : Ext w3 w4 := hE4
    have ze4 := hC4.size
    clear hE4
    have hG4 := Lib.hid hg4
    have HL4 := Lib.hid hl4
    have hs4 : n4 ≤ 1048576 := (by rw [← hl4]; exact prT_len cs1a vs1b)
    have hn4 : n4 ≤ maxLen := (Nat.le_trans hs4 (by unfold maxLen; omega))
    clear hg4 hl4
    go_wp2_with fail
    refine (calls_val (cpI_any A3 n3 c3 (prT cs1a vs1b) A4 n4 c4 (prT cs1a vs1b) _ hn3 (hG3.out.seg.ext hC4) hn4 hG4.out.seg) (congrArg Value.bool (ciEq_self _))).mono ?_
    rintro e w5 ⟨rfl, hE5⟩
    have hC5 : Ext w4 w5 := hE5
    have ze5 := hC5.size
    clear hE5
    go_wp2_with fail
    refine (calls_val (cpI_any A3 n3 c3 (prT cs1a vs1b) A4 n4 c4 (prT cs1a vs1b) _ hn3 (hG3.out.seg.ext (hC4.trans hC5)) hn4 (hG4.out.seg.ext hC5)) (congrArg Value.bool (ciEq_self _))).mono ?_
    rintro e w6 ⟨rfl, hE6⟩
    have hC6 : Ext w5 w6 := hE6
    have ze6 := hC6.size
    clear hE6
    go_wp2
    go_ret
    exact ⟨rfl, (((((hC1.trans hC2).trans hC3).trans hC4).trans hC5).trans hC6)⟩

theorem own : ownKnob Try.prog.godebug = none := by kernel_rfl
theorem laidOut : laidOutB Try.prog = true := by kernel_rfl

set_option maxRecDepth 100000 in
theorem lifted (os : Os) (started : os.Started) (H : Type) (enc : TypeId × Value → H) :
    ReturnsInHanded {} Try.checked os 12 .any (Rows.fnPropagateMonotoneSpec.pre6 enc Try.prog Try.f12 Rows.fnPropagateMonotoneRow.domain false) (Rows.fnPropagateMonotoneSpec.post enc Try.prog Try.f12 false true false false) := by
  refine returnsInHanded_of_change (C := Try.checked) own started (by kernel_rfl) Try.func12
    (ChangeSpec.witness6 (enc := enc) (C := Try.checked) false ⟨#[], #[.slice none 0 0, .slice none 0 0], []⟩ 8 (by kernel_rfl) (by kernel_rfl) (by kernel_rfl) (by kernel_rfl)) ?_
  intro W base args ds gs before hval0 hW hcnd _
  have hval : ∀ (j : Nat) t v, Try.f12.params[j]? = some t → args[j]? = some v → Value.okWide Try.prog W .any base t v := hval0
  have hW' := hW
  obtain ⟨p, q, hA0, hV, rfl, hfz, hnd⟩ := hW
  have hA : DataW.TrodAll enc Try.prog W 0 (fun _ => true) true Try.f12.params.toList args.toList ds p := hA0
  rw [Try.params12] at hA hval
  obtain ⟨v0, vs0, d0, ds0, p0, q0, hargs, rfl, rfl, h0, r0⟩ := trodAll_cons hA
  obtain ⟨v1, vs1, d1, ds1, p1, q1, rfl, rfl, rfl, h1, r1⟩ := trodAll_cons r0
  obtain ⟨rfl, rfl, rfl⟩ := trodAll_nil r1
  obtain rfl : args = #[v0, v1] := by cases args; simp_all
  obtain ⟨rfl, rfl⟩ := trodVars_none hV
  have k0 := h0
  have lt0 : ∀ x ∈ p0, x.block < W.heap.size := by obtain ⟨m, hm⟩ := k0; exact DataW.trod_lt m _ _ _ hm
  obtain ⟨A0, n0, cap0, zs0, rfl, hn0, hc0, hs0, hb0⟩ := arg_bytes (hval 0 22 v0 rfl rfl) h0
  have k1 := h1
  have lt1 : ∀ x ∈ p1, x.block < W.heap.size := by obtain ⟨m, hm⟩ := k1; exact DataW.trod_lt m _ _ _ hm
  obtain ⟨A1, n1, cap1, zs1, rfl, hn1, hc1, hs1, hb1⟩ := arg_bytes (hval 1 22 v1 rfl rfl) h1
  clear hA0 hval0
  refine (walk A0 n0 cap0 zs0 A1 n1 cap1 zs1 W hn0 hc0 hs0 hb0 hn1 hc1 hs1 hb1).mono fun e W' ⟨he, ext⟩ => ?_
  subst he
  have bel := ext.below
  exact ⟨_, rfl, _, _, _, [], _, [], hW', trodAll_mk1 (shut_bool Try.underlying4 _), (trodAll_cons_mk (Below.trod laidOut (by kernel_rfl) (of_decide_eq_true (by kernel_rfl)) k0 bel lt0) (trodAll_cons_mk (Below.trod laidOut (by kernel_rfl) (of_decide_eq_true (by kernel_rfl)) k1 bel lt1) trodAll_mk0)), rfl, bel.frame _, fun h => by cases h⟩

set_option maxHeartbeats 4000000 in
theorem joined : joinedFacts Try.pinned.checked.prog 12 Try.f12 Rows.fnPropagateMonotoneSpec Rows.fnPropagateMonotoneRow = true := by
  unfold joinedFacts
  exact (and2 (and2 (and2 (and2 (and2 (and2 (and2 (and2 (and2 (and2 (and2 (and2 (and2 (and2 (and2 (and2 (and2 (and2 (and2 (and2 (and2 (and2 (and2 (and2 (and2 (and2 (and2 (and2 (and2 (and2 (and2 (by as_aux_lemma => kernel_rfl) (by as_aux_lemma => kernel_rfl)) (by as_aux_lemma => kernel_rfl)) (by as_aux_lemma => kernel_rfl)) (by as_aux_lemma => kernel_rfl)) (by as_aux_lemma => kernel_rfl)) (by as_aux_lemma => kernel_rfl)) (by as_aux_lemma => kernel_rfl)) (by as_aux_lemma => kernel_rfl)) (by as_aux_lemma => kernel_rfl)) (by as_aux_lemma => kernel_rfl)) (by as_aux_lemma => kernel_rfl)) (by as_aux_lemma => kernel_rfl)) (by as_aux_lemma => kernel_rfl)) (by as_aux_lemma => kernel_rfl)) (by as_aux_lemma => kernel_rfl)) (by as_aux_lemma => kernel_rfl)) (by as_aux_lemma => kernel_rfl)) (by as_aux_lemma => kernel_rfl)) (by as_aux_lemma => kernel_rfl)) (by as_aux_lemma => kernel_rfl)) (by as_aux_lemma => kernel_rfl)) (by as_aux_lemma => kernel_rfl)) (by as_aux_lemma => kernel_rfl)) (by as_aux_lemma => kernel_rfl)) jEnter) jLift) jMake) (by as_aux_lemma => kernel_rfl)) (by as_aux_lemma => kernel_rfl)) (by as_aux_lemma => kernel_rfl)) (by as_aux_lemma => kernel_rfl))

set_option maxHeartbeats 4000000 in
theorem over : Rows.fnPropagateMonotoneRow.holds Try.pinned (OpenSpec.ofChange Rows.fnPropagateMonotoneSpec) :=
  OpenClaim.holds_of_wide 12 Try.f12 rfl rfl rfl rfl rfl rfl rfl ⟨rfl, rfl, rfl, rfl, rfl⟩ rfl rfl rfl rfl rfl (by kernel_rfl) Try.func12 joined
    (of_decide_eq_true (by kernel_rfl)) (by unfold Func.isWrapper; first | (rw [if_pos (by decide +kernel)]; kernel_rfl) | (rw [if_neg (by decide +kernel)]; exact ⟨rfl, rfl⟩))
    (fun os started H enc _ => lifted os started H enc)

theorem proved : Rows.FnPropagateMonotoneSaid := over

end Go.Proofs.Ytihbgajlnbchlaa.propagateMonotone
