/- laws.FnPropagateUnit: for all bytes, the program's Propagate returns what the reference's returns, and a unit clause makes its literal true or a constraint is violated. No condition. -/
import Derived.Test.YtihbgajlnbchlaaRdL
import Derived.Test.YtihbgajlnbchlaaPlG
import Derived.Test.YtihbgajlnbchlaaSameC
import Derived.Test.YtihbgajlnbchlaaCpB
import Derived.Test.YtihbgajlnbchlaaPrg
import Derived.Test.YtihbgajlnbchlaaPV
import Derived.Test.YtihbgajlnbchlaaAppU
import Derived.Test.YtihbgajlnbchlaaLastS
import Derived.Test.YtihbgajlnbchlaaOpenY
import Derived.Test.YtihbgajlnbchlaaFacts
namespace Go.Proofs.Ytihbgajlnbchlaa.propagateUnit
open Go.ChangeShapes Go.WideShapes Go.ChangeAt Go.RowKit
set_option linter.unusedVariables false

set_option maxRecDepth 100000 in
set_option maxHeartbeats 4000000 in
theorem walk (A0 : Option Addr) (n0 cap0 : Nat) (zs0 : List Int) (A1 : Option Addr) (n1 cap1 : Nat) (zs1 : List Int) (w : World) (hn0 : n0 ≤ maxLen) (hc0 : n0 ≤ cap0) (hs0 : Seg w 1 A0 n0 (encY zs0)) (hb0 : bytesB zs0) (hn1 : n1 ≤ maxLen) (hc1 : n1 ≤ cap1) (hs1 : Seg w 1 A1 n1 (encY zs1)) (hb1 : bytesB zs1) :
    Calls Try.prog 13 #[.slice A0 n0 cap0, .slice A1 n1 cap1] w fun e w' => e = .returned (.bool true) ∧ Ext w w' := by
  by_cases hbig : 1048576 < n0
  · clear hs0 hs1
    go_enter Try.func13, Try.ntmps13
    go_wp2
    go_ret
    exact ⟨rfl, Ext.refl _⟩
  by_cases hbig1 : 1048576 < n1
  · clear hs0 hs1
    have hb2 : decide ((1048576 : Int) < (n0 : Int)) = false := decide_eq_false (by omega)
    go_enter Try.func13, Try.ntmps13
    go_wp2
    go_ret
    exact ⟨rfl, Ext.refl _⟩
  have hb2 : decide ((1048576 : Int) < (n0 : Int)) = false := decide_eq_false (by omega)
  have hb3 : decide ((1048576 : Int) < (n1 : Int)) = false := decide_eq_false (by omega)
  go_enter Try.func13, Try.ntmps13
  go_wp2_with fail
  refine (drawPr_any A0 n0 cap0 zs0 _ hn0 hc0 hs0 hb0).mono ?_
  rintro e w1 ⟨A1a, n1a, c1a, cs1a, A1b, n1b, c1b, vs1b, rfl, hl1a, hm1a, hl1b, hm1b, hg1a, hg1b, hE1⟩
  have hC1 : Ext w w1 := hE1
  have ze1 := hC1.size
  clear hE1
  have hn1a : n1a ≤ maxLen := by unfold maxLen; omega
  have HL1a := Lib.hid hl1a
  have hG1a := Lib.hid hg1a
  clear hl1a hg1a
  have hn1b : n1b ≤ maxLen := by unfold maxLen; omega
  have HL1b := Lib.hid hl1b
  have hG1b := Lib.hid hg1b
  clear hl1b hg1b
  obtain ⟨zk, hzk⟩ : ∃ z, Hid (prK cs1a vs1b = z) := ⟨_, rfl⟩
  by_cases hv : prB cs1a vs1b = true
  · have HV := Lib.hid hv
    clear hv
    obtain rfl : n1b = 12 := by rw [← HL1b.out]; exact (pvB_at (prB_parts HV.out).2).1
    go_wp2_with fail
    refine Calls.mono ((implPr_any A1a n1a c1a cs1a A1b 12 c1b vs1b _ hn1a hG1a.out hn1b hG1b.out.seg).mono fun _ _ h => h.of_eq rfl hzk.out HV.out) ?_
    rintro e w2 ⟨A2, n2, c2, rfl, hl2, hg2, hE2⟩
    have hC2 : Ext w1 w2 := hE2
    have ze2 := hC2.size
    clear hE2
    have hG2 := Lib.hid hg2
    have HL2 := Lib.hid hl2
    have hs2 : n2 ≤ 1048576 := (by rw [← hl2]; exact prT_len cs1a vs1b)
    have hn2 : n2 ≤ maxLen := (Nat.le_trans hs2 (by unfold maxLen; omega))
    clear hg2 hl2
    go_wp2_with fail
    refine Calls.mono ((specPr_any A1a n1a c1a cs1a A1b 12 c1b vs1b _ hn1a (hG1a.out.ext hC2) hn1b (hG1b.out.seg.ext hC2)).mono fun _ _ h => h.of_eq rfl hzk.out HV.out) ?_
    rintro e w3 ⟨A3, n3, c3, rfl, hl3, hg3, hE3⟩
    have hC3 : Ext w2 w3 := hE3
    have ze3 := hC3.size
    clear hE3
    have hG3 := Lib.hid hg3
    have HL3 := Lib.hid hl3
    have hs3 : n3 ≤ 1048576 := (by rw [← hl3]; exact prT_len cs1a vs1b)
    have hn3 : n3 ≤ maxLen := (Nat.le_trans hs3 (by unfold maxLen; omega))
    clear hg3 hl3
    go_wp2_with fail
    refine (calls_val (cpI_any A2 n2 c2 (prT cs1a vs1b) A3 n3 c3 (prT cs1a vs1b) _ hn2 (hG2.out.seg.ext hC3) hn3 hG3.out.seg) (congrArg Value.bool (ciEq_self _))).mono ?_
    rintro e w4 ⟨rfl, hE4⟩
    have hC4 : Ext w3 w4 := hE4
    have ze4 := hC4.size
    clear hE4
    obtain ⟨k, hk, hk12⟩ : ∃ k, n1 % 12 = k ∧ k < 12 := ⟨_, rfl, Nat.mod_lt _ (by omega)⟩
    have HEK : Hid ((n1 : Int) % 12 = (k : Int)) := by rw [← hk]; rfl
    have hek := HEK.out
    have k0 : (0 : Int) ≤ (k : Int) := Int.natCast_nonneg _
    have k1 : (k : Int) < 12 := by omega
    have SL := Lib.hid (hG1a.out.ext ((hC2.trans hC3).trans hC4))
    have S1 := Lib.hid (hG1b.out.seg.ext ((hC2.trans hC3).trans hC4))
    have E0 := Lib.hid (((hC1.trans hC2).trans hC3).trans hC4)
    have h12 : (12 : Nat) ≤ maxLen := by unfold maxLen; omega
    have hn9 : n1a + 1 ≤ maxLen := by unfold maxLen; omega
    clear hk
    obtain ⟨i0, hi, hz0, hz1, hz2⟩ := info_parts Try.infoCnL
    have HI := Lib.hid hi
    have HZ0 := Lib.hid hz0
    have HZ1 := Lib.hid hz1
    have HZ2 := Lib.hid hz2
    clear hi hz0 hz1 hz2
    have wn : IntKind.i64.wrap (1 + (k : Int)) = 1 + (k : Int) := IntWalk.i64_in _ (by omega)
    by_cases hpar : n1 % 2 = 1
    · have hp2 : (n1 : Int) % 2 = 1 := by omega
      have HLT : Hid (litB (-(1 + (k : Int))) = true) := by rw [Hid, litB_iff]; omega
      have HOK : Hid (prB (cs1a ++ [([(1, (-(1 + (k : Int))))], 1)]) vs1b = true) := pr_unit_ok HV.out HLT.out (by rw [HL1a.out]; omega)
      obtain ⟨z2, hz2⟩ : ∃ z, Hid (prK (cs1a ++ [([(1, (-(1 + (k : Int))))], 1)]) vs1b = z) := ⟨prK (cs1a ++ [([(1, (-(1 + (k : Int))))], 1)]) vs1b, Lib.hid rfl⟩
      have BT : Hid (Blk ((w4.alloc (.cells #[.int .i64 1, .int .i64 (-(1 + (k : Int)))] 40)).alloc (.cells #[.slice (some ⟨w4.heap.size, 0, none⟩) 1 1, .int .i64 1] 25)) w4.heap.size 40 #[.int .i64 1, .int .i64 (-(1 + (k : Int)))]) := (Blk.new _ _ _).alloc _
      have BX : Hid (Blk ((w4.alloc (.cells #[.int .i64 1, .int .i64 (-(1 + (k : Int)))] 40)).alloc (.cells #[.slice (some ⟨w4.heap.size, 0, none⟩) 1 1, .int .i64 1] 25)) (w4.heap.size + 1) 25 #[.slice (some ⟨w4.heap.size, 0, none⟩) 1 1, .int .i64 1]) := by
        have := Blk.new (w4.alloc (.cells #[.int .i64 1, .int .i64 (-(1 + (k : Int)))] 40)) 25 #[.slice (some ⟨w4.heap.size, 0, none⟩) 1 1, .int .i64 1]
        rw [World.size_alloc] at this; exact this
      have EB : Hid (Ext w4 ((w4.alloc (.cells #[.int .i64 1, .int .i64 (-(1 + (k : Int)))] 40)).alloc (.cells #[.slice (some ⟨w4.heap.size, 0, none⟩) 1 1, .int .i64 1] 25))) := ((Ext.refl _).alloc _).alloc _
      go_wp2_with fail
      generalize hwB : ((w4.alloc (.cells #[.int .i64 1, .int .i64 (-(1 + (k : Int)))] 40)).alloc (.cells #[.slice (some ⟨w4.heap.size, 0, none⟩) 1 1, .int .i64 1] 25)) = wB at BT BX EB ⊢
      have HLW := Lib.hid (SL.out.ext EB.out)
      clear hwB hek
      obtain ⟨hsq, hlq, hSq, hinq⟩ := HLW.out
      have HINQ := Lib.hid hinq
      have HLQ := Lib.hid hlq
      have HSQ := Lib.hid hSq
      have OE := own_empty wB (wB).heap.size 25 2 (Nat.le_refl _)
      have OE2 := own_empty (wB.alloc (.cells #[.slice (some ⟨w4.heap.size, 0, none⟩) 1 1, .int .i64 1] 25)) ((wB).heap.size + 1) 25 2 (by simp)
      simp only [World.size_alloc] at OE2
      clear hinq hlq hSq
      have KS : Hid (∀ X, Ext wB X → (X.cell? ⟨w4.heap.size + 1, 0, none⟩ = some (.slice (some ⟨w4.heap.size, 0, none⟩) 1 1) ∧ X.cell? ⟨w4.heap.size + 1, 1, none⟩ = some (.int .i64 1))) := fun X e => ⟨(BX.out.ext e).cell 0, (BX.out.ext e).cell 1⟩
      have hS0 := KS.out wB.drew (Ext.refl _).drew
      refine wp_region_Z (fun X => X.cell? ⟨w4.heap.size + 1, 0, none⟩ = some (.slice (some ⟨w4.heap.size, 0, none⟩) 1 1) ∧ X.cell? ⟨w4.heap.size + 1, 1, none⟩ = some (.int .i64 1)) 14 (by kernel_rfl) ?_
      refine wpAnyZ_take 1 (v := ?_) (by kernel_rfl) rfl rfl (by kernel_rfl) (by kernel_rfl) (by kernel_rfl) (fun _ _ _ h => h) hS0 (Or.inl ⟨by rfl, ?_⟩) ?_
      rotate_left
      · (intro w hSw; (try dsimp only at hSw); go_simp; (try with_reducible rfl))
      try simp only [Act.put, List.setIfInBounds_toArray, List.set_cons_zero, List.set_cons_succ]
      refine wpAnyZ_take 3 (v := ?_) (by kernel_rfl) rfl rfl (by kernel_rfl) (by kernel_rfl) (by kernel_rfl) (fun _ _ _ h => h) hS0 (Or.inl ⟨by rfl, ?_⟩) ?_
      rotate_left
      · (intro w hSw; (try dsimp only at hSw); go_simp; (try with_reducible rfl))
      try simp only [Act.put, List.setIfInBounds_toArray, List.set_cons_zero, List.set_cons_succ]
      refine wpAnyZ_take 6 (v := ?_) (by kernel_rfl) rfl rfl (by kernel_rfl) (by kernel_rfl) (by kernel_rfl) (fun _ _ _ h => h) hS0 (Or.inl ⟨by rfl, ?_⟩) ?_
      rotate_left
      · (intro w hSw; (try dsimp only at hSw); go_simp; (try with_reducible rfl))
      try simp only [Act.put, List.setIfInBounds_toArray, List.set_cons_zero, List.set_cons_succ]
      refine wpAnyZ_two 0 4 (by kernel_rfl) rfl rfl rfl rfl (fun K hK => ?_) (fun K hK => ?_)
      · go_simp
        have EA : Ext wB (wB.alloc (.cells #[] 25)).drew := ((Ext.refl _).alloc _).drew
        refine hK.out _ _ (KS.out _ EA) ?_
        clear hK K
        try simp only [Act.put, List.setIfInBounds_toArray, List.set_cons_zero, List.set_cons_succ]
        refine wpAnyZ_two 2 4 (by kernel_rfl) rfl rfl rfl rfl (fun K hK => ?_) (fun K hK => ?_)
        · refine wp_append_seg _ _ _ _ (by rfl) (wB).heap.size 25 i0 _ 2 32 Try.underlying42 HI.out HZ0.out HZ1.out HZ2.out rfl (by omega) (.slice (some ⟨(wB).heap.size, 0, none⟩) 0 0) 0 [] (by rfl) OE.drew A1a n1a c1a (encH hsq cs1a) (by rfl) (HSQ.out.ext EA) (oneCHl _ _) (by unfold maxLen; omega) (by omega) (by first | (simp; done) | (simp; omega)) ?_
          intro A8 c8 w8 hown8 hg8
          simp only [Nat.zero_add, List.nil_append] at hown8 ⊢
          have E8 : Ext wB w8 := Ext.grown EA hg8 (fun k hk => by have hk2 : (wB).heap.size = k := Option.some.inj hk; omega)
          refine hK.out _ _ (KS.out _ E8) ?_
          clear hK K
          try simp only [Act.put, List.setIfInBounds_toArray, List.set_cons_zero, List.set_cons_succ]
          have hz8 := E8.size
          refine wpAnyZ_one 4 (by kernel_rfl) rfl rfl (fun K hK => ?_)
          go_simp
          have EB := E8.alloc (.cells #[.slice (some ⟨w4.heap.size, 0, none⟩) 1 1, .int .i64 1] 25)
          refine hK.out _ _ (KS.out _ EB) ?_
          clear hK K
          try simp only [Act.put, List.setIfInBounds_toArray, List.set_cons_zero, List.set_cons_succ]
          refine wpAnyZ_one 5 (by kernel_rfl) rfl rfl (fun K hK => ?_)
          refine wp_append_seg _ _ _ _ (by rfl) ((wB).heap.size) 25 i0 _ 2 32 Try.underlying42 HI.out HZ0.out HZ1.out HZ2.out rfl (by omega) (.slice A8 n1a c8) n1a (encH hsq cs1a) (by rfl) (hown8.alloc _) (some ⟨w8.heap.size, 0, none⟩) 1 1 [.slice (some ⟨w4.heap.size, 0, none⟩) 1 1, .int .i64 1] (by rfl) (blk_seg1U (Blk.new w8 25 #[.slice (some ⟨w4.heap.size, 0, none⟩) 1 1, .int .i64 1])) (oneC1U _ _ _ _) (by unfold maxLen; omega) (by omega) (by first | (have := (EB).size; simp only [World.size_alloc]; omega) | (have := (EB).size; omega)) ?_
          intro A9 c9 w9 hown9 hg9
          have E9 : Ext wB w9 := own_ext EB (hown8.alloc _) (by omega) hg9
          have HS9 : Hid (SegC w9 A9 (n1a + 1) (cs1a ++ [([(1, (-(1 + (k : Int))))], 1)])) := segC_one HLQ.out (own_parts hown9).1 (fun i h c e1 e2 => ⟨(HINQ.out i h c e1 e2).1, (HINQ.out i h c e1 e2).2.ext E9⟩) (by unfold maxLen; omega) ((blk_segT BT.out).ext E9)
          have HE9 := Lib.hid E9
          refine hK.out _ _ (KS.out _ E9) ?_
          clear hK K
          try simp only [Act.put, List.setIfInBounds_toArray, List.set_cons_zero, List.set_cons_succ]
          clear hown9 hg9 hown8 hg8 E8
          clear EA EB OE OE2
          refine wpAnyZ_one 7 (by kernel_rfl) rfl rfl (fun K hK => ?_)
          go_simp
          refine Calls.mono ((implPr_any A9 (n1a + 1) c9 _ A1b 12 c1b vs1b _ hn9 HS9.out h12 (S1.out.ext (EB.out.trans HE9.out))).mono fun _ _ h => h.of_eq rfl hz2.out HOK.out) ?_
          rintro e w10 ⟨A10, n10, c10, rfl, hl10, hg10, hE10⟩
          have HL10 := Lib.hid hl10
          have HG10 := Lib.hid hg10.seg
          have E10 := HE9.out.trans hE10
          have hS10 := KS.out _ E10
          have HE10 := Lib.hid E10
          refine hK.out _ _ hS10 ?_
          clear hK K hl10 hg10
          try simp only [Act.put, List.setIfInBounds_toArray, List.set_cons_zero, List.set_cons_succ]
          refine wpAnyZ_take 8 (v := ?_) (by kernel_rfl) rfl rfl (by kernel_rfl) (by kernel_rfl) (by kernel_rfl) (fun _ _ _ h => h) hS10 (Or.inl ⟨by rfl, ?_⟩) ?_
          rotate_left
          · (intro w hSw; (try dsimp only at hSw); go_simp; (try with_reducible rfl))
          try simp only [Act.put, List.setIfInBounds_toArray, List.set_cons_zero, List.set_cons_succ]
          refine wpAnyZ_take 9 (v := ?_) (by kernel_rfl) rfl rfl (by kernel_rfl) (by kernel_rfl) (by kernel_rfl) (fun _ _ _ h => h) hS10 (Or.inl ⟨by rfl, ?_⟩) ?_
          rotate_left
          · (intro w hSw; (try dsimp only at hSw); go_simp; (try with_reducible rfl))
          try simp only [Act.put, List.setIfInBounds_toArray, List.set_cons_zero, List.set_cons_succ]
          refine wpAnyZ_take 10 (v := ?_) (by kernel_rfl) rfl rfl (by kernel_rfl) (by kernel_rfl) (by kernel_rfl) (fun _ _ _ h => h) hS10 (Or.inl ⟨by rfl, ?_⟩) ?_
          rotate_left
          · (intro w hSw; (try dsimp only at hSw); go_simp; (try with_reducible rfl))
          try simp only [Act.put, List.setIfInBounds_toArray, List.set_cons_zero, List.set_cons_succ]
          refine wpAnyZ_take 11 (v := ?_) (by kernel_rfl) rfl rfl (by kernel_rfl) (by kernel_rfl) (by kernel_rfl) (fun _ _ _ h => h) hS10 (Or.inl ⟨by rfl, ?_⟩) ?_
          rotate_left
          · (intro w hSw; (try dsimp only at hSw); go_simp; (try with_reducible rfl))
          try simp only [Act.put, List.setIfInBounds_toArray, List.set_cons_zero, List.set_cons_succ]
          refine wpAnyZ_one 12 (by kernel_rfl) rfl rfl (fun K hK => ?_)
          go_simp
          refine hK.out _ _ hS10 ?_
          clear hK K
          try simp only [Act.put, List.setIfInBounds_toArray, List.set_cons_zero, List.set_cons_succ]
          refine wpAnyZ_one 13 (by kernel_rfl) rfl rfl (fun K hK => ?_)
          go_simp
          refine hK.out _ _ hS10 ?_
          clear hK K
          try simp only [Act.put, List.setIfInBounds_toArray, List.set_cons_zero, List.set_cons_succ]
          refine wpAnyZ_last (by kernel_rfl) (by kernel_rfl) rfl rfl (fun K hK => ?_)
          go_simp
          refine hK.out _ _ ?_
          clear hK K hS10 E10 hE10
          by_cases h0 : 0 ≤ z2
          · have d0 : decide (0 ≤ z2) = true := decide_eq_true h0
            go_wp2
            go_ret
            exact ⟨rfl, (E0.out.trans EB.out).trans HE10.out⟩
          · have d0 : decide (0 ≤ z2) = false := decide_eq_false h0
            have hu := pr_unit HOK.out HLT.out (by rw [hz2.out]; exact h0)
            obtain rfl : n10 = 12 := by rw [← HL10.out]; exact prT_12 HOK.out
            obtain ⟨b, off, y, rfl, hy, ty⟩ := HG10.out.int hk12
            rw [Int.add_comm, stI_neg _ k y (by rw [Int.add_comm] at hy; exact hy)] at hu
            obtain rfl : y = -1 := by omega
            have sg : ¬ ((0 : Int) < -(1 + (k : Int))) := by omega
            have sg2 : -(1 + (k : Int)) < 0 := by omega
            have k2 : 1 + (k : Int) - 1 = (k : Int) := by omega
            clear hy hu
            go_wp2
            go_ret
            exact ⟨rfl, (E0.out.trans EB.out).trans HE10.out⟩
        · go_simp
          have EB : Ext wB ((wB.alloc (.cells #[] 25)).drew.alloc (.cells #[.slice (some ⟨w4.heap.size, 0, none⟩) 1 1, .int .i64 1] 25)) := EA.alloc _
          have BB : Blk ((wB.alloc (.cells #[] 25)).drew.alloc (.cells #[.slice (some ⟨w4.heap.size, 0, none⟩) 1 1, .int .i64 1] 25)) ((wB).heap.size + 1) 25 #[.slice (some ⟨w4.heap.size, 0, none⟩) 1 1, .int .i64 1] := by have := Blk.new (wB.alloc (.cells #[] 25)).drew 25 #[.slice (some ⟨w4.heap.size, 0, none⟩) 1 1, .int .i64 1]; simpa using this
          refine hK.out _ _ (KS.out _ EB) ?_
          clear hK K
          try simp only [Act.put, List.setIfInBounds_toArray, List.set_cons_zero, List.set_cons_succ]
          refine wpAnyZ_one 2 (by kernel_rfl) rfl rfl (fun K hK => ?_)
          refine wp_append_seg _ _ _ _ (by rfl) (wB).heap.size 25 i0 _ 2 32 Try.underlying42 HI.out HZ0.out HZ1.out HZ2.out rfl (by omega) (.slice (some ⟨(wB).heap.size, 0, none⟩) 0 0) 0 [] (by rfl) (OE.drew.alloc _) A1a n1a c1a (encH hsq cs1a) (by rfl) (HSQ.out.ext EB) (oneCHl _ _) (by unfold maxLen; omega) (by omega) (by first | (simp; done) | (simp; omega)) ?_
          intro A8 c8 w8 hown8 hg8
          simp only [Nat.zero_add, List.nil_append] at hown8 ⊢
          have E8 : Ext wB w8 := Ext.grown EB hg8 (fun k hk => by have hk2 : (wB).heap.size = k := Option.some.inj hk; omega)
          have B8 := blk_grownU BB hg8 (fun e => by have e2 : (wB).heap.size + 1 = (wB).heap.size := Option.some.inj e; omega)
          refine hK.out _ _ (KS.out _ E8) ?_
          clear hK K
          try simp only [Act.put, List.setIfInBounds_toArray, List.set_cons_zero, List.set_cons_succ]
          have hz8 := E8.size
          refine wpAnyZ_one 5 (by kernel_rfl) rfl rfl (fun K hK => ?_)
          refine wp_append_seg _ _ _ _ (by rfl) ((wB).heap.size) 25 i0 _ 2 32 Try.underlying42 HI.out HZ0.out HZ1.out HZ2.out rfl (by omega) (.slice A8 n1a c8) n1a (encH hsq cs1a) (by rfl) hown8 (some ⟨(wB).heap.size + 1, 0, none⟩) 1 1 [.slice (some ⟨w4.heap.size, 0, none⟩) 1 1, .int .i64 1] (by rfl) (blk_seg1U B8) (oneC1U _ _ _ _) (by unfold maxLen; omega) (by omega) (by first | (have := (E8).size; simp only [World.size_alloc]; omega) | (have := (E8).size; omega)) ?_
          intro A9 c9 w9 hown9 hg9
          have E9 : Ext wB w9 := own_ext E8 hown8 (by omega) hg9
          have HS9 : Hid (SegC w9 A9 (n1a + 1) (cs1a ++ [([(1, (-(1 + (k : Int))))], 1)])) := segC_one HLQ.out (own_parts hown9).1 (fun i h c e1 e2 => ⟨(HINQ.out i h c e1 e2).1, (HINQ.out i h c e1 e2).2.ext E9⟩) (by unfold maxLen; omega) ((blk_segT BT.out).ext E9)
          have HE9 := Lib.hid E9
          refine hK.out _ _ (KS.out _ E9) ?_
          clear hK K
          try simp only [Act.put, List.setIfInBounds_toArray, List.set_cons_zero, List.set_cons_succ]
          clear hown9 hg9 hown8 hg8 E8
          clear EA EB BB B8 OE OE2
          refine wpAnyZ_one 7 (by kernel_rfl) rfl rfl (fun K hK => ?_)
          go_simp
          refine Calls.mono ((implPr_any A9 (n1a + 1) c9 _ A1b 12 c1b vs1b _ hn9 HS9.out h12 (S1.out.ext (EB.out.trans HE9.out))).mono fun _ _ h => h.of_eq rfl hz2.out HOK.out) ?_
          rintro e w10 ⟨A10, n10, c10, rfl, hl10, hg10, hE10⟩
          have HL10 := Lib.hid hl10
          have HG10 := Lib.hid hg10.seg
          have E10 := HE9.out.trans hE10
          have hS10 := KS.out _ E10
          have HE10 := Lib.hid E10
          refine hK.out _ _ hS10 ?_
          clear hK K hl10 hg10
          try simp only [Act.put, List.setIfInBounds_toArray, List.set_cons_zero, List.set_cons_succ]
          refine wpAnyZ_take 8 (v := ?_) (by kernel_rfl) rfl rfl (by kernel_rfl) (by kernel_rfl) (by kernel_rfl) (fun _ _ _ h => h) hS10 (Or.inl ⟨by rfl, ?_⟩) ?_
          rotate_left
          · (intro w hSw; (try dsimp only at hSw); go_simp; (try with_reducible rfl))
          try simp only [Act.put, List.setIfInBounds_toArray, List.set_cons_zero, List.set_cons_succ]
          refine wpAnyZ_take 9 (v := ?_) (by kernel_rfl) rfl rfl (by kernel_rfl) (by kernel_rfl) (by kernel_rfl) (fun _ _ _ h => h) hS10 (Or.inl ⟨by rfl, ?_⟩) ?_
          rotate_left
          · (intro w hSw; (try dsimp only at hSw); go_simp; (try with_reducible rfl))
          try simp only [Act.put, List.setIfInBounds_toArray, List.set_cons_zero, List.set_cons_succ]
          refine wpAnyZ_take 10 (v := ?_) (by kernel_rfl) rfl rfl (by kernel_rfl) (by kernel_rfl) (by kernel_rfl) (fun _ _ _ h => h) hS10 (Or.inl ⟨by rfl, ?_⟩) ?_
          rotate_left
          · (intro w hSw; (try dsimp only at hSw); go_simp; (try with_reducible rfl))
          try simp only [Act.put, List.setIfInBounds_toArray, List.set_cons_zero, List.set_cons_succ]
          refine wpAnyZ_take 11 (v := ?_) (by kernel_rfl) rfl rfl (by kernel_rfl) (by kernel_rfl) (by kernel_rfl) (fun _ _ _ h => h) hS10 (Or.inl ⟨by rfl, ?_⟩) ?_
          rotate_left
          · (intro w hSw; (try dsimp only at hSw); go_simp; (try with_reducible rfl))
          try simp only [Act.put, List.setIfInBounds_toArray, List.set_cons_zero, List.set_cons_succ]
          refine wpAnyZ_one 12 (by kernel_rfl) rfl rfl (fun K hK => ?_)
          go_simp
          refine hK.out _ _ hS10 ?_
          clear hK K
          try simp only [Act.put, List.setIfInBounds_toArray, List.set_cons_zero, List.set_cons_succ]
          refine wpAnyZ_one 13 (by kernel_rfl) rfl rfl (fun K hK => ?_)
          go_simp
          refine hK.out _ _ hS10 ?_
          clear hK K
          try simp only [Act.put, List.setIfInBounds_toArray, List.set_cons_zero, List.set_cons_succ]
          refine wpAnyZ_last (by kernel_rfl) (by kernel_rfl) rfl rfl (fun K hK => ?_)
          go_simp
          refine hK.out _ _ ?_
          clear hK K hS10 E10 hE10
          by_cases h0 : 0 ≤ z2
          · have d0 : decide (0 ≤ z2) = true := decide_eq_true h0
            go_wp2
            go_ret
            exact ⟨rfl, (E0.out.trans EB.out).trans HE10.out⟩
          · have d0 : decide (0 ≤ z2) = false := decide_eq_false h0
            have hu := pr_unit HOK.out HLT.out (by rw [hz2.out]; exact h0)
            obtain rfl : n10 = 12 := by rw [← HL10.out]; exact prT_12 HOK.out
            obtain ⟨b, off, y, rfl, hy, ty⟩ := HG10.out.int hk12
            rw [Int.add_comm, stI_neg _ k y (by rw [Int.add_comm] at hy; exact hy)] at hu
            obtain rfl : y = -1 := by omega
            have sg : ¬ ((0 : Int) < -(1 + (k : Int))) := by omega
            have sg2 : -(1 + (k : Int)) < 0 := by omega
            have k2 : 1 + (k : Int) - 1 = (k : Int) := by omega
            clear hy hu
            go_wp2
            go_ret
            exact ⟨rfl, (E0.out.trans EB.out).trans HE10.out⟩
      · go_simp
        have EA : Ext wB (wB.alloc (.cells #[.slice (some ⟨w4.heap.size, 0, none⟩) 1 1, .int .i64 1] 25)).drew := ((Ext.refl _).alloc _).drew
        refine hK.out _ _ (KS.out _ EA) ?_
        clear hK K
        try simp only [Act.put, List.setIfInBounds_toArray, List.set_cons_zero, List.set_cons_succ]
        refine wpAnyZ_one 0 (by kernel_rfl) rfl rfl (fun K hK => ?_)
        go_simp
        have EB : Ext wB ((wB.alloc (.cells #[.slice (some ⟨w4.heap.size, 0, none⟩) 1 1, .int .i64 1] 25)).drew.alloc (.cells #[] 25)) := EA.alloc _
        have BB : Blk ((wB.alloc (.cells #[.slice (some ⟨w4.heap.size, 0, none⟩) 1 1, .int .i64 1] 25)).drew.alloc (.cells #[] 25)) (wB).heap.size 25 #[.slice (some ⟨w4.heap.size, 0, none⟩) 1 1, .int .i64 1] := ((Blk.new _ _ _).drew).alloc _
        refine hK.out _ _ (KS.out _ EB) ?_
        clear hK K
        try simp only [Act.put, List.setIfInBounds_toArray, List.set_cons_zero, List.set_cons_succ]
        refine wpAnyZ_one 2 (by kernel_rfl) rfl rfl (fun K hK => ?_)
        refine wp_append_seg _ _ _ _ (by rfl) ((wB).heap.size + 1) 25 i0 _ 2 32 Try.underlying42 HI.out HZ0.out HZ1.out HZ2.out rfl (by omega) (.slice (some ⟨((wB).heap.size + 1), 0, none⟩) 0 0) 0 [] (by rfl) OE2 A1a n1a c1a (encH hsq cs1a) (by rfl) (HSQ.out.ext EB) (oneCHl _ _) (by unfold maxLen; omega) (by omega) (by first | (simp; done) | (simp; omega)) ?_
        intro A8 c8 w8 hown8 hg8
        simp only [Nat.zero_add, List.nil_append] at hown8 ⊢
        have E8 : Ext wB w8 := Ext.grown EB hg8 (fun k hk => by have hk2 : ((wB).heap.size + 1) = k := Option.some.inj hk; omega)
        have B8 := blk_grownU BB hg8 (fun e => by have e2 : (wB).heap.size = ((wB).heap.size + 1) := Option.some.inj e; omega)
        refine hK.out _ _ (KS.out _ E8) ?_
        clear hK K
        try simp only [Act.put, List.setIfInBounds_toArray, List.set_cons_zero, List.set_cons_succ]
        have hz8 : (wB).heap.size + 1 + 1 ≤ w8.heap.size := by have := hg8.size; simpa using this
        refine wpAnyZ_one 5 (by kernel_rfl) rfl rfl (fun K hK => ?_)
        refine wp_append_seg _ _ _ _ (by rfl) ((wB).heap.size + 1) 25 i0 _ 2 32 Try.underlying42 HI.out HZ0.out HZ1.out HZ2.out rfl (by omega) (.slice A8 n1a c8) n1a (encH hsq cs1a) (by rfl) hown8 (some ⟨(wB).heap.size, 0, none⟩) 1 1 [.slice (some ⟨w4.heap.size, 0, none⟩) 1 1, .int .i64 1] (by rfl) (blk_seg1U B8) (oneC1U _ _ _ _) (by unfold maxLen; omega) (by omega) (by first | (have := (E8).size; simp only [World.size_alloc]; omega) | (have := (E8).size; omega)) ?_
        intro A9 c9 w9 hown9 hg9
        have E9 : Ext wB w9 := own_ext E8 hown8 (by omega) hg9
        have HS9 : Hid (SegC w9 A9 (n1a + 1) (cs1a ++ [([(1, (-(1 + (k : Int))))], 1)])) := segC_one HLQ.out (own_parts hown9).1 (fun i h c e1 e2 => ⟨(HINQ.out i h c e1 e2).1, (HINQ.out i h c e1 e2).2.ext E9⟩) (by unfold maxLen; omega) ((blk_segT BT.out).ext E9)
        have HE9 := Lib.hid E9
        refine hK.out _ _ (KS.out _ E9) ?_
        clear hK K
        try simp only [Act.put, List.setIfInBounds_toArray, List.set_cons_zero, List.set_cons_succ]
        clear hown9 hg9 hown8 hg8 E8
        clear EA EB BB B8 OE OE2
        refine wpAnyZ_one 7 (by kernel_rfl) rfl rfl (fun K hK => ?_)
        go_simp
        refine Calls.mono ((implPr_any A9 (n1a + 1) c9 _ A1b 12 c1b vs1b _ hn9 HS9.out h12 (S1.out.ext (EB.out.trans HE9.out))).mono fun _ _ h => h.of_eq rfl hz2.out HOK.out) ?_
        rintro e w10 ⟨A10, n10, c10, rfl, hl10, hg10, hE10⟩
        have HL10 := Lib.hid hl10
        have HG10 := Lib.hid hg10.seg
        have E10 := HE9.out.trans hE10
        have hS10 := KS.out _ E10
        have HE10 := Lib.hid E10
        refine hK.out _ _ hS10 ?_
        clear hK K hl10 hg10
        try simp only [Act.put, List.setIfInBounds_toArray, List.set_cons_zero, List.set_cons_succ]
        refine wpAnyZ_take 8 (v := ?_) (by kernel_rfl) rfl rfl (by kernel_rfl) (by kernel_rfl) (by kernel_rfl) (fun _ _ _ h => h) hS10 (Or.inl ⟨by rfl, ?_⟩) ?_
        rotate_left
        · (intro w hSw; (try dsimp only at hSw); go_simp; (try with_reducible rfl))
        try simp only [Act.put, List.setIfInBounds_toArray, List.set_cons_zero, List.set_cons_succ]
        refine wpAnyZ_take 9 (v := ?_) (by kernel_rfl) rfl rfl (by kernel_rfl) (by kernel_rfl) (by kernel_rfl) (fun _ _ _ h => h) hS10 (Or.inl ⟨by rfl, ?_⟩) ?_
        rotate_left
        · (intro w hSw; (try dsimp only at hSw); go_simp; (try with_reducible rfl))
        try simp only [Act.put, List.setIfInBounds_toArray, List.set_cons_zero, List.set_cons_succ]
        refine wpAnyZ_take 10 (v := ?_) (by kernel_rfl) rfl rfl (by kernel_rfl) (by kernel_rfl) (by kernel_rfl) (fun _ _ _ h => h) hS10 (Or.inl ⟨by rfl, ?_⟩) ?_
        rotate_left
        · (intro w hSw; (try dsimp only at hSw); go_simp; (try with_reducible rfl))
        try simp only [Act.put, List.setIfInBounds_toArray, List.set_cons_zero, List.set_cons_succ]
        refine wpAnyZ_take 11 (v := ?_) (by kernel_rfl) rfl rfl (by kernel_rfl) (by kernel_rfl) (by kernel_rfl) (fun _ _ _ h => h) hS10 (Or.inl ⟨by rfl, ?_⟩) ?_
        rotate_left
        · (intro w hSw; (try dsimp only at hSw); go_simp; (try with_reducible rfl))
        try simp only [Act.put, List.setIfInBounds_toArray, List.set_cons_zero, List.set_cons_succ]
        refine wpAnyZ_one 12 (by kernel_rfl) rfl rfl (fun K hK => ?_)
        go_simp
        refine hK.out _ _ hS10 ?_
        clear hK K
        try simp only [Act.put, List.setIfInBounds_toArray, List.set_cons_zero, List.set_cons_succ]
        refine wpAnyZ_one 13 (by kernel_rfl) rfl rfl (fun K hK => ?_)
        go_simp
        refine hK.out _ _ hS10 ?_
        clear hK K
        try simp only [Act.put, List.setIfInBounds_toArray, List.set_cons_zero, List.set_cons_succ]
        refine wpAnyZ_last (by kernel_rfl) (by kernel_rfl) rfl rfl (fun K hK => ?_)
        go_simp
        refine hK.out _ _ ?_
        clear hK K hS10 E10 hE10
        by_cases h0 : 0 ≤ z2
        · have d0 : decide (0 ≤ z2) = true := decide_eq_true h0
          go_wp2
          go_ret
          exact ⟨rfl, (E0.out.trans EB.out).trans HE10.out⟩
        · have d0 : decide (0 ≤ z2) = false := decide_eq_false h0
          have hu := pr_unit HOK.out HLT.out (by rw [hz2.out]; exact h0)
          obtain rfl : n10 = 12 := by rw [← HL10.out]; exact prT_12 HOK.out
          obtain ⟨b, off, y, rfl, hy, ty⟩ := HG10.out.int hk12
          rw [Int.add_comm, stI_neg _ k y (by rw [Int.add_comm] at hy; exact hy)] at hu
          obtain rfl : y = -1 := by omega
          have sg : ¬ ((0 : Int) < -(1 + (k : Int))) := by omega
          have sg2 : -(1 + (k : Int)) < 0 := by omega
          have k2 : 1 + (k : Int) - 1 = (k : Int) := by omega
          clear hy hu
          go_wp2
          go_ret
          exact ⟨rfl, (E0.out.trans EB.out).trans HE10.out⟩
    · have hp2 : (n1 : Int) % 2 = 0 := by omega
      have HLT : Hid (litB (1 + (k : Int)) = true) := by rw [Hid, litB_iff]; omega
      have HOK : Hid (prB (cs1a ++ [([(1, (1 + (k : Int)))], 1)]) vs1b = true) := pr_unit_ok HV.out HLT.out (by rw [HL1a.out]; omega)
      obtain ⟨z2, hz2⟩ : ∃ z, Hid (prK (cs1a ++ [([(1, (1 + (k : Int)))], 1)]) vs1b = z) := ⟨prK (cs1a ++ [([(1, (1 + (k : Int)))], 1)]) vs1b, Lib.hid rfl⟩
      have BT : Hid (Blk ((w4.alloc (.cells #[.int .i64 1, .int .i64 (1 + (k : Int))] 40)).alloc (.cells #[.slice (some ⟨w4.heap.size, 0, none⟩) 1 1, .int .i64 1] 25)) w4.heap.size 40 #[.int .i64 1, .int .i64 (1 + (k : Int))]) := (Blk.new _ _ _).alloc _
      have BX : Hid (Blk ((w4.alloc (.cells #[.int .i64 1, .int .i64 (1 + (k : Int))] 40)).alloc (.cells #[.slice (some ⟨w4.heap.size, 0, none⟩) 1 1, .int .i64 1] 25)) (w4.heap.size + 1) 25 #[.slice (some ⟨w4.heap.size, 0, none⟩) 1 1, .int .i64 1]) := by
        have := Blk.new (w4.alloc (.cells #[.int .i64 1, .int .i64 (1 + (k : Int))] 40)) 25 #[.slice (some ⟨w4.heap.size, 0, none⟩) 1 1, .int .i64 1]
        rw [World.size_alloc] at this; exact this
      have EB : Hid (Ext w4 ((w4.alloc (.cells #[.int .i64 1, .int .i64 (1 + (k : Int))] 40)).alloc (.cells #[.slice (some ⟨w4.heap.size, 0, none⟩) 1 1, .int .i64 1] 25))) := ((Ext.refl _).alloc _).alloc _
      go_wp2_with fail
      generalize hwB : ((w4.alloc (.cells #[.int .i64 1, .int .i64 (1 + (k : Int))] 40)).alloc (.cells #[.slice (some ⟨w4.heap.size, 0, none⟩) 1 1, .int .i64 1] 25)) = wB at BT BX EB ⊢
      have HLW := Lib.hid (SL.out.ext EB.out)
      clear hwB hek
      obtain ⟨hsq, hlq, hSq, hinq⟩ := HLW.out
      have HINQ := Lib.hid hinq
      have HLQ := Lib.hid hlq
      have HSQ := Lib.hid hSq
      have OE := own_empty wB (wB).heap.size 25 2 (Nat.le_refl _)
      have OE2 := own_empty (wB.alloc (.cells #[.slice (some ⟨w4.heap.size, 0, none⟩) 1 1, .int .i64 1] 25)) ((wB).heap.size + 1) 25 2 (by simp)
      simp only [World.size_alloc] at OE2
      clear hinq hlq hSq
      have KS : Hid (∀ X, Ext wB X → (X.cell? ⟨w4.heap.size + 1, 0, none⟩ = some (.slice (some ⟨w4.heap.size, 0, none⟩) 1 1) ∧ X.cell? ⟨w4.heap.size + 1, 1, none⟩ = some (.int .i64 1))) := fun X e => ⟨(BX.out.ext e).cell 0, (BX.out.ext e).cell 1⟩
      have hS0 := KS.out wB.drew (Ext.refl _).drew
      refine wp_region_Z (fun X => X.cell? ⟨w4.heap.size + 1, 0, none⟩ = some (.slice (some ⟨w4.heap.size, 0, none⟩) 1 1) ∧ X.cell? ⟨w4.heap.size + 1, 1, none⟩ = some (.int .i64 1)) 14 (by kernel_rfl) ?_
      refine wpAnyZ_take 1 (v := ?_) (by kernel_rfl) rfl rfl (by kernel_rfl) (by kernel_rfl) (by kernel_rfl) (fun _ _ _ h => h) hS0 (Or.inl ⟨by rfl, ?_⟩) ?_
      rotate_left
      · (intro w hSw; (try dsimp only at hSw); go_simp; (try with_reducible rfl))
      try simp only [Act.put, List.setIfInBounds_toArray, List.set_cons_zero, List.set_cons_succ]
      refine wpAnyZ_take 3 (v := ?_) (by kernel_rfl) rfl rfl (by kernel_rfl) (by kernel_rfl) (by kernel_rfl) (fun _ _ _ h => h) hS0 (Or.inl ⟨by rfl, ?_⟩) ?_
      rotate_left
      · (intro w hSw; (try dsimp only at hSw); go_simp; (try with_reducible rfl))
      try simp only [Act.put, List.setIfInBounds_toArray, List.set_cons_zero, List.set_cons_succ]
      refine wpAnyZ_take 6 (v := ?_) (by kernel_rfl) rfl rfl (by kernel_rfl) (by kernel_rfl) (by kernel_rfl) (fun _ _ _ h => h) hS0 (Or.inl ⟨by rfl, ?_⟩) ?_
      rotate_left
      · (intro w hSw; (try dsimp only at hSw); go_simp; (try with_reducible rfl))
      try simp only [Act.put, List.setIfInBounds_toArray, List.set_cons_zero, List.set_cons_succ]
      refine wpAnyZ_two 0 4 (by kernel_rfl) rfl rfl rfl rfl (fun K hK => ?_) (fun K hK => ?_)
      · go_simp
        have EA : Ext wB (wB.alloc (.cells #[] 25)).drew := ((Ext.refl _).alloc _).drew
        refine hK.out _ _ (KS.out _ EA) ?_
        clear hK K
        try simp only [Act.put, List.setIfInBounds_toArray, List.set_cons_zero, List.set_cons_succ]
        refine wpAnyZ_two 2 4 (by kernel_rfl) rfl rfl rfl rfl (fun K hK => ?_) (fun K hK => ?_)
        · refine wp_append_seg _ _ _ _ (by rfl) (wB).heap.size 25 i0 _ 2 32 Try.underlying42 HI.out HZ0.out HZ1.out HZ2.out rfl (by omega) (.slice (some ⟨(wB).heap.size, 0, none⟩) 0 0) 0 [] (by rfl) OE.drew A1a n1a c1a (encH hsq cs1a) (by rfl) (HSQ.out.ext EA) (oneCHl _ _) (by unfold maxLen; omega) (by omega) (by first | (simp; done) | (simp; omega)) ?_
          intro A8 c8 w8 hown8 hg8
          simp only [Nat.zero_add, List.nil_append] at hown8 ⊢
          have E8 : Ext wB w8 := Ext.grown EA hg8 (fun k hk => by have hk2 : (wB).heap.size = k := Option.some.inj hk; omega)
          refine hK.out _ _ (KS.out _ E8) ?_
          clear hK K
          try simp only [Act.put, List.setIfInBounds_toArray, List.set_cons_zero, List.set_cons_succ]
          have hz8 := E8.size
          refine wpAnyZ_one 4 (by kernel_rfl) rfl rfl (fun K hK => ?_)
          go_simp
          have EB := E8.alloc (.cells #[.slice (some ⟨w4.heap.size, 0, none⟩) 1 1, .int .i64 1] 25)
          refine hK.out _ _ (KS.out _ EB) ?_
          clear hK K
          try simp only [Act.put, List.setIfInBounds_toArray, List.set_cons_zero, List.set_cons_succ]
          refine wpAnyZ_one 5 (by kernel_rfl) rfl rfl (fun K hK => ?_)
          refine wp_append_seg _ _ _ _ (by rfl) ((wB).heap.size) 25 i0 _ 2 32 Try.underlying42 HI.out HZ0.out HZ1.out HZ2.out rfl (by omega) (.slice A8 n1a c8) n1a (encH hsq cs1a) (by rfl) (hown8.alloc _) (some ⟨w8.heap.size, 0, none⟩) 1 1 [.slice (some ⟨w4.heap.size, 0, none⟩) 1 1, .int .i64 1] (by rfl) (blk_seg1U (Blk.new w8 25 #[.slice (some ⟨w4.heap.size, 0, none⟩) 1 1, .int .i64 1])) (oneC1U _ _ _ _) (by unfold maxLen; omega) (by omega) (by first | (have := (EB).size; simp only [World.size_alloc]; omega) | (have := (EB).size; omega)) ?_
          intro A9 c9 w9 hown9 hg9
          have E9 : Ext wB w9 := own_ext EB (hown8.alloc _) (by omega) hg9
          have HS9 : Hid (SegC w9 A9 (n1a + 1) (cs1a ++ [([(1, (1 + (k : Int)))], 1)])) := segC_one HLQ.out (own_parts hown9).1 (fun i h c e1 e2 => ⟨(HINQ.out i h c e1 e2).1, (HINQ.out i h c e1 e2).2.ext E9⟩) (by unfold maxLen; omega) ((blk_segT BT.out).ext E9)
          have HE9 := Lib.hid E9
          refine hK.out _ _ (KS.out _ E9) ?_
          clear hK K
          try simp only [Act.put, List.setIfInBounds_toArray, List.set_cons_zero, List.set_cons_succ]
          clear hown9 hg9 hown8 hg8 E8
          clear EA EB OE OE2
          refine wpAnyZ_one 7 (by kernel_rfl) rfl rfl (fun K hK => ?_)
          go_simp
          refine Calls.mono ((implPr_any A9 (n1a + 1) c9 _ A1b 12 c1b vs1b _ hn9 HS9.out h12 (S1.out.ext (EB.out.trans HE9.out))).mono fun _ _ h => h.of_eq rfl hz2.out HOK.out) ?_
          rintro e w10 ⟨A10, n10, c10, rfl, hl10, hg10, hE10⟩
          have HL10 := Lib.hid hl10
          have HG10 := Lib.hid hg10.seg
          have E10 := HE9.out.trans hE10
          have hS10 := KS.out _ E10
          have HE10 := Lib.hid E10
          refine hK.out _ _ hS10 ?_
          clear hK K hl10 hg10
          try simp only [Act.put, List.setIfInBounds_toArray, List.set_cons_zero, List.set_cons_succ]
          refine wpAnyZ_take 8 (v := ?_) (by kernel_rfl) rfl rfl (by kernel_rfl) (by kernel_rfl) (by kernel_rfl) (fun _ _ _ h => h) hS10 (Or.inl ⟨by rfl, ?_⟩) ?_
          rotate_left
          · (intro w hSw; (try dsimp only at hSw); go_simp; (try with_reducible rfl))
          try simp only [Act.put, List.setIfInBounds_toArray, List.set_cons_zero, List.set_cons_succ]
          refine wpAnyZ_take 9 (v := ?_) (by kernel_rfl) rfl rfl (by kernel_rfl) (by kernel_rfl) (by kernel_rfl) (fun _ _ _ h => h) hS10 (Or.inl ⟨by rfl, ?_⟩) ?_
          rotate_left
          · (intro w hSw; (try dsimp only at hSw); go_simp; (try with_reducible rfl))
          try simp only [Act.put, List.setIfInBounds_toArray, List.set_cons_zero, List.set_cons_succ]
          refine wpAnyZ_take 10 (v := ?_) (by kernel_rfl) rfl rfl (by kernel_rfl) (by kernel_rfl) (by kernel_rfl) (fun _ _ _ h => h) hS10 (Or.inl ⟨by rfl, ?_⟩) ?_
          rotate_left
          · (intro w hSw; (try dsimp only at hSw); go_simp; (try with_reducible rfl))
          try simp only [Act.put, List.setIfInBounds_toArray, List.set_cons_zero, List.set_cons_succ]
          refine wpAnyZ_take 11 (v := ?_) (by kernel_rfl) rfl rfl (by kernel_rfl) (by kernel_rfl) (by kernel_rfl) (fun _ _ _ h => h) hS10 (Or.inl ⟨by rfl, ?_⟩) ?_
          rotate_left
          · (intro w hSw; (try dsimp only at hSw); go_simp; (try with_reducible rfl))
          try simp only [Act.put, List.setIfInBounds_toArray, List.set_cons_zero, List.set_cons_succ]
          refine wpAnyZ_one 12 (by kernel_rfl) rfl rfl (fun K hK => ?_)
          go_simp
          refine hK.out _ _ hS10 ?_
          clear hK K
          try simp only [Act.put, List.setIfInBounds_toArray, List.set_cons_zero, List.set_cons_succ]
          refine wpAnyZ_one 13 (by kernel_rfl) rfl rfl (fun K hK => ?_)
          go_simp
          refine hK.out _ _ hS10 ?_
          clear hK K
          try simp only [Act.put, List.setIfInBounds_toArray, List.set_cons_zero, List.set_cons_succ]
          refine wpAnyZ_last (by kernel_rfl) (by kernel_rfl) rfl rfl (fun K hK => ?_)
          go_simp
          refine hK.out _ _ ?_
          clear hK K hS10 E10 hE10
          by_cases h0 : 0 ≤ z2
          · have d0 : decide (0 ≤ z2) = true := decide_eq_true h0
            go_wp2
            go_ret
            exact ⟨rfl, (E0.out.trans EB.out).trans HE10.out⟩
          · have d0 : decide (0 ≤ z2) = false := decide_eq_false h0
            have hu := pr_unit HOK.out HLT.out (by rw [hz2.out]; exact h0)
            obtain rfl : n10 = 12 := by rw [← HL10.out]; exact prT_12 HOK.out
            obtain ⟨b, off, y, rfl, hy, ty⟩ := HG10.out.int hk12
            rw [Int.add_comm, stI_pos _ k y (by rw [Int.add_comm] at hy; exact hy)] at hu
            subst hu
            have sg : (0 : Int) < 1 + (k : Int) := by omega
            have k2 : 1 + (k : Int) - 1 = (k : Int) := by omega
            clear hy
            go_wp2
            go_ret
            exact ⟨rfl, (E0.out.trans EB.out).trans HE10.out⟩
        · go_simp
          have EB : Ext wB ((wB.alloc (.cells #[] 25)).drew.alloc (.cells #[.slice (some ⟨w4.heap.size, 0, none⟩) 1 1, .int .i64 1] 25)) := EA.alloc _
          have BB : Blk ((wB.alloc (.cells #[] 25)).drew.alloc (.cells #[.slice (some ⟨w4.heap.size, 0, none⟩) 1 1, .int .i64 1] 25)) ((wB).heap.size + 1) 25 #[.slice (some ⟨w4.heap.size, 0, none⟩) 1 1, .int .i64 1] := by have := Blk.new (wB.alloc (.cells #[] 25)).drew 25 #[.slice (some ⟨w4.heap.size, 0, none⟩) 1 1, .int .i64 1]; simpa using this
          refine hK.out _ _ (KS.out _ EB) ?_
          clear hK K
          try simp only [Act.put, List.setIfInBounds_toArray, List.set_cons_zero, List.set_cons_succ]
          refine wpAnyZ_one 2 (by kernel_rfl) rfl rfl (fun K hK => ?_)
          refine wp_append_seg _ _ _ _ (by rfl) (wB).heap.size 25 i0 _ 2 32 Try.underlying42 HI.out HZ0.out HZ1.out HZ2.out rfl (by omega) (.slice (some ⟨(wB).heap.size, 0, none⟩) 0 0) 0 [] (by rfl) (OE.drew.alloc _) A1a n1a c1a (encH hsq cs1a) (by rfl) (HSQ.out.ext EB) (oneCHl _ _) (by unfold maxLen; omega) (by omega) (by first | (simp; done) | (simp; omega)) ?_
          intro A8 c8 w8 hown8 hg8
          simp only [Nat.zero_add, List.nil_append] at hown8 ⊢
          have E8 : Ext wB w8 := Ext.grown EB hg8 (fun k hk => by have hk2 : (wB).heap.size = k := Option.some.inj hk; omega)
          have B8 := blk_grownU BB hg8 (fun e => by have e2 : (wB).heap.size + 1 = (wB).heap.size := Option.some.inj e; omega)
          refine hK.out _ _ (KS.out _ E8) ?_
          clear hK K
          try simp only [Act.put, List.setIfInBounds_toArray, List.set_cons_zero, List.set_cons_succ]
          have hz8 := E8.size
          refine wpAnyZ_one 5 (by kernel_rfl) rfl rfl (fun K hK => ?_)
          refine wp_append_seg _ _ _ _ (by rfl) ((wB).heap.size) 25 i0 _ 2 32 Try.underlying42 HI.out HZ0.out HZ1.out HZ2.out rfl (by omega) (.slice A8 n1a c8) n1a (encH hsq cs1a) (by rfl) hown8 (some ⟨(wB).heap.size + 1, 0, none⟩) 1 1 [.slice (some ⟨w4.heap.size, 0, none⟩) 1 1, .int .i64 1] (by rfl) (blk_seg1U B8) (oneC1U _ _ _ _) (by unfold maxLen; omega) (by omega) (by first | (have := (E8).size; simp only [World.size_alloc]; omega) | (have := (E8).size; omega)) ?_
          intro A9 c9 w9 hown9 hg9
          have E9 : Ext wB w9 := own_ext E8 hown8 (by omega) hg9
          have HS9 : Hid (SegC w9 A9 (n1a + 1) (cs1a ++ [([(1, (1 + (k : Int)))], 1)])) := segC_one HLQ.out (own_parts hown9).1 (fun i h c e1 e2 => ⟨(HINQ.out i h c e1 e2).1, (HINQ.out i h c e1 e2).2.ext E9⟩) (by unfold maxLen; omega) ((blk_segT BT.out).ext E9)
          have HE9 := Lib.hid E9
          refine hK.out _ _ (KS.out _ E9) ?_
          clear hK K
          try simp only [Act.put, List.setIfInBounds_toArray, List.set_cons_zero, List.set_cons_succ]
          clear hown9 hg9 hown8 hg8 E8
          clear EA EB BB B8 OE OE2
          refine wpAnyZ_one 7 (by kernel_rfl) rfl rfl (fun K hK => ?_)
          go_simp
          refine Calls.mono ((implPr_any A9 (n1a + 1) c9 _ A1b 12 c1b vs1b _ hn9 HS9.out h12 (S1.out.ext (EB.out.trans HE9.out))).mono fun _ _ h => h.of_eq rfl hz2.out HOK.out) ?_
          rintro e w10 ⟨A10, n10, c10, rfl, hl10, hg10, hE10⟩
          have HL10 := Lib.hid hl10
          have HG10 := Lib.hid hg10.seg
          have E10 := HE9.out.trans hE10
          have hS10 := KS.out _ E10
          have HE10 := Lib.hid E10
          refine hK.out _ _ hS10 ?_
          clear hK K hl10 hg10
          try simp only [Act.put, List.setIfInBounds_toArray, List.set_cons_zero, List.set_cons_succ]
          refine wpAnyZ_take 8 (v := ?_) (by kernel_rfl) rfl rfl (by kernel_rfl) (by kernel_rfl) (by kernel_rfl) (fun _ _ _ h => h) hS10 (Or.inl ⟨by rfl, ?_⟩) ?_
          rotate_left
          · (intro w hSw; (try dsimp only at hSw); go_simp; (try with_reducible rfl))
          try simp only [Act.put, List.setIfInBounds_toArray, List.set_cons_zero, List.set_cons_succ]
          refine wpAnyZ_take 9 (v := ?_) (by kernel_rfl) rfl rfl (by kernel_rfl) (by kernel_rfl) (by kernel_rfl) (fun _ _ _ h => h) hS10 (Or.inl ⟨by rfl, ?_⟩) ?_
          rotate_left
          · (intro w hSw; (try dsimp only at hSw); go_simp; (try with_reducible rfl))
          try simp only [Act.put, List.setIfInBounds_toArray, List.set_cons_zero, List.set_cons_succ]
          refine wpAnyZ_take 10 (v := ?_) (by kernel_rfl) rfl rfl (by kernel_rfl) (by kernel_rfl) (by kernel_rfl) (fun _ _ _ h => h) hS10 (Or.inl ⟨by rfl, ?_⟩) ?_
          rotate_left
          · (intro w hSw; (try dsimp only at hSw); go_simp; (try with_reducible rfl))
          try simp only [Act.put, List.setIfInBounds_toArray, List.set_cons_zero, List.set_cons_succ]
          refine wpAnyZ_take 11 (v := ?_) (by kernel_rfl) rfl rfl (by kernel_rfl) (by kernel_rfl) (by kernel_rfl) (fun _ _ _ h => h) hS10 (Or.inl ⟨by rfl, ?_⟩) ?_
          rotate_left
          · (intro w hSw; (try dsimp only at hSw); go_simp; (try with_reducible rfl))
          try simp only [Act.put, List.setIfInBounds_toArray, List.set_cons_zero, List.set_cons_succ]
          refine wpAnyZ_one 12 (by kernel_rfl) rfl rfl (fun K hK => ?_)
          go_simp
          refine hK.out _ _ hS10 ?_
          clear hK K
          try simp only [Act.put, List.setIfInBounds_toArray, List.set_cons_zero, List.set_cons_succ]
          refine wpAnyZ_one 13 (by kernel_rfl) rfl rfl (fun K hK => ?_)
          go_simp
          refine hK.out _ _ hS10 ?_
          clear hK K
          try simp only [Act.put, List.setIfInBounds_toArray, List.set_cons_zero, List.set_cons_succ]
          refine wpAnyZ_last (by kernel_rfl) (by kernel_rfl) rfl rfl (fun K hK => ?_)
          go_simp
          refine hK.out _ _ ?_
          clear hK K hS10 E10 hE10
          by_cases h0 : 0 ≤ z2
          · have d0 : decide (0 ≤ z2) = true := decide_eq_true h0
            go_wp2
            go_ret
            exact ⟨rfl, (E0.out.trans EB.out).trans HE10.out⟩
          · have d0 : decide (0 ≤ z2) = false := decide_eq_false h0
            have hu := pr_unit HOK.out HLT.out (by rw [hz2.out]; exact h0)
            obtain rfl : n10 = 12 := by rw [← HL10.out]; exact prT_12 HOK.out
            obtain ⟨b, off, y, rfl, hy, ty⟩ := HG10.out.int hk12
            rw [Int.add_comm, stI_pos _ k y (by rw [Int.add_comm] at hy; exact hy)] at hu
            subst hu
            have sg : (0 : Int) < 1 + (k : Int) := by omega
            have k2 : 1 + (k : Int) - 1 = (k : Int) := by omega
            clear hy
            go_wp2
            go_ret
            exact ⟨rfl, (E0.out.trans EB.out).trans HE10.out⟩
      · go_simp
        have EA : Ext wB (wB.alloc (.cells #[.slice (some ⟨w4.heap.size, 0, none⟩) 1 1, .int .i64 1] 25)).drew := ((Ext.refl _).alloc _).drew
        refine hK.out _ _ (KS.out _ EA) ?_
        clear hK K
        try simp only [Act.put, List.setIfInBounds_toArray, List.set_cons_zero, List.set_cons_succ]
        refine wpAnyZ_one 0 (by kernel_rfl) rfl rfl (fun K hK => ?_)
        go_simp
        have EB : Ext wB ((wB.alloc (.cells #[.slice (some ⟨w4.heap.size, 0, none⟩) 1 1, .int .i64 1] 25)).drew.alloc (.cells #[] 25)) := EA.alloc _
        have BB : Blk ((wB.alloc (.cells #[.slice (some ⟨w4.heap.size, 0, none⟩) 1 1, .int .i64 1] 25)).drew.alloc (.cells #[] 25)) (wB).heap.size 25 #[.slice (some ⟨w4.heap.size, 0, none⟩) 1 1, .int .i64 1] := ((Blk.new _ _ _).drew).alloc _
        refine hK.out _ _ (KS.out _ EB) ?_
        clear hK K
        try simp only [Act.put, List.setIfInBounds_toArray, List.set_cons_zero, List.set_cons_succ]
        refine wpAnyZ_one 2 (by kernel_rfl) rfl rfl (fun K hK => ?_)
        refine wp_append_seg _ _ _ _ (by rfl) ((wB).heap.size + 1) 25 i0 _ 2 32 Try.underlying42 HI.out HZ0.out HZ1.out HZ2.out rfl (by omega) (.slice (some ⟨((wB).heap.size + 1), 0, none⟩) 0 0) 0 [] (by rfl) OE2 A1a n1a c1a (encH hsq cs1a) (by rfl) (HSQ.out.ext EB) (oneCHl _ _) (by unfold maxLen; omega) (by omega) (by first | (simp; done) | (simp; omega)) ?_
        intro A8 c8 w8 hown8 hg8
        simp only [Nat.zero_add, List.nil_append] at hown8 ⊢
        have E8 : Ext wB w8 := Ext.grown EB hg8 (fun k hk => by have hk2 : ((wB).heap.size + 1) = k := Option.some.inj hk; omega)
        have B8 := blk_grownU BB hg8 (fun e => by have e2 : (wB).heap.size = ((wB).heap.size + 1) := Option.some.inj e; omega)
        refine hK.out _ _ (KS.out _ E8) ?_
        clear hK K
        try simp only [Act.put, List.setIfInBounds_toArray, List.set_cons_zero, List.set_cons_succ]
        have hz8 : (wB).heap.size + 1 + 1 ≤ w8.heap.size := by have := hg8.size; simpa using this
        refine wpAnyZ_one 5 (by kernel_rfl) rfl rfl (fun K hK => ?_)
        refine wp_append_seg _ _ _ _ (by rfl) ((wB).heap.size + 1) 25 i0 _ 2 32 Try.underlying42 HI.out HZ0.out HZ1.out HZ2.out rfl (by omega) (.slice A8 n1a c8) n1a (encH hsq cs1a) (by rfl) hown8 (some ⟨(wB).heap.size, 0, none⟩) 1 1 [.slice (some ⟨w4.heap.size, 0, none⟩) 1 1, .int .i64 1] (by rfl) (blk_seg1U B8) (oneC1U _ _ _ _) (by unfold maxLen; omega) (by omega) (by first | (have := (E8).size; simp only [World.size_alloc]; omega) | (have := (E8).size; omega)) ?_
        intro A9 c9 w9 hown9 hg9
        have E9 : Ext wB w9 := own_ext E8 hown8 (by omega) hg9
        have HS9 : Hid (SegC w9 A9 (n1a + 1) (cs1a ++ [([(1, (1 + (k : Int)))], 1)])) := segC_one HLQ.out (own_parts hown9).1 (fun i h c e1 e2 => ⟨(HINQ.out i h c e1 e2).1, (HINQ.out i h c e1 e2).2.ext E9⟩) (by unfold maxLen; omega) ((blk_segT BT.out).ext E9)
        have HE9 := Lib.hid E9
        refine hK.out _ _ (KS.out _ E9) ?_
        clear hK K
        try simp only [Act.put, List.setIfInBounds_toArray, List.set_cons_zero, List.set_cons_succ]
        clear hown9 hg9 hown8 hg8 E8
        clear EA EB BB B8 OE OE2
        refine wpAnyZ_one 7 (by kernel_rfl) rfl rfl (fun K hK => ?_)
        go_simp
        refine Calls.mono ((implPr_any A9 (n1a + 1) c9 _ A1b 12 c1b vs1b _ hn9 HS9.out h12 (S1.out.ext (EB.out.trans HE9.out))).mono fun _ _ h => h.of_eq rfl hz2.out HOK.out) ?_
        rintro e w10 ⟨A10, n10, c10, rfl, hl10, hg10, hE10⟩
        have HL10 := Lib.hid hl10
        have HG10 := Lib.hid hg10.seg
        have E10 := HE9.out.trans hE10
        have hS10 := KS.out _ E10
        have HE10 := Lib.hid E10
        refine hK.out _ _ hS10 ?_
        clear hK K hl10 hg10
        try simp only [Act.put, List.setIfInBounds_toArray, List.set_cons_zero, List.set_cons_succ]
        refine wpAnyZ_take 8 (v := ?_) (by kernel_rfl) rfl rfl (by kernel_rfl) (by kernel_rfl) (by kernel_rfl) (fun _ _ _ h => h) hS10 (Or.inl ⟨by rfl, ?_⟩) ?_
        rotate_left
        · (intro w hSw; (try dsimp only at hSw); go_simp; (try with_reducible rfl))
        try simp only [Act.put, List.setIfInBounds_toArray, List.set_cons_zero, List.set_cons_succ]
        refine wpAnyZ_take 9 (v := ?_) (by kernel_rfl) rfl rfl (by kernel_rfl) (by kernel_rfl) (by kernel_rfl) (fun _ _ _ h => h) hS10 (Or.inl ⟨by rfl, ?_⟩) ?_
        rotate_left
        · (intro w hSw; (try dsimp only at hSw); go_simp; (try with_reducible rfl))
        try simp only [Act.put, List.setIfInBounds_toArray, List.set_cons_zero, List.set_cons_succ]
        refine wpAnyZ_take 10 (v := ?_) (by kernel_rfl) rfl rfl (by kernel_rfl) (by kernel_rfl) (by kernel_rfl) (fun _ _ _ h => h) hS10 (Or.inl ⟨by rfl, ?_⟩) ?_
        rotate_left
        · (intro w hSw; (try dsimp only at hSw); go_simp; (try with_reducible rfl))
        try simp only [Act.put, List.setIfInBounds_toArray, List.set_cons_zero, List.set_cons_succ]
        refine wpAnyZ_take 11 (v := ?_) (by kernel_rfl) rfl rfl (by kernel_rfl) (by kernel_rfl) (by kernel_rfl) (fun _ _ _ h => h) hS10 (Or.inl ⟨by rfl, ?_⟩) ?_
        rotate_left
        · (intro w hSw; (try dsimp only at hSw); go_simp; (try with_reducible rfl))
        try simp only [Act.put, List.setIfInBounds_toArray, List.set_cons_zero, List.set_cons_succ]
        refine wpAnyZ_one 12 (by kernel_rfl) rfl rfl (fun K hK => ?_)
        go_simp
        refine hK.out _ _ hS10 ?_
        clear hK K
        try simp only [Act.put, List.setIfInBounds_toArray, List.set_cons_zero, List.set_cons_succ]
        refine wpAnyZ_one 13 (by kernel_rfl) rfl rfl (fun K hK => ?_)
        go_simp
        refine hK.out _ _ hS10 ?_
        clear hK K
        try simp only [Act.put, List.setIfInBounds_toArray, List.set_cons_zero, List.set_cons_succ]
        refine wpAnyZ_last (by kernel_rfl) (by kernel_rfl) rfl rfl (fun K hK => ?_)
        go_simp
        refine hK.out _ _ ?_
        clear hK K hS10 E10 hE10
        by_cases h0 : 0 ≤ z2
        · have d0 : decide (0 ≤ z2) = true := decide_eq_true h0
          go_wp2
          go_ret
          exact ⟨rfl, (E0.out.trans EB.out).trans HE10.out⟩
        · have d0 : decide (0 ≤ z2) = false := decide_eq_false h0
          have hu := pr_unit HOK.out HLT.out (by rw [hz2.out]; exact h0)
          obtain rfl : n10 = 12 := by rw [← HL10.out]; exact prT_12 HOK.out
          obtain ⟨b, off, y, rfl, hy, ty⟩ := HG10.out.int hk12
          rw [Int.add_comm, stI_pos _ k y (by rw [Int.add_comm] at hy; exact hy)] at hu
          subst hu
          have sg : (0 : Int) < 1 + (k : Int) := by omega
          have k2 : 1 + (k : Int) - 1 = (k : Int) := by omega
          clear hy
          go_wp2
          go_ret
          exact ⟨rfl, (E0.out.trans EB.out).trans HE10.out⟩
  · have HV := Lib.hid (show prB cs1a vs1b = false by simpa using hv)
    clear hv
    go_wp2_with fail
    refine Calls.mono ((implPr_any A1a n1a c1a cs1a A1b n1b c1b vs1b _ hn1a hG1a.out hn1b hG1b.out.seg).mono fun _ _ h => h.of_eq rfl rfl HV.out) ?_
    rintro e w2 ⟨A2, n2, c2, rfl, hl2, hg2, hE2⟩
    have hC2 : Ext w1 w2 := hE2
    have ze2 := hC2.size
    clear hE2
    have hG2 := Lib.hid hg2
    have HL2 := Lib.hid hl2
    have hs2 : n2 ≤ 1048576 := (by rw [← hl2]; exact prT_len cs1a vs1b)
    have hn2 : n2 ≤ maxLen := (Nat.le_trans hs2 (by unfold maxLen; omega))
    clear hg2 hl2
    go_wp2_with fail
    refine Calls.mono ((specPr_any A1a n1a c1a cs1a A1b n1b c1b vs1b _ hn1a (hG1a.out.ext hC2) hn1b (hG1b.out.seg.ext hC2)).mono fun _ _ h => h.of_eq rfl rfl HV.out) ?_
    rintro e w3 ⟨A3, n3, c3, rfl, hl3, hg3, hE3⟩
    have hC3 : Ext w2 w3 := hE3
    have ze3 := hC3.size
    clear hE3
    have hG3 := Lib.hid hg3
    have HL3 := Lib.hid hl3
    have hs3 : n3 ≤ 1048576 := (by rw [← hl3]; exact prT_len cs1a vs1b)
    have hn3 : n3 ≤ maxLen := (Nat.le_trans hs3 (by unfold maxLen; omega))
    clear hg3 hl3
    go_wp2_with fail
    refine (calls_val (cpI_any A2 n2 c2 (prT cs1a vs1b) A3 n3 c3 (prT cs1a vs1b) _ hn2 (hG2.out.seg.ext hC3) hn3 hG3.out.seg) (congrArg Value.bool (ciEq_self _))).mono ?_
    rintro e w4 ⟨rfl, hE4⟩
    have hC4 : Ext w3 w4 := hE4
    have ze4 := hC4.size
    clear hE4
    go_wp2_with fail
    refine (calls_val (cpI_any A2 n2 c2 (prT cs1a vs1b) A3 n3 c3 (prT cs1a vs1b) _ hn2 (hG2.out.seg.ext (hC3.trans hC4)) hn3 (hG3.out.seg.ext hC4)) (congrArg Value.bool (ciEq_self _))).mono ?_
    rintro e w5 ⟨rfl, hE5⟩
    have hC5 : Ext w4 w5 := hE5
    have ze5 := hC5.size
    clear hE5
    go_wp2
    go_ret
    exact ⟨rfl, ((((hC1.trans hC2).trans hC3).trans hC4).trans hC5)⟩

theorem own : ownKnob Try.prog.godebug = none := by kernel_rfl
theorem laidOut : laidOutB Try.prog = true := by kernel_rfl

set_option maxRecDepth 100000 in
theorem lifted (os : Os) (started : os.Started) (H : Type) (enc : TypeId × Value → H) :
    ReturnsInHanded {} Try.checked os 13 .any (Rows.fnPropagateUnitSpec.pre6 enc Try.prog Try.f13 Rows.fnPropagateUnitRow.domain false) (Rows.fnPropagateUnitSpec.post enc Try.prog Try.f13 false true false false) := by
  refine returnsInHanded_of_change (C := Try.checked) own started (by kernel_rfl) Try.func13
    (ChangeSpec.witness6 (enc := enc) (C := Try.checked) false ⟨#[], #[.slice none 0 0, .slice none 0 0], []⟩ 8 (by kernel_rfl) (by kernel_rfl) (by kernel_rfl) (by kernel_rfl)) ?_
  intro W base args ds gs before hval0 hW hcnd _
  have hval : ∀ (j : Nat) t v, Try.f13.params[j]? = some t → args[j]? = some v → Value.okWide Try.prog W .any base t v := hval0
  have hW' := hW
  obtain ⟨p, q, hA0, hV, rfl, hfz, hnd⟩ := hW
  have hA : DataW.TrodAll enc Try.prog W 0 (fun _ => true) true Try.f13.params.toList args.toList ds p := hA0
  rw [Try.params13] at hA hval
  obtain ⟨v0, vs0, d0, ds0, p0, q0, hargs, rfl, rfl, h0, r0⟩ := trodAll_cons hA
  obtain ⟨v1, vs1, d1, ds1, p1, q1, rfl, rfl, rfl, h1, r1⟩ := trodAll_cons r0
  obtain ⟨rfl, rfl, rfl⟩ := trodAll_nil r1
  obtain rfl : args = #[v0, v1] := by cases args; simp_all
  obtain ⟨rfl, rfl⟩ := trodVars_none hV
  have k0 := h0
  have lt0 : ∀ x ∈ p0, x.block < W.heap.size := by obtain ⟨m, hm⟩ := k0; exact DataW.trod_lt m _ _ _ hm
  obtain ⟨A0, n0, cap0, zs0, rfl, hn0, hc0, hs0, hb0⟩ := arg_bytes (hval 0 22 v0 rfl rfl) h0
  have k1 := h1
  have lt1 : ∀ x ∈ p1, x.block < W.heap.size := by obtain ⟨m, hm⟩ := k1; exact DataW.trod_lt m _ _ _ hm
  obtain ⟨A1, n1, cap1, zs1, rfl, hn1, hc1, hs1, hb1⟩ := arg_bytes (hval 1 22 v1 rfl rfl) h1
  clear hA0 hval0
  refine (walk A0 n0 cap0 zs0 A1 n1 cap1 zs1 W hn0 hc0 hs0 hb0 hn1 hc1 hs1 hb1).mono fun e W' ⟨he, ext⟩ => ?_
  subst he
  have bel := ext.below
  exact ⟨_, rfl, _, _, _, [], _, [], hW', trodAll_mk1 (shut_bool Try.underlying4 _), (trodAll_cons_mk (Below.trod laidOut (by kernel_rfl) (of_decide_eq_true (by kernel_rfl)) k0 bel lt0) (trodAll_cons_mk (Below.trod laidOut (by kernel_rfl) (of_decide_eq_true (by kernel_rfl)) k1 bel lt1) trodAll_mk0)), rfl, bel.frame _, fun h => by cases h⟩

set_option maxHeartbeats 4000000 in
theorem joined : joinedFacts Try.pinned.checked.prog 13 Try.f13 Rows.fnPropagateUnitSpec Rows.fnPropagateUnitRow = true := by
  unfold joinedFacts
  exact (and2 (and2 (and2 (and2 (and2 (and2 (and2 (and2 (and2 (and2 (and2 (and2 (and2 (and2 (and2 (and2 (and2 (and2 (and2 (and2 (and2 (and2 (and2 (and2 (and2 (and2 (and2 (and2 (and2 (and2 (and2 (by as_aux_lemma => kernel_rfl) (by as_aux_lemma => kernel_rfl)) (by as_aux_lemma => kernel_rfl)) (by as_aux_lemma => kernel_rfl)) (by as_aux_lemma => kernel_rfl)) (by as_aux_lemma => kernel_rfl)) (by as_aux_lemma => kernel_rfl)) (by as_aux_lemma => kernel_rfl)) (by as_aux_lemma => kernel_rfl)) (by as_aux_lemma => kernel_rfl)) (by as_aux_lemma => kernel_rfl)) (by as_aux_lemma => kernel_rfl)) (by as_aux_lemma => kernel_rfl)) (by as_aux_lemma => kernel_rfl)) (by as_aux_lemma => kernel_rfl)) (by as_aux_lemma => kernel_rfl)) (by as_aux_lemma => kernel_rfl)) (by as_aux_lemma => kernel_rfl)) (by as_aux_lemma => kernel_rfl)) (by as_aux_lemma => kernel_rfl)) (by as_aux_lemma => kernel_rfl)) (by as_aux_lemma => kernel_rfl)) (by as_aux_lemma => kernel_rfl)) (by as_aux_lemma => kernel_rfl)) (by as_aux_lemma => kernel_rfl)) jEnter) jLift) jMake) (by as_aux_lemma => kernel_rfl)) (by as_aux_lemma => kernel_rfl)) (by as_aux_lemma => kernel_rfl)) (by as_aux_lemma => kernel_rfl))

set_option maxHeartbeats 4000000 in
theorem over : Rows.fnPropagateUnitRow.holds Try.pinned (OpenSpec.ofChange Rows.fnPropagateUnitSpec) :=
  OpenClaim.holds_of_wide 13 Try.f13 rfl rfl rfl rfl rfl rfl rfl ⟨rfl, rfl, rfl, rfl, rfl⟩ rfl rfl rfl rfl rfl (by kernel_rfl) Try.func13 joined
    (of_decide_eq_true (by kernel_rfl)) (by unfold Func.isWrapper; first | (rw [if_pos (by decide +kernel)]; kernel_rfl) | (rw [if_neg (by decide +kernel)]; exact ⟨rfl, rfl⟩))
    (fun os started H enc _ => lifted os started H enc)

theorem proved : Rows.FnPropagateUnitSaid := over

end Go.Proofs.Ytihbgajlnbchlaa.propagateUnit
