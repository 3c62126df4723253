/- laws.FnCountBlock: for all bytes, the program's CountSolutions returns what the reference's returns, and blocking a solution decreases the number of solutions by one. No condition. -/
import Derived.Test.YtmbdfnimmjomfaaRdH
import Derived.Test.YtmbdfnimmjomfaaPlCn
import Derived.Test.YtmbdfnimmjomfaaCpF
import Derived.Test.YtmbdfnimmjomfaaAppU
import Derived.Test.YtmbdfnimmjomfaaBC
import Derived.Test.YtmbdfnimmjomfaaLastS
import Derived.Test.YtmbdfnimmjomfaaProbV
import Derived.Test.YtmbdfnimmjomfaaOpenY
import Derived.Test.YtmbdfnimmjomfaaFacts
namespace Go.Proofs.Ytmbdfnimmjomfaa.countBlock
open Go.ChangeShapes Go.WideShapes Go.ChangeAt Go.RowKit
set_option linter.unusedVariables false

set_option maxRecDepth 100000 in
set_option maxHeartbeats 4000000 in
theorem walk (A0 : Option Addr) (n0 cap0 : Nat) (zs0 : List Int) (w : World) (hn0 : n0 ≤ maxLen) (hc0 : n0 ≤ cap0) (hs0 : Seg w 1 A0 n0 (encY zs0)) (hb0 : bytesB zs0) :
    Calls Try.prog 6 #[.slice A0 n0 cap0] w fun e w' => e = .returned (.bool true) ∧ Ext w w' := by
  by_cases hbig : 1048576 < n0
  · clear hs0
    go_enter Try.func6, Try.ntmps6
    go_wp2
    go_ret
    exact ⟨rfl, Ext.refl _⟩
  go_enter Try.func6, Try.ntmps6
  go_wp2_with fail
  refine (drawNx_any A0 n0 cap0 zs0 _ hn0 hc0 hs0 hb0).mono ?_
  rintro e w1 ⟨A1a, n1a, c1a, cs1a, A1b, n1b, c1b, vs1b, rfl, hl1a, hm1a, hl1b, hm1b, hg1a, hg1b, hE1⟩
  have hC1 : Ext w w1 := hE1
  have ze1 := hC1.size
  clear hE1
  have hn1a : n1a ≤ maxLen := by unfold maxLen; omega
  have HL1a := Lib.hid hl1a
  have hG1a := Lib.hid hg1a
  clear hl1a hg1a
  have hn1b : n1b ≤ maxLen := by unfold maxLen; omega
  have HL1b := Lib.hid hl1b
  have hG1b := Lib.hid hg1b
  clear hl1b hg1b
  obtain ⟨zc, hzc⟩ : ∃ z, Hid (cnI cs1a = z) := ⟨_, rfl⟩
  by_cases hv : nsB cs1a vs1b = true
  · have HV := Lib.hid hv
    clear hv
    have HN12 := Lib.hid (nsT_12 HV.out)
    have HBO : Hid (bcOk (nsT cs1a vs1b) = true) := by unfold bcOk Hid; exact decide_eq_true HN12.out
    have HBT : Hid (bcT (nsT cs1a vs1b) = bcFrom 1 (nsT cs1a vs1b)) := by unfold bcT Hid; rw [if_pos HN12.out]
    have HBD : Hid (bcD (nsT cs1a vs1b) = 1) := by unfold bcD Hid; rw [if_pos HN12.out]
    go_wp2_with fail
    refine (calls_val (implCnt_any A1a n1a c1a cs1a _ hn1a hG1a.out) (congrArg (Value.int .i64) hzc.out)).mono ?_
    rintro e w2 ⟨rfl, hE2⟩
    have hC2 : Ext w1 w2 := hE2
    have ze2 := hC2.size
    clear hE2
    go_wp2_with fail
    refine Calls.mono ((implNs_any A1a n1a c1a cs1a A1b n1b c1b vs1b _ hn1a (hG1a.out.ext hC2) hn1b (hG1b.out.seg.ext hC2)).mono fun _ _ h => h.of_eq rfl HV.out) ?_
    rintro e w3 ⟨A3, n3, c3, rfl, hl3, hg3, hE3⟩
    have hC3 : Ext w2 w3 := hE3
    have ze3 := hC3.size
    clear hE3
    have hG3 := Lib.hid hg3
    have HL3 := Lib.hid hl3
    have hs3 : n3 ≤ 1048576 := (by rw [← hl3]; exact nsT_len cs1a vs1b)
    have hn3 : n3 ≤ maxLen := (Nat.le_trans hs3 (by unfold maxLen; omega))
    clear hg3 hl3
    go_wp2_with fail
    refine Calls.mono ((implBC_any A3 n3 c3 (nsT cs1a vs1b) _ hn3 hG3.out.seg).mono fun _ _ h => h.of_eq HBT.out HBD.out HBO.out) ?_
    rintro e w4 ⟨A4, n4, c4, rfl, hl4, hg4, hE4⟩
    have hC4 : Ext w3 w4 := hE4
    have ze4 := hC4.size
    clear hE4
    have hG4 := Lib.hid hg4
    have HL4 := Lib.hid hl4
    have hs4 : n4 ≤ 1048576 := (by rw [← hl4]; exact by rw [← HBT.out]; exact bcT_len (nsT cs1a vs1b))
    have hn4 : n4 ≤ maxLen := (Nat.le_trans hs4 (by unfold maxLen; omega))
    clear hg4 hl4
    go_wp2_with fail
    refine (calls_val (specCnt_any A1a n1a c1a cs1a _ hn1a ((hG1a.out.ext ((hC2.trans hC3).trans hC4)).ext ((Ext.refl _).alloc _))) (congrArg (Value.int .i64) hzc.out)).mono ?_
    rintro e w5 ⟨rfl, hE5⟩
    have hC5 : Ext w4 w5 := ((Ext.refl _).alloc _).trans hE5
    have ze5 := hC5.size
    have B_x0 := Lib.hid (Blk.of1 hE5)
    have zb_x0 := B_x0.out.lt
    clear hE5
    have SL := Lib.hid (hG1a.out.ext (((hC2.trans hC3).trans hC4).trans hC5))
    have E0 := Lib.hid ((((hC1.trans hC2).trans hC3).trans hC4).trans hC5)
    have HLW := SL
    have HBX := Lib.hid B_x0.out
    have hn9 : n1a + 1 ≤ maxLen := by unfold maxLen; omega
    obtain ⟨zb, hzb⟩ : ∃ z, Hid (cnI (cs1a ++ [(bcFrom 1 (nsT cs1a vs1b), 1)]) = z) := ⟨cnI (cs1a ++ [(bcFrom 1 (nsT cs1a vs1b), 1)]), Lib.hid rfl⟩
    have hzz : zb = zc - 1 := by
      have := cn_block HV.out (by rw [HL1a.out]; omega)
      rw [hzc.out, hzb.out] at this; exact this
    have HZZ := Lib.hid hzz
    subst hzz
    have hws : IntKind.i64.wrap (zc - 1) = zc - 1 := IntWalk.i64_in _ (by have := cnI_bd cs1a; rw [hzc.out] at this; omega)
    obtain ⟨i0, hi, hz0, hz1, hz2⟩ := info_parts Try.infoCnL
    have HI := Lib.hid hi
    have HZ0 := Lib.hid hz0
    have HZ1 := Lib.hid hz1
    have HZ2 := Lib.hid hz2
    clear hi hz0 hz1 hz2
    obtain ⟨hsq, hlq, hSq, hinq⟩ := HLW.out
    have HINQ := Lib.hid hinq
    have HLQ := Lib.hid hlq
    have HSQ := Lib.hid hSq
    have OE := own_empty w5 (w5).heap.size 26 2 (Nat.le_refl _)
    have OE2 := own_empty (w5.alloc (.cells #[.slice A4 n4 c4, .int .i64 1] 26)) ((w5).heap.size + 1) 26 2 (by simp)
    simp only [World.size_alloc] at OE2
    clear hinq hlq hSq
    have KS : Hid (∀ X, Ext w5 X → (X.cell? ⟨w4.heap.size, 0, none⟩ = some (.slice A4 n4 c4) ∧ X.cell? ⟨w4.heap.size, 1, none⟩ = some (.int .i64 1))) := fun X e => ⟨(HBX.out.ext e).cell 0, (HBX.out.ext e).cell 1⟩
    go_wp2_with fail
    have hS0 := KS.out w5.drew (Ext.refl _).drew
    refine wp_region_Z (fun X => X.cell? ⟨w4.heap.size, 0, none⟩ = some (.slice A4 n4 c4) ∧ X.cell? ⟨w4.heap.size, 1, none⟩ = some (.int .i64 1)) 10 (by kernel_rfl) ?_
    refine wpAnyZ_take 1 (v := ?_) (by kernel_rfl) rfl rfl (by kernel_rfl) (by kernel_rfl) (by kernel_rfl) (fun _ _ _ h => h) hS0 (Or.inl ⟨by rfl, ?_⟩) ?_
    rotate_left
    · (intro w hSw; (try dsimp only at hSw); go_simp; (try with_reducible rfl))
    try simp only [Act.put, List.setIfInBounds_toArray, List.set_cons_zero, List.set_cons_succ]
    refine wpAnyZ_take 3 (v := ?_) (by kernel_rfl) rfl rfl (by kernel_rfl) (by kernel_rfl) (by kernel_rfl) (fun _ _ _ h => h) hS0 (Or.inl ⟨by rfl, ?_⟩) ?_
    rotate_left
    · (intro w hSw; (try dsimp only at hSw); go_simp; (try with_reducible rfl))
    try simp only [Act.put, List.setIfInBounds_toArray, List.set_cons_zero, List.set_cons_succ]
    refine wpAnyZ_take 7 (v := ?_) (by kernel_rfl) rfl rfl (by kernel_rfl) (by kernel_rfl) (by kernel_rfl) (fun _ _ _ h => h) hS0 (Or.inl ⟨by rfl, ?_⟩) ?_
    rotate_left
    · (intro w hSw; (try dsimp only at hSw); go_simp; (try with_reducible rfl))
    try simp only [Act.put, List.setIfInBounds_toArray, List.set_cons_zero, List.set_cons_succ]
    refine wpAnyZ_take 8 (v := ?_) (by kernel_rfl) rfl rfl (by kernel_rfl) (by kernel_rfl) (by kernel_rfl) (fun _ _ _ h => h) hS0 (Or.inl ⟨by rfl, ?_⟩) ?_
    rotate_left
    · (intro w hSw; (try dsimp only at hSw); go_simp; (try with_reducible rfl))
    try simp only [Act.put, List.setIfInBounds_toArray, List.set_cons_zero, List.set_cons_succ]
    refine wpAnyZ_two 0 4 (by kernel_rfl) rfl rfl rfl rfl (fun K hK => ?_) (fun K hK => ?_)
    · go_simp
      have EA : Ext w5 (w5.alloc (.cells #[] 26)).drew := ((Ext.refl _).alloc _).drew
      refine hK.out _ _ (KS.out _ EA) ?_
      clear hK K
      try simp only [Act.put, List.setIfInBounds_toArray, List.set_cons_zero, List.set_cons_succ]
      refine wpAnyZ_two 2 4 (by kernel_rfl) rfl rfl rfl rfl (fun K hK => ?_) (fun K hK => ?_)
      · refine wp_append_seg _ _ _ _ (by rfl) (w5).heap.size 26 i0 _ 2 32 Try.underlying42 HI.out HZ0.out HZ1.out HZ2.out rfl (by omega) (.slice (some ⟨(w5).heap.size, 0, none⟩) 0 0) 0 [] (by rfl) OE.drew A1a n1a c1a (encH hsq cs1a) (by rfl) (HSQ.out.ext EA) (oneCHl _ _) (by unfold maxLen; omega) (by omega) (by first | (simp; done) | (simp; omega)) ?_
        intro A8 c8 w8 hown8 hg8
        simp only [Nat.zero_add, List.nil_append] at hown8 ⊢
        have E8 : Ext w5 w8 := Ext.grown EA hg8 (fun k hk => by have hk2 : (w5).heap.size = k := Option.some.inj hk; omega)
        refine hK.out _ _ (KS.out _ E8) ?_
        clear hK K
        try simp only [Act.put, List.setIfInBounds_toArray, List.set_cons_zero, List.set_cons_succ]
        have hz8 := E8.size
        refine wpAnyZ_one 4 (by kernel_rfl) rfl rfl (fun K hK => ?_)
        go_simp
        have EB := E8.alloc (.cells #[.slice A4 n4 c4, .int .i64 1] 26)
        refine hK.out _ _ (KS.out _ EB) ?_
        clear hK K
        try simp only [Act.put, List.setIfInBounds_toArray, List.set_cons_zero, List.set_cons_succ]
        refine wpAnyZ_one 5 (by kernel_rfl) rfl rfl (fun K hK => ?_)
        refine wp_append_seg _ _ _ _ (by rfl) ((w5).heap.size) 26 i0 _ 2 32 Try.underlying42 HI.out HZ0.out HZ1.out HZ2.out rfl (by omega) (.slice A8 n1a c8) n1a (encH hsq cs1a) (by rfl) (hown8.alloc _) (some ⟨w8.heap.size, 0, none⟩) 1 1 [.slice A4 n4 c4, .int .i64 1] (by rfl) (blk_seg1U (Blk.new w8 26 #[.slice A4 n4 c4, .int .i64 1])) (oneC1U _ _ _ _) (by unfold maxLen; omega) (by omega) (by first | (have := (EB).size; simp only [World.size_alloc]; omega) | (have := (EB).size; omega)) ?_
        intro A9 c9 w9 hown9 hg9
        have E9 : Ext w5 w9 := own_ext EB (hown8.alloc _) (by omega) hg9
        have HS9 : Hid (SegC w9 A9 (n1a + 1) (cs1a ++ [((bcFrom 1 (nsT cs1a vs1b)), 1)])) := segC_one HLQ.out (own_parts hown9).1 (fun i h c e1 e2 => ⟨(HINQ.out i h c e1 e2).1, (HINQ.out i h c e1 e2).2.ext E9⟩) hn4 ((hG4.out.seg.ext hC5).ext E9)
        have HE9 := Lib.hid E9
        refine hK.out _ _ (KS.out _ E9) ?_
        clear hK K
        try simp only [Act.put, List.setIfInBounds_toArray, List.set_cons_zero, List.set_cons_succ]
        clear hown9 hg9 hown8 hg8 E8
        clear EA EB OE OE2
        refine wpAnyZ_one 6 (by kernel_rfl) rfl rfl (fun K hK => ?_)
        go_simp
        refine (calls_val (implCnt_any A9 (n1a + 1) c9 _ _ hn9 HS9.out) (congrArg (Value.int .i64) hzb.out)).mono ?_
        rintro e w10 ⟨rfl, hE10⟩
        have E10 := HE9.out.trans hE10
        have hS10 := KS.out _ E10
        refine hK.out _ _ hS10 ?_
        clear hK K
        try simp only [Act.put, List.setIfInBounds_toArray, List.set_cons_zero, List.set_cons_succ]
        refine wpAnyZ_take 9 (v := ?_) (by kernel_rfl) rfl rfl (by kernel_rfl) (by kernel_rfl) (by kernel_rfl) (fun _ _ _ h => h) hS10 (Or.inl ⟨by rfl, ?_⟩) ?_
        rotate_left
        · (intro w hSw; (try dsimp only at hSw); go_simp; (try with_reducible rfl))
        try simp only [Act.put, List.setIfInBounds_toArray, List.set_cons_zero, List.set_cons_succ]
        refine wpAnyZ_last (by kernel_rfl) (by kernel_rfl) rfl rfl (fun K hK => ?_)
        go_simp
        refine hK.out _ _ ?_
        clear hK K hS10
        have HF := Lib.hid (E0.out.trans E10)
        clear E10 hE10
        go_wp2
        go_ret
        exact ⟨ret_b (by simp), HF.out⟩
      · go_simp
        have EB : Ext w5 ((w5.alloc (.cells #[] 26)).drew.alloc (.cells #[.slice A4 n4 c4, .int .i64 1] 26)) := EA.alloc _
        have BB : Blk ((w5.alloc (.cells #[] 26)).drew.alloc (.cells #[.slice A4 n4 c4, .int .i64 1] 26)) ((w5).heap.size + 1) 26 #[.slice A4 n4 c4, .int .i64 1] := by have := Blk.new (w5.alloc (.cells #[] 26)).drew 26 #[.slice A4 n4 c4, .int .i64 1]; simpa using this
        refine hK.out _ _ (KS.out _ EB) ?_
        clear hK K
        try simp only [Act.put, List.setIfInBounds_toArray, List.set_cons_zero, List.set_cons_succ]
        refine wpAnyZ_one 2 (by kernel_rfl) rfl rfl (fun K hK => ?_)
        refine wp_append_seg _ _ _ _ (by rfl) (w5).heap.size 26 i0 _ 2 32 Try.underlying42 HI.out HZ0.out HZ1.out HZ2.out rfl (by omega) (.slice (some ⟨(w5).heap.size, 0, none⟩) 0 0) 0 [] (by rfl) (OE.drew.alloc _) A1a n1a c1a (encH hsq cs1a) (by rfl) (HSQ.out.ext EB) (oneCHl _ _) (by unfold maxLen; omega) (by omega) (by first | (simp; done) | (simp; omega)) ?_
        intro A8 c8 w8 hown8 hg8
        simp only [Nat.zero_add, List.nil_append] at hown8 ⊢
        have E8 : Ext w5 w8 := Ext.grown EB hg8 (fun k hk => by have hk2 : (w5).heap.size = k := Option.some.inj hk; omega)
        have B8 := blk_grownU BB hg8 (fun e => by have e2 : (w5).heap.size + 1 = (w5).heap.size := Option.some.inj e; omega)
        refine hK.out _ _ (KS.out _ E8) ?_
        clear hK K
        try simp only [Act.put, List.setIfInBounds_toArray, List.set_cons_zero, List.set_cons_succ]
        have hz8 := E8.size
        refine wpAnyZ_one 5 (by kernel_rfl) rfl rfl (fun K hK => ?_)
        refine wp_append_seg _ _ _ _ (by rfl) ((w5).heap.size) 26 i0 _ 2 32 Try.underlying42 HI.out HZ0.out HZ1.out HZ2.out rfl (by omega) (.slice A8 n1a c8) n1a (encH hsq cs1a) (by rfl) hown8 (some ⟨(w5).heap.size + 1, 0, none⟩) 1 1 [.slice A4 n4 c4, .int .i64 1] (by rfl) (blk_seg1U B8) (oneC1U _ _ _ _) (by unfold maxLen; omega) (by omega) (by first | (have := (E8).size; simp only [World.size_alloc]; omega) | (have := (E8).size; omega)) ?_
        intro A9 c9 w9 hown9 hg9
        have E9 : Ext w5 w9 := own_ext E8 hown8 (by omega) hg9
        have HS9 : Hid (SegC w9 A9 (n1a + 1) (cs1a ++ [((bcFrom 1 (nsT cs1a vs1b)), 1)])) := segC_one HLQ.out (own_parts hown9).1 (fun i h c e1 e2 => ⟨(HINQ.out i h c e1 e2).1, (HINQ.out i h c e1 e2).2.ext E9⟩) hn4 ((hG4.out.seg.ext hC5).ext E9)
        have HE9 := Lib.hid E9
        refine hK.out _ _ (KS.out _ E9) ?_
        clear hK K
        try simp only [Act.put, List.setIfInBounds_toArray, List.set_cons_zero, List.set_cons_succ]
        clear hown9 hg9 hown8 hg8 E8
        clear EA EB BB B8 OE OE2
        refine wpAnyZ_one 6 (by kernel_rfl) rfl rfl (fun K hK => ?_)
        go_simp
        refine (calls_val (implCnt_any A9 (n1a + 1) c9 _ _ hn9 HS9.out) (congrArg (Value.int .i64) hzb.out)).mono ?_
        rintro e w10 ⟨rfl, hE10⟩
        have E10 := HE9.out.trans hE10
        have hS10 := KS.out _ E10
        refine hK.out _ _ hS10 ?_
        clear hK K
        try simp only [Act.put, List.setIfInBounds_toArray, List.set_cons_zero, List.set_cons_succ]
        refine wpAnyZ_take 9 (v := ?_) (by kernel_rfl) rfl rfl (by kernel_rfl) (by kernel_rfl) (by kernel_rfl) (fun _ _ _ h => h) hS10 (Or.inl ⟨by rfl, ?_⟩) ?_
        rotate_left
        · (intro w hSw; (try dsimp only at hSw); go_simp; (try with_reducible rfl))
        try simp only [Act.put, List.setIfInBounds_toArray, List.set_cons_zero, List.set_cons_succ]
        refine wpAnyZ_last (by kernel_rfl) (by kernel_rfl) rfl rfl (fun K hK => ?_)
        go_simp
        refine hK.out _ _ ?_
        clear hK K hS10
        have HF := Lib.hid (E0.out.trans E10)
        clear E10 hE10
        go_wp2
        go_ret
        exact ⟨ret_b (by simp), HF.out⟩
    · go_simp
      have EA : Ext w5 (w5.alloc (.cells #[.slice A4 n4 c4, .int .i64 1] 26)).drew := ((Ext.refl _).alloc _).drew
      refine hK.out _ _ (KS.out _ EA) ?_
      clear hK K
      try simp only [Act.put, List.setIfInBounds_toArray, List.set_cons_zero, List.set_cons_succ]
      refine wpAnyZ_one 0 (by kernel_rfl) rfl rfl (fun K hK => ?_)
      go_simp
      have EB : Ext w5 ((w5.alloc (.cells #[.slice A4 n4 c4, .int .i64 1] 26)).drew.alloc (.cells #[] 26)) := EA.alloc _
      have BB : Blk ((w5.alloc (.cells #[.slice A4 n4 c4, .int .i64 1] 26)).drew.alloc (.cells #[] 26)) (w5).heap.size 26 #[.slice A4 n4 c4, .int .i64 1] := ((Blk.new _ _ _).drew).alloc _
      refine hK.out _ _ (KS.out _ EB) ?_
      clear hK K
      try simp only [Act.put, List.setIfInBounds_toArray, List.set_cons_zero, List.set_cons_succ]
      refine wpAnyZ_one 2 (by kernel_rfl) rfl rfl (fun K hK => ?_)
      refine wp_append_seg _ _ _ _ (by rfl) ((w5).heap.size + 1) 26 i0 _ 2 32 Try.underlying42 HI.out HZ0.out HZ1.out HZ2.out rfl (by omega) (.slice (some ⟨((w5).heap.size + 1), 0, none⟩) 0 0) 0 [] (by rfl) OE2 A1a n1a c1a (encH hsq cs1a) (by rfl) (HSQ.out.ext EB) (oneCHl _ _) (by unfold maxLen; omega) (by omega) (by first | (simp; done) | (simp; omega)) ?_
      intro A8 c8 w8 hown8 hg8
      simp only [Nat.zero_add, List.nil_append] at hown8 ⊢
      have E8 : Ext w5 w8 := Ext.grown EB hg8 (fun k hk => by have hk2 : ((w5).heap.size + 1) = k := Option.some.inj hk; omega)
      have B8 := blk_grownU BB hg8 (fun e => by have e2 : (w5).heap.size = ((w5).heap.size + 1) := Option.some.inj e; omega)
      refine hK.out _ _ (KS.out _ E8) ?_
      clear hK K
      try simp only [Act.put, List.setIfInBounds_toArray, List.set_cons_zero, List.set_cons_succ]
      have hz8 : (w5).heap.size + 1 + 1 ≤ w8.heap.size := by have := hg8.size; simpa using this
      refine wpAnyZ_one 5 (by kernel_rfl) rfl rfl (fun K hK => ?_)
      refine wp_append_seg _ _ _ _ (by rfl) ((w5).heap.size + 1) 26 i0 _ 2 32 Try.underlying42 HI.out HZ0.out HZ1.out HZ2.out rfl (by omega) (.slice A8 n1a c8) n1a (encH hsq cs1a) (by rfl) hown8 (some ⟨(w5).heap.size, 0, none⟩) 1 1 [.slice A4 n4 c4, .int .i64 1] (by rfl) (blk_seg1U B8) (oneC1U _ _ _ _) (by unfold maxLen; omega) (by omega) (by first | (have := (E8).size; simp only [World.size_alloc]; omega) | (have := (E8).size; omega)) ?_
      intro A9 c9 w9 hown9 hg9
      have E9 : Ext w5 w9 := own_ext E8 hown8 (by omega) hg9
      have HS9 : Hid (SegC w9 A9 (n1a + 1) (cs1a ++ [((bcFrom 1 (nsT cs1a vs1b)), 1)])) := segC_one HLQ.out (own_parts hown9).1 (fun i h c e1 e2 => ⟨(HINQ.out i h c e1 e2).1, (HINQ.out i h c e1 e2).2.ext E9⟩) hn4 ((hG4.out.seg.ext hC5).ext E9)
      have HE9 := Lib.hid E9
      refine hK.out _ _ (KS.out _ E9) ?_
      clear hK K
      try simp only [Act.put, List.setIfInBounds_toArray, List.set_cons_zero, List.set_cons_succ]
      clear hown9 hg9 hown8 hg8 E8
      clear EA EB BB B8 OE OE2
      refine wpAnyZ_one 6 (by kernel_rfl) rfl rfl (fun K hK => ?_)
      go_simp
      refine (calls_val (implCnt_any A9 (n1a + 1) c9 _ _ hn9 HS9.out) (congrArg (Value.int .i64) hzb.out)).mono ?_
      rintro e w10 ⟨rfl, hE10⟩
      have E10 := HE9.out.trans hE10
      have hS10 := KS.out _ E10
      refine hK.out _ _ hS10 ?_
      clear hK K
      try simp only [Act.put, List.setIfInBounds_toArray, List.set_cons_zero, List.set_cons_succ]
      refine wpAnyZ_take 9 (v := ?_) (by kernel_rfl) rfl rfl (by kernel_rfl) (by kernel_rfl) (by kernel_rfl) (fun _ _ _ h => h) hS10 (Or.inl ⟨by rfl, ?_⟩) ?_
      rotate_left
      · (intro w hSw; (try dsimp only at hSw); go_simp; (try with_reducible rfl))
      try simp only [Act.put, List.setIfInBounds_toArray, List.set_cons_zero, List.set_cons_succ]
      refine wpAnyZ_last (by kernel_rfl) (by kernel_rfl) rfl rfl (fun K hK => ?_)
      go_simp
      refine hK.out _ _ ?_
      clear hK K hS10
      have HF := Lib.hid (E0.out.trans E10)
      clear E10 hE10
      go_wp2
      go_ret
      exact ⟨ret_b (by simp), HF.out⟩
  · have HV := Lib.hid (show nsB cs1a vs1b = false by simpa using hv)
    clear hv
    go_wp2_with fail
    refine (calls_val (implCnt_any A1a n1a c1a cs1a _ hn1a hG1a.out) (congrArg (Value.int .i64) hzc.out)).mono ?_
    rintro e w2 ⟨rfl, hE2⟩
    have hC2 : Ext w1 w2 := hE2
    have ze2 := hC2.size
    clear hE2
    go_wp2_with fail
    refine Calls.mono ((implNs_any A1a n1a c1a cs1a A1b n1b c1b vs1b _ hn1a (hG1a.out.ext hC2) hn1b (hG1b.out.seg.ext hC2)).mono fun _ _ h => h.of_eq (nsT_no HV.out) HV.out) ?_
    rintro e w3 ⟨A3, n3, c3, rfl, hl3, hg3, hE3⟩
    have hC3 : Ext w2 w3 := hE3
    have ze3 := hC3.size
    clear hE3
    have hG3 := Lib.hid hg3
    have HL3 := Lib.hid hl3
    have hs3 : n3 ≤ 1048576 := (by rw [← hl3, ← (nsT_no HV.out)]; exact nsT_len cs1a vs1b)
    have hn3 : n3 ≤ maxLen := (Nat.le_trans hs3 (by unfold maxLen; omega))
    clear hg3 hl3
    go_wp2_with fail
    refine Calls.mono ((implBC_any A3 n3 c3 ([]) _ hn3 hG3.out.seg).mono fun _ _ h => h.of_eq (show bcT [] = [] from rfl) (show bcD [] = 0 from rfl) (show bcOk [] = false from rfl)) ?_
    rintro e w4 ⟨A4, n4, c4, rfl, hl4, hg4, hE4⟩
    have hC4 : Ext w3 w4 := hE4
    have ze4 := hC4.size
    clear hE4
    have hG4 := Lib.hid hg4
    have HL4 := Lib.hid hl4
    have hs4 : n4 ≤ 1048576 := (by rw [← hl4]; exact by rw [← (show bcT [] = [] from rfl)]; exact bcT_len ([]))
    have hn4 : n4 ≤ maxLen := (Nat.le_trans hs4 (by unfold maxLen; omega))
    clear hg4 hl4
    go_wp2_with fail
    refine (calls_val (specCnt_any A1a n1a c1a cs1a _ hn1a ((hG1a.out.ext ((hC2.trans hC3).trans hC4)).ext ((Ext.refl _).alloc _))) (congrArg (Value.int .i64) hzc.out)).mono ?_
    rintro e w5 ⟨rfl, hE5⟩
    have hC5 : Ext w4 w5 := ((Ext.refl _).alloc _).trans hE5
    have ze5 := hC5.size
    have B_x0 := Lib.hid (Blk.of1 hE5)
    have zb_x0 := B_x0.out.lt
    clear hE5
    go_wp2_with fail
    refine (calls_val (specCnt_any A1a n1a c1a cs1a _ hn1a (hG1a.out.ext (((hC2.trans hC3).trans hC4).trans hC5))) (congrArg (Value.int .i64) hzc.out)).mono ?_
    rintro e w6 ⟨rfl, hE6⟩
    have hC6 : Ext w5 w6 := hE6
    have ze6 := hC6.size
    clear hE6
    go_wp2
    go_ret
    exact ⟨rfl, (((((hC1.trans hC2).trans hC3).trans hC4).trans hC5).trans hC6)⟩

theorem own : ownKnob Try.prog.godebug = none := by kernel_rfl
theorem laidOut : laidOutB Try.prog = true := by kernel_rfl

set_option maxRecDepth 100000 in
theorem lifted (os : Os) (started : os.Started) (H : Type) (enc : TypeId × Value → H) :
    ReturnsInHanded {} Try.checked os 6 .any (Rows.fnCountBlockSpec.pre6 enc Try.prog Try.f6 Rows.fnCountBlockRow.domain false) (Rows.fnCountBlockSpec.post enc Try.prog Try.f6 false true false false) := by
  refine returnsInHanded_of_change (C := Try.checked) own started (by kernel_rfl) Try.func6
    (ChangeSpec.witness6 (enc := enc) (C := Try.checked) false ⟨#[], #[.slice none 0 0], []⟩ 8 (by kernel_rfl) (by kernel_rfl) (by kernel_rfl) (by kernel_rfl)) ?_
  intro W base args ds gs before hval0 hW hcnd _
  have hval : ∀ (j : Nat) t v, Try.f6.params[j]? = some t → args[j]? = some v → Value.okWide Try.prog W .any base t v := hval0
  have hW' := hW
  obtain ⟨p, q, hA0, hV, rfl, hfz, hnd⟩ := hW
  have hA : DataW.TrodAll enc Try.prog W 0 (fun _ => true) true Try.f6.params.toList args.toList ds p := hA0
  rw [Try.params6] at hA hval
  obtain ⟨v0, vs0, d0, ds0, p0, q0, hargs, rfl, rfl, h0, r0⟩ := trodAll_cons hA
  obtain ⟨rfl, rfl, rfl⟩ := trodAll_nil r0
  obtain rfl : args = #[v0] := by cases args; simp_all
  obtain ⟨rfl, rfl⟩ := trodVars_none hV
  have k0 := h0
  have lt0 : ∀ x ∈ p0, x.block < W.heap.size := by obtain ⟨m, hm⟩ := k0; exact DataW.trod_lt m _ _ _ hm
  obtain ⟨A0, n0, cap0, zs0, rfl, hn0, hc0, hs0, hb0⟩ := arg_bytes (hval 0 41 v0 rfl rfl) h0
  clear hA0 hval0
  refine (walk A0 n0 cap0 zs0 W hn0 hc0 hs0 hb0).mono fun e W' ⟨he, ext⟩ => ?_
  subst he
  have bel := ext.below
  exact ⟨_, rfl, _, _, _, [], _, [], hW', trodAll_mk1 (shut_bool Try.underlying4 _), (trodAll_cons_mk (Below.trod laidOut (by kernel_rfl) (of_decide_eq_true (by kernel_rfl)) k0 bel lt0) trodAll_mk0), rfl, bel.frame _, fun h => by cases h⟩

set_option maxHeartbeats 4000000 in
theorem joined : joinedFacts Try.pinned.checked.prog 6 Try.f6 Rows.fnCountBlockSpec Rows.fnCountBlockRow = true := by
  unfold joinedFacts
  exact (and2 (and2 (and2 (and2 (and2 (and2 (and2 (and2 (and2 (and2 (and2 (and2 (and2 (and2 (and2 (and2 (and2 (and2 (and2 (and2 (and2 (and2 (and2 (and2 (and2 (and2 (and2 (and2 (and2 (and2 (and2 (by as_aux_lemma => kernel_rfl) (by as_aux_lemma => kernel_rfl)) (by as_aux_lemma => kernel_rfl)) (by as_aux_lemma => kernel_rfl)) (by as_aux_lemma => kernel_rfl)) (by as_aux_lemma => kernel_rfl)) (by as_aux_lemma => kernel_rfl)) (by as_aux_lemma => kernel_rfl)) (by as_aux_lemma => kernel_rfl)) (by as_aux_lemma => kernel_rfl)) (by as_aux_lemma => kernel_rfl)) (by as_aux_lemma => kernel_rfl)) (by as_aux_lemma => kernel_rfl)) (by as_aux_lemma => kernel_rfl)) (by as_aux_lemma => kernel_rfl)) (by as_aux_lemma => kernel_rfl)) (by as_aux_lemma => kernel_rfl)) (by as_aux_lemma => kernel_rfl)) (by as_aux_lemma => kernel_rfl)) (by as_aux_lemma => kernel_rfl)) (by as_aux_lemma => kernel_rfl)) (by as_aux_lemma => kernel_rfl)) (by as_aux_lemma => kernel_rfl)) (by as_aux_lemma => kernel_rfl)) (by as_aux_lemma => kernel_rfl)) jEnter) jLift) jMake) (by as_aux_lemma => kernel_rfl)) (by as_aux_lemma => kernel_rfl)) (by as_aux_lemma => kernel_rfl)) (by as_aux_lemma => kernel_rfl))

set_option maxHeartbeats 4000000 in
theorem over : Rows.fnCountBlockRow.holds Try.pinned (OpenSpec.ofChange Rows.fnCountBlockSpec) :=
  OpenClaim.holds_of_wide 6 Try.f6 rfl rfl rfl rfl rfl rfl rfl ⟨rfl, rfl, rfl, rfl, rfl⟩ rfl rfl rfl rfl rfl (by kernel_rfl) Try.func6 joined
    (of_decide_eq_true (by kernel_rfl)) (by unfold Func.isWrapper; first | (rw [if_pos (by decide +kernel)]; kernel_rfl) | (rw [if_neg (by decide +kernel)]; exact ⟨rfl, rfl⟩))
    (fun os started H enc _ => lifted os started H enc)

theorem proved : Rows.FnCountBlockSaid := over

end Go.Proofs.Ytmbdfnimmjomfaa.countBlock
