/- laws.FnExactAddConstraints: for all constraints, the program's AddConstraints returns what the reference's returns, in memory of its own, and leaves its arguments alone. No condition. -/
import Derived.Test.YtmbdfnimmjomfaaAdI
import Derived.Test.YtmbdfnimmjomfaaLastS
import Derived.Test.YtmbdfnimmjomfaaMark
import Derived.Test.YtmbdfnimmjomfaaSzT
import Derived.Test.YtmbdfnimmjomfaaEqT
import Derived.Test.YtmbdfnimmjomfaaOpen
import Derived.Test.YtmbdfnimmjomfaaFacts
import Derived.Deep.RegionHeld3
import Derived.Deep.RegionWith
namespace Go.Proofs.Ytmbdfnimmjomfaa.exactAddConstraints
open Go.ChangeShapes Go.WideShapes Go.ChangeAt Go.RowKit
set_option linter.unusedVariables false

/-- what follows a region that draws its order, told once for all orders -/
theorem region_cont {P : Program} {ops : Array Oper} {Q : Exit → Act → World → Prop} {id : Nat} {a : Act} {w : World} (S : World → Prop) (z : Nat) (hm : P.follows .mixedOrders = true) (R : Act → Act → World → Prop)
    (hp : ∀ c a w (d : Nat) v, Q (.panic c) (a.put (some d) v) w → Q (.panic c) a w)
    (h1 : ∀ Q' : Exit → Act → World → Prop, (∀ c a w (d : Nat) v, Q' (.panic c) (a.put (some d) v) w → Q' (.panic c) a w) → Hid (∀ a' X, R a a' X → Q' .normal a' X) → wpAnyZ P .any ops Q' S z ops.size (Array.replicate ops.size false) a w.drew) (h2 : ∀ a' X, R a a' X → Q .normal a' X) : (Code.region id ops true).wp P Q a w :=
  wp_region_Z S z hm (h1 Q hp h2)

set_option maxRecDepth 100000 in
set_option maxHeartbeats 4000000 in
theorem walk (Ax0 : Option Addr) (nx0 capx0 : Nat) (zs0 : List Tm) (bd0 : Int) (Ax1 : Option Addr) (nx1 capx1 : Nat) (zs1 : List Tm) (bd1 : Int) (w : World) (hnx0 : nx0 ≤ maxLen) (sx0 : Seg w 2 Ax0 nx0 (encT zs0)) (hnx1 : nx1 ≤ maxLen) (sx1 : Seg w 2 Ax1 nx1 (encT zs1)) :
    Calls Try.prog 4 #[.agg #[.slice Ax0 nx0 capx0, .int .i64 bd0], .agg #[.slice Ax1 nx1 capx1, .int .i64 bd1]] w fun e w' => e = .returned (.bool true) ∧ Ext w w' := by
  have hLx0 := sx0.old
  have hLx1 := sx1.old
  have HL0 := Lib.hid sx0.lenT
  have HL1 := Lib.hid sx1.lenT
  have up0 := szB_le nx0 1048576 (by omega)
  have lw0 := szB_ge nx0 1048576 (by omega)
  by_cases hb0 : szB nx0 1048576 < 0
  · go_enter Try.func4, Try.ntmps4
    go_wp2_with fail
    refine (szConstraint_any Ax0 nx0 capx0 bd0 _ _ hnx0 (by omega) (by omega)).mono ?_
    rintro e w1 ⟨rfl, hE1⟩
    have hC1 : Ext w w1 := (((Ext.refl _).alloc _).alloc _).trans hE1
    have ze1 := hC1.size
    obtain ⟨B_x0, B_x1⟩ := Blk.of2 hE1
    have zb_x0 := B_x0.lt
    have zb_x1 := B_x1.lt
    go_wp2
    go_ret
    exact ⟨rfl, hC1⟩
  have nb0 : 0 ≤ szB nx0 1048576 := by omega
  have ms0 : nx0 ≤ 1048576 := szB_small nx0 1048576 (by omega) hb0
  clear hb0
  have up1 := szB_le nx1 (szB nx0 1048576) (by omega)
  have lw1 := szB_ge nx1 (szB nx0 1048576) (by omega)
  by_cases hb1 : szB nx1 (szB nx0 1048576) < 0
  · go_enter Try.func4, Try.ntmps4
    go_wp2_with fail
    refine (szConstraint_any Ax0 nx0 capx0 bd0 _ _ hnx0 (by omega) (by omega)).mono ?_
    rintro e w1 ⟨rfl, hE1⟩
    have hC1 : Ext w w1 := (((Ext.refl _).alloc _).alloc _).trans hE1
    have ze1 := hC1.size
    obtain ⟨B_x0, B_x1⟩ := Blk.of2 hE1
    have zb_x0 := B_x0.lt
    have zb_x1 := B_x1.lt
    have L_x1 := B_x1
    have c_x1_0 := L_x1.cell 0
    have c_x1_1 := L_x1.cell 1
    clear L_x1
    go_wp2_with fail
    refine (szConstraint_any Ax1 nx1 capx1 bd1 _ _ hnx1 (by omega) (by omega)).mono ?_
    rintro e w2 ⟨rfl, hE2⟩
    have hC2 : Ext w1 w2 := hE2
    have ze2 := hC2.size
    clear c_x1_0 c_x1_1
    go_wp2
    go_ret
    exact ⟨rfl, (hC1.trans hC2)⟩
  have nb1 : 0 ≤ szB nx1 (szB nx0 1048576) := by omega
  have ms1 : nx1 ≤ 1048576 := szB_small nx1 (szB nx0 1048576) (by omega) hb1
  clear hb1
  go_enter Try.func4, Try.ntmps4
  go_wp2_with fail
  refine (szConstraint_any Ax0 nx0 capx0 bd0 _ _ hnx0 (by omega) (by omega)).mono ?_
  rintro e w1 ⟨rfl, hE1⟩
  have hC1 : Ext w w1 := (((Ext.refl _).alloc _).alloc _).trans hE1
  have ze1 := hC1.size
  obtain ⟨B_x0, B_x1⟩ := Blk.of2 hE1
  have zb_x0 := B_x0.lt
  have zb_x1 := B_x1.lt
  have L_x1 := B_x1
  have c_x1_0 := L_x1.cell 0
  have c_x1_1 := L_x1.cell 1
  clear L_x1
  go_wp2_with fail
  refine (szConstraint_any Ax1 nx1 capx1 bd1 _ _ hnx1 (by omega) (by omega)).mono ?_
  rintro e w2 ⟨rfl, hE2⟩
  have hC2 : Ext w1 w2 := hE2
  have ze2 := hC2.size
  clear c_x1_0 c_x1_1
  have L_x0 := (B_x0.ext hC2)
  have L_x1 := (B_x1.ext hC2)
  have KS : Hid (∀ X, Ext w2 X → (X.cell? ⟨w.heap.size, 0, none⟩ = some (.slice Ax0 nx0 capx0) ∧ X.cell? ⟨w.heap.size, 1, none⟩ = some (.int .i64 bd0) ∧ X.cell? ⟨w.heap.size + 1, 0, none⟩ = some (.slice Ax1 nx1 capx1) ∧ X.cell? ⟨w.heap.size + 1, 1, none⟩ = some (.int .i64 bd1))) := fun X e => ⟨(L_x0.ext e).cell 0, (L_x0.ext e).cell 1, (L_x1.ext e).cell 0, (L_x1.ext e).cell 1⟩
  clear L_x0 L_x1
  go_wp2_with fail
  refine region_cont (fun X => X.cell? ⟨w.heap.size, 0, none⟩ = some (.slice Ax0 nx0 capx0) ∧ X.cell? ⟨w.heap.size, 1, none⟩ = some (.int .i64 bd0) ∧ X.cell? ⟨w.heap.size + 1, 0, none⟩ = some (.slice Ax1 nx1 capx1) ∧ X.cell? ⟨w.heap.size + 1, 1, none⟩ = some (.int .i64 bd1)) 10 (by kernel_rfl) (fun a a' X => ∃ (gr : Nat) (A : Option Addr) (n cap : Nat) (v1 v2 : Value), a' = (Act.put (Act.put (Act.put (Act.put (Act.put (Act.put (Act.put (Act.put (Act.put (Act.put a (some 28) (.agg #[.slice Ax0 nx0 capx0, .int .i64 bd0])) (some 29) (v1)) (some 30) (.agg #[.slice Ax1 nx1 capx1, .int .i64 bd1])) (some 31) (v2)) (some 32) (.tuple #[.agg #[.slice A n cap, .int .i64 (adD zs0 bd0 zs1 bd1)], .bool (adB zs0 bd0 zs1 bd1)])) (some 27) (.tuple #[.agg #[.slice A n cap, .int .i64 (adD zs0 bd0 zs1 bd1)], .bool (adB zs0 bd0 zs1 bd1)])) (some 33) (.agg #[.slice A n cap, .int .i64 (adD zs0 bd0 zs1 bd1)])) (some 34) (.bool (adB zs0 bd0 zs1 bd1))) (some 6) (.pointer (some ⟨gr, 0, none⟩))) (some 7) (.bool (adB zs0 bd0 zs1 bd1))) ∧ Ext w2 X ∧ Blk X gr 26 #[.slice A n cap, .int .i64 (adD zs0 bd0 zs1 bd1)] ∧ (adT zs0 bd0 zs1 bd1).length = n ∧ Got w2 X 2 A n (encT (adT zs0 bd0 zs1 bd1))) (fun _ _ _ _ _ h => h) ?_ ?_
  · intro Q' hP hQ
    have hS0 := KS.out _ (Ext.refl w2).drew
    refine wpAnyZ_take 0 (v := ?_) (by kernel_rfl) rfl rfl (by kernel_rfl) (by kernel_rfl) (by kernel_rfl) (fun c a w h => hP c a w _ _ h) hS0 (Or.inl ⟨by rfl, ?_⟩) ?_
    rotate_left
    · (intro w hSw; (try dsimp only at hSw); go_simp; (try with_reducible rfl))
    try simp only [Act.put, List.setIfInBounds_toArray, List.set_cons_zero, List.set_cons_succ]
    refine wpAnyZ_take 2 (v := ?_) (by kernel_rfl) rfl rfl (by kernel_rfl) (by kernel_rfl) (by kernel_rfl) (fun c a w h => hP c a w _ _ h) hS0 (Or.inl ⟨by rfl, ?_⟩) ?_
    rotate_left
    · (intro w hSw; (try dsimp only at hSw); go_simp; (try with_reducible rfl))
    try simp only [Act.put, List.setIfInBounds_toArray, List.set_cons_zero, List.set_cons_succ]
    have E0x : Ext w2 w2.drew := (Ext.refl _).drew
    have sg0 := (sx0.ext (hC1.trans hC2))
    have sg1 := (sx1.ext (hC1.trans hC2))
    refine wpAnyZ_two 1 8 (by kernel_rfl) rfl rfl rfl rfl (fun K hK => ?_) (fun K hK => ?_)
    · go_simp
      refine (toConstraint_any Ax0 nx0 capx0 zs0 bd0 _ ms0 (sg0.ext E0x)).mono ?_
      rintro e X1 ⟨A1x, n1x, cap1x, rfl, hl1x, hG1x, hE1x⟩
      have hn1x : n1x ≤ maxLen := by rw [← hl1x, HL0.out]; unfold maxLen; omega
      have E1x := E0x.trans hE1x
      refine hK.out _ _ (KS.out _ E1x) ?_
      clear hK K
      try simp only [Act.put, List.setIfInBounds_toArray, List.set_cons_zero, List.set_cons_succ]
      refine wpAnyZ_two 3 8 (by kernel_rfl) rfl rfl rfl rfl (fun K hK => ?_) (fun K hK => ?_)
      · go_simp
        refine (toConstraint_any Ax1 nx1 capx1 zs1 bd1 _ ms1 (sg1.ext E1x)).mono ?_
        rintro e X2 ⟨A2x, n2x, cap2x, rfl, hl2x, hG2x, hE2x⟩
        have hn2x : n2x ≤ maxLen := by rw [← hl2x, HL1.out]; unfold maxLen; omega
        have E2x := E1x.trans hE2x
        refine hK.out _ _ (KS.out _ E2x) ?_
        clear hK K
        try simp only [Act.put, List.setIfInBounds_toArray, List.set_cons_zero, List.set_cons_succ]
        refine wpAnyZ_two 4 8 (by kernel_rfl) rfl rfl rfl rfl (fun K hK => ?_) (fun K hK => ?_)
        · go_simp
          have E3b := E2x
          refine (specAdd_any A1x n1x cap1x zs0 bd0 A2x n2x cap2x zs1 bd1 _ hn1x (hG1x.seg.ext (hE2x)) hn2x hG2x.seg).mono ?_
          rintro e X3 ⟨A3x, n3x, cap3x, rfl, hl3x, hG3x, hE3x⟩
          have E3x := E2x.trans hE3x
          refine hK.out _ _ (KS.out _ E3x) ?_
          clear hK K
          try simp only [Act.put, List.setIfInBounds_toArray, List.set_cons_zero, List.set_cons_succ]
          have hSe := KS.out _ E3x
          refine wpAnyZ_take 5 (v := ?_) (by kernel_rfl) rfl rfl (by kernel_rfl) (by kernel_rfl) (by kernel_rfl) (fun c a w h => hP c a w _ _ h) hSe (Or.inl ⟨by rfl, ?_⟩) ?_
          rotate_left
          · (intro w hSw; (try dsimp only at hSw); go_simp; (try with_reducible rfl))
          try simp only [Act.put, List.setIfInBounds_toArray, List.set_cons_zero, List.set_cons_succ]
          refine wpAnyZ_take 6 (v := ?_) (by kernel_rfl) rfl rfl (by kernel_rfl) (by kernel_rfl) (by kernel_rfl) (fun c a w h => hP c a w _ _ h) hSe (Or.inl ⟨by rfl, ?_⟩) ?_
          rotate_left
          · (intro w hSw; (try dsimp only at hSw); go_simp; (try with_reducible rfl))
          try simp only [Act.put, List.setIfInBounds_toArray, List.set_cons_zero, List.set_cons_succ]
          refine wpAnyZ_take 7 (v := ?_) (by kernel_rfl) rfl rfl (by kernel_rfl) (by kernel_rfl) (by kernel_rfl) (fun c a w h => hP c a w _ _ h) hSe (Or.inl ⟨by rfl, ?_⟩) ?_
          rotate_left
          · (intro w hSw; (try dsimp only at hSw); go_simp; (try with_reducible rfl))
          try simp only [Act.put, List.setIfInBounds_toArray, List.set_cons_zero, List.set_cons_succ]
          refine wpAnyZ_one 8 (by kernel_rfl) rfl rfl (fun K hK => ?_)
          go_simp
          refine hK.out _ _ (KS.out _ (E3x.alloc _)) ?_
          clear hK K
          try simp only [Act.put, List.setIfInBounds_toArray, List.set_cons_zero, List.set_cons_succ]
          refine wpAnyZ_one 9 (by kernel_rfl) rfl rfl (fun K hK => ?_)
          go_simp
          refine hK.out _ _ (KS.out _ (E3x.alloc _)) ?_
          clear hK K
          try simp only [Act.put, List.setIfInBounds_toArray, List.set_cons_zero, List.set_cons_succ]
          refine wpAnyZ_last (by kernel_rfl) (by kernel_rfl) rfl rfl (fun K hK => ?_)
          go_simp
          refine hK.out _ _ (hQ.out _ _ ⟨X3.heap.size, A3x, n3x, cap3x, .agg #[.slice A1x n1x cap1x, .int .i64 bd0], .agg #[.slice A2x n2x cap2x, .int .i64 bd1], (by simp only [Act.put, List.setIfInBounds_toArray, List.set_cons_zero, List.set_cons_succ]), E3x.alloc _, Blk.new _ _ _, hl3x, (hG3x.from_ E3b).later ((Ext.refl _).alloc _)⟩)
        · go_simp
          have EBx := (E2x.alloc (.cells #[.slice none 0 0, .int .i64 0] 26))
          refine hK.out _ _ (KS.out _ EBx) ?_
          clear hK K
          try simp only [Act.put, List.setIfInBounds_toArray, List.set_cons_zero, List.set_cons_succ]
          refine wpAnyZ_one 4 (by kernel_rfl) rfl rfl (fun K hK => ?_)
          go_simp
          have E3b := EBx
          have hzb := (Blk.new X2 26 #[.slice none 0 0, .int .i64 0]).lt
          refine (specAdd_any A1x n1x cap1x zs0 bd0 A2x n2x cap2x zs1 bd1 _ hn1x (hG1x.seg.ext (hE2x.alloc _)) hn2x (hG2x.seg.ext ((Ext.refl _).alloc _))).mono ?_
          rintro e X3 ⟨A3x, n3x, cap3x, rfl, hl3x, hG3x, hE3x⟩
          have E3x := EBx.trans hE3x
          refine hK.out _ _ (KS.out _ E3x) ?_
          clear hK K
          try simp only [Act.put, List.setIfInBounds_toArray, List.set_cons_zero, List.set_cons_succ]
          have hSe := KS.out _ E3x
          refine wpAnyZ_take 5 (v := ?_) (by kernel_rfl) rfl rfl (by kernel_rfl) (by kernel_rfl) (by kernel_rfl) (fun c a w h => hP c a w _ _ h) hSe (Or.inl ⟨by rfl, ?_⟩) ?_
          rotate_left
          · (intro w hSw; (try dsimp only at hSw); go_simp; (try with_reducible rfl))
          try simp only [Act.put, List.setIfInBounds_toArray, List.set_cons_zero, List.set_cons_succ]
          refine wpAnyZ_take 6 (v := ?_) (by kernel_rfl) rfl rfl (by kernel_rfl) (by kernel_rfl) (by kernel_rfl) (fun c a w h => hP c a w _ _ h) hSe (Or.inl ⟨by rfl, ?_⟩) ?_
          rotate_left
          · (intro w hSw; (try dsimp only at hSw); go_simp; (try with_reducible rfl))
          try simp only [Act.put, List.setIfInBounds_toArray, List.set_cons_zero, List.set_cons_succ]
          refine wpAnyZ_take 7 (v := ?_) (by kernel_rfl) rfl rfl (by kernel_rfl) (by kernel_rfl) (by kernel_rfl) (fun c a w h => hP c a w _ _ h) hSe (Or.inl ⟨by rfl, ?_⟩) ?_
          rotate_left
          · (intro w hSw; (try dsimp only at hSw); go_simp; (try with_reducible rfl))
          try simp only [Act.put, List.setIfInBounds_toArray, List.set_cons_zero, List.set_cons_succ]
          have BZ := ((Blk.new X2 26 #[.slice none 0 0, .int .i64 0]).ext hE3x)
          have z0 := BZ.cell 0
          have z1 := BZ.cell 1
          have y0 := BZ.frozen 0
          have y1 := BZ.frozen 1
          have hgr : w2.heap.size ≤ X2.heap.size := by have := E2x.size; exact this
          have EZ : Ext w2 ((X3.setCell ⟨X2.heap.size, 0, none⟩ (.slice A3x n3x cap3x)).setCell ⟨X2.heap.size, 1, none⟩ (.int .i64 (adD zs0 bd0 zs1 bd1))) := (E3x.setNew (p := ⟨X2.heap.size, 0, none⟩) hgr _).setNew (p := ⟨X2.heap.size, 1, none⟩) hgr _
          have KZ : Kept X2.heap.size (X2.heap.size + 1) X3 ((X3.setCell ⟨X2.heap.size, 0, none⟩ (.slice A3x n3x cap3x)).setCell ⟨X2.heap.size, 1, none⟩ (.int .i64 (adD zs0 bd0 zs1 bd1))) := ((Kept.refl _ _ X3).setIn (p := ⟨X2.heap.size, 0, none⟩) (by simp) _).setIn (p := ⟨X2.heap.size, 1, none⟩) (by simp) _
          refine wpAnyZ_one 9 (by kernel_rfl) rfl rfl (fun K hK => ?_)
          go_simp
          refine hK.out _ _ (KS.out _ EZ) ?_
          clear hK K
          try simp only [Act.put, List.setIfInBounds_toArray, List.set_cons_zero, List.set_cons_succ]
          refine wpAnyZ_last (by kernel_rfl) (by kernel_rfl) rfl rfl (fun K hK => ?_)
          go_simp
          refine hK.out _ _ (hQ.out _ _ ⟨X2.heap.size, A3x, n3x, cap3x, .agg #[.slice A1x n1x cap1x, .int .i64 bd0], .agg #[.slice A2x n2x cap2x, .int .i64 bd1], (by simp only [Act.put, List.setIfInBounds_toArray, List.set_cons_zero, List.set_cons_succ]), EZ, (BZ.set_ 0 _).set_ 1 _, hl3x, (hG3x.kept KZ (by omega)).from_ E3b⟩)
      · go_simp
        have EBx := (E1x.alloc (.cells #[.slice none 0 0, .int .i64 0] 26))
        refine hK.out _ _ (KS.out _ EBx) ?_
        clear hK K
        try simp only [Act.put, List.setIfInBounds_toArray, List.set_cons_zero, List.set_cons_succ]
        refine wpAnyZ_one 3 (by kernel_rfl) rfl rfl (fun K hK => ?_)
        go_simp
        refine (toConstraint_any Ax1 nx1 capx1 zs1 bd1 _ ms1 (sg1.ext EBx)).mono ?_
        rintro e X2 ⟨A2x, n2x, cap2x, rfl, hl2x, hG2x, hE2x⟩
        have hn2x : n2x ≤ maxLen := by rw [← hl2x, HL1.out]; unfold maxLen; omega
        have E2x := EBx.trans hE2x
        refine hK.out _ _ (KS.out _ E2x) ?_
        clear hK K
        try simp only [Act.put, List.setIfInBounds_toArray, List.set_cons_zero, List.set_cons_succ]
        refine wpAnyZ_one 4 (by kernel_rfl) rfl rfl (fun K hK => ?_)
        go_simp
        have E3b := E2x
        have hzb := ((Blk.new X1 26 #[.slice none 0 0, .int .i64 0]).ext hE2x).lt
        refine (specAdd_any A1x n1x cap1x zs0 bd0 A2x n2x cap2x zs1 bd1 _ hn1x (hG1x.seg.ext (((Ext.refl _).alloc _).trans hE2x)) hn2x hG2x.seg).mono ?_
        rintro e X3 ⟨A3x, n3x, cap3x, rfl, hl3x, hG3x, hE3x⟩
        have E3x := E2x.trans hE3x
        refine hK.out _ _ (KS.out _ E3x) ?_
        clear hK K
        try simp only [Act.put, List.setIfInBounds_toArray, List.set_cons_zero, List.set_cons_succ]
        have hSe := KS.out _ E3x
        refine wpAnyZ_take 5 (v := ?_) (by kernel_rfl) rfl rfl (by kernel_rfl) (by kernel_rfl) (by kernel_rfl) (fun c a w h => hP c a w _ _ h) hSe (Or.inl ⟨by rfl, ?_⟩) ?_
        rotate_left
        · (intro w hSw; (try dsimp only at hSw); go_simp; (try with_reducible rfl))
        try simp only [Act.put, List.setIfInBounds_toArray, List.set_cons_zero, List.set_cons_succ]
        refine wpAnyZ_take 6 (v := ?_) (by kernel_rfl) rfl rfl (by kernel_rfl) (by kernel_rfl) (by kernel_rfl) (fun c a w h => hP c a w _ _ h) hSe (Or.inl ⟨by rfl, ?_⟩) ?_
        rotate_left
        · (intro w hSw; (try dsimp only at hSw); go_simp; (try with_reducible rfl))
        try simp only [Act.put, List.setIfInBounds_toArray, List.set_cons_zero, List.set_cons_succ]
        refine wpAnyZ_take 7 (v := ?_) (by kernel_rfl) rfl rfl (by kernel_rfl) (by kernel_rfl) (by kernel_rfl) (fun c a w h => hP c a w _ _ h) hSe (Or.inl ⟨by rfl, ?_⟩) ?_
        rotate_left
        · (intro w hSw; (try dsimp only at hSw); go_simp; (try with_reducible rfl))
        try simp only [Act.put, List.setIfInBounds_toArray, List.set_cons_zero, List.set_cons_succ]
        have BZ := (((Blk.new X1 26 #[.slice none 0 0, .int .i64 0]).ext hE2x).ext hE3x)
        have z0 := BZ.cell 0
        have z1 := BZ.cell 1
        have y0 := BZ.frozen 0
        have y1 := BZ.frozen 1
        have hgr : w2.heap.size ≤ X1.heap.size := by have := E1x.size; exact this
        have EZ : Ext w2 ((X3.setCell ⟨X1.heap.size, 0, none⟩ (.slice A3x n3x cap3x)).setCell ⟨X1.heap.size, 1, none⟩ (.int .i64 (adD zs0 bd0 zs1 bd1))) := (E3x.setNew (p := ⟨X1.heap.size, 0, none⟩) hgr _).setNew (p := ⟨X1.heap.size, 1, none⟩) hgr _
        have KZ : Kept X1.heap.size (X1.heap.size + 1) X3 ((X3.setCell ⟨X1.heap.size, 0, none⟩ (.slice A3x n3x cap3x)).setCell ⟨X1.heap.size, 1, none⟩ (.int .i64 (adD zs0 bd0 zs1 bd1))) := ((Kept.refl _ _ X3).setIn (p := ⟨X1.heap.size, 0, none⟩) (by simp) _).setIn (p := ⟨X1.heap.size, 1, none⟩) (by simp) _
        refine wpAnyZ_one 9 (by kernel_rfl) rfl rfl (fun K hK => ?_)
        go_simp
        refine hK.out _ _ (KS.out _ EZ) ?_
        clear hK K
        try simp only [Act.put, List.setIfInBounds_toArray, List.set_cons_zero, List.set_cons_succ]
        refine wpAnyZ_last (by kernel_rfl) (by kernel_rfl) rfl rfl (fun K hK => ?_)
        go_simp
        refine hK.out _ _ (hQ.out _ _ ⟨X1.heap.size, A3x, n3x, cap3x, .agg #[.slice A1x n1x cap1x, .int .i64 bd0], .agg #[.slice A2x n2x cap2x, .int .i64 bd1], (by simp only [Act.put, List.setIfInBounds_toArray, List.set_cons_zero, List.set_cons_succ]), EZ, (BZ.set_ 0 _).set_ 1 _, hl3x, (hG3x.kept KZ (by omega)).from_ E3b⟩)
    · go_simp
      have EBx := (E0x.alloc (.cells #[.slice none 0 0, .int .i64 0] 26))
      refine hK.out _ _ (KS.out _ EBx) ?_
      clear hK K
      try simp only [Act.put, List.setIfInBounds_toArray, List.set_cons_zero, List.set_cons_succ]
      refine wpAnyZ_one 1 (by kernel_rfl) rfl rfl (fun K hK => ?_)
      go_simp
      refine (toConstraint_any Ax0 nx0 capx0 zs0 bd0 _ ms0 (sg0.ext EBx)).mono ?_
      rintro e X1 ⟨A1x, n1x, cap1x, rfl, hl1x, hG1x, hE1x⟩
      have hn1x : n1x ≤ maxLen := by rw [← hl1x, HL0.out]; unfold maxLen; omega
      have E1x := EBx.trans hE1x
      refine hK.out _ _ (KS.out _ E1x) ?_
      clear hK K
      try simp only [Act.put, List.setIfInBounds_toArray, List.set_cons_zero, List.set_cons_succ]
      refine wpAnyZ_one 3 (by kernel_rfl) rfl rfl (fun K hK => ?_)
      go_simp
      refine (toConstraint_any Ax1 nx1 capx1 zs1 bd1 _ ms1 (sg1.ext E1x)).mono ?_
      rintro e X2 ⟨A2x, n2x, cap2x, rfl, hl2x, hG2x, hE2x⟩
      have hn2x : n2x ≤ maxLen := by rw [← hl2x, HL1.out]; unfold maxLen; omega
      have E2x := E1x.trans hE2x
      refine hK.out _ _ (KS.out _ E2x) ?_
      clear hK K
      try simp only [Act.put, List.setIfInBounds_toArray, List.set_cons_zero, List.set_cons_succ]
      refine wpAnyZ_one 4 (by kernel_rfl) rfl rfl (fun K hK => ?_)
      go_simp
      have E3b := E2x
      have hzb := (((show Blk (w2.drew.alloc (.cells #[.slice none 0 0, .int .i64 0] 26)) w2.heap.size 26 #[.slice none 0 0, .int .i64 0] from Blk.new w2.drew _ _).ext hE1x).ext hE2x).lt
      refine (specAdd_any A1x n1x cap1x zs0 bd0 A2x n2x cap2x zs1 bd1 _ hn1x (hG1x.seg.ext hE2x) hn2x hG2x.seg).mono ?_
      rintro e X3 ⟨A3x, n3x, cap3x, rfl, hl3x, hG3x, hE3x⟩
      have E3x := E2x.trans hE3x
      refine hK.out _ _ (KS.out _ E3x) ?_
      clear hK K
      try simp only [Act.put, List.setIfInBounds_toArray, List.set_cons_zero, List.set_cons_succ]
      have hSe := KS.out _ E3x
      refine wpAnyZ_take 5 (v := ?_) (by kernel_rfl) rfl rfl (by kernel_rfl) (by kernel_rfl) (by kernel_rfl) (fun c a w h => hP c a w _ _ h) hSe (Or.inl ⟨by rfl, ?_⟩) ?_
      rotate_left
      · (intro w hSw; (try dsimp only at hSw); go_simp; (try with_reducible rfl))
      try simp only [Act.put, List.setIfInBounds_toArray, List.set_cons_zero, List.set_cons_succ]
      refine wpAnyZ_take 6 (v := ?_) (by kernel_rfl) rfl rfl (by kernel_rfl) (by kernel_rfl) (by kernel_rfl) (fun c a w h => hP c a w _ _ h) hSe (Or.inl ⟨by rfl, ?_⟩) ?_
      rotate_left
      · (intro w hSw; (try dsimp only at hSw); go_simp; (try with_reducible rfl))
      try simp only [Act.put, List.setIfInBounds_toArray, List.set_cons_zero, List.set_cons_succ]
      refine wpAnyZ_take 7 (v := ?_) (by kernel_rfl) rfl rfl (by kernel_rfl) (by kernel_rfl) (by kernel_rfl) (fun c a w h => hP c a w _ _ h) hSe (Or.inl ⟨by rfl, ?_⟩) ?_
      rotate_left
      · (intro w hSw; (try dsimp only at hSw); go_simp; (try with_reducible rfl))
      try simp only [Act.put, List.setIfInBounds_toArray, List.set_cons_zero, List.set_cons_succ]
      have BZ := ((((show Blk (w2.drew.alloc (.cells #[.slice none 0 0, .int .i64 0] 26)) w2.heap.size 26 #[.slice none 0 0, .int .i64 0] from Blk.new w2.drew _ _).ext hE1x).ext hE2x).ext hE3x)
      have z0 := BZ.cell 0
      have z1 := BZ.cell 1
      have y0 := BZ.frozen 0
      have y1 := BZ.frozen 1
      have hgr : w2.heap.size ≤ w2.heap.size := by have := E0x.size; exact Nat.le_refl _
      have EZ : Ext w2 ((X3.setCell ⟨w2.heap.size, 0, none⟩ (.slice A3x n3x cap3x)).setCell ⟨w2.heap.size, 1, none⟩ (.int .i64 (adD zs0 bd0 zs1 bd1))) := (E3x.setNew (p := ⟨w2.heap.size, 0, none⟩) hgr _).setNew (p := ⟨w2.heap.size, 1, none⟩) hgr _
      have KZ : Kept w2.heap.size (w2.heap.size + 1) X3 ((X3.setCell ⟨w2.heap.size, 0, none⟩ (.slice A3x n3x cap3x)).setCell ⟨w2.heap.size, 1, none⟩ (.int .i64 (adD zs0 bd0 zs1 bd1))) := ((Kept.refl _ _ X3).setIn (p := ⟨w2.heap.size, 0, none⟩) (by simp) _).setIn (p := ⟨w2.heap.size, 1, none⟩) (by simp) _
      refine wpAnyZ_one 9 (by kernel_rfl) rfl rfl (fun K hK => ?_)
      go_simp
      refine hK.out _ _ (KS.out _ EZ) ?_
      clear hK K
      try simp only [Act.put, List.setIfInBounds_toArray, List.set_cons_zero, List.set_cons_succ]
      refine wpAnyZ_last (by kernel_rfl) (by kernel_rfl) rfl rfl (fun K hK => ?_)
      go_simp
      refine hK.out _ _ (hQ.out _ _ ⟨w2.heap.size, A3x, n3x, cap3x, .agg #[.slice A1x n1x cap1x, .int .i64 bd0], .agg #[.slice A2x n2x cap2x, .int .i64 bd1], (by simp only [Act.put, List.setIfInBounds_toArray, List.set_cons_zero, List.set_cons_succ]), EZ, (BZ.set_ 0 _).set_ 1 _, hl3x, (hG3x.kept KZ (by omega)).from_ E3b⟩)
  rintro a' w3 ⟨gr3, A3, n3, cap3, v13, v23, rfl, hE3, B_x2, hl3, hG3⟩
  try simp only [Act.put, List.setIfInBounds_toArray, List.set_cons_zero, List.set_cons_succ]
  have hL3 := hG3.lies.wide (lo' := w2.heap.size) (by simp) (Nat.le_refl _)
  have hs3 : n3 ≤ 1048576 := (by rw [← hl3]; exact adT_len zs0 bd0 zs1 bd1)
  have hn3 : n3 ≤ maxLen := (Nat.le_trans hs3 (by unfold maxLen; omega))
  have hC3 : Ext w2 w3 := hE3
  have ze3 := hC3.size
  have zb_x2 := B_x2.lt
  clear KS
  have L_x0 := (B_x0.ext (hC2.trans hC3))
  have c_x0_0 := L_x0.cell 0
  have c_x0_1 := L_x0.cell 1
  clear L_x0
  have L_x1 := (B_x1.ext (hC2.trans hC3))
  have c_x1_0 := L_x1.cell 0
  have c_x1_1 := L_x1.cell 1
  clear L_x1
  go_wp2_with fail
  refine (toConstraint_any Ax0 nx0 capx0 zs0 bd0 _ ms0 (sx0.ext ((hC1.trans hC2).trans hC3))).mono ?_
  rintro e w4 ⟨A4, n4, cap4, rfl, hl4, hG4, hE4⟩
  have hC4 : Ext w3 w4 := hE4
  have ze4 := hC4.size
  clear c_x0_0 c_x0_1 c_x1_0 c_x1_1
  have hL4 := hG4.lies.wide (lo' := w3.heap.size) (by simp) (Nat.le_refl _)
  have hs4 : n4 ≤ 1048576 := (by rw [← hl4, HL0.out]; exact ms0)
  have hn4 : n4 ≤ maxLen := (Nat.le_trans hs4 (by unfold maxLen; omega))
  have L_x1 := (B_x1.ext ((hC2.trans hC3).trans hC4))
  have c_x1_0 := L_x1.cell 0
  have c_x1_1 := L_x1.cell 1
  have l_x1 := L_x1.lt
  clear L_x1
  go_wp2_with fail
  refine (toConstraint_any Ax1 nx1 capx1 zs1 bd1 _ ms1 ((sx1.ext (((hC1.trans hC2).trans hC3).trans hC4)).ext ((Ext.refl _).alloc _))).mono ?_
  rintro e w5 ⟨A5, n5, cap5, rfl, hl5, hG5, hE5⟩
  have hC5 : Ext w4 w5 := ((Ext.refl _).alloc _).trans hE5
  have ze5 := hC5.size
  have B_x3 := Blk.of1 hE5
  have zb_x3 := B_x3.lt
  clear c_x1_0 c_x1_1 l_x1
  have hL5 := hG5.lies.wide (lo' := w4.heap.size + 1) (by simp) (Nat.le_refl _)
  have hs5 : n5 ≤ 1048576 := (by rw [← hl5, HL1.out]; exact ms1)
  have hn5 : n5 ≤ maxLen := (Nat.le_trans hs5 (by unfold maxLen; omega))
  have L_x3 := B_x3
  have c_x3_0 := L_x3.cell 0
  have c_x3_1 := L_x3.cell 1
  have l_x3 := L_x3.lt
  clear L_x3
  go_wp2_with fail
  refine (implAdd_any A4 n4 cap4 zs0 bd0 A5 n5 cap5 zs1 bd1 _ hn4 ((hG4.seg.ext hC5).ext ((Ext.refl _).alloc _)) hn5 (hG5.seg.ext ((Ext.refl _).alloc _))).mono ?_
  rintro e w6 ⟨A6, n6, cap6, rfl, hl6, hG6, hE6⟩
  have hC6 : Ext w5 w6 := ((Ext.refl _).alloc _).trans hE6
  have ze6 := hC6.size
  have B_x4 := Blk.of1 hE6
  have zb_x4 := B_x4.lt
  clear c_x3_0 c_x3_1 l_x3
  have hL6 := hG6.lies.wide (lo' := w5.heap.size + 1) (by simp) (Nat.le_refl _)
  have hs6 : n6 ≤ 1048576 := (by rw [← hl6]; exact adT_len zs0 bd0 zs1 bd1)
  have hn6 : n6 ≤ maxLen := (Nat.le_trans hs6 (by unfold maxLen; omega))
  have L_x2 := (B_x2.ext ((hC4.trans hC5).trans hC6))
  have c_x2_0 := L_x2.cell 0
  have c_x2_1 := L_x2.cell 1
  have l_x2 := L_x2.lt
  clear L_x2
  go_wp2_with fail
  have hq7 : cEq (adT zs0 bd0 zs1 bd1) (adT zs0 bd0 zs1 bd1) (adD zs0 bd0 zs1 bd1) (adD zs0 bd0 zs1 bd1) = true := cEq_self _ _
  refine (eqConstraint_any A6 A3 n6 n3 cap6 cap3 (adT zs0 bd0 zs1 bd1) (adT zs0 bd0 zs1 bd1) (adD zs0 bd0 zs1 bd1) (adD zs0 bd0 zs1 bd1) _ hn6 hn3 (hG6.seg.ext ((Ext.refl _).alloc _)) ((hG3.seg.ext ((hC4.trans hC5).trans hC6)).ext ((Ext.refl _).alloc _))).mono ?_
  rintro e w7 ⟨rfl, hE7⟩
  have hC7 : Ext w6 w7 := ((Ext.refl _).alloc _).trans hE7
  have ze7 := hC7.size
  have B_x5 := Blk.of1 hE7
  have zb_x5 := B_x5.lt
  clear c_x2_0 c_x2_1 l_x2
  have L_x3 := (B_x3.ext (hC6.trans hC7))
  have L_x0 := (B_x0.ext (((((hC2.trans hC3).trans hC4).trans hC5).trans hC6).trans hC7))
  have KS : Hid (∀ w', Ext w7 w' → (w'.cell? ⟨w4.heap.size, 0, none⟩ = some (.slice A4 n4 cap4) ∧ w'.cell? ⟨w4.heap.size, 1, none⟩ = some (.int .i64 bd0) ∧ w'.cell? ⟨w.heap.size, 0, none⟩ = some (.slice Ax0 nx0 capx0) ∧ w'.cell? ⟨w.heap.size, 1, none⟩ = some (.int .i64 bd0))) := fun w' e => ⟨e.cell (L_x3.cell 0), e.cell (L_x3.cell 1), e.cell (L_x0.cell 0), e.cell (L_x0.cell 1)⟩
  have e1 : Ext w7 w7.drew := (Ext.refl _).drew
  clear L_x3 L_x0
  have hq9 : cEq zs0 zs0 bd0 bd0 = true := cEq_self _ _
  go_wp2_with fail
  go_region_held3 (fun w' => w'.cell? ⟨w4.heap.size, 0, none⟩ = some (.slice A4 n4 cap4) ∧ w'.cell? ⟨w4.heap.size, 1, none⟩ = some (.int .i64 bd0) ∧ w'.cell? ⟨w.heap.size, 0, none⟩ = some (.slice Ax0 nx0 capx0) ∧ w'.cell? ⟨w.heap.size, 1, none⟩ = some (.int .i64 bd0))
    ((refine KS.out _ ?_; first | exact e1 | exact (e1.trans hE8) | exact ((e1.trans hE8).trans hE9)))
    ((first | (go_at_call_of 19 (Ax0); refine (toConstraint_any Ax0 nx0 capx0 zs0 bd0 _ ms0 ((sx0.ext ((((((hC1.trans hC2).trans hC3).trans hC4).trans hC5).trans hC6).trans hC7)).ext e1)).mono ?_; rintro e w8 ⟨A8, n8, cap8, rfl, hl8, hG8, hE8⟩; have hL8 := hG8.lies.wide (lo' := w7.heap.size) (by simp) (Nat.le_refl _); have hs8 : n8 ≤ 1048576 := (by rw [← hl8, HL0.out]; exact ms0); have hn8 : n8 ≤ maxLen := (Nat.le_trans hs8 (by unfold maxLen; omega))) | (go_at_call_of 12 (A4); refine (eqConstraint_any A4 A8 n4 n8 cap4 cap8 zs0 zs0 bd0 bd0 _ hn4 hn8 ((hG4.seg.ext ((hC5.trans hC6).trans hC7)).ext (e1.trans hE8)) hG8.seg).mono ?_; rintro e w9 ⟨rfl, hE9⟩)))
  have hC8 : Ext w7 w8 := e1.trans hE8
  have ze8 := hC8.size
  have hC9 : Ext w8 w9 := hE9
  have ze9 := hC9.size
  clear KS e1
  have L_x4 := (B_x4.ext ((hC7.trans hC8).trans hC9))
  have L_x1 := (B_x1.ext (((((((hC2.trans hC3).trans hC4).trans hC5).trans hC6).trans hC7).trans hC8).trans hC9))
  have KS : Hid (∀ w', Ext w9 w' → (w'.cell? ⟨w5.heap.size, 0, none⟩ = some (.slice A5 n5 cap5) ∧ w'.cell? ⟨w5.heap.size, 1, none⟩ = some (.int .i64 bd1) ∧ w'.cell? ⟨w.heap.size + 1, 0, none⟩ = some (.slice Ax1 nx1 capx1) ∧ w'.cell? ⟨w.heap.size + 1, 1, none⟩ = some (.int .i64 bd1))) := fun w' e => ⟨e.cell (L_x4.cell 0), e.cell (L_x4.cell 1), e.cell (L_x1.cell 0), e.cell (L_x1.cell 1)⟩
  have e1 : Ext w9 w9.drew := (Ext.refl _).drew
  clear L_x4 L_x1
  have hq11 : cEq zs1 zs1 bd1 bd1 = true := cEq_self _ _
  go_wp2_with fail
  go_region_held3 (fun w' => w'.cell? ⟨w5.heap.size, 0, none⟩ = some (.slice A5 n5 cap5) ∧ w'.cell? ⟨w5.heap.size, 1, none⟩ = some (.int .i64 bd1) ∧ w'.cell? ⟨w.heap.size + 1, 0, none⟩ = some (.slice Ax1 nx1 capx1) ∧ w'.cell? ⟨w.heap.size + 1, 1, none⟩ = some (.int .i64 bd1))
    ((refine KS.out _ ?_; first | exact e1 | exact (e1.trans hE10) | exact ((e1.trans hE10).trans hE11)))
    ((first | (go_at_call_of 19 (Ax1); refine (toConstraint_any Ax1 nx1 capx1 zs1 bd1 _ ms1 ((sx1.ext ((((((((hC1.trans hC2).trans hC3).trans hC4).trans hC5).trans hC6).trans hC7).trans hC8).trans hC9)).ext e1)).mono ?_; rintro e w10 ⟨A10, n10, cap10, rfl, hl10, hG10, hE10⟩; have hL10 := hG10.lies.wide (lo' := w9.heap.size) (by simp) (Nat.le_refl _); have hs10 : n10 ≤ 1048576 := (by rw [← hl10, HL1.out]; exact ms1); have hn10 : n10 ≤ maxLen := (Nat.le_trans hs10 (by unfold maxLen; omega))) | (go_at_call_of 12 (A5); refine (eqConstraint_any A5 A10 n5 n10 cap5 cap10 zs1 zs1 bd1 bd1 _ hn5 hn10 ((hG5.seg.ext (((hC6.trans hC7).trans hC8).trans hC9)).ext (e1.trans hE10)) hG10.seg).mono ?_; rintro e w11 ⟨rfl, hE11⟩)))
  have hC10 : Ext w9 w10 := e1.trans hE10
  have ze10 := hC10.size
  have hC11 : Ext w10 w11 := hE11
  have ze11 := hC11.size
  clear KS e1
  have L_x3 := (B_x3.ext (((((hC6.trans hC7).trans hC8).trans hC9).trans hC10).trans hC11))
  have c_x3_0 := L_x3.cell 0
  have c_x3_1 := L_x3.cell 1
  clear L_x3
  go_wp2_with fail
  refine (markConstraint_any A4 n4 cap4 zs0 bd0 1 _ w3.heap.size w4.heap.size hs4 (by omega) (by omega) (hG4.seg.ext ((((((hC5.trans hC6).trans hC7).trans hC8).trans hC9).trans hC10).trans hC11)) (Free.ext (Free.ext (Free.ext (Free.ext (Free.ext (Free.ext (Free.ext hG4.free hG4.seg hC5) (hG4.seg.ext hC5) hC6) ((hG4.seg.ext hC5).ext hC6) hC7) (((hG4.seg.ext hC5).ext hC6).ext hC7) hC8) ((((hG4.seg.ext hC5).ext hC6).ext hC7).ext hC8) hC9) (((((hG4.seg.ext hC5).ext hC6).ext hC7).ext hC8).ext hC9) hC10) ((((((hG4.seg.ext hC5).ext hC6).ext hC7).ext hC8).ext hC9).ext hC10) hC11) hL4).mono ?_
  rintro e w12 ⟨rfl, hS12, hF12, hE12⟩
  have hC12 : Kept w3.heap.size w4.heap.size w11 w12 := hE12
  have ze12 := hC12.size
  clear c_x3_0 c_x3_1
  have hp12 : ¬ (1 + 2 * (n4 : Int) < 0) := (by omega)
  have L_x4 := ((B_x4.ext ((((hC7.trans hC8).trans hC9).trans hC10).trans hC11)).kept hC12 (by omega))
  have c_x4_0 := L_x4.cell 0
  have c_x4_1 := L_x4.cell 1
  clear L_x4
  go_wp2_with fail
  refine (markConstraint_any A5 n5 cap5 zs1 bd1 (1 + 2 * (n4 : Int)) _ (w4.heap.size + 1) w5.heap.size hs5 (by omega) (by omega) ((hG5.seg.ext (((((hC6.trans hC7).trans hC8).trans hC9).trans hC10).trans hC11)).kept hL5 hC12 (by omega)) (Free.kept (Free.ext (Free.ext (Free.ext (Free.ext (Free.ext (Free.ext hG5.free hG5.seg hC6) (hG5.seg.ext hC6) hC7) ((hG5.seg.ext hC6).ext hC7) hC8) (((hG5.seg.ext hC6).ext hC7).ext hC8) hC9) ((((hG5.seg.ext hC6).ext hC7).ext hC8).ext hC9) hC10) (((((hG5.seg.ext hC6).ext hC7).ext hC8).ext hC9).ext hC10) hC11) ((((((hG5.seg.ext hC6).ext hC7).ext hC8).ext hC9).ext hC10).ext hC11) hL5 hC12 (by omega)) hL5).mono ?_
  rintro e w13 ⟨rfl, hS13, hF13, hE13⟩
  have hC13 : Kept (w4.heap.size + 1) w5.heap.size w12 w13 := hE13
  have ze13 := hC13.size
  clear c_x4_0 c_x4_1
  have hp13 : ¬ ((1 + 2 * (n4 : Int)) + 2 * (n5 : Int) < 0) := (by omega)
  have L_x5 := (((B_x5.ext (((hC8.trans hC9).trans hC10).trans hC11)).kept hC12 (by omega)).kept hC13 (by omega))
  have c_x5_0 := L_x5.cell 0
  have c_x5_1 := L_x5.cell 1
  clear L_x5
  have L_x2 := (((B_x2.ext (((((((hC4.trans hC5).trans hC6).trans hC7).trans hC8).trans hC9).trans hC10).trans hC11)).kept hC12 (by omega)).kept hC13 (by omega))
  have c_x2_0 := L_x2.cell 0
  have c_x2_1 := L_x2.cell 1
  clear L_x2
  go_wp2_with fail
  have hq14 : cEq (adT zs0 bd0 zs1 bd1) (adT zs0 bd0 zs1 bd1) (adD zs0 bd0 zs1 bd1) (adD zs0 bd0 zs1 bd1) = true := cEq_self _ _
  refine (eqConstraint_any A6 A3 n6 n3 cap6 cap3 (adT zs0 bd0 zs1 bd1) (adT zs0 bd0 zs1 bd1) (adD zs0 bd0 zs1 bd1) (adD zs0 bd0 zs1 bd1) _ hn6 hn3 (((hG6.seg.ext ((((hC7.trans hC8).trans hC9).trans hC10).trans hC11)).kept hL6 hC12 (by omega)).kept hL6 hC13 (by omega)) (((hG3.seg.ext (((((((hC4.trans hC5).trans hC6).trans hC7).trans hC8).trans hC9).trans hC10).trans hC11)).kept hL3 hC12 (by omega)).kept hL3 hC13 (by omega))).mono ?_
  rintro e w14 ⟨rfl, hE14⟩
  have hC14 : Ext w13 w14 := hE14
  have ze14 := hC14.size
  clear c_x5_0 c_x5_1 c_x2_0 c_x2_1
  have L_x5 := ((((B_x5.ext (((hC8.trans hC9).trans hC10).trans hC11)).kept hC12 (by omega)).kept hC13 (by omega)).ext hC14)
  have c_x5_0 := L_x5.cell 0
  have c_x5_1 := L_x5.cell 1
  clear L_x5
  go_wp2_with fail
  refine (markConstraint_any A6 n6 cap6 (adT zs0 bd0 zs1 bd1) (adD zs0 bd0 zs1 bd1) 1 _ (w5.heap.size + 1) w6.heap.size hs6 (by omega) (by omega) ((((hG6.seg.ext ((((hC7.trans hC8).trans hC9).trans hC10).trans hC11)).kept hL6 hC12 (by omega)).kept hL6 hC13 (by omega)).ext hC14) (Free.ext (Free.kept (Free.kept (Free.ext (Free.ext (Free.ext (Free.ext (Free.ext hG6.free hG6.seg hC7) (hG6.seg.ext hC7) hC8) ((hG6.seg.ext hC7).ext hC8) hC9) (((hG6.seg.ext hC7).ext hC8).ext hC9) hC10) ((((hG6.seg.ext hC7).ext hC8).ext hC9).ext hC10) hC11) (((((hG6.seg.ext hC7).ext hC8).ext hC9).ext hC10).ext hC11) hL6 hC12 (by omega)) ((((((hG6.seg.ext hC7).ext hC8).ext hC9).ext hC10).ext hC11).kept hL6 hC12 (by omega)) hL6 hC13 (by omega)) (((((((hG6.seg.ext hC7).ext hC8).ext hC9).ext hC10).ext hC11).kept hL6 hC12 (by omega)).kept hL6 hC13 (by omega)) hC14) hL6).mono ?_
  rintro e w15 ⟨rfl, hS15, hF15, hE15⟩
  have hC15 : Kept (w5.heap.size + 1) w6.heap.size w14 w15 := hE15
  have ze15 := hC15.size
  clear c_x5_0 c_x5_1
  have hp15 : ¬ (1 + 2 * (n6 : Int) < 0) := (by omega)
  have L_x5 := (((((B_x5.ext (((hC8.trans hC9).trans hC10).trans hC11)).kept hC12 (by omega)).kept hC13 (by omega)).ext hC14).kept hC15 (by omega))
  have c_x5_0 := L_x5.cell 0
  have c_x5_1 := L_x5.cell 1
  clear L_x5
  go_wp2_with fail
  refine (heldConstraint_any A6 n6 cap6 (adD zs0 bd0 zs1 bd1) 1 _ hs6 (by omega) (by omega) hS15).mono ?_
  rintro e w16 ⟨rfl, hE16⟩
  have hC16 : Ext w15 w16 := hE16
  have ze16 := hC16.size
  clear c_x5_0 c_x5_1
  have L_x0 := ((((((B_x0.ext (((((((((hC2.trans hC3).trans hC4).trans hC5).trans hC6).trans hC7).trans hC8).trans hC9).trans hC10).trans hC11)).kept hC12 (by omega)).kept hC13 (by omega)).ext hC14).kept hC15 (by omega)).ext hC16)
  have L_x1 := ((((((B_x1.ext (((((((((hC2.trans hC3).trans hC4).trans hC5).trans hC6).trans hC7).trans hC8).trans hC9).trans hC10).trans hC11)).kept hC12 (by omega)).kept hC13 (by omega)).ext hC14).kept hC15 (by omega)).ext hC16)
  have KS : Hid (∀ X, Ext w16 X → (X.cell? ⟨w.heap.size, 0, none⟩ = some (.slice Ax0 nx0 capx0) ∧ X.cell? ⟨w.heap.size, 1, none⟩ = some (.int .i64 bd0) ∧ X.cell? ⟨w.heap.size + 1, 0, none⟩ = some (.slice Ax1 nx1 capx1) ∧ X.cell? ⟨w.heap.size + 1, 1, none⟩ = some (.int .i64 bd1))) := fun X e => ⟨(L_x0.ext e).cell 0, (L_x0.ext e).cell 1, (L_x1.ext e).cell 0, (L_x1.ext e).cell 1⟩
  clear L_x0 L_x1
  go_wp2_with fail
  refine region_cont (fun X => X.cell? ⟨w.heap.size, 0, none⟩ = some (.slice Ax0 nx0 capx0) ∧ X.cell? ⟨w.heap.size, 1, none⟩ = some (.int .i64 bd0) ∧ X.cell? ⟨w.heap.size + 1, 0, none⟩ = some (.slice Ax1 nx1 capx1) ∧ X.cell? ⟨w.heap.size + 1, 1, none⟩ = some (.int .i64 bd1)) 10 (by kernel_rfl) (fun a a' X => ∃ (gr : Nat) (A : Option Addr) (n cap : Nat) (v1 v2 : Value), a' = (Act.put (Act.put (Act.put (Act.put (Act.put (Act.put (Act.put (Act.put (Act.put (Act.put a (some 95) (.agg #[.slice Ax0 nx0 capx0, .int .i64 bd0])) (some 96) (v1)) (some 97) (.agg #[.slice Ax1 nx1 capx1, .int .i64 bd1])) (some 98) (v2)) (some 99) (.tuple #[.agg #[.slice A n cap, .int .i64 (adD zs0 bd0 zs1 bd1)], .bool (adB zs0 bd0 zs1 bd1)])) (some 94) (.tuple #[.agg #[.slice A n cap, .int .i64 (adD zs0 bd0 zs1 bd1)], .bool (adB zs0 bd0 zs1 bd1)])) (some 100) (.agg #[.slice A n cap, .int .i64 (adD zs0 bd0 zs1 bd1)])) (some 101) (.bool (adB zs0 bd0 zs1 bd1))) (some 15) (.pointer (some ⟨gr, 0, none⟩))) (some 16) (.bool (adB zs0 bd0 zs1 bd1))) ∧ Ext w16 X ∧ Blk X gr 26 #[.slice A n cap, .int .i64 (adD zs0 bd0 zs1 bd1)] ∧ (adT zs0 bd0 zs1 bd1).length = n ∧ Got w16 X 2 A n (encT (adT zs0 bd0 zs1 bd1))) (fun _ _ _ _ _ h => h) ?_ ?_
  · intro Q' hP hQ
    have hS0 := KS.out _ (Ext.refl w16).drew
    refine wpAnyZ_take 0 (v := ?_) (by kernel_rfl) rfl rfl (by kernel_rfl) (by kernel_rfl) (by kernel_rfl) (fun c a w h => hP c a w _ _ h) hS0 (Or.inl ⟨by rfl, ?_⟩) ?_
    rotate_left
    · (intro w hSw; (try dsimp only at hSw); go_simp; (try with_reducible rfl))
    try simp only [Act.put, List.setIfInBounds_toArray, List.set_cons_zero, List.set_cons_succ]
    refine wpAnyZ_take 2 (v := ?_) (by kernel_rfl) rfl rfl (by kernel_rfl) (by kernel_rfl) (by kernel_rfl) (fun c a w h => hP c a w _ _ h) hS0 (Or.inl ⟨by rfl, ?_⟩) ?_
    rotate_left
    · (intro w hSw; (try dsimp only at hSw); go_simp; (try with_reducible rfl))
    try simp only [Act.put, List.setIfInBounds_toArray, List.set_cons_zero, List.set_cons_succ]
    have E0x : Ext w16 w16.drew := (Ext.refl _).drew
    have sg0 := ((((((sx0.ext ((((((((((hC1.trans hC2).trans hC3).trans hC4).trans hC5).trans hC6).trans hC7).trans hC8).trans hC9).trans hC10).trans hC11)).kept hLx0 hC12 (by omega)).kept hLx0 hC13 (by omega)).ext hC14).kept hLx0 hC15 (by omega)).ext hC16)
    have sg1 := ((((((sx1.ext ((((((((((hC1.trans hC2).trans hC3).trans hC4).trans hC5).trans hC6).trans hC7).trans hC8).trans hC9).trans hC10).trans hC11)).kept hLx1 hC12 (by omega)).kept hLx1 hC13 (by omega)).ext hC14).kept hLx1 hC15 (by omega)).ext hC16)
    refine wpAnyZ_two 1 8 (by kernel_rfl) rfl rfl rfl rfl (fun K hK => ?_) (fun K hK => ?_)
    · go_simp
      refine (toConstraint_any Ax0 nx0 capx0 zs0 bd0 _ ms0 (sg0.ext E0x)).mono ?_
      rintro e X1 ⟨A1x, n1x, cap1x, rfl, hl1x, hG1x, hE1x⟩
      have hn1x : n1x ≤ maxLen := by rw [← hl1x, HL0.out]; unfold maxLen; omega
      have E1x := E0x.trans hE1x
      refine hK.out _ _ (KS.out _ E1x) ?_
      clear hK K
      try simp only [Act.put, List.setIfInBounds_toArray, List.set_cons_zero, List.set_cons_succ]
      refine wpAnyZ_two 3 8 (by kernel_rfl) rfl rfl rfl rfl (fun K hK => ?_) (fun K hK => ?_)
      · go_simp
        refine (toConstraint_any Ax1 nx1 capx1 zs1 bd1 _ ms1 (sg1.ext E1x)).mono ?_
        rintro e X2 ⟨A2x, n2x, cap2x, rfl, hl2x, hG2x, hE2x⟩
        have hn2x : n2x ≤ maxLen := by rw [← hl2x, HL1.out]; unfold maxLen; omega
        have E2x := E1x.trans hE2x
        refine hK.out _ _ (KS.out _ E2x) ?_
        clear hK K
        try simp only [Act.put, List.setIfInBounds_toArray, List.set_cons_zero, List.set_cons_succ]
        refine wpAnyZ_two 4 8 (by kernel_rfl) rfl rfl rfl rfl (fun K hK => ?_) (fun K hK => ?_)
        · go_simp
          have E3b := E2x
          refine (implAdd_any A1x n1x cap1x zs0 bd0 A2x n2x cap2x zs1 bd1 _ hn1x (hG1x.seg.ext (hE2x)) hn2x hG2x.seg).mono ?_
          rintro e X3 ⟨A3x, n3x, cap3x, rfl, hl3x, hG3x, hE3x⟩
          have E3x := E2x.trans hE3x
          refine hK.out _ _ (KS.out _ E3x) ?_
          clear hK K
          try simp only [Act.put, List.setIfInBounds_toArray, List.set_cons_zero, List.set_cons_succ]
          have hSe := KS.out _ E3x
          refine wpAnyZ_take 5 (v := ?_) (by kernel_rfl) rfl rfl (by kernel_rfl) (by kernel_rfl) (by kernel_rfl) (fun c a w h => hP c a w _ _ h) hSe (Or.inl ⟨by rfl, ?_⟩) ?_
          rotate_left
          · (intro w hSw; (try dsimp only at hSw); go_simp; (try with_reducible rfl))
          try simp only [Act.put, List.setIfInBounds_toArray, List.set_cons_zero, List.set_cons_succ]
          refine wpAnyZ_take 6 (v := ?_) (by kernel_rfl) rfl rfl (by kernel_rfl) (by kernel_rfl) (by kernel_rfl) (fun c a w h => hP c a w _ _ h) hSe (Or.inl ⟨by rfl, ?_⟩) ?_
          rotate_left
          · (intro w hSw; (try dsimp only at hSw); go_simp; (try with_reducible rfl))
          try simp only [Act.put, List.setIfInBounds_toArray, List.set_cons_zero, List.set_cons_succ]
          refine wpAnyZ_take 7 (v := ?_) (by kernel_rfl) rfl rfl (by kernel_rfl) (by kernel_rfl) (by kernel_rfl) (fun c a w h => hP c a w _ _ h) hSe (Or.inl ⟨by rfl, ?_⟩) ?_
          rotate_left
          · (intro w hSw; (try dsimp only at hSw); go_simp; (try with_reducible rfl))
          try simp only [Act.put, List.setIfInBounds_toArray, List.set_cons_zero, List.set_cons_succ]
          refine wpAnyZ_one 8 (by kernel_rfl) rfl rfl (fun K hK => ?_)
          go_simp
          refine hK.out _ _ (KS.out _ (E3x.alloc _)) ?_
          clear hK K
          try simp only [Act.put, List.setIfInBounds_toArray, List.set_cons_zero, List.set_cons_succ]
          refine wpAnyZ_one 9 (by kernel_rfl) rfl rfl (fun K hK => ?_)
          go_simp
          refine hK.out _ _ (KS.out _ (E3x.alloc _)) ?_
          clear hK K
          try simp only [Act.put, List.setIfInBounds_toArray, List.set_cons_zero, List.set_cons_succ]
          refine wpAnyZ_last (by kernel_rfl) (by kernel_rfl) rfl rfl (fun K hK => ?_)
          go_simp
          refine hK.out _ _ (hQ.out _ _ ⟨X3.heap.size, A3x, n3x, cap3x, .agg #[.slice A1x n1x cap1x, .int .i64 bd0], .agg #[.slice A2x n2x cap2x, .int .i64 bd1], (by simp only [Act.put, List.setIfInBounds_toArray, List.set_cons_zero, List.set_cons_succ]), E3x.alloc _, Blk.new _ _ _, hl3x, (hG3x.from_ E3b).later ((Ext.refl _).alloc _)⟩)
        · go_simp
          have EBx := (E2x.alloc (.cells #[.slice none 0 0, .int .i64 0] 26))
          refine hK.out _ _ (KS.out _ EBx) ?_
          clear hK K
          try simp only [Act.put, List.setIfInBounds_toArray, List.set_cons_zero, List.set_cons_succ]
          refine wpAnyZ_one 4 (by kernel_rfl) rfl rfl (fun K hK => ?_)
          go_simp
          have E3b := EBx
          have hzb := (Blk.new X2 26 #[.slice none 0 0, .int .i64 0]).lt
          refine (implAdd_any A1x n1x cap1x zs0 bd0 A2x n2x cap2x zs1 bd1 _ hn1x (hG1x.seg.ext (hE2x.alloc _)) hn2x (hG2x.seg.ext ((Ext.refl _).alloc _))).mono ?_
          rintro e X3 ⟨A3x, n3x, cap3x, rfl, hl3x, hG3x, hE3x⟩
          have E3x := EBx.trans hE3x
          refine hK.out _ _ (KS.out _ E3x) ?_
          clear hK K
          try simp only [Act.put, List.setIfInBounds_toArray, List.set_cons_zero, List.set_cons_succ]
          have hSe := KS.out _ E3x
          refine wpAnyZ_take 5 (v := ?_) (by kernel_rfl) rfl rfl (by kernel_rfl) (by kernel_rfl) (by kernel_rfl) (fun c a w h => hP c a w _ _ h) hSe (Or.inl ⟨by rfl, ?_⟩) ?_
          rotate_left
          · (intro w hSw; (try dsimp only at hSw); go_simp; (try with_reducible rfl))
          try simp only [Act.put, List.setIfInBounds_toArray, List.set_cons_zero, List.set_cons_succ]
          refine wpAnyZ_take 6 (v := ?_) (by kernel_rfl) rfl rfl (by kernel_rfl) (by kernel_rfl) (by kernel_rfl) (fun c a w h => hP c a w _ _ h) hSe (Or.inl ⟨by rfl, ?_⟩) ?_
          rotate_left
          · (intro w hSw; (try dsimp only at hSw); go_simp; (try with_reducible rfl))
          try simp only [Act.put, List.setIfInBounds_toArray, List.set_cons_zero, List.set_cons_succ]
          refine wpAnyZ_take 7 (v := ?_) (by kernel_rfl) rfl rfl (by kernel_rfl) (by kernel_rfl) (by kernel_rfl) (fun c a w h => hP c a w _ _ h) hSe (Or.inl ⟨by rfl, ?_⟩) ?_
          rotate_left
          · (intro w hSw; (try dsimp only at hSw); go_simp; (try with_reducible rfl))
          try simp only [Act.put, List.setIfInBounds_toArray, List.set_cons_zero, List.set_cons_succ]
          have BZ := ((Blk.new X2 26 #[.slice none 0 0, .int .i64 0]).ext hE3x)
          have z0 := BZ.cell 0
          have z1 := BZ.cell 1
          have y0 := BZ.frozen 0
          have y1 := BZ.frozen 1
          have hgr : w16.heap.size ≤ X2.heap.size := by have := E2x.size; exact this
          have EZ : Ext w16 ((X3.setCell ⟨X2.heap.size, 0, none⟩ (.slice A3x n3x cap3x)).setCell ⟨X2.heap.size, 1, none⟩ (.int .i64 (adD zs0 bd0 zs1 bd1))) := (E3x.setNew (p := ⟨X2.heap.size, 0, none⟩) hgr _).setNew (p := ⟨X2.heap.size, 1, none⟩) hgr _
          have KZ : Kept X2.heap.size (X2.heap.size + 1) X3 ((X3.setCell ⟨X2.heap.size, 0, none⟩ (.slice A3x n3x cap3x)).setCell ⟨X2.heap.size, 1, none⟩ (.int .i64 (adD zs0 bd0 zs1 bd1))) := ((Kept.refl _ _ X3).setIn (p := ⟨X2.heap.size, 0, none⟩) (by simp) _).setIn (p := ⟨X2.heap.size, 1, none⟩) (by simp) _
          refine wpAnyZ_one 9 (by kernel_rfl) rfl rfl (fun K hK => ?_)
          go_simp
          refine hK.out _ _ (KS.out _ EZ) ?_
          clear hK K
          try simp only [Act.put, List.setIfInBounds_toArray, List.set_cons_zero, List.set_cons_succ]
          refine wpAnyZ_last (by kernel_rfl) (by kernel_rfl) rfl rfl (fun K hK => ?_)
          go_simp
          refine hK.out _ _ (hQ.out _ _ ⟨X2.heap.size, A3x, n3x, cap3x, .agg #[.slice A1x n1x cap1x, .int .i64 bd0], .agg #[.slice A2x n2x cap2x, .int .i64 bd1], (by simp only [Act.put, List.setIfInBounds_toArray, List.set_cons_zero, List.set_cons_succ]), EZ, (BZ.set_ 0 _).set_ 1 _, hl3x, (hG3x.kept KZ (by omega)).from_ E3b⟩)
      · go_simp
        have EBx := (E1x.alloc (.cells #[.slice none 0 0, .int .i64 0] 26))
        refine hK.out _ _ (KS.out _ EBx) ?_
        clear hK K
        try simp only [Act.put, List.setIfInBounds_toArray, List.set_cons_zero, List.set_cons_succ]
        refine wpAnyZ_one 3 (by kernel_rfl) rfl rfl (fun K hK => ?_)
        go_simp
        refine (toConstraint_any Ax1 nx1 capx1 zs1 bd1 _ ms1 (sg1.ext EBx)).mono ?_
        rintro e X2 ⟨A2x, n2x, cap2x, rfl, hl2x, hG2x, hE2x⟩
        have hn2x : n2x ≤ maxLen := by rw [← hl2x, HL1.out]; unfold maxLen; omega
        have E2x := EBx.trans hE2x
        refine hK.out _ _ (KS.out _ E2x) ?_
        clear hK K
        try simp only [Act.put, List.setIfInBounds_toArray, List.set_cons_zero, List.set_cons_succ]
        refine wpAnyZ_one 4 (by kernel_rfl) rfl rfl (fun K hK => ?_)
        go_simp
        have E3b := E2x
        have hzb := ((Blk.new X1 26 #[.slice none 0 0, .int .i64 0]).ext hE2x).lt
        refine (implAdd_any A1x n1x cap1x zs0 bd0 A2x n2x cap2x zs1 bd1 _ hn1x (hG1x.seg.ext (((Ext.refl _).alloc _).trans hE2x)) hn2x hG2x.seg).mono ?_
        rintro e X3 ⟨A3x, n3x, cap3x, rfl, hl3x, hG3x, hE3x⟩
        have E3x := E2x.trans hE3x
        refine hK.out _ _ (KS.out _ E3x) ?_
        clear hK K
        try simp only [Act.put, List.setIfInBounds_toArray, List.set_cons_zero, List.set_cons_succ]
        have hSe := KS.out _ E3x
        refine wpAnyZ_take 5 (v := ?_) (by kernel_rfl) rfl rfl (by kernel_rfl) (by kernel_rfl) (by kernel_rfl) (fun c a w h => hP c a w _ _ h) hSe (Or.inl ⟨by rfl, ?_⟩) ?_
        rotate_left
        · (intro w hSw; (try dsimp only at hSw); go_simp; (try with_reducible rfl))
        try simp only [Act.put, List.setIfInBounds_toArray, List.set_cons_zero, List.set_cons_succ]
        refine wpAnyZ_take 6 (v := ?_) (by kernel_rfl) rfl rfl (by kernel_rfl) (by kernel_rfl) (by kernel_rfl) (fun c a w h => hP c a w _ _ h) hSe (Or.inl ⟨by rfl, ?_⟩) ?_
        rotate_left
        · (intro w hSw; (try dsimp only at hSw); go_simp; (try with_reducible rfl))
        try simp only [Act.put, List.setIfInBounds_toArray, List.set_cons_zero, List.set_cons_succ]
        refine wpAnyZ_take 7 (v := ?_) (by kernel_rfl) rfl rfl (by kernel_rfl) (by kernel_rfl) (by kernel_rfl) (fun c a w h => hP c a w _ _ h) hSe (Or.inl ⟨by rfl, ?_⟩) ?_
        rotate_left
        · (intro w hSw; (try dsimp only at hSw); go_simp; (try with_reducible rfl))
        try simp only [Act.put, List.setIfInBounds_toArray, List.set_cons_zero, List.set_cons_succ]
        have BZ := (((Blk.new X1 26 #[.slice none 0 0, .int .i64 0]).ext hE2x).ext hE3x)
        have z0 := BZ.cell 0
        have z1 := BZ.cell 1
        have y0 := BZ.frozen 0
        have y1 := BZ.frozen 1
        have hgr : w16.heap.size ≤ X1.heap.size := by have := E1x.size; exact this
        have EZ : Ext w16 ((X3.setCell ⟨X1.heap.size, 0, none⟩ (.slice A3x n3x cap3x)).setCell ⟨X1.heap.size, 1, none⟩ (.int .i64 (adD zs0 bd0 zs1 bd1))) := (E3x.setNew (p := ⟨X1.heap.size, 0, none⟩) hgr _).setNew (p := ⟨X1.heap.size, 1, none⟩) hgr _
        have KZ : Kept X1.heap.size (X1.heap.size + 1) X3 ((X3.setCell ⟨X1.heap.size, 0, none⟩ (.slice A3x n3x cap3x)).setCell ⟨X1.heap.size, 1, none⟩ (.int .i64 (adD zs0 bd0 zs1 bd1))) := ((Kept.refl _ _ X3).setIn (p := ⟨X1.heap.size, 0, none⟩) (by simp) _).setIn (p := ⟨X1.heap.size, 1, none⟩) (by simp) _
        refine wpAnyZ_one 9 (by kernel_rfl) rfl rfl (fun K hK => ?_)
        go_simp
        refine hK.out _ _ (KS.out _ EZ) ?_
        clear hK K
        try simp only [Act.put, List.setIfInBounds_toArray, List.set_cons_zero, List.set_cons_succ]
        refine wpAnyZ_last (by kernel_rfl) (by kernel_rfl) rfl rfl (fun K hK => ?_)
        go_simp
        refine hK.out _ _ (hQ.out _ _ ⟨X1.heap.size, A3x, n3x, cap3x, .agg #[.slice A1x n1x cap1x, .int .i64 bd0], .agg #[.slice A2x n2x cap2x, .int .i64 bd1], (by simp only [Act.put, List.setIfInBounds_toArray, List.set_cons_zero, List.set_cons_succ]), EZ, (BZ.set_ 0 _).set_ 1 _, hl3x, (hG3x.kept KZ (by omega)).from_ E3b⟩)
    · go_simp
      have EBx := (E0x.alloc (.cells #[.slice none 0 0, .int .i64 0] 26))
      refine hK.out _ _ (KS.out _ EBx) ?_
      clear hK K
      try simp only [Act.put, List.setIfInBounds_toArray, List.set_cons_zero, List.set_cons_succ]
      refine wpAnyZ_one 1 (by kernel_rfl) rfl rfl (fun K hK => ?_)
      go_simp
      refine (toConstraint_any Ax0 nx0 capx0 zs0 bd0 _ ms0 (sg0.ext EBx)).mono ?_
      rintro e X1 ⟨A1x, n1x, cap1x, rfl, hl1x, hG1x, hE1x⟩
      have hn1x : n1x ≤ maxLen := by rw [← hl1x, HL0.out]; unfold maxLen; omega
      have E1x := EBx.trans hE1x
      refine hK.out _ _ (KS.out _ E1x) ?_
      clear hK K
      try simp only [Act.put, List.setIfInBounds_toArray, List.set_cons_zero, List.set_cons_succ]
      refine wpAnyZ_one 3 (by kernel_rfl) rfl rfl (fun K hK => ?_)
      go_simp
      refine (toConstraint_any Ax1 nx1 capx1 zs1 bd1 _ ms1 (sg1.ext E1x)).mono ?_
      rintro e X2 ⟨A2x, n2x, cap2x, rfl, hl2x, hG2x, hE2x⟩
      have hn2x : n2x ≤ maxLen := by rw [← hl2x, HL1.out]; unfold maxLen; omega
      have E2x := E1x.trans hE2x
      refine hK.out _ _ (KS.out _ E2x) ?_
      clear hK K
      try simp only [Act.put, List.setIfInBounds_toArray, List.set_cons_zero, List.set_cons_succ]
      refine wpAnyZ_one 4 (by kernel_rfl) rfl rfl (fun K hK => ?_)
      go_simp
      have E3b := E2x
      have hzb := (((show Blk (w16.drew.alloc (.cells #[.slice none 0 0, .int .i64 0] 26)) w16.heap.size 26 #[.slice none 0 0, .int .i64 0] from Blk.new w16.drew _ _).ext hE1x).ext hE2x).lt
      refine (implAdd_any A1x n1x cap1x zs0 bd0 A2x n2x cap2x zs1 bd1 _ hn1x (hG1x.seg.ext hE2x) hn2x hG2x.seg).mono ?_
      rintro e X3 ⟨A3x, n3x, cap3x, rfl, hl3x, hG3x, hE3x⟩
      have E3x := E2x.trans hE3x
      refine hK.out _ _ (KS.out _ E3x) ?_
      clear hK K
      try simp only [Act.put, List.setIfInBounds_toArray, List.set_cons_zero, List.set_cons_succ]
      have hSe := KS.out _ E3x
      refine wpAnyZ_take 5 (v := ?_) (by kernel_rfl) rfl rfl (by kernel_rfl) (by kernel_rfl) (by kernel_rfl) (fun c a w h => hP c a w _ _ h) hSe (Or.inl ⟨by rfl, ?_⟩) ?_
      rotate_left
      · (intro w hSw; (try dsimp only at hSw); go_simp; (try with_reducible rfl))
      try simp only [Act.put, List.setIfInBounds_toArray, List.set_cons_zero, List.set_cons_succ]
      refine wpAnyZ_take 6 (v := ?_) (by kernel_rfl) rfl rfl (by kernel_rfl) (by kernel_rfl) (by kernel_rfl) (fun c a w h => hP c a w _ _ h) hSe (Or.inl ⟨by rfl, ?_⟩) ?_
      rotate_left
      · (intro w hSw; (try dsimp only at hSw); go_simp; (try with_reducible rfl))
      try simp only [Act.put, List.setIfInBounds_toArray, List.set_cons_zero, List.set_cons_succ]
      refine wpAnyZ_take 7 (v := ?_) (by kernel_rfl) rfl rfl (by kernel_rfl) (by kernel_rfl) (by kernel_rfl) (fun c a w h => hP c a w _ _ h) hSe (Or.inl ⟨by rfl, ?_⟩) ?_
      rotate_left
      · (intro w hSw; (try dsimp only at hSw); go_simp; (try with_reducible rfl))
      try simp only [Act.put, List.setIfInBounds_toArray, List.set_cons_zero, List.set_cons_succ]
      have BZ := ((((show Blk (w16.drew.alloc (.cells #[.slice none 0 0, .int .i64 0] 26)) w16.heap.size 26 #[.slice none 0 0, .int .i64 0] from Blk.new w16.drew _ _).ext hE1x).ext hE2x).ext hE3x)
      have z0 := BZ.cell 0
      have z1 := BZ.cell 1
      have y0 := BZ.frozen 0
      have y1 := BZ.frozen 1
      have hgr : w16.heap.size ≤ w16.heap.size := by have := E0x.size; exact Nat.le_refl _
      have EZ : Ext w16 ((X3.setCell ⟨w16.heap.size, 0, none⟩ (.slice A3x n3x cap3x)).setCell ⟨w16.heap.size, 1, none⟩ (.int .i64 (adD zs0 bd0 zs1 bd1))) := (E3x.setNew (p := ⟨w16.heap.size, 0, none⟩) hgr _).setNew (p := ⟨w16.heap.size, 1, none⟩) hgr _
      have KZ : Kept w16.heap.size (w16.heap.size + 1) X3 ((X3.setCell ⟨w16.heap.size, 0, none⟩ (.slice A3x n3x cap3x)).setCell ⟨w16.heap.size, 1, none⟩ (.int .i64 (adD zs0 bd0 zs1 bd1))) := ((Kept.refl _ _ X3).setIn (p := ⟨w16.heap.size, 0, none⟩) (by simp) _).setIn (p := ⟨w16.heap.size, 1, none⟩) (by simp) _
      refine wpAnyZ_one 9 (by kernel_rfl) rfl rfl (fun K hK => ?_)
      go_simp
      refine hK.out _ _ (KS.out _ EZ) ?_
      clear hK K
      try simp only [Act.put, List.setIfInBounds_toArray, List.set_cons_zero, List.set_cons_succ]
      refine wpAnyZ_last (by kernel_rfl) (by kernel_rfl) rfl rfl (fun K hK => ?_)
      go_simp
      refine hK.out _ _ (hQ.out _ _ ⟨w16.heap.size, A3x, n3x, cap3x, .agg #[.slice A1x n1x cap1x, .int .i64 bd0], .agg #[.slice A2x n2x cap2x, .int .i64 bd1], (by simp only [Act.put, List.setIfInBounds_toArray, List.set_cons_zero, List.set_cons_succ]), EZ, (BZ.set_ 0 _).set_ 1 _, hl3x, (hG3x.kept KZ (by omega)).from_ E3b⟩)
  rintro a' w17 ⟨gr17, A17, n17, cap17, v117, v217, rfl, hE17, B_x6, hl17, hG17⟩
  try simp only [Act.put, List.setIfInBounds_toArray, List.set_cons_zero, List.set_cons_succ]
  have hL17 := hG17.lies.wide (lo' := w16.heap.size) (by simp) (Nat.le_refl _)
  have hs17 : n17 ≤ 1048576 := (by rw [← hl17]; exact adT_len zs0 bd0 zs1 bd1)
  have hn17 : n17 ≤ maxLen := (Nat.le_trans hs17 (by unfold maxLen; omega))
  have hC17 : Ext w16 w17 := hE17
  have ze17 := hC17.size
  have zb_x6 := B_x6.lt
  clear KS
  have L_x0 := ((((((B_x0.ext (((((((((hC2.trans hC3).trans hC4).trans hC5).trans hC6).trans hC7).trans hC8).trans hC9).trans hC10).trans hC11)).kept hC12 (by omega)).kept hC13 (by omega)).ext hC14).kept hC15 (by omega)).ext (hC16.trans hC17))
  have c_x0_0 := L_x0.cell 0
  have c_x0_1 := L_x0.cell 1
  clear L_x0
  have L_x1 := ((((((B_x1.ext (((((((((hC2.trans hC3).trans hC4).trans hC5).trans hC6).trans hC7).trans hC8).trans hC9).trans hC10).trans hC11)).kept hC12 (by omega)).kept hC13 (by omega)).ext hC14).kept hC15 (by omega)).ext (hC16.trans hC17))
  have c_x1_0 := L_x1.cell 0
  have c_x1_1 := L_x1.cell 1
  clear L_x1
  have L_x6 := B_x6
  have c_x6_0 := L_x6.cell 0
  have c_x6_1 := L_x6.cell 1
  clear L_x6
  have L_x2 := ((((((B_x2.ext (((((((hC4.trans hC5).trans hC6).trans hC7).trans hC8).trans hC9).trans hC10).trans hC11)).kept hC12 (by omega)).kept hC13 (by omega)).ext hC14).kept hC15 (by omega)).ext (hC16.trans hC17))
  have c_x2_0 := L_x2.cell 0
  have c_x2_1 := L_x2.cell 1
  clear L_x2
  go_wp2_with fail
  have hq18 : cEq (adT zs0 bd0 zs1 bd1) (adT zs0 bd0 zs1 bd1) (adD zs0 bd0 zs1 bd1) (adD zs0 bd0 zs1 bd1) = true := cEq_self _ _
  refine (eqConstraint_any A17 A3 n17 n3 cap17 cap3 (adT zs0 bd0 zs1 bd1) (adT zs0 bd0 zs1 bd1) (adD zs0 bd0 zs1 bd1) (adD zs0 bd0 zs1 bd1) _ hn17 hn3 hG17.seg ((((((hG3.seg.ext (((((((hC4.trans hC5).trans hC6).trans hC7).trans hC8).trans hC9).trans hC10).trans hC11)).kept hL3 hC12 (by omega)).kept hL3 hC13 (by omega)).ext hC14).kept hL3 hC15 (by omega)).ext (hC16.trans hC17))).mono ?_
  rintro e w18 ⟨rfl, hE18⟩
  have hC18 : Ext w17 w18 := hE18
  have ze18 := hC18.size
  clear c_x0_0 c_x0_1 c_x1_0 c_x1_1 c_x6_0 c_x6_1 c_x2_0 c_x2_1
  have L_x5 := ((((((B_x5.ext (((hC8.trans hC9).trans hC10).trans hC11)).kept hC12 (by omega)).kept hC13 (by omega)).ext hC14).kept hC15 (by omega)).ext ((hC16.trans hC17).trans hC18))
  have c_x5_0 := L_x5.cell 0
  have c_x5_1 := L_x5.cell 1
  clear L_x5
  go_wp2_with fail
  refine (heldConstraint_any A6 n6 cap6 (adD zs0 bd0 zs1 bd1) 1 _ hs6 (by omega) (by omega) (hS15.ext ((hC16.trans hC17).trans hC18))).mono ?_
  rintro e w19 ⟨rfl, hE19⟩
  have hC19 : Ext w18 w19 := hE19
  have ze19 := hC19.size
  clear c_x5_0 c_x5_1
  go_wp2
  go_ret
  exact ⟨rfl, (((((Ext.fresh ((Ext.fresh (Ext.fresh ((((((((((hC1.trans hC2).trans hC3).trans hC4).trans hC5).trans hC6).trans hC7).trans hC8).trans hC9).trans hC10).trans hC11) hC12 (by omega)) hC13 (by omega)).trans hC14) hC15 (by omega)).trans hC16).trans hC17).trans hC18).trans hC19)⟩


theorem own : ownKnob Try.prog.godebug = none := by kernel_rfl
theorem laidOut : laidOutB Try.prog = true := by kernel_rfl

set_option maxRecDepth 100000 in
theorem lifted (os : Os) (started : os.Started) (H : Type) (enc : TypeId × Value → H) :
    ReturnsInHanded {} Try.checked os 4 .any (Rows.fnExactAddConstraintsSpec.pre6 enc Try.prog Try.f4 Rows.fnExactAddConstraintsRow.domain false) (Rows.fnExactAddConstraintsSpec.post enc Try.prog Try.f4 false true false false) := by
  refine returnsInHanded_of_change (C := Try.checked) own started (by kernel_rfl) Try.func4
    (ChangeSpec.witness6 (enc := enc) (C := Try.checked) false ⟨#[], #[.agg #[.slice none 0 0, .int .i64 0], .agg #[.slice none 0 0, .int .i64 0]], []⟩ 8 (by kernel_rfl) (by kernel_rfl) (by kernel_rfl) (by kernel_rfl)) ?_
  intro W base args ds gs before hval0 hW hcnd _
  have hval : ∀ (j : Nat) t v, Try.f4.params[j]? = some t → args[j]? = some v → Value.okWide Try.prog W .any base t v := hval0
  have hW' := hW
  obtain ⟨p, q, hA0, hV, rfl, hfz, hnd⟩ := hW
  have hA : DataW.TrodAll enc Try.prog W 0 (fun _ => true) true Try.f4.params.toList args.toList ds p := hA0
  rw [Try.params4] at hA hval
  obtain ⟨v0, vs0, d0, ds0, p0, q0, hargs, rfl, rfl, h0, r0⟩ := trodAll_cons hA
  obtain ⟨v1, vs1, d1, ds1, p1, q1, rfl, rfl, rfl, h1, r1⟩ := trodAll_cons r0
  obtain ⟨rfl, rfl, rfl⟩ := trodAll_nil r1
  obtain rfl : args = #[v0, v1] := by cases args; simp_all
  obtain ⟨rfl, rfl⟩ := trodVars_none hV
  have k0 := h0
  have lt0 : ∀ x ∈ p0, x.block < W.heap.size := by obtain ⟨m, hm⟩ := k0; exact DataW.trod_lt m _ _ _ hm
  obtain ⟨A0, n0, cap0, zs0, bd0, rfl, hn0, hs0⟩ := arg_constr (hval 0 36 v0 rfl rfl) h0
  have k1 := h1
  have lt1 : ∀ x ∈ p1, x.block < W.heap.size := by obtain ⟨m, hm⟩ := k1; exact DataW.trod_lt m _ _ _ hm
  obtain ⟨A1, n1, cap1, zs1, bd1, rfl, hn1, hs1⟩ := arg_constr (hval 1 36 v1 rfl rfl) h1
  clear hA0 hval0
  refine (walk A0 n0 cap0 zs0 bd0 A1 n1 cap1 zs1 bd1 W hn0 hs0 hn1 hs1).mono fun e W' ⟨he, ext⟩ => ?_
  subst he
  have bel := ext.below
  exact ⟨_, rfl, _, _, _, [], _, [], hW', trodAll_mk1 (shut_bool Try.underlying4 _), (trodAll_cons_mk (Below.trod laidOut (by kernel_rfl) (of_decide_eq_true (by kernel_rfl)) k0 bel lt0) (trodAll_cons_mk (Below.trod laidOut (by kernel_rfl) (of_decide_eq_true (by kernel_rfl)) k1 bel lt1) trodAll_mk0)), rfl, bel.frame _, fun h => by cases h⟩

set_option maxHeartbeats 4000000 in
theorem joined : joinedFacts Try.pinned.checked.prog 4 Try.f4 Rows.fnExactAddConstraintsSpec Rows.fnExactAddConstraintsRow = true := by
  unfold joinedFacts
  exact (and2 (and2 (and2 (and2 (and2 (and2 (and2 (and2 (and2 (and2 (and2 (and2 (and2 (and2 (and2 (and2 (and2 (and2 (and2 (and2 (and2 (and2 (and2 (and2 (and2 (and2 (and2 (and2 (and2 (and2 (and2 (by as_aux_lemma => kernel_rfl) (by as_aux_lemma => kernel_rfl)) (by as_aux_lemma => kernel_rfl)) (by as_aux_lemma => kernel_rfl)) (by as_aux_lemma => kernel_rfl)) (by as_aux_lemma => kernel_rfl)) (by as_aux_lemma => kernel_rfl)) (by as_aux_lemma => kernel_rfl)) (by as_aux_lemma => kernel_rfl)) (by as_aux_lemma => kernel_rfl)) (by as_aux_lemma => kernel_rfl)) (by as_aux_lemma => kernel_rfl)) (by as_aux_lemma => kernel_rfl)) (by as_aux_lemma => kernel_rfl)) (by as_aux_lemma => kernel_rfl)) (by as_aux_lemma => kernel_rfl)) (by as_aux_lemma => kernel_rfl)) (by as_aux_lemma => kernel_rfl)) (by as_aux_lemma => kernel_rfl)) (by as_aux_lemma => kernel_rfl)) (by as_aux_lemma => kernel_rfl)) (by as_aux_lemma => kernel_rfl)) (by as_aux_lemma => kernel_rfl)) (by as_aux_lemma => kernel_rfl)) (by as_aux_lemma => kernel_rfl)) jEnter) jLift) jMake) (by as_aux_lemma => kernel_rfl)) (by as_aux_lemma => kernel_rfl)) (by as_aux_lemma => kernel_rfl)) (by as_aux_lemma => kernel_rfl))

set_option maxHeartbeats 4000000 in
theorem over : Rows.fnExactAddConstraintsRow.holds Try.pinned (OpenSpec.ofChange Rows.fnExactAddConstraintsSpec) :=
  OpenClaim.holds_of_wide 4 Try.f4 rfl rfl rfl rfl rfl rfl rfl ⟨rfl, rfl, rfl, rfl, rfl⟩ rfl rfl rfl rfl rfl (by kernel_rfl) Try.func4 joined
    (of_decide_eq_true (by kernel_rfl)) (by unfold Func.isWrapper; first | (rw [if_pos (by decide +kernel)]; kernel_rfl) | (rw [if_neg (by decide +kernel)]; exact ⟨rfl, rfl⟩))
    (fun os started H enc _ => lifted os started H enc)

theorem proved : Rows.FnExactAddConstraintsSaid := over

end Go.Proofs.Ytmbdfnimmjomfaa.exactAddConstraints
