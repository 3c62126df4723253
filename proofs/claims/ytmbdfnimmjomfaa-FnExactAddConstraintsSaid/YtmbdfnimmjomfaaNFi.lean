/- The program's normal form: normal, NormalForm. -/
import Derived.Test.YtmbdfnimmjomfaaNFs
import Derived.Test.YtmbdfnimmjomfaaOwn
namespace Go.Proofs.Ytmbdfnimmjomfaa
open Go.RowKit

theorem netAgg (ts : List Tm) : (encI (netL ts)).toArray = #[.int .i64 (netI ts 0), .int .i64 (netI ts 1), .int .i64 (netI ts 2), .int .i64 (netI ts 3), .int .i64 (netI ts 4), .int .i64 (netI ts 5), .int .i64 (netI ts 6), .int .i64 (netI ts 7), .int .i64 (netI ts 8), .int .i64 (netI ts 9), .int .i64 (netI ts 10), .int .i64 (netI ts 11), .int .i64 (netI ts 12)] := rfl

theorem run_index_net (cs : Array Value) (j : Nat) (a : Int) (hj : j < 13) (h : cs[j]? = some (.int .i64 a)) (W : World) : (Instr.index 77 (.agg cs) (.int .i64 (j : Int))).run Try.prog W = .ok (.int .i64 a) W := by
  have h1 : Try.prog.underlying 77 = some (.array 13 3) := by kernel_rfl
  have h2 : (Try.prog.info? 3).isSome = true := by kernel_rfl
  have h3 : (isAgg 3).run Try.prog W = .ok false W := by kernel_rfl
  have h4 : (Go.sizeOf 3).run Try.prog W = .ok 1 W := by kernel_rfl
  have h5 : 0 ≤ (j : Int) ∧ (j : Int) < ((13 : Nat) : Int) := by omega
  simp only [Instr.index, run_underlying h1, asIntOf, part, Sem.run_bind, Sem.run_pure, Result.andThen_ok, if_pos h5, h3, h4, Int.toNat_natCast, Nat.mul_one, h, Bool.false_eq_true, if_false]
set_option maxRecDepth 100000 in
set_option maxHeartbeats 8000000 in
theorem normal_any (A : Option Addr) (n cap : Nat) (ts : List Tm) (bd : Int) (w : World) (hn : n ≤ 40) (h : Seg w 2 A n (encT ts)) (hs : smT ts = true) (hb : -50000 ≤ bd ∧ bd ≤ 50000) :
    Calls Try.prog 39 #[.slice A n cap, .int .i64 bd] w fun e w' => RetCB (vT ts bd) (vD ts bd) (noB ts bd) w e w' := by
  obtain ⟨i0, hi, hz0, hz1, hz2⟩ := info_parts Try.infoTmF
  have HI := Lib.hid hi
  have HZ0 := Lib.hid hz0
  have HZ1 := Lib.hid hz1
  have HZ2 := Lib.hid hz2
  clear hi hz0 hz1 hz2
  have HL := Lib.hid h.lenT
  have HS := Lib.hid h
  have HM := Lib.hid hs
  obtain ⟨hb0, hb1⟩ := hb
  clear h hs
  go_enter Try.func39, Try.ntmps39
  go_wp2_with fail
  go_loopw [1, 14] (fun b i wr => ∃ (k : Nat) (z : Int), k ≤ n ∧ i = .int .i64 k ∧ b = .int .i64 z ∧ Hid (z = bd - negI (ts.take k)) ∧ Ext w wr ∧ Hid (Blk wr w.heap.size 26 #[.slice none 0 0, .int .i64 0]) ∧ Hid (Blk wr (w.heap.size + 1) 77 (encI (netL (ts.take k))).toArray)) (fun _ i _ => n - (intOf i).toNat)
  case atStart =>
    refine ⟨0, bd, by omega, rfl, rfl, by simp [Hid, negI], ((Ext.refl _).alloc _).alloc _, (Blk.new _ _ _).alloc _, ?_⟩
    have := Blk.new (w.alloc (.cells #[.slice none 0 0, .int .i64 0] 26)) 77 (encI (netL [])).toArray
    rw [World.size_alloc] at this
    exact this
  case round =>
    obtain ⟨k, z, hk, rfl, rfl, hz, hE, hB0, hB⟩ := hrel
    have hzb : -100000 ≤ z ∧ z ≤ 100000 := by
      have := negI_bd (smT_take HM.out k)
      have h2 := hz.out
      rw [List.length_take] at this
      omega
    by_cases hlt : k < n
    · obtain ⟨b, off, c, l, rfl, hx, c1, c2⟩ := (HS.out.ext hE).term hlt
      have hsm := smT_at HM.out _ (List.mem_of_getElem? hx)
      have HT := Lib.hid (take_of_get _ _ _ hx)
      have hnb := fun v => netI_bd (smT_take HM.out k) v
      have hlk : (ts.take k).length ≤ 40 := by rw [List.length_take]; omega
      obtain ⟨m, hm, hlm⟩ := lit_cases hsm.1
      have hl := hsm.1
      obtain ⟨hc0, hc1⟩ := hsm.2
      simp only at hl hc0 hc1 hlm
      have nb := hnb ((m + 1 : Nat) : Int)
      have n1 := blk_net hB.out (i := m + 1) (by omega)
      have f1 := hB.out.frozen (m + 1)
      obtain ⟨y, hy⟩ : ∃ y, netI (ts.take k) ((m + 1 : Nat) : Int) = y := ⟨_, rfl⟩
      rw [hy] at nb n1
      have hyb : -40000 ≤ y ∧ y ≤ 40000 := by omega
      have HY := Lib.hid hy
      have HLt := Lib.hid hl
      have hzw := hB.out.lt
      clear hx hsm hnb hlk nb hy hl
      have HBX := Lib.hid (Blk.new wr 47 #[.int .i64 c, .int .i64 l])
      have EX := (Ext.refl wr).alloc (.cells #[.int .i64 c, .int .i64 l] 47)
      rcases hlm with rfl | rfl
      · have i1 : IntKind.i64.wrap (y + c) = y + c := IntWalk.i64_in _ (by omega)
        have g0 : (0 : Int) ≤ (m : Int) + 1 := by omega
        have g1 : (m : Int) + 1 < 13 := by omega
        have gp : ¬ ((m : Int) + 1 < 0) := by omega
        have gt : ((m : Int) + 1).toNat = m + 1 := by omega
        have HR : Hid (Blk (((wr.setCell ⟨w.heap.size + 1, m + 1, none⟩ (.int .i64 (y + c))).alloc (.cells #[.int .i64 c, .int .i64 ((m : Int) + 1)] 47)).drew) (w.heap.size + 1) 77 (encI (netL (ts.take (k + 1)))).toArray) := by
          rw [HT.out]
          exact ((blk_net_set hB.out HLt.out (by unfold absI; rw [if_neg (by omega)]; omega) (by unfold absI; rw [if_neg (by omega), if_neg (by omega), ← HY.out]; rfl)).alloc _).drew
        have HR0 : Hid (Blk (((wr.setCell ⟨w.heap.size + 1, m + 1, none⟩ (.int .i64 (y + c))).alloc (.cells #[.int .i64 c, .int .i64 ((m : Int) + 1)] 47)).drew) w.heap.size 26 #[.slice none 0 0, .int .i64 0]) := ((hB0.out.far (p := ⟨w.heap.size + 1, m + 1, none⟩) (by simp) _).alloc _).drew
        have HZ2 : Hid (z = bd - negI (ts.take (k + 1))) := by rw [Hid, HT.out, negI_snoc, hz.out]; simp only; rw [if_neg (by omega)]; omega
        have KS : Hid (∀ W, Ext (wr.alloc (.cells #[.int .i64 c, .int .i64 ((m : Int) + 1)] 47)) W → (W.cell? ⟨wr.heap.size, 0, none⟩ = some (.int .i64 c) ∧ W.cell? ⟨wr.heap.size, 1, none⟩ = some (.int .i64 ((m : Int) + 1)) ∧ W.cell? ⟨w.heap.size + 1, m + 1, none⟩ = some (.int .i64 y))) := fun W e => ⟨(HBX.out.ext e).cell 0, (HBX.out.ext e).cell 1, e.cell (EX.cell n1)⟩
        have EX2 := Lib.hid EX
        have HE2 := Lib.hid (((hE.setNew (p := ⟨w.heap.size + 1, m + 1, none⟩) (by simp) (.int .i64 (y + c))).alloc (.cells #[.int .i64 c, .int .i64 ((m : Int) + 1)] 47)).drew)
        clear EX HY HT
        go_wp2_with fail
        have hS0 := KS.out _ (Ext.refl _).drew
        refine wp_region_Z (fun W => W.cell? ⟨wr.heap.size, 0, none⟩ = some (.int .i64 c) ∧ W.cell? ⟨wr.heap.size, 1, none⟩ = some (.int .i64 ((m : Int) + 1)) ∧ W.cell? ⟨w.heap.size + 1, m + 1, none⟩ = some (.int .i64 y)) 8 (by kernel_rfl) ?_
        refine wpAnyZ_take 0 (v := ?_) (by kernel_rfl) rfl rfl (by kernel_rfl) (by kernel_rfl) (by kernel_rfl) (fun _ _ _ h => h) hS0 (Or.inl ⟨by rfl, ?_⟩) ?_
        rotate_left
        · (intro w hSw; (try dsimp only at hSw); go_simp; (try with_reducible rfl))
        try simp only [Act.put, List.setIfInBounds_toArray, List.set_cons_zero, List.set_cons_succ]
        refine wpAnyZ_take 1 (v := ?_) (by kernel_rfl) rfl rfl (by kernel_rfl) (by kernel_rfl) (by kernel_rfl) (fun _ _ _ h => h) hS0 (Or.inl ⟨by rfl, ?_⟩) ?_
        rotate_left
        · (intro w hSw; (try dsimp only at hSw); go_simp; (try with_reducible rfl))
        try simp only [Act.put, List.setIfInBounds_toArray, List.set_cons_zero, List.set_cons_succ]
        refine wpAnyZ_take 2 (v := ?_) (by kernel_rfl) rfl rfl (by kernel_rfl) (by kernel_rfl) (by kernel_rfl) (fun _ _ _ h => h) hS0 (Or.inl ⟨by rfl, ?_⟩) ?_
        rotate_left
        · (intro w hSw; (try dsimp only at hSw); go_simp; (try with_reducible rfl))
        try simp only [Act.put, List.setIfInBounds_toArray, List.set_cons_zero, List.set_cons_succ]
        refine wpAnyZ_take 3 (v := ?_) (by kernel_rfl) rfl rfl (by kernel_rfl) (by kernel_rfl) (by kernel_rfl) (fun _ _ _ h => h) hS0 (Or.inl ⟨by rfl, ?_⟩) ?_
        rotate_left
        · (intro w hSw; (try dsimp only at hSw); go_simp; (try with_reducible rfl))
        try simp only [Act.put, List.setIfInBounds_toArray, List.set_cons_zero, List.set_cons_succ]
        refine wpAnyZ_take 4 (v := ?_) (by kernel_rfl) rfl rfl (by kernel_rfl) (by kernel_rfl) (by kernel_rfl) (fun _ _ _ h => h) hS0 (Or.inl ⟨by rfl, ?_⟩) ?_
        rotate_left
        · (intro w hSw; (try dsimp only at hSw); go_simp; (try with_reducible rfl))
        try simp only [Act.put, List.setIfInBounds_toArray, List.set_cons_zero, List.set_cons_succ]
        refine wpAnyZ_take 5 (v := ?_) (by kernel_rfl) rfl rfl (by kernel_rfl) (by kernel_rfl) (by kernel_rfl) (fun _ _ _ h => h) hS0 (Or.inl ⟨by rfl, ?_⟩) ?_
        rotate_left
        · (intro w hSw; (try dsimp only at hSw); go_simp; (try with_reducible rfl))
        try simp only [Act.put, List.setIfInBounds_toArray, List.set_cons_zero, List.set_cons_succ]
        refine wpAnyZ_take 6 (v := ?_) (by kernel_rfl) rfl rfl (by kernel_rfl) (by kernel_rfl) (by kernel_rfl) (fun _ _ _ h => h) hS0 (Or.inl ⟨by rfl, ?_⟩) ?_
        rotate_left
        · (intro w hSw; (try dsimp only at hSw); go_simp; (try with_reducible rfl))
        try simp only [Act.put, List.setIfInBounds_toArray, List.set_cons_zero, List.set_cons_succ]
        refine wpAnyZ_take 7 (v := ?_) (by kernel_rfl) rfl rfl (by kernel_rfl) (by kernel_rfl) (by kernel_rfl) (fun _ _ _ h => h) hS0 (Or.inl ⟨by rfl, ?_⟩) ?_
        rotate_left
        · (intro w hSw; (try dsimp only at hSw); go_simp; (try with_reducible rfl))
        try simp only [Act.put, List.setIfInBounds_toArray, List.set_cons_zero, List.set_cons_succ]
        refine wpAnyZ_last (by kernel_rfl) (by kernel_rfl) rfl rfl (fun K hK => ?_)
        go_simp
        refine hK.out _ _ ?_
        clear hK K hS0
        clear n1 f1
        go_wp2
        go_roundw
        case rel => exact ⟨k + 1, z, by omega, by go_num, rfl, HZ2.out, HE2.out, HR0.out, HR.out⟩
        case measure => simp [intOf]; omega
      · have i1 : IntKind.i64.wrap (y - c) = y - c := IntWalk.i64_in _ (by omega)
        have i2 : IntKind.i64.wrap ((m : Int) + 1) = (m : Int) + 1 := IntWalk.i64_in _ (by omega)
        have i3 : IntKind.i64.wrap (z - c) = z - c := IntWalk.i64_in _ (by omega)
        have g0 : (0 : Int) ≤ (m : Int) + 1 := by omega
        have g1 : (m : Int) + 1 < 13 := by omega
        have gp : -((m : Int) + 1) < 0 := by omega
        have gt : ((m : Int) + 1).toNat = m + 1 := by omega
        have HR : Hid (Blk (((wr.setCell ⟨w.heap.size + 1, m + 1, none⟩ (.int .i64 (y - c))).alloc (.cells #[.int .i64 c, .int .i64 (-((m : Int) + 1))] 47)).drew) (w.heap.size + 1) 77 (encI (netL (ts.take (k + 1)))).toArray) := by
          rw [HT.out]
          refine ((blk_net_set hB.out HLt.out (by unfold absI; rw [if_pos (by omega)]; omega) ?_).alloc _).drew
          unfold absI; rw [if_pos (by omega), if_pos (by omega), ← HY.out, show - -((m : Int) + 1) = ((m + 1 : Nat) : Int) from by omega]; omega
        have HR0 : Hid (Blk (((wr.setCell ⟨w.heap.size + 1, m + 1, none⟩ (.int .i64 (y - c))).alloc (.cells #[.int .i64 c, .int .i64 (-((m : Int) + 1))] 47)).drew) w.heap.size 26 #[.slice none 0 0, .int .i64 0]) := ((hB0.out.far (p := ⟨w.heap.size + 1, m + 1, none⟩) (by simp) _).alloc _).drew
        have HZ2 : Hid (z - c = bd - negI (ts.take (k + 1))) := by rw [Hid, HT.out, negI_snoc, hz.out]; simp only; rw [if_pos (by omega)]; omega
        have KS : Hid (∀ W, Ext (wr.alloc (.cells #[.int .i64 c, .int .i64 (-((m : Int) + 1))] 47)) W → (W.cell? ⟨wr.heap.size, 0, none⟩ = some (.int .i64 c) ∧ W.cell? ⟨wr.heap.size, 1, none⟩ = some (.int .i64 (-((m : Int) + 1))) ∧ W.cell? ⟨w.heap.size + 1, m + 1, none⟩ = some (.int .i64 y))) := fun W e => ⟨(HBX.out.ext e).cell 0, (HBX.out.ext e).cell 1, e.cell (EX.cell n1)⟩
        have EX2 := Lib.hid EX
        have HE2 := Lib.hid (((hE.setNew (p := ⟨w.heap.size + 1, m + 1, none⟩) (by simp) (.int .i64 (y - c))).alloc (.cells #[.int .i64 c, .int .i64 (-((m : Int) + 1))] 47)).drew)
        clear EX HY HT
        go_wp2_with fail
        have hS0 := KS.out _ (Ext.refl _).drew
        refine wp_region_Z (fun W => W.cell? ⟨wr.heap.size, 0, none⟩ = some (.int .i64 c) ∧ W.cell? ⟨wr.heap.size, 1, none⟩ = some (.int .i64 (-((m : Int) + 1))) ∧ W.cell? ⟨w.heap.size + 1, m + 1, none⟩ = some (.int .i64 y)) 9 (by kernel_rfl) ?_
        refine wpAnyZ_take 0 (v := ?_) (by kernel_rfl) rfl rfl (by kernel_rfl) (by kernel_rfl) (by kernel_rfl) (fun _ _ _ h => h) hS0 (Or.inl ⟨by rfl, ?_⟩) ?_
        rotate_left
        · (intro w hSw; (try dsimp only at hSw); go_simp; (try with_reducible rfl))
        try simp only [Act.put, List.setIfInBounds_toArray, List.set_cons_zero, List.set_cons_succ]
        refine wpAnyZ_take 1 (v := ?_) (by kernel_rfl) rfl rfl (by kernel_rfl) (by kernel_rfl) (by kernel_rfl) (fun _ _ _ h => h) hS0 (Or.inl ⟨by rfl, ?_⟩) ?_
        rotate_left
        · (intro w hSw; (try dsimp only at hSw); go_simp; (try with_reducible rfl))
        try simp only [Act.put, List.setIfInBounds_toArray, List.set_cons_zero, List.set_cons_succ]
        refine wpAnyZ_take 2 (v := ?_) (by kernel_rfl) rfl rfl (by kernel_rfl) (by kernel_rfl) (by kernel_rfl) (fun _ _ _ h => h) hS0 (Or.inl ⟨by rfl, ?_⟩) ?_
        rotate_left
        · (intro w hSw; (try dsimp only at hSw); go_simp; (try with_reducible rfl))
        try simp only [Act.put, List.setIfInBounds_toArray, List.set_cons_zero, List.set_cons_succ]
        refine wpAnyZ_take 3 (v := ?_) (by kernel_rfl) rfl rfl (by kernel_rfl) (by kernel_rfl) (by kernel_rfl) (fun _ _ _ h => h) hS0 (Or.inl ⟨by rfl, ?_⟩) ?_
        rotate_left
        · (intro w hSw; (try dsimp only at hSw); go_simp; (try with_reducible rfl))
        try simp only [Act.put, List.setIfInBounds_toArray, List.set_cons_zero, List.set_cons_succ]
        refine wpAnyZ_take 4 (v := ?_) (by kernel_rfl) rfl rfl (by kernel_rfl) (by kernel_rfl) (by kernel_rfl) (fun _ _ _ h => h) hS0 (Or.inl ⟨by rfl, ?_⟩) ?_
        rotate_left
        · (intro w hSw; (try dsimp only at hSw); go_simp; (try with_reducible rfl))
        try simp only [Act.put, List.setIfInBounds_toArray, List.set_cons_zero, List.set_cons_succ]
        refine wpAnyZ_take 5 (v := ?_) (by kernel_rfl) rfl rfl (by kernel_rfl) (by kernel_rfl) (by kernel_rfl) (fun _ _ _ h => h) hS0 (Or.inl ⟨by rfl, ?_⟩) ?_
        rotate_left
        · (intro w hSw; (try dsimp only at hSw); go_simp; (try with_reducible rfl))
        try simp only [Act.put, List.setIfInBounds_toArray, List.set_cons_zero, List.set_cons_succ]
        refine wpAnyZ_take 6 (v := ?_) (by kernel_rfl) rfl rfl (by kernel_rfl) (by kernel_rfl) (by kernel_rfl) (fun _ _ _ h => h) hS0 (Or.inl ⟨by rfl, ?_⟩) ?_
        rotate_left
        · (intro w hSw; (try dsimp only at hSw); go_simp; (try with_reducible rfl))
        try simp only [Act.put, List.setIfInBounds_toArray, List.set_cons_zero, List.set_cons_succ]
        refine wpAnyZ_take 7 (v := ?_) (by kernel_rfl) rfl rfl (by kernel_rfl) (by kernel_rfl) (by kernel_rfl) (fun _ _ _ h => h) hS0 (Or.inl ⟨by rfl, ?_⟩) ?_
        rotate_left
        · (intro w hSw; (try dsimp only at hSw); go_simp; (try with_reducible rfl))
        try simp only [Act.put, List.setIfInBounds_toArray, List.set_cons_zero, List.set_cons_succ]
        refine wpAnyZ_take 8 (v := ?_) (by kernel_rfl) rfl rfl (by kernel_rfl) (by kernel_rfl) (by kernel_rfl) (fun _ _ _ h => h) hS0 (Or.inl ⟨by rfl, ?_⟩) ?_
        rotate_left
        · (intro w hSw; (try dsimp only at hSw); go_simp; (try with_reducible rfl))
        try simp only [Act.put, List.setIfInBounds_toArray, List.set_cons_zero, List.set_cons_succ]
        refine wpAnyZ_last (by kernel_rfl) (by kernel_rfl) rfl rfl (fun K hK => ?_)
        go_simp
        refine hK.out _ _ ?_
        clear hK K hS0
        clear n1 f1
        go_wp2
        go_roundw
        case rel => exact ⟨k + 1, z - c, by omega, by go_num, rfl, HZ2.out, HE2.out, HR0.out, HR.out⟩
        case measure => simp [intOf]; omega
    · obtain rfl : k = n := by omega
      rw [List.take_of_length_le (by rw [HL.out]; omega)] at hz hB
      obtain ⟨w5, rfl⟩ : ∃ x, x = wr := ⟨wr, rfl⟩
      have hw5 := hB0.out.lt
      have n0 := blk_net ((hB.out.alloc (.cells #[.slice none 0 0, .int .i64 0] 26))) (i := 0) (by omega)
      have n1 := blk_net ((hB.out.alloc (.cells #[.slice none 0 0, .int .i64 0] 26))) (i := 1) (by omega)
      have n2 := blk_net ((hB.out.alloc (.cells #[.slice none 0 0, .int .i64 0] 26))) (i := 2) (by omega)
      have n3 := blk_net ((hB.out.alloc (.cells #[.slice none 0 0, .int .i64 0] 26))) (i := 3) (by omega)
      have n4 := blk_net ((hB.out.alloc (.cells #[.slice none 0 0, .int .i64 0] 26))) (i := 4) (by omega)
      have n5 := blk_net ((hB.out.alloc (.cells #[.slice none 0 0, .int .i64 0] 26))) (i := 5) (by omega)
      have n6 := blk_net ((hB.out.alloc (.cells #[.slice none 0 0, .int .i64 0] 26))) (i := 6) (by omega)
      have n7 := blk_net ((hB.out.alloc (.cells #[.slice none 0 0, .int .i64 0] 26))) (i := 7) (by omega)
      have n8 := blk_net ((hB.out.alloc (.cells #[.slice none 0 0, .int .i64 0] 26))) (i := 8) (by omega)
      have n9 := blk_net ((hB.out.alloc (.cells #[.slice none 0 0, .int .i64 0] 26))) (i := 9) (by omega)
      have n10 := blk_net ((hB.out.alloc (.cells #[.slice none 0 0, .int .i64 0] 26))) (i := 10) (by omega)
      have n11 := blk_net ((hB.out.alloc (.cells #[.slice none 0 0, .int .i64 0] 26))) (i := 11) (by omega)
      have n12 := blk_net ((hB.out.alloc (.cells #[.slice none 0 0, .int .i64 0] 26))) (i := 12) (by omega)
      go_wp2_with fail
      rw [← netAgg ts]
      clear n0 n1 n2 n3 n4 n5 n6 n7 n8 n9 n10 n11 n12 hlt
      have hcs : Hid (∀ j : Nat, j < 13 → (encI (netL ts)).toArray[j]? = some (.int .i64 (netI ts j))) := fun j hj => by
        have := netL_at ts j hj
        simp [encI, this]
      have hcz : Hid ((encI (netL ts)).toArray.size = 13) := by simp [Hid, encI, netL_len]
      clear hB
      generalize (encI (netL ts)).toArray = cs at hcs hcz ⊢
      have H1 := Lib.hid (nfUp_one HM.out)
      go_loopw [1, 45] (fun b i wr => ∃ (j : Nat) (z : Int), j ≤ 13 ∧ i = .int .i64 j ∧ b = .int .i64 z ∧ Hid (z = bd - negI ts - nfNg ts j) ∧ Ext w wr ∧ Hid (Blk wr w.heap.size 26 #[.slice none 0 0, .int .i64 0]) ∧ ∃ v m, m ≤ j ∧ Hid (Blk wr w5.heap.size 26 #[v, .int .i64 0]) ∧ Hid (wr.ownsRow (w5.heap.size + 1) 47 2 v m (encT (nfUp ts j)))) (fun _ i _ => 13 - (intOf i).toNat)
      case atStart => exact ⟨0, z, by omega, rfl, rfl, by rw [Hid, hz.out]; simp [nfNg], hE.alloc _, hB0.out.alloc _, .slice none 0 0, 0, by omega, Blk.new _ _ _, World.ownsRow_nil _ _ _ _⟩
      case round =>
        obtain ⟨j, z, hj, rfl, rfl, hz, hE, hB0, v, m, hmj, hB1, hown⟩ := hrel
        by_cases hlt : j < 13
        · obtain ⟨a, ha⟩ : ∃ a, netI ts (j : Int) = a := ⟨_, rfl⟩
          have hcj := hcs.out j hlt
          rw [ha] at hcj
          have hix := run_index_net cs j a hlt hcj
          have hab : -40000 ≤ a ∧ a ≤ 40000 := by have := netI_bd HM.out (j : Int); have := HL.out; omega
          have hzb2 : -200000 ≤ z ∧ z ≤ 700000 := by
            have := nfNg_bd2 HM.out (by rw [HL.out]; exact hn) j hj
            have := hz.out
            have := negI_bd HM.out
            have := HL.out
            omega
          have b1 := hB1.out.cell 0
          have hsz := hB1.out.lt
          have hsz0 := hB0.out.lt
          have hze := hE.size
          have HA := Lib.hid ha
          clear hcj ha
          rcases Int.lt_trichotomy a 0 with hlt0 | heq | hgt
          · have hup := nfUp_neg (ts := ts) (m := j) (by rw [HA.out]; exact hlt0)
            rw [HA.out] at hup
            have HU := Lib.hid hup.1
            have HN2 : Hid (z - a = bd - negI ts - nfNg ts (j + 1)) := by rw [Hid, hup.2, hz.out]; omega
            have i1 : IntKind.i64.wrap (-a) = -a := IntWalk.i64_in _ (by omega)
            have i2 : IntKind.i64.wrap (-(j : Int)) = -(j : Int) := IntWalk.i64_in _ (by omega)
            have i3 : IntKind.i64.wrap (z - a) = z - a := IntWalk.i64_in _ (by omega)
            have hng : ¬ (0 < a) := by omega
            clear hup
            go_wp2_with (first
              | (at_builtin
                 refine wpList_append_own _ rfl (.tmp 64) (.tmp 70) 24 rfl (w5.heap.size + 1) 47 i0 _ 2 16 Try.underlying24 HI.out HZ0.out HZ1.out HZ2.out rfl (by omega) v m _ rfl (hown.out.alloc _) ⟨wr.heap.size, 0, none⟩ 1 1 [.int .i64 (-a), .int .i64 (-(j : Int))] rfl rfl (cell_two_new _ _ _ _) ?_ ?_ ?_ ?_ ?_
                 (intro u hu; simp at hu; rcases hu with rfl | rfl <;> rfl)
                 (unfold maxLen; omega)
                 omega
                 (simp; omega)
                 intro v1 w1 hown1 hg1 _
                 obtain ⟨A1, k1, rfl⟩ := own_slice hown1
                 have BB := push_pre hB1.out hown.out (by omega) hg1
                 have bb := BB.cell 0
                 have fz := BB.frozen 0
                 clear BB))
            obtain ⟨E1, K1, O1⟩ := push_box hE hB1.out hown.out (by omega) (by omega) (by omega) hg1 hown1
            have K0 := push_blk (gc := w5.heap.size) (v1 := .slice A1 (m + 1) k1) hB0.out hown.out (by omega) (by omega) hg1
            go_wp2
            go_roundw
            case rel =>
              refine ⟨j + 1, z - a, by omega, by go_num, rfl, HN2.out, E1, K0, _, m + 1, by omega, K1, ?_⟩
              rw [HU.out, encT_append]
              simpa [encT, Hid] using O1
            case measure => simp [intOf]; omega
          · have hup := nfUp_zero (ts := ts) (m := j) (by rw [HA.out]; exact heq)
            subst heq
            have HU := Lib.hid hup.1
            have HN2 : Hid (z = bd - negI ts - nfNg ts (j + 1)) := by rw [Hid, hup.2, hz.out]
            clear hup
            go_wp2
            go_roundw
            case rel =>
              refine ⟨j + 1, z, by omega, by go_num, rfl, HN2.out, hE, hB0.out, v, m, by omega, hB1.out, ?_⟩
              rw [HU.out]; exact hown.out
            case measure => simp [intOf]; omega
          · have hup := nfUp_pos (ts := ts) (m := j) (by rw [HA.out]; exact hgt)
            rw [HA.out] at hup
            have HU := Lib.hid hup.1
            have HN2 : Hid (z = bd - negI ts - nfNg ts (j + 1)) := by rw [Hid, hup.2, hz.out]
            have hng : ¬ (a < 0) := by omega
            clear hup
            go_wp2_with (first
              | (at_builtin
                 refine wpList_append_own _ rfl (.tmp 53) (.tmp 57) 24 rfl (w5.heap.size + 1) 47 i0 _ 2 16 Try.underlying24 HI.out HZ0.out HZ1.out HZ2.out rfl (by omega) v m _ rfl (hown.out.alloc _) ⟨wr.heap.size, 0, none⟩ 1 1 [.int .i64 a, .int .i64 (j : Int)] rfl rfl (cell_two_new _ _ _ _) ?_ ?_ ?_ ?_ ?_
                 (intro u hu; simp at hu; rcases hu with rfl | rfl <;> rfl)
                 (unfold maxLen; omega)
                 omega
                 (simp; omega)
                 intro v1 w1 hown1 hg1 _
                 obtain ⟨A1, k1, rfl⟩ := own_slice hown1
                 have BB := push_pre hB1.out hown.out (by omega) hg1
                 have bb := BB.cell 0
                 have fz := BB.frozen 0
                 clear BB))
            obtain ⟨E1, K1, O1⟩ := push_box hE hB1.out hown.out (by omega) (by omega) (by omega) hg1 hown1
            have K0 := push_blk (gc := w5.heap.size) (v1 := .slice A1 (m + 1) k1) hB0.out hown.out (by omega) (by omega) hg1
            go_wp2
            go_roundw
            case rel =>
              refine ⟨j + 1, z, by omega, by go_num, rfl, HN2.out, E1, K0, _, m + 1, by omega, K1, ?_⟩
              rw [HU.out, encT_append]
              simpa [encT, Hid] using O1
            case measure => simp [intOf]; omega
        · obtain rfl : j = 13 := by omega
          obtain ⟨A1, c1, rfl⟩ := own_slice hown.out
          have HD : Hid (noD ts bd = if z < 0 then 0 else z) := by unfold noD Hid; rw [← hz.out]; split <;> omega
          obtain ⟨d, hd⟩ : ∃ d, noD ts bd = d := ⟨_, rfl⟩
          have HDd := Lib.hid hd
          clear hd
          have b1 := hB1.out.cell 0
          have f2 := hB1.out.frozen 1
          have b2 := hB1.out.cell 1
          have HP := Lib.hid (own_parts hown.out)
          have hm1 : m ≤ maxLen := by unfold maxLen; omega
          have HML : Hid ((noT ts).length = m) := by have := hown.out.1; rw [encT_length] at this; show (nfUp ts 13).length = m; omega
          have hsz := hB1.out.lt
          have KB : Kept w5.heap.size (w5.heap.size + 1) wr (wr.setCell ⟨w5.heap.size, 1, none⟩ (.int .i64 d)) := (Kept.refl _ _ wr).setIn (p := ⟨w5.heap.size, 1, none⟩) (by simp) _
          have HSG := Lib.hid (HP.out.1.kept HP.out.2.2 KB (.inr (Nat.le_refl _)))
          have HFR := Lib.hid (HP.out.2.1.kept HP.out.1 HP.out.2.2 KB (.inr (Nat.le_refl _)))
          have HLI : Hid (Lies (w5.heap.size + 1) wr.heap.size A1 m) := HP.out.2.2
          have HE2 := Lib.hid (hE.setNew (p := ⟨w5.heap.size, 1, none⟩) (by simp only; omega) (.int .i64 d))
          have HBB := Lib.hid (hB1.out.set_ 1 (.int .i64 d))
          have HB02 := Lib.hid (hB0.out.far (p := ⟨w5.heap.size, 1, none⟩) (by simp only; omega) (.int .i64 d))
          have HZ := Lib.hid hz.out
          clear HP KB hz hB0 hB1 hown
          by_cases hz0 : z ≤ 0
          · have hdd : d = (if z < 0 then 0 else z) := HDd.out.symm.trans HD.out
            have hd0 : d = 0 := by rw [hdd]; split <;> omega
            clear hdd
            subst hd0
            go_wp2_with fail
            refine (valid_any A1 m c1 (noT ts) 0 _ hm1 HSG.out).mono ?_
            rintro e w2 ⟨hR, hE3⟩
            have r0 := (HB02.out.ext hE3).cell 0
            have r1 := (HB02.out.ext hE3).cell 1
            have q0 := (HB02.out.ext hE3).frozen 0
            have q1 := (HB02.out.ext hE3).frozen 1
            have hzw2 := hE3.size
            rw [World.size_setCell] at hzw2
            have HE3 := Lib.hid hE3
            clear hE3 b1 f2 b2
            rcases hR with ⟨hv, rfl⟩ | ⟨hv, rfl⟩
            · have HOK : Hid (noB ts bd = true) := by unfold noB Hid; rw [HDd.out]; exact hv
              clear hv
              go_wp2
              refine bodyPost_ret (v := .tuple #[.agg #[.slice A1 m c1, .int .i64 0], .bool true]) (by simp [results, Try.results39, go_sem, r0, r1]; try rfl) rfl ?_
              have KR : Kept w.heap.size (w.heap.size + 1) w2 _ := ((Kept.refl _ _ w2).setIn (p := ⟨w.heap.size, 0, none⟩) (by simp) (.slice A1 m c1)).setIn (p := ⟨w.heap.size, 1, none⟩) (by simp) (.int .i64 0)
              have G0 : Got w w2 2 A1 m (encT (noT ts)) := ⟨HSG.out.ext HE3.out, HFR.out.ext HSG.out HE3.out, HLI.out.wide (by omega) hzw2⟩
              refine ⟨A1, m, c1, by unfold vD; rw [if_pos HOK.out, HOK.out, HDd.out], by unfold vT; rw [if_pos HOK.out]; exact HML.out, ?_, ((HE2.out.trans HE3.out).setNew (p := ⟨w.heap.size, 0, none⟩) (Nat.le_refl _) _).setNew (p := ⟨w.heap.size, 1, none⟩) (Nat.le_refl _) _⟩
              unfold vT; rw [if_pos HOK.out]
              have L2 := HLI.out.wide (lo' := w.heap.size + 1) (by omega) hzw2
              exact ⟨G0.seg.kept L2 KR (.inr (Nat.le_refl _)), G0.free.kept G0.seg L2 KR (.inr (Nat.le_refl _)), G0.lies.wide (Nat.le_refl _) (by simp)⟩
            · have HOK : Hid (noB ts bd = false) := by unfold noB Hid; rw [HDd.out]; exact hv
              clear hv
              go_wp2
              refine bodyPost_ret (v := .tuple #[.agg #[.slice none 0 0, .int .i64 0], .bool false]) (by simp [results, Try.results39, go_sem, r0, r1]) rfl ?_
              exact (RetCB.zero (((HE2.out.trans HE3.out).setNew (p := ⟨w.heap.size, 0, none⟩) (Nat.le_refl _) _).setNew (p := ⟨w.heap.size, 1, none⟩) (Nat.le_refl _) _)).of_eq (by unfold vT; rw [if_neg (by rw [HOK.out]; simp)]) (by unfold vD; rw [if_neg (by rw [HOK.out]; simp)]) HOK.out.symm
          · have hdd : d = (if z < 0 then 0 else z) := HDd.out.symm.trans HD.out
            rw [if_neg (by omega)] at hdd
            obtain rfl : z = d := hdd.symm
            have hmx : 0 < z := by omega
            go_wp2_with fail
            refine (valid_any A1 m c1 (noT ts) z _ hm1 HSG.out).mono ?_
            rintro e w2 ⟨hR, hE3⟩
            have r0 := (HB02.out.ext hE3).cell 0
            have r1 := (HB02.out.ext hE3).cell 1
            have q0 := (HB02.out.ext hE3).frozen 0
            have q1 := (HB02.out.ext hE3).frozen 1
            have hzw2 := hE3.size
            rw [World.size_setCell] at hzw2
            have HE3 := Lib.hid hE3
            clear hE3 b1 f2 b2
            rcases hR with ⟨hv, rfl⟩ | ⟨hv, rfl⟩
            · have HOK : Hid (noB ts bd = true) := by unfold noB Hid; rw [HDd.out]; exact hv
              clear hv
              go_wp2
              refine bodyPost_ret (v := .tuple #[.agg #[.slice A1 m c1, .int .i64 z], .bool true]) (by simp [results, Try.results39, go_sem, r0, r1]; try rfl) rfl ?_
              have KR : Kept w.heap.size (w.heap.size + 1) w2 _ := ((Kept.refl _ _ w2).setIn (p := ⟨w.heap.size, 0, none⟩) (by simp) (.slice A1 m c1)).setIn (p := ⟨w.heap.size, 1, none⟩) (by simp) (.int .i64 z)
              have G0 : Got w w2 2 A1 m (encT (noT ts)) := ⟨HSG.out.ext HE3.out, HFR.out.ext HSG.out HE3.out, HLI.out.wide (by omega) hzw2⟩
              refine ⟨A1, m, c1, by unfold vD; rw [if_pos HOK.out, HOK.out, HDd.out], by unfold vT; rw [if_pos HOK.out]; exact HML.out, ?_, ((HE2.out.trans HE3.out).setNew (p := ⟨w.heap.size, 0, none⟩) (Nat.le_refl _) _).setNew (p := ⟨w.heap.size, 1, none⟩) (Nat.le_refl _) _⟩
              unfold vT; rw [if_pos HOK.out]
              have L2 := HLI.out.wide (lo' := w.heap.size + 1) (by omega) hzw2
              exact ⟨G0.seg.kept L2 KR (.inr (Nat.le_refl _)), G0.free.kept G0.seg L2 KR (.inr (Nat.le_refl _)), G0.lies.wide (Nat.le_refl _) (by simp)⟩
            · have HOK : Hid (noB ts bd = false) := by unfold noB Hid; rw [HDd.out]; exact hv
              clear hv
              go_wp2
              refine bodyPost_ret (v := .tuple #[.agg #[.slice none 0 0, .int .i64 0], .bool false]) (by simp [results, Try.results39, go_sem, r0, r1]) rfl ?_
              exact (RetCB.zero (((HE2.out.trans HE3.out).setNew (p := ⟨w.heap.size, 0, none⟩) (Nat.le_refl _) _).setNew (p := ⟨w.heap.size, 1, none⟩) (Nat.le_refl _) _)).of_eq (by unfold vT; rw [if_neg (by rw [HOK.out]; simp)]) (by unfold vD; rw [if_neg (by rw [HOK.out]; simp)]) HOK.out.symm
end Go.Proofs.Ytmbdfnimmjomfaa
