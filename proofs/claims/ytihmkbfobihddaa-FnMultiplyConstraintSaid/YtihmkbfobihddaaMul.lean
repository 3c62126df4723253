/- MultiplyConstraint: the contracts of the program's and the reference's. -/
import Derived.Test.YtihmkbfobihddaaPlD
import Derived.Test.YtihmkbfobihddaaCVs
import Derived.Shelf.Abstract
namespace Go.Proofs.Ytihmkbfobihddaa
open Go.RowKit

theorem Try.infoTmU : (Try.prog.info? 71).map (fun i => (i.zero, i.size, i.bytes)) = some (some (.agg #[.int .i64 0, .int .i64 0]), 2, 16) := by kernel_rfl

set_option maxHeartbeats 400000 in
theorem mulC_any (x k : Int) (pk : Addr) (w : World) (hc : w.cell? pk = some (.int .i64 k)) (h1 : 0 ≤ x) (h2 : x ≤ 20000) (k1 : 1 ≤ k) (k2 : k ≤ 1000) :
    Calls Try.prog 69 #[.int .i64 x, .pointer (some pk)] w fun e w' => e = .returned (.int .i64 (muF k x)) ∧ w = w' := by
  have hb := Int.mul_le_mul h2 k2 (by omega) (by omega)
  have h0 := Int.mul_nonneg h1 (show 0 ≤ k by omega)
  have e1 : IntKind.i64.wrap (x * k) = x * k := IntWalk.i64_in _ (by omega)
  clear hb h0
  go_enter Try.func69, Try.ntmps69
  go_wp2
  go_ret
  exact ⟨ret_i (by unfold muF; first | rfl | exact e1), rfl⟩

set_option maxRecDepth 100000 in
set_option maxHeartbeats 2000000 in
theorem implMul_any (A : Option Addr) (n cap : Nat) (ts : List Tm) (bd k : Int) (w : World) (hn : n ≤ maxLen) (h : Seg w 2 A n (encT ts)) :
    Calls Try.prog 30 #[.agg #[.slice A n cap, .int .i64 bd], .int .i64 k] w fun e w' => RetCB (muT ts bd k) (muD ts bd k) (muB ts bd k) w e w' := by
  have eg : ∀ args w, (callFunc 69 args).run Try.prog w = .ok (.enter 69 args) w := enters_of Try.func69 (by kernel_rfl) rfl
  by_cases hv : cvB ts bd = true
  · have HV := Lib.hid hv
    by_cases hk : inB k 1 1000 = true
    · have HK := Lib.hid hk
      have hmt : muT ts bd k = chT (muF k) ts bd := by unfold muT chT muB; rw [hv, hk]; rfl
      have hmd : muD ts bd k = chD (muF k) ts bd := by unfold muD chD muB; rw [hv, hk]; rfl
      have hmb : muB ts bd k = cvB (chMap (muF k) ts) (muF k bd) := by unfold muB; rw [hv, hk]; rfl
      rw [hmt, hmd, hmb]
      clear hmt hmd hmb
      have kk : 1 ≤ k ∧ k ≤ 1000 := by simpa [inB] using hk
      clear hk hv
      go_enter Try.func30, Try.ntmps30
      go_wp2_with fail
      refine (implCV_any A n cap ts bd _ hn (((h.alloc _).alloc _).alloc _)).mono ?_
      rintro e w1 ⟨rfl, hE1⟩
      have hv := HV.out
      rw [hv]
      clear hv
      obtain ⟨B0, B1, B2⟩ := Blk.of3 hE1
      have b0 := B0.cell 0
      have b1 := B0.cell 1
      have bk := B1.cell 0
      have h1 := (((h.alloc _).alloc _).alloc _).ext hE1
      clear B0
      have HB := Lib.hid B2
      have HBK := Lib.hid B1
      clear B1 B2
      go_wp2_with fail
      refine (within_any k 1 1000 _).mono ?_
      rintro e w2 ⟨rfl, rfl⟩
      have hk := HK.out
      rw [hk]
      clear hk
      go_wp2_with fail
      refine (changed_any 69 ⟨w.heap.size + 1, 0, none⟩ (muF k) eg A n cap ts bd _ h1 HV.out fun x W hE g1 g2 => mulC_any x k _ W (hE.cell (by rw [HBK.out.cell]; rfl)) g1 g2 kk.1 kk.2).mono ?_
      rintro e w3 ⟨A3, n3, c3, rfl, hl, hG, hE3⟩
      have B2 := HB.out.ext hE3
      have r0 := B2.cell 0
      have r1 := B2.cell 1
      have q0 := B2.frozen 0
      have q1 := B2.frozen 1
      have hz := HB.out.lt
      clear B2 b0 b1 bk h h1
      have HG := Lib.hid hG
      have HLn := Lib.hid hl
      clear hG hl
      generalize hd0 : chD (muF k) ts bd = d0
      generalize hd1 : cvB (chMap (muF k) ts) (muF k bd) = d1
      have HD0 := Lib.hid hd0
      have HD1 := Lib.hid hd1
      clear hd0 hd1
      go_wp2
      refine bodyPost_ret (v := .tuple #[.agg #[.slice A3 n3 c3, .int .i64 d0], .bool d1]) (by simp [results, Try.results30, go_sem, r0, r1]) rfl ?_
      have K : Kept (w.heap.size + 2) (w.heap.size + 3) w3 _ := ((Kept.refl _ _ w3).setIn (p := ⟨w.heap.size + 2, 0, none⟩) (by simp) (.slice A3 n3 c3)).setIn (p := ⟨w.heap.size + 2, 1, none⟩) (by simp) (.int .i64 d0)
      have E1 : Ext w w1 := ((((Ext.refl w).alloc _).alloc _).alloc _).trans hE1
      exact ⟨A3, n3, c3, by rw [HD0.out, HD1.out], HLn.out, (HG.out.kept K (by omega)).from_ E1, ((E1.trans hE3).setNew (by simp only; omega) _).setNew (by simp only; omega) _⟩
    · have hk' : inB k 1 1000 = false := by simpa using hk
      have HK := Lib.hid hk'
      have HO : Hid (muB ts bd k = false) := by unfold muB Hid; rw [hv, hk']; rfl
      clear hk hv hk'
      go_enter Try.func30, Try.ntmps30
      go_wp2_with fail
      refine (implCV_any A n cap ts bd _ hn (((h.alloc _).alloc _).alloc _)).mono ?_
      rintro e w1 ⟨rfl, hE1⟩
      have hv := HV.out
      rw [hv]
      clear hv
      obtain ⟨B0, B1, B2⟩ := Blk.of3 hE1
      have bk := B1.cell 0
      have r0 := B2.cell 0
      have r1 := B2.cell 1
      have q0 := B2.frozen 0
      have q1 := B2.frozen 1
      clear B0 B1 B2 h
      go_wp2_with fail
      refine (within_any k 1 1000 _).mono ?_
      rintro e w2 ⟨rfl, rfl⟩
      have hk := HK.out
      rw [hk]
      clear hk
      go_wp2
      refine bodyPost_ret (v := .tuple #[.agg #[.slice none 0 0, .int .i64 0], .bool false]) (by simp [results, Try.results30, go_sem, r0, r1]) rfl ?_
      have E1 : Ext w w1 := ((((Ext.refl w).alloc _).alloc _).alloc _).trans hE1
      exact (RetCB.zero ((E1.setNew (by simp only; omega) _).setNew (by simp only; omega) _)).of_eq (by unfold muT; rw [if_neg (by rw [HO.out]; simp)]) (by unfold muD; rw [if_neg (by rw [HO.out]; simp)]) HO.out.symm
  · have hf : cvB ts bd = false := by simpa using hv
    have HV := Lib.hid hf
    have HO : Hid (muB ts bd k = false) := by unfold muB Hid; rw [hf, Bool.false_and, Bool.false_and]
    clear hv
    go_enter Try.func30, Try.ntmps30
    go_wp2_with fail
    refine (implCV_any A n cap ts bd _ hn (((h.alloc _).alloc _).alloc _)).mono ?_
    rintro e w1 ⟨rfl, hE1⟩
    rw [hf]
    clear hf h
    obtain ⟨B0, B1, B2⟩ := Blk.of3 hE1
    have r0 := B2.cell 0
    have r1 := B2.cell 1
    have q0 := B2.frozen 0
    have q1 := B2.frozen 1
    clear B0 B1 B2
    go_wp2
    refine bodyPost_ret (v := .tuple #[.agg #[.slice none 0 0, .int .i64 0], .bool false]) (by simp [results, Try.results30, go_sem, r0, r1]) rfl ?_
    have E1 : Ext w w1 := ((((Ext.refl w).alloc _).alloc _).alloc _).trans hE1
    exact (RetCB.zero ((E1.setNew (by simp only; omega) _).setNew (by simp only; omega) _)).of_eq (by unfold muT; rw [if_neg (by rw [HO.out]; simp)]) (by unfold muD; rw [if_neg (by rw [HO.out]; simp)]) HO.out.symm


set_option maxRecDepth 100000 in
set_option maxHeartbeats 4000000 in
theorem specMul_any (A : Option Addr) (n cap : Nat) (ts : List Tm) (bd k : Int) (w : World) (hn : n ≤ maxLen) (h : Seg w 2 A n (encT ts)) :
    Calls Try.prog 28 #[.agg #[.slice A n cap, .int .i64 bd], .int .i64 k] w fun e w' => RetCB (muT ts bd k) (muD ts bd k) (muB ts bd k) w e w' := by
  by_cases hv : cvB ts bd = true
  · have HV := Lib.hid hv
    by_cases hk : inB k 1 1000 = true
    · have HL := Lib.hid h.lenT
      have hn12 : n ≤ 12 := by have := cvB_len hv; rw [HL.out] at this; exact this
      have hb := cvB_bd hv
      have hmt : muT ts bd k = chT (muF k) ts bd := by unfold muT chT muB; rw [hv, hk]; rfl
      have hmd : muD ts bd k = chD (muF k) ts bd := by unfold muD chD muB; rw [hv, hk]; rfl
      have hmb : muB ts bd k = cvB (chMap (muF k) ts) (muF k bd) := by unfold muB; rw [hv, hk]; rfl
      rw [hmt, hmd, hmb]
      clear hmt hmd hmb
      obtain ⟨kk1, kk2⟩ : 1 ≤ k ∧ k ≤ 1000 := by simpa [inB] using hk
      obtain ⟨i0, hi, hz0, hz1, hz2⟩ := info_parts Try.infoTmU
      have HI := Lib.hid hi
      have HZ0 := Lib.hid hz0
      have HZ1 := Lib.hid hz1
      have HZ2 := Lib.hid hz2
      clear hi hz0 hz1 hz2 hk hv
      go_enter Try.func28, Try.ntmps28
      go_wp2_with fail
      refine (specCV_any A n cap ts bd _ hn ((h.alloc _).alloc _)).mono ?_
      rintro e wc ⟨rfl, hEc⟩
      have hv := HV.out
      rw [hv]
      clear hv
      obtain ⟨Bc0, Bc1⟩ := Blk.of2 hEc
      have hzc := Bc1.lt
      have b0 := Bc0.cell 0
      have b1 := Bc0.cell 1
      have EC : Ext w wc := (((Ext.refl w).alloc _).alloc _).trans hEc
      have hB0' := Lib.hid Bc0
      have hR := Lib.hid Bc1
      have hN := Lib.hid h
      have hold := Lib.hid h.old
      clear Bc0 Bc1 h hEc
      have pb1 := Int.mul_le_mul hb.2 kk2 (by omega) (by omega)
      have pb0 := Int.mul_nonneg hb.1 (show 0 ≤ k by omega)
      obtain ⟨z, hz, hz0, hz1⟩ : ∃ z, Hid (muF k bd = z) ∧ 0 ≤ z ∧ z ≤ 20000000 := ⟨_, rfl, pb0, pb1⟩
      have ez : IntKind.i64.wrap (bd * k) = z := by rw [← hz.out]; exact IntWalk.i64_in _ (by omega)
      have HZ := hz
      clear hz pb0 pb1
      go_wp2_with fail
      go_loopw [7] (fun i wr => ∃ (j : Nat), j ≤ n ∧ i = .int .i64 j ∧ Ext w wr ∧ Hid (Blk wr w.heap.size 33 #[.slice A n cap, .int .i64 bd]) ∧ Hid (Blk wr (w.heap.size + 1) 33 #[.slice none 0 0, .int .i64 0]) ∧ ∃ v, Hid (Blk wr wc.heap.size 33 #[v, .int .i64 z]) ∧ Hid (wr.ownsRow (wc.heap.size + 1) 71 2 v j (encT (chMap (muF k) (ts.take j))))) (fun i _ => n - (intOf i).toNat)
      case atStart => exact ⟨0, by omega, rfl, EC.alloc _, hB0'.out.alloc _, hR.out.alloc _, .slice none 0 0, Blk.new _ _ _, World.ownsRow_nil _ _ _ _⟩
      case round =>
        clear hB0' hR EC
        clear ez
        obtain ⟨j, hj, rfl, hE, hBx, hB0, v, hB1, hown⟩ := hrel
        have b0 := hBx.out.cell 0
        have hsz := hB1.out.lt
        by_cases hlt : j < n
        · obtain ⟨b, off, c, l, rfl, hx, c1, c2⟩ := (hN.out.ext hE).term hlt
          have hbl : b < w.heap.size := (hold.out (by omega) _ rfl).2
          have hc := (cvB_get HV.out hx).2
          have HX := Lib.hid hx
          have b1 := hB1.out.cell 0
          have f1 := hB1.out.frozen 0
          have hne : ∀ k, k < wc.heap.size + 1 → some k ≠ v.ownBlock := fun k hk e => by have := (hown.out.lt k e.symm).1; omega
          have K0 : Hid (∀ W, Ext wr W → (W.cell? ⟨wc.heap.size, 0, none⟩ = some v ∧ W.cell? ⟨w.heap.size, 0, none⟩ = some (.slice (some ⟨b, off, none⟩) n cap) ∧ W.cell? ⟨b, off + j * 2, none⟩ = some (.int .i64 c) ∧ W.cell? ⟨b, off + j * 2 + 1, none⟩ = some (.int .i64 l))) := fun W e => ⟨e.cell b1, e.cell b0, e.cell c1, e.cell c2⟩
          have KA : Hid (∀ W W', Ext wr W → W.grownBy W' v.ownBlock → (W'.cell? ⟨wc.heap.size, 0, none⟩ = some v ∧ W'.cell? ⟨w.heap.size, 0, none⟩ = some (.slice (some ⟨b, off, none⟩) n cap) ∧ W'.cell? ⟨b, off + j * 2, none⟩ = some (.int .i64 c) ∧ W'.cell? ⟨b, off + j * 2 + 1, none⟩ = some (.int .i64 l))) := fun W W' e hg => by
            have q := K0.out W e
            have z := e.size
            refine ⟨?_, ?_, ?_, ?_⟩
            · rw [hg.cell_far _ (by simp only; omega) (hne _ (by simp only; omega))]; exact q.1
            · rw [hg.cell_far _ (by simp only; omega) (hne _ (by simp only; omega))]; exact q.2.1
            · rw [hg.cell_far _ (by simp only; omega) (hne _ (by simp only; omega))]; exact q.2.2.1
            · rw [hg.cell_far _ (by simp only; omega) (hne _ (by simp only; omega))]; exact q.2.2.2
          have pc1 := Int.mul_le_mul hc.2 kk2 (by omega) (by omega)
          have pc0 := Int.mul_nonneg (show 0 ≤ c by omega) (show 0 ≤ k by omega)
          have ec : IntKind.i64.wrap (c * k) = muF k c := IntWalk.i64_in _ (by omega)
          clear pc0 pc1
          have j0 : (0 : Int) ≤ (j : Int) := Int.natCast_nonneg _
          have j1 : (j : Int) < (n : Int) := by omega
          clear hx
          go_wp2_with fail
          have hS0 := K0.out wr.drew (Ext.refl _).drew
          refine wp_region_Z (fun w' => w'.cell? ⟨wc.heap.size, 0, none⟩ = some v ∧ w'.cell? ⟨w.heap.size, 0, none⟩ = some (.slice (some ⟨b, off, none⟩) n cap) ∧ w'.cell? ⟨b, off + j * 2, none⟩ = some (.int .i64 c) ∧ w'.cell? ⟨b, off + j * 2 + 1, none⟩ = some (.int .i64 l)) 20 (by kernel_rfl) ?_
          refine wpAnyZ_take 0 (v := ?_) (by kernel_rfl) rfl rfl (by kernel_rfl) (by kernel_rfl) (by kernel_rfl) (fun _ _ _ h => h) hS0 (Or.inl ⟨by rfl, ?_⟩) ?_
          rotate_left
          · (intro w hSw; (try dsimp only at hSw); go_simp; (try with_reducible rfl))
          try simp only [Act.put, List.setIfInBounds_toArray, List.set_cons_zero, List.set_cons_succ]
          refine wpAnyZ_take 1 (v := ?_) (by kernel_rfl) rfl rfl (by kernel_rfl) (by kernel_rfl) (by kernel_rfl) (fun _ _ _ h => h) hS0 (Or.inl ⟨by rfl, ?_⟩) ?_
          rotate_left
          · (intro w hSw; (try dsimp only at hSw); go_simp; (try with_reducible rfl))
          try simp only [Act.put, List.setIfInBounds_toArray, List.set_cons_zero, List.set_cons_succ]
          refine wpAnyZ_take 2 (v := ?_) (by kernel_rfl) rfl rfl (by kernel_rfl) (by kernel_rfl) (by kernel_rfl) (fun _ _ _ h => h) hS0 (Or.inl ⟨by rfl, ?_⟩) ?_
          rotate_left
          · (intro w hSw; (try dsimp only at hSw); go_simp; (try with_reducible rfl))
          try simp only [Act.put, List.setIfInBounds_toArray, List.set_cons_zero, List.set_cons_succ]
          refine wpAnyZ_take 3 (v := ?_) (by kernel_rfl) rfl rfl (by kernel_rfl) (by kernel_rfl) (by kernel_rfl) (fun _ _ _ h => h) hS0 (Or.inl ⟨by rfl, ?_⟩) ?_
          rotate_left
          · (intro w hSw; (try dsimp only at hSw); go_simp; (try with_reducible rfl))
          try simp only [Act.put, List.setIfInBounds_toArray, List.set_cons_zero, List.set_cons_succ]
          refine wpAnyZ_take 4 (v := ?_) (by kernel_rfl) rfl rfl (by kernel_rfl) (by kernel_rfl) (by kernel_rfl) (fun _ _ _ h => h) hS0 (Or.inl ⟨by rfl, ?_⟩) ?_
          rotate_left
          · (intro w hSw; (try dsimp only at hSw); go_simp; (try with_reducible rfl))
          try simp only [Act.put, List.setIfInBounds_toArray, List.set_cons_zero, List.set_cons_succ]
          refine wpAnyZ_take 5 (v := ?_) (by kernel_rfl) rfl rfl (by kernel_rfl) (by kernel_rfl) (by kernel_rfl) (fun _ _ _ h => h) hS0 (Or.inl ⟨by rfl, ?_⟩) ?_
          rotate_left
          · (intro w hSw; (try dsimp only at hSw); go_simp; (try with_reducible rfl))
          try simp only [Act.put, List.setIfInBounds_toArray, List.set_cons_zero, List.set_cons_succ]
          refine wpAnyZ_take 6 (v := ?_) (by kernel_rfl) rfl rfl (by kernel_rfl) (by kernel_rfl) (by kernel_rfl) (fun _ _ _ h => h) hS0 (Or.inl ⟨by rfl, ?_⟩) ?_
          rotate_left
          · (intro w hSw; (try dsimp only at hSw); go_simp; (try with_reducible rfl))
          try simp only [Act.put, List.setIfInBounds_toArray, List.set_cons_zero, List.set_cons_succ]
          refine wpAnyZ_take 7 (v := ?_) (by kernel_rfl) rfl rfl (by kernel_rfl) (by kernel_rfl) (by kernel_rfl) (fun _ _ _ h => h) hS0 (Or.inl ⟨by rfl, ?_⟩) ?_
          rotate_left
          · (intro w hSw; (try dsimp only at hSw); go_simp; (try with_reducible rfl))
          try simp only [Act.put, List.setIfInBounds_toArray, List.set_cons_zero, List.set_cons_succ]
          refine wpAnyZ_take 8 (v := ?_) (by kernel_rfl) rfl rfl (by kernel_rfl) (by kernel_rfl) (by kernel_rfl) (fun _ _ _ h => h) hS0 (Or.inl ⟨by rfl, ?_⟩) ?_
          rotate_left
          · (intro w hSw; (try dsimp only at hSw); go_simp; (try with_reducible rfl))
          try simp only [Act.put, List.setIfInBounds_toArray, List.set_cons_zero, List.set_cons_succ]
          refine wpAnyZ_take 9 (v := ?_) (by kernel_rfl) rfl rfl (by kernel_rfl) (by kernel_rfl) (by kernel_rfl) (fun _ _ _ h => h) hS0 (Or.inl ⟨by rfl, ?_⟩) ?_
          rotate_left
          · (intro w hSw; (try dsimp only at hSw); go_simp; (try with_reducible rfl))
          try simp only [Act.put, List.setIfInBounds_toArray, List.set_cons_zero, List.set_cons_succ]
          refine wpAnyZ_take 10 (v := ?_) (by kernel_rfl) rfl rfl (by kernel_rfl) (by kernel_rfl) (by kernel_rfl) (fun _ _ _ h => h) hS0 (Or.inl ⟨by rfl, ?_⟩) ?_
          rotate_left
          · (intro w hSw; (try dsimp only at hSw); go_simp; (try with_reducible rfl))
          try simp only [Act.put, List.setIfInBounds_toArray, List.set_cons_zero, List.set_cons_succ]
          refine wpAnyZ_take 11 (v := ?_) (by kernel_rfl) rfl rfl (by kernel_rfl) (by kernel_rfl) (by kernel_rfl) (fun _ _ _ h => h) hS0 (Or.inl ⟨by rfl, ?_⟩) ?_
          rotate_left
          · (intro w hSw; (try dsimp only at hSw); go_simp; (try with_reducible rfl))
          try simp only [Act.put, List.setIfInBounds_toArray, List.set_cons_zero, List.set_cons_succ]
          refine wpAnyZ_take 12 (v := ?_) (by kernel_rfl) rfl rfl (by kernel_rfl) (by kernel_rfl) (by kernel_rfl) (fun _ _ _ h => h) hS0 (Or.inl ⟨by rfl, ?_⟩) ?_
          rotate_left
          · (intro w hSw; (try dsimp only at hSw); go_simp; (try with_reducible rfl))
          try simp only [Act.put, List.setIfInBounds_toArray, List.set_cons_zero, List.set_cons_succ]
          refine wpAnyZ_take 13 (v := ?_) (by kernel_rfl) rfl rfl (by kernel_rfl) (by kernel_rfl) (by kernel_rfl) (fun _ _ _ h => h) hS0 (Or.inl ⟨by rfl, ?_⟩) ?_
          rotate_left
          · (intro w hSw; (try dsimp only at hSw); go_simp; (try with_reducible rfl))
          try simp only [Act.put, List.setIfInBounds_toArray, List.set_cons_zero, List.set_cons_succ]
          refine wpAnyZ_take 14 (v := ?_) (by kernel_rfl) rfl rfl (by kernel_rfl) (by kernel_rfl) (by kernel_rfl) (fun _ _ _ h => h) hS0 (Or.inl ⟨by rfl, ?_⟩) ?_
          rotate_left
          · (intro w hSw; (try dsimp only at hSw); go_simp; (try with_reducible rfl))
          try simp only [Act.put, List.setIfInBounds_toArray, List.set_cons_zero, List.set_cons_succ]
          refine wpAnyZ_take 15 (v := ?_) (by kernel_rfl) rfl rfl (by kernel_rfl) (by kernel_rfl) (by kernel_rfl) (fun _ _ _ h => h) hS0 (Or.inl ⟨by rfl, ?_⟩) ?_
          rotate_left
          · (intro w hSw; (try dsimp only at hSw); go_simp; (try with_reducible rfl))
          try simp only [Act.put, List.setIfInBounds_toArray, List.set_cons_zero, List.set_cons_succ]
          refine wpAnyZ_take 16 (v := ?_) (by kernel_rfl) rfl rfl (by kernel_rfl) (by kernel_rfl) (by kernel_rfl) (fun _ _ _ h => h) hS0 (Or.inl ⟨by rfl, ?_⟩) ?_
          rotate_left
          · (intro w hSw; (try dsimp only at hSw); go_simp; (try with_reducible rfl))
          try simp only [Act.put, List.setIfInBounds_toArray, List.set_cons_zero, List.set_cons_succ]
          clear ec
          refine wpAnyZ_one 17 (by kernel_rfl) rfl rfl (fun K hK => ?_)
          go_simp
          refine hK.out _ _ (K0.out _ (by first | exact ((Ext.refl _).drew).alloc _ | exact ((Ext.refl _).alloc _).drew)) ?_
          clear hK K
          try simp only [Act.put, List.setIfInBounds_toArray, List.set_cons_zero, List.set_cons_succ]
          refine wpAnyZ_one 18 (by kernel_rfl) rfl rfl (fun K hK => ?_)
          refine wp_append_lies _ _ _ _ (by rfl) (wc.heap.size + 1) 71 i0 _ 2 16 Try.underlying31 HI.out HZ0.out HZ1.out HZ2.out rfl (by omega) v j _ (by rfl) (hown.out.alloc _).drew
                ⟨wr.heap.size, 0, none⟩ 1 1 [.int .i64 (muF k c), .int .i64 l] (by rfl) (by rfl) (World.news_of_block (cs := #[.int .i64 (muF k c), .int .i64 l]) (t := 71) (fr := (0, 0)) (heap_alloc_new wr _)) (by simp [Value.oneCell'])
                (by omega) (by unfold maxLen; omega) (by omega) (by simp; omega) (wr.heap.size + 1) (by simp) ?_
          intro gg cp w1 hown1 hg1 hat hlt1
          have BB1 := own_blk ((hB1.out.alloc _).drew) ((hown.out.alloc _).drew) (by omega) hg1
          have bb1 := BB1.cell 0
          have fz1 := BB1.frozen 0
          clear BB1
          have hSa := KA.out _ _ (by first | exact ((Ext.refl _).drew).alloc _ | exact ((Ext.refl _).alloc _).drew) hg1
          refine hK.out _ _ hSa ?_
          clear hK K
          try simp only [Act.put, List.setIfInBounds_toArray, List.set_cons_zero, List.set_cons_succ]
          refine wpAnyZ_one 19 (by kernel_rfl) rfl rfl (fun K hK => ?_)
          go_simp
          refine hK.out _ _ hSa ?_
          clear hK K
          try simp only [Act.put, List.setIfInBounds_toArray, List.set_cons_zero, List.set_cons_succ]
          refine wpAnyZ_last (by kernel_rfl) (by kernel_rfl) rfl rfl (fun K hK => ?_)
          go_simp
          refine hK.out _ _ ?_
          clear hK K
          have hg2 : (wr.drew.alloc (.cells #[.int .i64 (muF k c), .int .i64 l] 71)).grownBy w1 v.ownBlock := hg1
          obtain ⟨E1, K1, O1⟩ := push_box hE.drew hB1.out.drew hown.out.drew (by omega) (by omega) (by omega) hg2 hown1
          have Kx := push_blk (gc := wc.heap.size) (v1 := .slice (some ⟨gg, 0, none⟩) (j + 1) cp) hBx.out.drew hown.out.drew (by omega) (by omega) hg2
          have Kr := push_blk (gc := wc.heap.size) (v1 := .slice (some ⟨gg, 0, none⟩) (j + 1) cp) hB0.out.drew hown.out.drew (by omega) (by omega) hg2
          go_wp2
          go_roundw
          case rel =>
            refine ⟨j + 1, by omega, by go_num, E1, Kx, Kr, _, K1, ?_⟩
            rw [take_of_get _ _ _ HX.out, chMap_snoc, encT_append]
            simpa [encT, Hid] using O1
          case measure => simp [intOf]; omega
        · obtain rfl : j = n := by omega
          obtain ⟨A1, c1, rfl⟩ := own_slice hown.out
          have b2 := hB1.out.cell 0
          have b3 := hB1.out.cell 1
          have hzr := hB0.out.lt
          have hzq := hB1.out.lt
          have P := own_parts hown.out
          rw [List.take_of_length_le (by rw [HL.out]; omega)] at P
          have HP := Lib.hid P.1
          have HOwn := hown
          rw [List.take_of_length_le (by rw [HL.out]; omega)] at HOwn
          have HE9 := Lib.hid hE
          clear P hE hown
          have hcv := fun W (hE : Ext wr W) => specCV_any A1 j c1 (chMap (muF k) ts) z W (by unfold maxLen; omega) (HP.out.ext hE)
          by_cases h2 : cvB (chMap (muF k) ts) z = true
          · have HV2 := Lib.hid h2
            have HH := Lib.hid (hcv wr (Ext.refl _))
            clear h2 hcv
            go_wp2_with fail
            refine (calls_val HH.out (congrArg Value.bool HV2.out)).mono ?_
            rintro e w9 ⟨rfl, hE9⟩
            have B1 := hB1.out.ext hE9
            have B0 := hB0.out.ext hE9
            have hzs := hE9.size
            clear b2 b3
            have b2 := B1.cell 0
            have b3 := B1.cell 1
            have r0 := B0.cell 0
            have r1 := B0.cell 1
            have q0 := B0.frozen 0
            have q1 := B0.frozen 1
            have HO9 := Lib.hid (own_ext_keep HOwn.out hE9)
            have HEE := Lib.hid (HE9.out.trans hE9)
            clear B0 B1 hE9 hB0 hB1 HOwn HH
            go_wp2
            refine bodyPost_ret (v := .tuple #[.agg #[.slice A1 j c1, .int .i64 z], .bool true]) (by simp [results, Try.results28, go_sem, r0, r1]) rfl ?_
            have K : Kept (w.heap.size + 1) (w.heap.size + 2) w9 _ := ((Kept.refl _ _ w9).setIn (p := ⟨w.heap.size + 1, 0, none⟩) (by simp) (.slice A1 j c1)).setIn (p := ⟨w.heap.size + 1, 1, none⟩) (by simp) (.int .i64 z)
            have G := own_got2 (w := w) HO9.out K (by omega) (by omega)
            refine ⟨A1, j, c1, by unfold chD; rw [HZ.out, if_pos HV2.out, HV2.out], by unfold chT; rw [HZ.out, if_pos HV2.out, chMap_len, HL.out], ?_, (HEE.out.setNew (by simp) _).setNew (by simp) _⟩
            unfold chT
            rw [HZ.out, if_pos HV2.out]
            exact G
          · have h2f : cvB (chMap (muF k) ts) z = false := by simpa using h2
            have HV2 := Lib.hid h2f
            have HH := Lib.hid (hcv wr (Ext.refl _))
            clear h2 h2f hcv
            go_wp2_with fail
            refine (calls_val HH.out (congrArg Value.bool HV2.out)).mono ?_
            rintro e w9 ⟨rfl, hE9⟩
            have B0 := hB0.out.ext hE9
            have hzs := hE9.size
            clear b2 b3
            have r0 := B0.cell 0
            have r1 := B0.cell 1
            have q0 := B0.frozen 0
            have q1 := B0.frozen 1
            have HEE := Lib.hid (HE9.out.trans hE9)
            clear B0 hE9 hB0 hB1 HOwn HH
            go_wp2
            refine bodyPost_ret (v := .tuple #[.agg #[.slice none 0 0, .int .i64 0], .bool false]) (by simp [results, Try.results28, go_sem, r0, r1]) rfl ?_
            exact (RetCB.zero ((HEE.out.setNew (by simp) _).setNew (by simp) _)).of_eq (by unfold chT; rw [HZ.out, if_neg (by rw [HV2.out]; simp)]) (by unfold chD; rw [HZ.out, if_neg (by rw [HV2.out]; simp)]) (by rw [HZ.out]; exact HV2.out.symm)
    · have hk' : inB k 1 1000 = false := by simpa using hk
      have HO : Hid (muB ts bd k = false) := by unfold muB Hid; rw [hv, hk']; rfl
      have HK := Lib.hid hk'
      clear hk hv
      by_cases hk1 : k < 1
      case' neg =>
        have hk2 : 1000 < k := by
          have := HK.out
          simp [inB] at this; omega
      all_goals
        clear hk'
        go_enter Try.func28, Try.ntmps28
        go_wp2_with fail
        refine (specCV_any A n cap ts bd _ hn ((h.alloc _).alloc _)).mono ?_
        rintro e w1 ⟨rfl, hE1⟩
        have hv := HV.out
        rw [hv]
        clear hv h
        obtain ⟨B0, B1⟩ := Blk.of2 hE1
        have r0 := B1.cell 0
        have r1 := B1.cell 1
        have q0 := B1.frozen 0
        have q1 := B1.frozen 1
        clear B0 B1
        go_wp2
        refine bodyPost_ret (v := .tuple #[.agg #[.slice none 0 0, .int .i64 0], .bool false]) (by simp [results, Try.results28, go_sem, r0, r1]) rfl ?_
        have E1 : Ext w w1 := (((Ext.refl w).alloc _).alloc _).trans hE1
        exact (RetCB.zero ((E1.setNew (by simp) _).setNew (by simp) _)).of_eq (by unfold muT; rw [if_neg (by rw [HO.out]; simp)]) (by unfold muD; rw [if_neg (by rw [HO.out]; simp)]) HO.out.symm
  · have hf : cvB ts bd = false := by simpa using hv
    have HO : Hid (muB ts bd k = false) := by unfold muB Hid; rw [hf, Bool.false_and, Bool.false_and]
    clear hv
    go_enter Try.func28, Try.ntmps28
    go_wp2_with fail
    refine (specCV_any A n cap ts bd _ hn ((h.alloc _).alloc _)).mono ?_
    rintro e w1 ⟨rfl, hE1⟩
    rw [hf]
    clear hf h
    obtain ⟨B0, B1⟩ := Blk.of2 hE1
    have r0 := B1.cell 0
    have r1 := B1.cell 1
    have q0 := B1.frozen 0
    have q1 := B1.frozen 1
    clear B0 B1
    go_wp2
    refine bodyPost_ret (v := .tuple #[.agg #[.slice none 0 0, .int .i64 0], .bool false]) (by simp [results, Try.results28, go_sem, r0, r1]) rfl ?_
    have E1 : Ext w w1 := (((Ext.refl w).alloc _).alloc _).trans hE1
    exact (RetCB.zero ((E1.setNew (by simp) _).setNew (by simp) _)).of_eq (by unfold muT; rw [if_neg (by rw [HO.out]; simp)]) (by unfold muD; rw [if_neg (by rw [HO.out]; simp)]) HO.out.symm
end Go.Proofs.Ytihmkbfobihddaa
