/- DivideConstraint: the contracts of the program's and the reference's. -/
import Derived.Test.YtihmkbfobihddaaDiv
import Derived.Test.YtihmkbfobihddaaCVs
import Derived.Shelf.Abstract
namespace Go.Proofs.Ytihmkbfobihddaa
open Go.RowKit

theorem Try.infoTmD : (Try.prog.info? 71).map (fun i => (i.zero, i.size, i.bytes)) = some (some (.agg #[.int .i64 0, .int .i64 0]), 2, 16) := by kernel_rfl

set_option maxHeartbeats 400000 in
theorem divC_any (x k : Int) (pk : Addr) (w : World) (hc : w.cell? pk = some (.int .i64 k)) (h1 : 0 ≤ x) (h2 : x ≤ 20000) (k1 : 1 ≤ k) (k2 : k ≤ 1000) :
    Calls Try.prog 73 #[.int .i64 x, .pointer (some pk)] w fun e w' => e = .returned (.int .i64 (upM k x)) ∧ w = w' := by
  go_enter Try.func73, Try.ntmps73
  go_wp2
  go_ret
  exact ⟨rfl, rfl⟩

set_option maxRecDepth 100000 in
set_option maxHeartbeats 2000000 in
theorem implDiv_any (A : Option Addr) (n cap : Nat) (ts : List Tm) (bd k : Int) (w : World) (hn : n ≤ maxLen) (h : Seg w 2 A n (encT ts)) :
    Calls Try.prog 35 #[.agg #[.slice A n cap, .int .i64 bd], .int .i64 k] w fun e w' => RetCB (dvT ts bd k) (dvD ts bd k) (dvB ts bd k) w e w' := by
  have eg : ∀ args w, (callFunc 73 args).run Try.prog w = .ok (.enter 73 args) w := enters_of Try.func73 (by kernel_rfl) rfl
  by_cases hv : cvB ts bd = true
  · have HV := Lib.hid hv
    by_cases hk : inB k 1 1000 = true
    · have HK := Lib.hid hk
      have HO : Hid (dvB ts bd k = true) := by unfold dvB Hid; rw [hv, hk]; rfl
      have kk := dvB_k HO.out
      clear hk hv
      go_enter Try.func35, Try.ntmps35
      go_wp2_with fail
      refine (implCV_any A n cap ts bd _ hn (((h.alloc _).alloc _).alloc _)).mono ?_
      rintro e w1 ⟨rfl, hE1⟩
      have hv := HV.out
      rw [hv]
      clear hv
      obtain ⟨B0, B1, B2⟩ := Blk.of3 hE1
      have b0 := B0.cell 0
      have b1 := B0.cell 1
      have bk := B1.cell 0
      have h1 := (((h.alloc _).alloc _).alloc _).ext hE1
      clear B0
      have HB := Lib.hid B2
      have HBK := Lib.hid B1
      clear B1 B2
      go_wp2_with fail
      refine (within_any k 1 1000 _).mono ?_
      rintro e w2 ⟨rfl, rfl⟩
      have hk := HK.out
      rw [hk]
      clear hk
      go_wp2_with fail
      refine (changed_any 73 ⟨w.heap.size + 1, 0, none⟩ (upM k) eg A n cap ts bd _ h1 HV.out fun x W hE g1 g2 => divC_any x k _ W (hE.cell (by rw [HBK.out.cell]; rfl)) g1 g2 kk.1 kk.2).mono ?_
      rintro e w3 ⟨A3, n3, c3, rfl, hl, hG, hE3⟩
      have hD := cvB_div (k := k) HV.out kk.1
      have B2 := HB.out.ext hE3
      have r0 := B2.cell 0
      have r1 := B2.cell 1
      have q0 := B2.frozen 0
      have q1 := B2.frozen 1
      have hz := HB.out.lt
      clear B2 b0 b1 bk h h1
      unfold chT at hl hG
      rw [if_pos hD] at hl hG
      have HG := Lib.hid hG
      have HLn := Lib.hid hl
      have hd2 : chD (upM k) ts bd = upM k bd := by unfold chD; rw [if_pos hD]
      rw [hd2, hD]
      clear hd2 hG hl hD
      go_wp2
      refine bodyPost_ret (v := .tuple #[.agg #[.slice A3 n3 c3, .int .i64 (upM k bd)], .bool true]) (by simp [results, Try.results35, go_sem, r0, r1]) rfl ?_
      have K : Kept (w.heap.size + 2) (w.heap.size + 3) w3 _ := ((Kept.refl _ _ w3).setIn (p := ⟨w.heap.size + 2, 0, none⟩) (by simp) (.slice A3 n3 c3)).setIn (p := ⟨w.heap.size + 2, 1, none⟩) (by simp) (.int .i64 (upM k bd))
      have E1 : Ext w w1 := ((((Ext.refl w).alloc _).alloc _).alloc _).trans hE1
      refine ⟨A3, n3, c3, by unfold dvD; rw [if_pos HO.out, HO.out], by unfold dvT; rw [if_pos HO.out]; exact HLn.out, ?_, ((E1.trans hE3).setNew (by simp only; omega) _).setNew (by simp only; omega) _⟩
      unfold dvT
      rw [if_pos HO.out]
      exact (HG.out.kept K (by omega)).from_ E1
    · have hk' : inB k 1 1000 = false := by simpa using hk
      have HK := Lib.hid hk'
      have HO : Hid (dvB ts bd k = false) := by unfold dvB Hid; rw [hv, hk']; rfl
      clear hk hv hk'
      go_enter Try.func35, Try.ntmps35
      go_wp2_with fail
      refine (implCV_any A n cap ts bd _ hn (((h.alloc _).alloc _).alloc _)).mono ?_
      rintro e w1 ⟨rfl, hE1⟩
      have hv := HV.out
      rw [hv]
      clear hv
      obtain ⟨B0, B1, B2⟩ := Blk.of3 hE1
      have bk := B1.cell 0
      have r0 := B2.cell 0
      have r1 := B2.cell 1
      have q0 := B2.frozen 0
      have q1 := B2.frozen 1
      clear B0 B1 B2 h
      go_wp2_with fail
      refine (within_any k 1 1000 _).mono ?_
      rintro e w2 ⟨rfl, rfl⟩
      have hk := HK.out
      rw [hk]
      clear hk
      go_wp2
      refine bodyPost_ret (v := .tuple #[.agg #[.slice none 0 0, .int .i64 0], .bool false]) (by simp [results, Try.results35, go_sem, r0, r1]) rfl ?_
      have E1 : Ext w w1 := ((((Ext.refl w).alloc _).alloc _).alloc _).trans hE1
      exact (RetCB.zero ((E1.setNew (by simp only; omega) _).setNew (by simp only; omega) _)).of_eq (by unfold dvT; rw [if_neg (by rw [HO.out]; simp)]) (by unfold dvD; rw [if_neg (by rw [HO.out]; simp)]) HO.out.symm
  · have hf : cvB ts bd = false := by simpa using hv
    have HV := Lib.hid hf
    have HO : Hid (dvB ts bd k = false) := by unfold dvB Hid; rw [hf]; rfl
    clear hv
    go_enter Try.func35, Try.ntmps35
    go_wp2_with fail
    refine (implCV_any A n cap ts bd _ hn (((h.alloc _).alloc _).alloc _)).mono ?_
    rintro e w1 ⟨rfl, hE1⟩
    rw [hf]
    clear hf h
    obtain ⟨B0, B1, B2⟩ := Blk.of3 hE1
    have r0 := B2.cell 0
    have r1 := B2.cell 1
    have q0 := B2.frozen 0
    have q1 := B2.frozen 1
    clear B0 B1 B2
    go_wp2
    refine bodyPost_ret (v := .tuple #[.agg #[.slice none 0 0, .int .i64 0], .bool false]) (by simp [results, Try.results35, go_sem, r0, r1]) rfl ?_
    have E1 : Ext w w1 := ((((Ext.refl w).alloc _).alloc _).alloc _).trans hE1
    exact (RetCB.zero ((E1.setNew (by simp only; omega) _).setNew (by simp only; omega) _)).of_eq (by unfold dvT; rw [if_neg (by rw [HO.out]; simp)]) (by unfold dvD; rw [if_neg (by rw [HO.out]; simp)]) HO.out.symm

set_option maxHeartbeats 400000 in
theorem l2Up_any (x k : Int) (w : World) (h1 : 0 ≤ x) (h2 : x ≤ 20000) (k1 : 1 ≤ k) (k2 : k ≤ 1000) :
    Calls Try.prog 74 #[.int .i64 x, .int .i64 k] w fun e w' => e = .returned (.int .i64 (upM k x)) ∧ w = w' := by
  go_enter Try.func74, Try.ntmps74
  go_wp2
  go_ret
  exact ⟨rfl, rfl⟩

set_option maxRecDepth 100000 in
set_option maxHeartbeats 4000000 in
theorem specDiv_any (A : Option Addr) (n cap : Nat) (ts : List Tm) (bd k : Int) (w : World) (hn : n ≤ maxLen) (h : Seg w 2 A n (encT ts)) :
    Calls Try.prog 36 #[.agg #[.slice A n cap, .int .i64 bd], .int .i64 k] w fun e w' => RetCB (dvT ts bd k) (dvD ts bd k) (dvB ts bd k) w e w' := by
  by_cases hv : cvB ts bd = true
  · have HV := Lib.hid hv
    by_cases hk : inB k 1 1000 = true
    · have HL := Lib.hid h.lenT
      have hn12 : n ≤ 12 := by have := cvB_len hv; rw [HL.out] at this; exact this
      have hb := cvB_bd hv
      have HO : Hid (dvB ts bd k = true) := by unfold dvB Hid; rw [hv, hk]; rfl
      obtain ⟨kk1, kk2⟩ := dvB_k HO.out
      obtain ⟨i0, hi, hz0, hz1, hz2⟩ := info_parts Try.infoTmD
      have HI := Lib.hid hi
      have HZ0 := Lib.hid hz0
      have HZ1 := Lib.hid hz1
      have HZ2 := Lib.hid hz2
      clear hi hz0 hz1 hz2 hk hv
      go_enter Try.func36, Try.ntmps36
      go_wp2_with fail
      refine (specCV_any A n cap ts bd _ hn ((h.alloc _).alloc _)).mono ?_
      rintro e wc ⟨rfl, hEc⟩
      have hv := HV.out
      rw [hv]
      clear hv
      obtain ⟨Bc0, Bc1⟩ := Blk.of2 hEc
      have hzc := Bc1.lt
      have b0 := Bc0.cell 0
      have b1 := Bc0.cell 1
      have EC : Ext w wc := (((Ext.refl w).alloc _).alloc _).trans hEc
      have hB0' := Lib.hid Bc0
      have hR := Lib.hid Bc1
      have hN := Lib.hid h
      have hold := Lib.hid h.old
      clear Bc0 Bc1 h hEc
      go_wp2_with fail
      refine (l2Up_any bd k _ (by omega) (by omega) kk1 kk2).mono ?_
      rintro e w2 ⟨rfl, rfl⟩
      generalize hz : upM k bd = z
      have HZ := Lib.hid hz
      clear hz b0 b1
      go_wp2_with fail
      go_loopw [7] (fun i wr => ∃ (j : Nat), j ≤ n ∧ i = .int .i64 j ∧ Ext w wr ∧ Hid (Blk wr w.heap.size 33 #[.slice A n cap, .int .i64 bd]) ∧ Hid (Blk wr (w.heap.size + 1) 33 #[.slice none 0 0, .int .i64 0]) ∧ ∃ v, Hid (Blk wr wc.heap.size 33 #[v, .int .i64 z]) ∧ Hid (wr.ownsRow (wc.heap.size + 1) 71 2 v j (encT (chMap (upM k) (ts.take j))))) (fun i _ => n - (intOf i).toNat)
      case atStart => exact ⟨0, by omega, rfl, EC.alloc _, hB0'.out.alloc _, hR.out.alloc _, .slice none 0 0, Blk.new _ _ _, World.ownsRow_nil _ _ _ _⟩
      case round =>
        clear hB0' hR EC
        obtain ⟨j, hj, rfl, hE, hBx, hB0, v, hB1, hown⟩ := hrel
        have b0 := hBx.out.cell 0
        have hsz := hB1.out.lt
        by_cases hlt : j < n
        · obtain ⟨b, off, c, l, rfl, hx, c1, c2⟩ := (hN.out.ext hE).term hlt
          have hbl : b < w.heap.size := (hold.out (by omega) _ rfl).2
          have hc := (cvB_get HV.out hx).2
          have HX := Lib.hid hx
          have b1 := hB1.out.cell 0
          have f1 := hB1.out.frozen 0
          have hne : ∀ k, k < wc.heap.size + 1 → some k ≠ v.ownBlock := fun k hk e => by have := (hown.out.lt k e.symm).1; omega
          have K0 : Hid (∀ W, Ext wr W → (W.cell? ⟨wc.heap.size, 0, none⟩ = some v ∧ W.cell? ⟨w.heap.size, 0, none⟩ = some (.slice (some ⟨b, off, none⟩) n cap) ∧ W.cell? ⟨b, off + j * 2, none⟩ = some (.int .i64 c) ∧ W.cell? ⟨b, off + j * 2 + 1, none⟩ = some (.int .i64 l))) := fun W e => ⟨e.cell b1, e.cell b0, e.cell c1, e.cell c2⟩
          have KA : Hid (∀ W W', Ext wr W → W.grownBy W' v.ownBlock → (W'.cell? ⟨wc.heap.size, 0, none⟩ = some v ∧ W'.cell? ⟨w.heap.size, 0, none⟩ = some (.slice (some ⟨b, off, none⟩) n cap) ∧ W'.cell? ⟨b, off + j * 2, none⟩ = some (.int .i64 c) ∧ W'.cell? ⟨b, off + j * 2 + 1, none⟩ = some (.int .i64 l))) := fun W W' e hg => by
            have q := K0.out W e
            have z := e.size
            refine ⟨?_, ?_, ?_, ?_⟩
            · rw [hg.cell_far _ (by simp only; omega) (hne _ (by simp only; omega))]; exact q.1
            · rw [hg.cell_far _ (by simp only; omega) (hne _ (by simp only; omega))]; exact q.2.1
            · rw [hg.cell_far _ (by simp only; omega) (hne _ (by simp only; omega))]; exact q.2.2.1
            · rw [hg.cell_far _ (by simp only; omega) (hne _ (by simp only; omega))]; exact q.2.2.2
          have j0 : (0 : Int) ≤ (j : Int) := Int.natCast_nonneg _
          have j1 : (j : Int) < (n : Int) := by omega
          clear hx
          go_wp2_with fail
          have hS0 := K0.out wr.drew (Ext.refl _).drew
          refine wp_region_Z (fun w' => w'.cell? ⟨wc.heap.size, 0, none⟩ = some v ∧ w'.cell? ⟨w.heap.size, 0, none⟩ = some (.slice (some ⟨b, off, none⟩) n cap) ∧ w'.cell? ⟨b, off + j * 2, none⟩ = some (.int .i64 c) ∧ w'.cell? ⟨b, off + j * 2 + 1, none⟩ = some (.int .i64 l)) 20 (by kernel_rfl) ?_
          refine wpAnyZ_take 0 (v := ?_) (by kernel_rfl) rfl rfl (by kernel_rfl) (by kernel_rfl) (by kernel_rfl) (fun _ _ _ h => h) hS0 (Or.inl ⟨by rfl, ?_⟩) ?_
          rotate_left
          · (intro w hSw; (try dsimp only at hSw); go_simp; (try with_reducible rfl))
          try simp only [Act.put, List.setIfInBounds_toArray, List.set_cons_zero, List.set_cons_succ]
          refine wpAnyZ_take 1 (v := ?_) (by kernel_rfl) rfl rfl (by kernel_rfl) (by kernel_rfl) (by kernel_rfl) (fun _ _ _ h => h) hS0 (Or.inl ⟨by rfl, ?_⟩) ?_
          rotate_left
          · (intro w hSw; (try dsimp only at hSw); go_simp; (try with_reducible rfl))
          try simp only [Act.put, List.setIfInBounds_toArray, List.set_cons_zero, List.set_cons_succ]
          refine wpAnyZ_take 2 (v := ?_) (by kernel_rfl) rfl rfl (by kernel_rfl) (by kernel_rfl) (by kernel_rfl) (fun _ _ _ h => h) hS0 (Or.inl ⟨by rfl, ?_⟩) ?_
          rotate_left
          · (intro w hSw; (try dsimp only at hSw); go_simp; (try with_reducible rfl))
          try simp only [Act.put, List.setIfInBounds_toArray, List.set_cons_zero, List.set_cons_succ]
          refine wpAnyZ_take 3 (v := ?_) (by kernel_rfl) rfl rfl (by kernel_rfl) (by kernel_rfl) (by kernel_rfl) (fun _ _ _ h => h) hS0 (Or.inl ⟨by rfl, ?_⟩) ?_
          rotate_left
          · (intro w hSw; (try dsimp only at hSw); go_simp; (try with_reducible rfl))
          try simp only [Act.put, List.setIfInBounds_toArray, List.set_cons_zero, List.set_cons_succ]
          refine wpAnyZ_take 4 (v := ?_) (by kernel_rfl) rfl rfl (by kernel_rfl) (by kernel_rfl) (by kernel_rfl) (fun _ _ _ h => h) hS0 (Or.inl ⟨by rfl, ?_⟩) ?_
          rotate_left
          · (intro w hSw; (try dsimp only at hSw); go_simp; (try with_reducible rfl))
          try simp only [Act.put, List.setIfInBounds_toArray, List.set_cons_zero, List.set_cons_succ]
          refine wpAnyZ_take 5 (v := ?_) (by kernel_rfl) rfl rfl (by kernel_rfl) (by kernel_rfl) (by kernel_rfl) (fun _ _ _ h => h) hS0 (Or.inl ⟨by rfl, ?_⟩) ?_
          rotate_left
          · (intro w hSw; (try dsimp only at hSw); go_simp; (try with_reducible rfl))
          try simp only [Act.put, List.setIfInBounds_toArray, List.set_cons_zero, List.set_cons_succ]
          refine wpAnyZ_take 6 (v := ?_) (by kernel_rfl) rfl rfl (by kernel_rfl) (by kernel_rfl) (by kernel_rfl) (fun _ _ _ h => h) hS0 (Or.inl ⟨by rfl, ?_⟩) ?_
          rotate_left
          · (intro w hSw; (try dsimp only at hSw); go_simp; (try with_reducible rfl))
          try simp only [Act.put, List.setIfInBounds_toArray, List.set_cons_zero, List.set_cons_succ]
          refine wpAnyZ_take 7 (v := ?_) (by kernel_rfl) rfl rfl (by kernel_rfl) (by kernel_rfl) (by kernel_rfl) (fun _ _ _ h => h) hS0 (Or.inl ⟨by rfl, ?_⟩) ?_
          rotate_left
          · (intro w hSw; (try dsimp only at hSw); go_simp; (try with_reducible rfl))
          try simp only [Act.put, List.setIfInBounds_toArray, List.set_cons_zero, List.set_cons_succ]
          refine wpAnyZ_take 8 (v := ?_) (by kernel_rfl) rfl rfl (by kernel_rfl) (by kernel_rfl) (by kernel_rfl) (fun _ _ _ h => h) hS0 (Or.inl ⟨by rfl, ?_⟩) ?_
          rotate_left
          · (intro w hSw; (try dsimp only at hSw); go_simp; (try with_reducible rfl))
          try simp only [Act.put, List.setIfInBounds_toArray, List.set_cons_zero, List.set_cons_succ]
          refine wpAnyZ_take 10 (v := ?_) (by kernel_rfl) rfl rfl (by kernel_rfl) (by kernel_rfl) (by kernel_rfl) (fun _ _ _ h => h) hS0 (Or.inl ⟨by rfl, ?_⟩) ?_
          rotate_left
          · (intro w hSw; (try dsimp only at hSw); go_simp; (try with_reducible rfl))
          try simp only [Act.put, List.setIfInBounds_toArray, List.set_cons_zero, List.set_cons_succ]
          refine wpAnyZ_take 11 (v := ?_) (by kernel_rfl) rfl rfl (by kernel_rfl) (by kernel_rfl) (by kernel_rfl) (fun _ _ _ h => h) hS0 (Or.inl ⟨by rfl, ?_⟩) ?_
          rotate_left
          · (intro w hSw; (try dsimp only at hSw); go_simp; (try with_reducible rfl))
          try simp only [Act.put, List.setIfInBounds_toArray, List.set_cons_zero, List.set_cons_succ]
          refine wpAnyZ_take 12 (v := ?_) (by kernel_rfl) rfl rfl (by kernel_rfl) (by kernel_rfl) (by kernel_rfl) (fun _ _ _ h => h) hS0 (Or.inl ⟨by rfl, ?_⟩) ?_
          rotate_left
          · (intro w hSw; (try dsimp only at hSw); go_simp; (try with_reducible rfl))
          try simp only [Act.put, List.setIfInBounds_toArray, List.set_cons_zero, List.set_cons_succ]
          refine wpAnyZ_take 13 (v := ?_) (by kernel_rfl) rfl rfl (by kernel_rfl) (by kernel_rfl) (by kernel_rfl) (fun _ _ _ h => h) hS0 (Or.inl ⟨by rfl, ?_⟩) ?_
          rotate_left
          · (intro w hSw; (try dsimp only at hSw); go_simp; (try with_reducible rfl))
          try simp only [Act.put, List.setIfInBounds_toArray, List.set_cons_zero, List.set_cons_succ]
          refine wpAnyZ_take 14 (v := ?_) (by kernel_rfl) rfl rfl (by kernel_rfl) (by kernel_rfl) (by kernel_rfl) (fun _ _ _ h => h) hS0 (Or.inl ⟨by rfl, ?_⟩) ?_
          rotate_left
          · (intro w hSw; (try dsimp only at hSw); go_simp; (try with_reducible rfl))
          try simp only [Act.put, List.setIfInBounds_toArray, List.set_cons_zero, List.set_cons_succ]
          refine wpAnyZ_take 15 (v := ?_) (by kernel_rfl) rfl rfl (by kernel_rfl) (by kernel_rfl) (by kernel_rfl) (fun _ _ _ h => h) hS0 (Or.inl ⟨by rfl, ?_⟩) ?_
          rotate_left
          · (intro w hSw; (try dsimp only at hSw); go_simp; (try with_reducible rfl))
          try simp only [Act.put, List.setIfInBounds_toArray, List.set_cons_zero, List.set_cons_succ]
          refine wpAnyZ_one 9 (by kernel_rfl) rfl rfl (fun K hK => ?_)
          go_simp
          refine (l2Up_any c k _ (by omega) (by omega) kk1 kk2).mono ?_
          rintro e w2 ⟨rfl, rfl⟩
          refine hK.out _ _ hS0 ?_
          clear hK K
          try simp only [Act.put, List.setIfInBounds_toArray, List.set_cons_zero, List.set_cons_succ]
          refine wpAnyZ_take 16 (v := ?_) (by kernel_rfl) rfl rfl (by kernel_rfl) (by kernel_rfl) (by kernel_rfl) (fun _ _ _ h => h) hS0 (Or.inl ⟨by rfl, ?_⟩) ?_
          rotate_left
          · (intro w hSw; (try dsimp only at hSw); go_simp; (try with_reducible rfl))
          try simp only [Act.put, List.setIfInBounds_toArray, List.set_cons_zero, List.set_cons_succ]
          refine wpAnyZ_one 17 (by kernel_rfl) rfl rfl (fun K hK => ?_)
          go_simp
          refine hK.out _ _ (K0.out _ (by first | exact ((Ext.refl _).drew).alloc _ | exact ((Ext.refl _).alloc _).drew)) ?_
          clear hK K
          try simp only [Act.put, List.setIfInBounds_toArray, List.set_cons_zero, List.set_cons_succ]
          refine wpAnyZ_one 18 (by kernel_rfl) rfl rfl (fun K hK => ?_)
          refine wp_append_lies _ _ _ _ (by rfl) (wc.heap.size + 1) 71 i0 _ 2 16 Try.underlying31 HI.out HZ0.out HZ1.out HZ2.out rfl (by omega) v j _ (by rfl) (hown.out.alloc _).drew
                ⟨wr.heap.size, 0, none⟩ 1 1 [.int .i64 (upM k c), .int .i64 l] (by rfl) (by rfl) (World.news_of_block (cs := #[.int .i64 (upM k c), .int .i64 l]) (t := 71) (fr := (0, 0)) (heap_alloc_new wr _)) (by simp [Value.oneCell'])
                (by omega) (by unfold maxLen; omega) (by omega) (by simp; omega) (wr.heap.size + 1) (by simp) ?_
          intro gg cp w1 hown1 hg1 hat hlt1
          have BB1 := own_blk ((hB1.out.alloc _).drew) ((hown.out.alloc _).drew) (by omega) hg1
          have bb1 := BB1.cell 0
          have fz1 := BB1.frozen 0
          clear BB1
          have hSa := KA.out _ _ (by first | exact ((Ext.refl _).drew).alloc _ | exact ((Ext.refl _).alloc _).drew) hg1
          refine hK.out _ _ hSa ?_
          clear hK K
          try simp only [Act.put, List.setIfInBounds_toArray, List.set_cons_zero, List.set_cons_succ]
          refine wpAnyZ_one 19 (by kernel_rfl) rfl rfl (fun K hK => ?_)
          go_simp
          refine hK.out _ _ hSa ?_
          clear hK K
          try simp only [Act.put, List.setIfInBounds_toArray, List.set_cons_zero, List.set_cons_succ]
          refine wpAnyZ_last (by kernel_rfl) (by kernel_rfl) rfl rfl (fun K hK => ?_)
          go_simp
          refine hK.out _ _ ?_
          clear hK K
          have hg2 : (wr.drew.alloc (.cells #[.int .i64 (upM k c), .int .i64 l] 71)).grownBy w1 v.ownBlock := hg1
          obtain ⟨E1, K1, O1⟩ := push_box hE.drew hB1.out.drew hown.out.drew (by omega) (by omega) (by omega) hg2 hown1
          have Kx := push_blk (gc := wc.heap.size) (v1 := .slice (some ⟨gg, 0, none⟩) (j + 1) cp) hBx.out.drew hown.out.drew (by omega) (by omega) hg2
          have Kr := push_blk (gc := wc.heap.size) (v1 := .slice (some ⟨gg, 0, none⟩) (j + 1) cp) hB0.out.drew hown.out.drew (by omega) (by omega) hg2
          go_wp2
          go_roundw
          case rel =>
            refine ⟨j + 1, by omega, by go_num, E1, Kx, Kr, _, K1, ?_⟩
            rw [take_of_get _ _ _ HX.out, chMap_snoc, encT_append]
            simpa [encT, Hid] using O1
          case measure => simp [intOf]; omega
        · obtain rfl : j = n := by omega
          obtain ⟨A1, c1, rfl⟩ := own_slice hown.out
          have b2 := hB1.out.cell 0
          have b3 := hB1.out.cell 1
          have r0 := hB0.out.cell 0
          have r1 := hB0.out.cell 1
          have q0 := hB0.out.frozen 0
          have q1 := hB0.out.frozen 1
          have hzr := hB0.out.lt
          have hD : Hid (dvD ts bd k = z) := by unfold dvD Hid; rw [if_pos HO.out]; exact HZ.out
          go_wp2
          refine bodyPost_ret (v := .tuple #[.agg #[.slice A1 j c1, .int .i64 z], .bool true]) (by simp [results, Try.results36, go_sem, r0, r1]) rfl ?_
          have K : Kept (w.heap.size + 1) (w.heap.size + 2) wr _ := ((Kept.refl _ _ wr).setIn (p := ⟨w.heap.size + 1, 0, none⟩) (by simp) (.slice A1 j c1)).setIn (p := ⟨w.heap.size + 1, 1, none⟩) (by simp) (.int .i64 z)
          have G := own_got2 (w := w) hown.out K (by omega) (by omega)
          rw [List.take_of_length_le (by rw [HL.out]; omega)] at G
          refine ⟨A1, j, c1, by rw [hD.out, HO.out], by unfold dvT; rw [if_pos HO.out, chMap_len, HL.out], ?_, (hE.setNew (by simp) _).setNew (by simp) _⟩
          unfold dvT
          rw [if_pos HO.out]
          exact G
    · have hk' : inB k 1 1000 = false := by simpa using hk
      have HO : Hid (dvB ts bd k = false) := by unfold dvB Hid; rw [hv, hk']; rfl
      have HK := Lib.hid hk'
      clear hk hv
      by_cases hk1 : k < 1
      case' neg =>
        have hk2 : 1000 < k := by
          have := HK.out
          simp [inB] at this; omega
      all_goals
        clear hk'
        go_enter Try.func36, Try.ntmps36
        go_wp2_with fail
        refine (specCV_any A n cap ts bd _ hn ((h.alloc _).alloc _)).mono ?_
        rintro e w1 ⟨rfl, hE1⟩
        have hv := HV.out
        rw [hv]
        clear hv h
        obtain ⟨B0, B1⟩ := Blk.of2 hE1
        have r0 := B1.cell 0
        have r1 := B1.cell 1
        have q0 := B1.frozen 0
        have q1 := B1.frozen 1
        clear B0 B1
        go_wp2
        refine bodyPost_ret (v := .tuple #[.agg #[.slice none 0 0, .int .i64 0], .bool false]) (by simp [results, Try.results36, go_sem, r0, r1]) rfl ?_
        have E1 : Ext w w1 := (((Ext.refl w).alloc _).alloc _).trans hE1
        exact (RetCB.zero ((E1.setNew (by simp) _).setNew (by simp) _)).of_eq (by unfold dvT; rw [if_neg (by rw [HO.out]; simp)]) (by unfold dvD; rw [if_neg (by rw [HO.out]; simp)]) HO.out.symm
  · have hf : cvB ts bd = false := by simpa using hv
    have HO : Hid (dvB ts bd k = false) := by unfold dvB Hid; rw [hf]; rfl
    clear hv
    go_enter Try.func36, Try.ntmps36
    go_wp2_with fail
    refine (specCV_any A n cap ts bd _ hn ((h.alloc _).alloc _)).mono ?_
    rintro e w1 ⟨rfl, hE1⟩
    rw [hf]
    clear hf h
    obtain ⟨B0, B1⟩ := Blk.of2 hE1
    have r0 := B1.cell 0
    have r1 := B1.cell 1
    have q0 := B1.frozen 0
    have q1 := B1.frozen 1
    clear B0 B1
    go_wp2
    refine bodyPost_ret (v := .tuple #[.agg #[.slice none 0 0, .int .i64 0], .bool false]) (by simp [results, Try.results36, go_sem, r0, r1]) rfl ?_
    have E1 : Ext w w1 := (((Ext.refl w).alloc _).alloc _).trans hE1
    exact (RetCB.zero ((E1.setNew (by simp) _).setNew (by simp) _)).of_eq (by unfold dvT; rw [if_neg (by rw [HO.out]; simp)]) (by unfold dvD; rw [if_neg (by rw [HO.out]; simp)]) HO.out.symm
end Go.Proofs.Ytihmkbfobihddaa
