/- Drawn arguments of RupConstraint. -/
import Derived.Test.YtihbgajlnbchlaaRdL
import Derived.Test.YtihbgajlnbchlaaLastA
import Derived.Test.YtihbgajlnbchlaaWeak
namespace Go.Proofs.Ytihbgajlnbchlaa
open Go.RowKit

theorem wcT_le (ts : List Tm) (bd u : Int) : (wcT ts bd u).length ≤ ts.length := by
  unfold wcT
  split
  · unfold wkMap; exact List.length_filter_le _ _
  · simp
/-- SOME constraints and SOME constraint -/
def RetLC (w : World) (e : Ending) (w' : World) : Prop :=
  ∃ A n c cs B m d ts bd, e = .returned (.tuple #[.slice A n c, .agg #[.slice B m d, .int .i64 bd]]) ∧ cs.length = n ∧ n ≤ 20 ∧ ts.length = m ∧ m ≤ 20 ∧ SegC w' A n cs ∧ Got w w' 2 B m (encT ts) ∧ Ext w w'
set_option maxRecDepth 100000 in
set_option maxHeartbeats 4000000 in
theorem drawRup_any (A : Option Addr) (n c : Nat) (bs : List Int) (w : World) (hn : n ≤ maxLen) (hc : n ≤ c) (hs : Seg w 1 A n (encY bs)) (hb : bytesB bs) :
    Calls Try.prog 47 #[.slice A n c] w (RetLC w) := by
  go_enter Try.func47, Try.ntmps47
  go_wp2_with fail
  refine (open_any A n c bs _ hn hc (hs.alloc _) hb).mono ?_
  rintro e w1 ⟨rfl, hE1, hR1⟩
  have HB1 := Lib.hid (Blk.of1 hE1)
  have HE1 := Lib.hid (((Ext.refl w).alloc _).trans hE1)
  simp only [World.size_alloc] at hR1
  clear hs hb hE1
  have hg := hR1.lt
  have hw1 := HE1.out.size
  go_wp2_with fail
  refine (l3Problem_any _ _ w1 hR1 (by omega)).mono ?_
  rintro e w2 ⟨A2, n2, c2, cs2, rfl, hn2, hL2, hK2, hR2⟩
  go_wp2_with fail
  refine (l3Mutate_any _ _ _ A2 n2 c2 cs2 w2 hR2 (by omega) (by omega) (by omega) hL2).mono ?_
  rintro e w3 ⟨A3, n3, c3, cs3, rfl, hn3, hL3, hK3, hR3⟩
  have z2 := hK2.size
  have z3 := hK3.size
  go_wp2_with fail
  refine (l1Draw_any _ _ 4 w3 hR3 (by omega) (by omega)).mono ?_
  rintro e w4 ⟨A4, n4, c4, ts4, bd4, rfl, hl4, hn4, hG4, hK4, hR4⟩
  have z4 := hK4.size
  -- whatever comes later keeps what the call holds
  have HBr := Lib.hid (((HB1.out.kept hK2 (.inl (by omega))).kept hK3 (.inl (by omega))).kept hK4 (.inl (by omega)))
  have HBc := Lib.hid (Blk.new w4 25 #[.slice A4 n4 c4, .int .i64 bd4])
  have HR5 := Lib.hid (hR4.alloc (.cells #[.slice A4 n4 c4, .int .i64 bd4] 25))
  have HG4 := Lib.hid hG4
  have HK34 : Hid (Kept (w.heap.size + 1) (w.heap.size + 2) w3 (w4.alloc (.cells #[.slice A4 n4 c4, .int .i64 bd4] 25))) := hK4.alloc _
  have HFIN : Hid (∀ W, Kept (w.heap.size + 1) (w.heap.size + 2) w3 W → LiC W (w.heap.size + 1 + 1) 15 A3 n3 cs3 ∧ Ext w W) := fun W K => ⟨hL3.kept K (Nat.le_refl _), HE1.out.fresh (hK2.trans (hK3.trans K)) (by omega)⟩
  have HLC := Lib.hid hL3.len
  have HSM := Lib.hid hL3.small
  clear hL2 hL3 hK2 hK3 hK4 hR1 hR2 hR3 hR4 hG4 HB1 HE1 hl4
  rcases Nat.eq_zero_or_pos n3 with h0 | hpos
  · have hb : decide ((0 : Int) < (n3 : Int)) = false := decide_eq_false (by omega)
    have TB := HBc
    have TR := Lib.hid (HBr.out.alloc (.cells #[.slice A4 n4 c4, .int .i64 bd4] 25))
    have RD := HR5
    have SG := Lib.hid (HG4.out.seg.alloc (.cells #[.slice A4 n4 c4, .int .i64 bd4] 25))
    have KK := HK34
    have tb0 := TB.out.cell 0
    have tb1 := TB.out.cell 1
    have zW := TB.out.lt
    go_wp2_with fail
    refine (l1Mutate_any _ _ A4 n4 c4 ts4 bd4 _ RD.out (by omega) SG.out (by omega)).mono ?_
    rintro e w7 ⟨A7, n7, c7, ts7, bd7, rfl, hl7, hn7, hG7, hK7, hR7⟩
    have z7 := hK7.size
    have TR7 := TR.out.kept hK7 (.inl (by omega))
    have r0 := TR7.cell 0
    have r1 := TR7.cell 1
    have q0 := TR7.frozen 0
    have q1 := TR7.frozen 1
    have HG7 := Lib.hid hG7
    have HK7 := Lib.hid (KK.out.trans hK7)
    have zr := TR7.lt
    clear tb0 tb1 TR7 hG7 hK7 hR7 TB TR RD SG KK
    go_wp2
    refine bodyPost_ret (v := .tuple #[.slice A3 n3 c3, .agg #[.slice A7 n7 c7, .int .i64 bd7]]) (by simp [results, Try.results47, go_sem, r0, r1, h0]) rfl ?_
    have KR : Kept w.heap.size (w.heap.size + 1) w7 ((w7.setCell ⟨w.heap.size, 0, none⟩ (.slice A7 n7 c7)).setCell ⟨w.heap.size, 1, none⟩ (.int .i64 bd7)) := ((Kept.refl _ _ w7).setIn (p := ⟨w.heap.size, 0, none⟩) (by simp) (.slice A7 n7 c7)).setIn (p := ⟨w.heap.size, 1, none⟩) (by simp) (.int .i64 bd7)
    have G7 := HG7.out.kept KR (by omega)
    exact ⟨A3, n3, c3, cs3, A7, n7, c7, ts7, bd7, rfl, HLC.out, by omega, hl7, by omega, ((HFIN.out _ HK7.out).1.kept KR (by omega)).segC (by omega), ⟨G7.seg, G7.free, G7.lies.wide (by omega) (Nat.le_refl _)⟩, ((HFIN.out _ HK7.out).2.setNew (p := ⟨w.heap.size, 0, none⟩) (by simp) _).setNew (p := ⟨w.heap.size, 1, none⟩) (by simp) _⟩
  · have hb : decide ((0 : Int) < (n3 : Int)) = true := decide_eq_true (by omega)
    go_wp2_with fail
    refine (pick_any _ _ 3 _ HR5.out (by omega) (by omega)).mono ?_
    rintro e w5 ⟨i, rfl, hi, hK5, hR5⟩
    have z5 := hK5.size
    rw [World.size_alloc] at z5
    have TB := Lib.hid (HBc.out.kept hK5 (.inr (by omega)))
    have TR := Lib.hid ((HBr.out.alloc (.cells #[.slice A4 n4 c4, .int .i64 bd4] 25)).kept hK5 (.inl (by omega)))
    have RD := Lib.hid hR5
    have LW := HG4.out.lies.wide (Nat.le_refl _) (Nat.le_succ _)
    have SG := Lib.hid ((HG4.out.seg.alloc (.cells #[.slice A4 n4 c4, .int .i64 bd4] 25)).kept LW hK5 (.inr (by omega)))
    have KK := Lib.hid (HK34.out.trans hK5)
    clear hi hK5 hR5 HBc HBr HR5 HK34 LW
    by_cases hi0 : i = 0
    · subst hi0
      obtain ⟨b, off, A1, n1, c1, ts1, bd1, hA, hx, k1, k2, hn1, hS1⟩ := ((HFIN.out _ KK.out).1.segC (by omega)).at_ hpos
      subst hA
      have hsm := HSM.out _ (List.mem_of_getElem? hx)
      have hlen := hS1.lenT
      rw [Nat.zero_mul, Nat.add_zero] at k1 k2
      have hbl : w.heap.size + 2 ≤ b := by
        obtain ⟨_, _, _, hLi, _⟩ := (HFIN.out _ KK.out).1
        exact (hLi hpos _ rfl).1
      have hbu : b < w3.heap.size := by
        obtain ⟨hs, hl, hSs, hLi, _⟩ := (HFIN.out w3 (Kept.refl _ _ _)).1
        exact (hLi hpos _ rfl).2
      have hbw := World.block_lt_of_cell? _ _ k1
      simp only at hbw
      have k2' : w5.cell? ⟨b, off + 1, none⟩ = some (.int .i64 bd1) := k2
      have K0 : Hid (∀ W, Kept (w.heap.size + 1) (w.heap.size + 2) w5 W → (W.cell? ⟨b, off, none⟩ = some (.slice A1 n1 c1) ∧ W.cell? ⟨b, off + 1, none⟩ = some (.int .i64 bd1))) := fun W e => by
        rw [e.cell (p := ⟨b, off, none⟩) (by simp only; omega) (.inr (by simp only; omega)), e.cell (p := ⟨b, off + 1, none⟩) (by simp only; omega) (.inr (by simp only; omega))]; exact ⟨k1, k2'⟩
      have LS : Hid (∀ W, Kept (w.heap.size + 1) (w.heap.size + 2) w5 W → Seg W 2 A1 n1 (encT ts1)) := fun W e => by
        obtain ⟨hs, hl, hSs, hLi, hIn⟩ := (HFIN.out _ KK.out).1
        have hlh : hs[0]? = some (hs[0]'(by have := HLC.out; omega)) := List.getElem?_eq_getElem _
        have gg := encH_get hs cs3 0 _ _ hlh hx
        obtain ⟨b', off', e', hcc⟩ := hSs.2 hpos
        injection e' with e'; injection e' with e3 e4
        subst e3; subst e4
        have t1 := hcc _ _ gg.1
        rw [Nat.zero_mul, Nat.add_zero, k1] at t1
        injection t1 with t1; injection t1 with t1 t2 t3
        obtain ⟨q1, q2, q3, _⟩ := hIn 0 _ _ hlh hx
        rw [← t1, ← t2] at q2 q3
        exact q2.kept q3 e (.inr (by omega))
      clear hx hS1 k1 k2 k2'
      go_wp2_with fail
      have hS0 := K0.out w5.drew (Kept.refl _ _ _).drew
      refine wp_region_Z (fun W => W.cell? ⟨b, off, none⟩ = some (.slice A1 n1 c1) ∧ W.cell? ⟨b, off + 1, none⟩ = some (.int .i64 bd1)) 11 (by kernel_rfl) ?_
      refine wpAnyA_take 0 (v := ?_) (by kernel_rfl) rfl (by kernel_rfl) (by kernel_rfl) (by kernel_rfl) (fun _ _ _ h => h) hS0 (Or.inl ⟨by rfl, ?_⟩) ?_
      rotate_left
      · (intro w hSw; (try dsimp only at hSw); go_simp; (try with_reducible rfl))
      try simp only [Act.put, List.setIfInBounds_toArray, List.set_cons_zero, List.set_cons_succ]
      refine wpAnyA_take 1 (v := ?_) (by kernel_rfl) rfl (by kernel_rfl) (by kernel_rfl) (by kernel_rfl) (fun _ _ _ h => h) hS0 (Or.inl ⟨by rfl, ?_⟩) ?_
      rotate_left
      · (intro w hSw; (try dsimp only at hSw); go_simp; (try with_reducible rfl))
      try simp only [Act.put, List.setIfInBounds_toArray, List.set_cons_zero, List.set_cons_succ]
      refine wpAnyA_take 2 (v := ?_) (by kernel_rfl) rfl (by kernel_rfl) (by kernel_rfl) (by kernel_rfl) (fun _ _ _ h => h) hS0 (Or.inl ⟨by rfl, ?_⟩) ?_
      rotate_left
      · (intro w hSw; (try dsimp only at hSw); go_simp; (try with_reducible rfl))
      try simp only [Act.put, List.setIfInBounds_toArray, List.set_cons_zero, List.set_cons_succ]
      refine wpAnyA_take 3 (v := ?_) (by kernel_rfl) rfl (by kernel_rfl) (by kernel_rfl) (by kernel_rfl) (fun _ _ _ h => h) hS0 (Or.inl ⟨by rfl, ?_⟩) ?_
      rotate_left
      · (intro w hSw; (try dsimp only at hSw); go_simp; (try with_reducible rfl))
      try simp only [Act.put, List.setIfInBounds_toArray, List.set_cons_zero, List.set_cons_succ]
      refine wpAnyZ_one 4 (by kernel_rfl) rfl rfl (fun K hK => ?_)
      go_simp
      refine (pick_any _ _ 4 _ RD.out.drew (by omega) (by omega)).mono ?_
      rintro e w6 ⟨i, rfl, hi, hK6, hR6⟩
      have hib : 0 ≤ i ∧ i < 4 := by unfold PickB at hi; omega
      have i1 : IntKind.i64.wrap (1 + i) = 1 + i := IntWalk.i64_in _ (by omega)
      have K56 : Kept (w.heap.size + 1) (w.heap.size + 2) w5 w6 := ((Kept.refl _ _ w5).drew).trans hK6
      have hS6 := K0.out w6 K56
      refine hK.out _ _ hS6 ?_
      clear hK K
      try simp only [Act.put, List.setIfInBounds_toArray, List.set_cons_zero, List.set_cons_succ]
      refine wpAnyZ_one 5 (by kernel_rfl) rfl rfl (fun K hK => ?_)
      go_simp
      refine hK.out _ _ hS6 ?_
      clear hK K
      try simp only [Act.put, List.setIfInBounds_toArray, List.set_cons_zero, List.set_cons_succ]
      refine wpAnyZ_one 6 (by kernel_rfl) rfl rfl (fun K hK => ?_)
      go_simp
      refine (specWk_any A1 n1 c1 ts1 bd1 (1 + i) _ hn1 (LS.out _ K56)).mono ?_
      rintro e w8 ⟨A6, n6, c6, rfl, hl6, hG6, hE8⟩
      have K58 := K56.trans (hE8.kept (w.heap.size + 1) (w.heap.size + 2))
      have hS8 := K0.out w8 K58
      have z6 := K56.size
      have z8 := hE8.size
      have hn6 : n6 ≤ 15 := by have := wcT_le ts1 bd1 (1 + i); omega
      have TB8 := TB.out.kept K58 (.inr (by omega))
      have d0 := TB8.cell 0
      have d1 := TB8.cell 1
      have f0 := TB8.frozen 0
      have f1 := TB8.frozen 1
      have TB9 := Lib.hid ((TB8.set_ 0 (.slice A6 n6 c6)).set_ 1 (.int .i64 (wcD ts1 bd1 (1 + i))))
      have KB : Kept w4.heap.size (w4.heap.size + 1) w8 ((w8.setCell ⟨w4.heap.size, 0, none⟩ (.slice A6 n6 c6)).setCell ⟨w4.heap.size, 1, none⟩ (.int .i64 (wcD ts1 bd1 (1 + i)))) := ((Kept.refl _ _ w8).setIn (p := ⟨w4.heap.size, 0, none⟩) (by simp) _).setIn (p := ⟨w4.heap.size, 1, none⟩) (by simp) _
      have TR9 := Lib.hid ((TR.out.kept K58 (.inl (by omega))).kept KB (.inl (by omega)))
      have RD9 := Lib.hid ((hR6.ext hE8).kept KB (by omega))
      have SG9 := Lib.hid (hG6.seg.kept hG6.lies KB (.inr (by omega)))
      have KK9 := Lib.hid (((KK.out.trans K58).setNew (p := ⟨w4.heap.size, 0, none⟩) (by simp only; omega) (.slice A6 n6 c6)).setNew (p := ⟨w4.heap.size, 1, none⟩) (by simp only; omega) (.int .i64 (wcD ts1 bd1 (1 + i))))
      refine hK.out _ _ hS8 ?_
      clear hK K
      try simp only [Act.put, List.setIfInBounds_toArray, List.set_cons_zero, List.set_cons_succ]
      refine wpAnyZ_one 7 (by kernel_rfl) rfl rfl (fun K hK => ?_)
      go_simp
      refine hK.out _ _ hS8 ?_
      clear hK K
      try simp only [Act.put, List.setIfInBounds_toArray, List.set_cons_zero, List.set_cons_succ]
      refine wpAnyA_take 8 (v := ?_) (by kernel_rfl) rfl (by kernel_rfl) (by kernel_rfl) (by kernel_rfl) (fun _ _ _ h => h) hS8 (Or.inl ⟨by rfl, ?_⟩) ?_
      rotate_left
      · (intro w hSw; (try dsimp only at hSw); go_simp; (try with_reducible rfl))
      try simp only [Act.put, List.setIfInBounds_toArray, List.set_cons_zero, List.set_cons_succ]
      refine wpAnyA_take 9 (v := ?_) (by kernel_rfl) rfl (by kernel_rfl) (by kernel_rfl) (by kernel_rfl) (fun _ _ _ h => h) hS8 (Or.inl ⟨by rfl, ?_⟩) ?_
      rotate_left
      · (intro w hSw; (try dsimp only at hSw); go_simp; (try with_reducible rfl))
      try simp only [Act.put, List.setIfInBounds_toArray, List.set_cons_zero, List.set_cons_succ]
      have hS9 : (((w8.setCell ⟨w4.heap.size, 0, none⟩ (.slice A6 n6 c6)).setCell ⟨w4.heap.size, 1, none⟩ (.int .i64 (wcD ts1 bd1 (1 + i)))).cell? ⟨b, off, none⟩ = some (.slice A1 n1 c1) ∧ ((w8.setCell ⟨w4.heap.size, 0, none⟩ (.slice A6 n6 c6)).setCell ⟨w4.heap.size, 1, none⟩ (.int .i64 (wcD ts1 bd1 (1 + i)))).cell? ⟨b, off + 1, none⟩ = some (.int .i64 bd1)) := by
        rw [KB.cell (p := ⟨b, off, none⟩) (by simp only; omega) (.inl (by simp only; omega)), KB.cell (p := ⟨b, off + 1, none⟩) (by simp only; omega) (.inl (by simp only; omega))]; exact hS8
      refine wpAnyZ_one 10 (by kernel_rfl) rfl rfl (fun K hK => ?_)
      go_simp
      refine hK.out _ _ hS9 ?_
      clear hK K
      try simp only [Act.put, List.setIfInBounds_toArray, List.set_cons_zero, List.set_cons_succ]
      refine wpAnyA_end (by kernel_rfl) ?_
      clear hS9
      clear TB TR RD SG KK hS0 hS6 hS8 K0 LS d0 d1 f0 f1 TB8 KB K56 K58 hK6 hR6 hE8 hG6 hi
      have TB := TB9
      have TR := TR9
      have RD := RD9
      have SG := SG9
      have KK := KK9
      clear TB9 TR9 RD9 SG9 KK9
      have tb0 := TB.out.cell 0
      have tb1 := TB.out.cell 1
      have zW := TB.out.lt
      go_wp2_with fail
      refine (l1Mutate_any _ _ A6 n6 c6 (wcT ts1 bd1 (1 + i)) (wcD ts1 bd1 (1 + i)) _ RD.out (by omega) SG.out (by omega)).mono ?_
      rintro e w7 ⟨A7, n7, c7, ts7, bd7, rfl, hl7, hn7, hG7, hK7, hR7⟩
      have z7 := hK7.size
      have TR7 := TR.out.kept hK7 (.inl (by omega))
      have r0 := TR7.cell 0
      have r1 := TR7.cell 1
      have q0 := TR7.frozen 0
      have q1 := TR7.frozen 1
      have HG7 := Lib.hid hG7
      have HK7 := Lib.hid (KK.out.trans hK7)
      have zr := TR7.lt
      clear tb0 tb1 TR7 hG7 hK7 hR7 TB TR RD SG KK
      go_wp2
      refine bodyPost_ret (v := .tuple #[.slice (some ⟨b, off, none⟩) n3 c3, .agg #[.slice A7 n7 c7, .int .i64 bd7]]) (by simp [results, Try.results47, go_sem, r0, r1]) rfl ?_
      have KR : Kept w.heap.size (w.heap.size + 1) w7 ((w7.setCell ⟨w.heap.size, 0, none⟩ (.slice A7 n7 c7)).setCell ⟨w.heap.size, 1, none⟩ (.int .i64 bd7)) := ((Kept.refl _ _ w7).setIn (p := ⟨w.heap.size, 0, none⟩) (by simp) (.slice A7 n7 c7)).setIn (p := ⟨w.heap.size, 1, none⟩) (by simp) (.int .i64 bd7)
      have G7 := HG7.out.kept KR (by omega)
      exact ⟨some ⟨b, off, none⟩, n3, c3, cs3, A7, n7, c7, ts7, bd7, rfl, HLC.out, by omega, hl7, by omega, ((HFIN.out _ HK7.out).1.kept KR (by omega)).segC (by omega), ⟨G7.seg, G7.free, G7.lies.wide (by omega) (Nat.le_refl _)⟩, ((HFIN.out _ HK7.out).2.setNew (p := ⟨w.heap.size, 0, none⟩) (by simp) _).setNew (p := ⟨w.heap.size, 1, none⟩) (by simp) _⟩
    · have hb0 : (i == 0) = false := by simpa using hi0
      clear hi0
      have tb0 := TB.out.cell 0
      have tb1 := TB.out.cell 1
      have zW := TB.out.lt
      go_wp2_with fail
      refine (l1Mutate_any _ _ A4 n4 c4 ts4 bd4 _ RD.out (by omega) SG.out (by omega)).mono ?_
      rintro e w7 ⟨A7, n7, c7, ts7, bd7, rfl, hl7, hn7, hG7, hK7, hR7⟩
      have z7 := hK7.size
      have TR7 := TR.out.kept hK7 (.inl (by omega))
      have r0 := TR7.cell 0
      have r1 := TR7.cell 1
      have q0 := TR7.frozen 0
      have q1 := TR7.frozen 1
      have HG7 := Lib.hid hG7
      have HK7 := Lib.hid (KK.out.trans hK7)
      have zr := TR7.lt
      clear tb0 tb1 TR7 hG7 hK7 hR7 TB TR RD SG KK
      go_wp2
      refine bodyPost_ret (v := .tuple #[.slice A3 n3 c3, .agg #[.slice A7 n7 c7, .int .i64 bd7]]) (by simp [results, Try.results47, go_sem, r0, r1]) rfl ?_
      have KR : Kept w.heap.size (w.heap.size + 1) w7 ((w7.setCell ⟨w.heap.size, 0, none⟩ (.slice A7 n7 c7)).setCell ⟨w.heap.size, 1, none⟩ (.int .i64 bd7)) := ((Kept.refl _ _ w7).setIn (p := ⟨w.heap.size, 0, none⟩) (by simp) (.slice A7 n7 c7)).setIn (p := ⟨w.heap.size, 1, none⟩) (by simp) (.int .i64 bd7)
      have G7 := HG7.out.kept KR (by omega)
      exact ⟨A3, n3, c3, cs3, A7, n7, c7, ts7, bd7, rfl, HLC.out, by omega, hl7, by omega, ((HFIN.out _ HK7.out).1.kept KR (by omega)).segC (by omega), ⟨G7.seg, G7.free, G7.lies.wide (by omega) (Nat.le_refl _)⟩, ((HFIN.out _ HK7.out).2.setNew (p := ⟨w.heap.size, 0, none⟩) (by simp) _).setNew (p := ⟨w.heap.size, 1, none⟩) (by simp) _⟩
end Go.Proofs.Ytihbgajlnbchlaa
