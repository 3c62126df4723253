/- DrawConstraintSame: SOME two constraints. -/
import Derived.Test.YtbpkpcfhmglddaaDoorRdM
import Derived.Test.YtbpkpcfhmglddaaDoorLastS
namespace Go.Proofs.YtbpkpcfhmglddaaDoor
open Go.RowKit

/-- SOME two constraints -/
def RetAA (N : Nat) (w : World) (e : Ending) (w' : World) : Prop :=
  ∃ A n c ts bd B m d us bd', e = .returned (.tuple #[.agg #[.slice A n c, .int .i64 bd], .agg #[.slice B m d, .int .i64 bd']]) ∧ ts.length = n ∧ n ≤ N ∧ us.length = m ∧ m ≤ N ∧ Got w w' 2 A n (encT ts) ∧ Got w w' 2 B m (encT us) ∧ Ext w w'

theorem RetAA.drew {N : Nat} {w W : World} {e : Ending} (h : RetAA N w e W) : RetAA N w e W.drew := by
  obtain ⟨A, n, c, ts, bd, B, m, d, us, bd', he, h1, h2, h3, h4, g1, g2, E⟩ := h
  exact ⟨A, n, c, ts, bd, B, m, d, us, bd', he, h1, h2, h3, h4, g1.later (Ext.refl _).drew, g2.later (Ext.refl _).drew, E.drew⟩

/-- the two results are in place -/
structure CC (w W : World) (A : Option Addr) (n c : Nat) (ts : List Tm) (B : Option Addr) (m d : Nat) (us : List Tm) : Prop where
  ext : Ext w W
  r0 : Blk W w.heap.size 25 #[.slice none 0 0, .int .i64 0]
  r1 : Blk W (w.heap.size + 1) 25 #[.slice none 0 0, .int .i64 0]
  segA : Seg W 2 A n (encT ts)
  freeA : Free W 2 A n
  liesA : Lies (w.heap.size + 2) W.heap.size A n
  segB : Seg W 2 B m (encT us)
  freeB : Free W 2 B m
  liesB : Lies (w.heap.size + 2) W.heap.size B m

theorem CC.ret {w W : World} {A : Option Addr} {n c : Nat} {ts : List Tm} {B : Option Addr} {m d : Nat} {us : List Tm} {bd bd' : Int} {N : Nat} (h : CC w W A n c ts B m d us) (hn : n ≤ N) (hm : m ≤ N) :
    RetAA N w (.returned (.tuple #[.agg #[.slice A n c, .int .i64 bd], .agg #[.slice B m d, .int .i64 bd']]))
      ((((W.setCell ⟨w.heap.size, 0, none⟩ (.slice A n c)).setCell ⟨w.heap.size, 1, none⟩ (.int .i64 bd)).setCell ⟨w.heap.size + 1, 0, none⟩ (.slice B m d)).setCell ⟨w.heap.size + 1, 1, none⟩ (.int .i64 bd')) := by
  have K : Kept w.heap.size (w.heap.size + 2) W ((((W.setCell ⟨w.heap.size, 0, none⟩ (.slice A n c)).setCell ⟨w.heap.size, 1, none⟩ (.int .i64 bd)).setCell ⟨w.heap.size + 1, 0, none⟩ (.slice B m d)).setCell ⟨w.heap.size + 1, 1, none⟩ (.int .i64 bd')) :=
    ((((Kept.refl _ _ W).setIn (by simp) _).setIn (by simp) _).setIn (by simp) _).setIn (by simp) _
  exact ⟨A, n, c, ts, bd, B, m, d, us, bd', rfl, h.segA.lenT, hn, h.segB.lenT, hm,
    ⟨h.segA.kept h.liesA K (.inr (Nat.le_refl _)), h.freeA.kept h.segA h.liesA K (.inr (Nat.le_refl _)), h.liesA.wide (by omega) K.size⟩,
    ⟨h.segB.kept h.liesB K (.inr (Nat.le_refl _)), h.freeB.kept h.segB h.liesB K (.inr (Nat.le_refl _)), h.liesB.wide (by omega) K.size⟩,
    h.ext.fresh K (Nat.le_refl _)⟩

set_option maxRecDepth 100000 in
set_option maxHeartbeats 4000000 in
theorem drawCS_any (A : Option Addr) (n c : Nat) (bs : List Int) (w : World) (hn : n ≤ maxLen) (hc : n ≤ c) (hs : Seg w 1 A n (encY bs)) (hb : bytesB bs) :
    Calls Tryd.prog 4 #[.slice A n c] w (RetAA 1048576 w) := by
  go_enter Tryd.func4, Tryd.ntmps4
  go_wp2_with fail
  refine (open_any A n c bs _ hn hc ((hs.alloc _).alloc _) hb).mono ?_
  rintro e w1 ⟨rfl, hE1, hR1⟩
  obtain ⟨B0, B1⟩ := Blk.of2 hE1
  have HB0 := Lib.hid B0
  have HB1 := Lib.hid B1
  have HE1 := Lib.hid ((((Ext.refl w).alloc _).alloc _).trans hE1)
  have HR1 := Lib.hid hR1
  simp only [World.size_alloc] at HR1
  clear hs hb hE1 hR1 B0 B1
  have hg := HR1.out.lt
  have hw1 := HE1.out.size
  go_wp2_with fail
  refine (l1Constraint_any _ _ w1 HR1.out (by omega)).mono ?_
  rintro e w3 ⟨A3, n3, c3, ts3, bd3, rfl, hl3, hn3, hG3, hK3, hR3⟩
  have hz3 := hK3.size
  have HBr := Lib.hid ((HB0.out.kept hK3 (.inl (by omega))).alloc (.cells #[.slice A3 n3 c3, .int .i64 bd3] 25))
  have HBs := Lib.hid ((HB1.out.kept hK3 (.inl (by omega))).alloc (.cells #[.slice A3 n3 c3, .int .i64 bd3] 25))
  have HBc := Lib.hid (Blk.new w3 25 #[.slice A3 n3 c3, .int .i64 bd3])
  have HG3 := Lib.hid (hG3.later ((Ext.refl w3).alloc (.cells #[.slice A3 n3 c3, .int .i64 bd3] 25)))
  have HE3 := Lib.hid ((HE1.out.fresh hK3 (by omega)).alloc (.cells #[.slice A3 n3 c3, .int .i64 bd3] 25))
  have HR3 := Lib.hid (hR3.alloc (.cells #[.slice A3 n3 c3, .int .i64 bd3] 25))
  have HL3 := Lib.hid (hG3.lies)
  clear hG3 hK3 hR3 HR1 HB0 HB1 HE1
  go_wp2_with fail
  refine (pick_any _ _ 2 _ HR3.out (by omega) (by omega)).mono ?_
  rintro e w4 ⟨i, rfl, hi, hK4, hR4⟩
  have hz4 := hK4.size
  rw [World.size_alloc] at hz4
  have HR4 := Lib.hid hR4
  have R0 := Lib.hid (HBr.out.kept hK4 (.inl (by omega)))
  have R1 := Lib.hid (HBs.out.kept hK4 (.inl (by omega)))
  have BC := Lib.hid (HBc.out.kept hK4 (.inr (by omega)))
  have S4 := Lib.hid (HG3.out.seg.kept HG3.out.lies hK4 (.inr (by omega)))
  have F4 := Lib.hid (HG3.out.free.kept HG3.out.seg HG3.out.lies hK4 (.inr (by omega)))
  have L4 := Lib.hid (HL3.out.wide (lo' := w1.heap.size) (hi' := w3.heap.size) (by omega) (by omega))
  have E4 := Lib.hid (HE3.out.fresh hK4 (by omega))
  clear hi hK4 hR4 HBr HBs HBc HG3 HE3 HR3 HL3
  have K0 : Hid (∀ W, Kept (w.heap.size) (w.heap.size + 3) w4 W → (W.cell? ⟨w3.heap.size, 0, none⟩ = some (.slice A3 n3 c3) ∧ W.cell? ⟨w3.heap.size, 1, none⟩ = some (.int .i64 bd3))) := fun W e => by
    have B := BC.out.kept e (.inr (by omega))
    exact ⟨B.cell 0, B.cell 1⟩
  have b0 := BC.out.cell 0
  have b1 := BC.out.cell 1
  by_cases h0 : i = 0
  · subst h0
    go_wp2_with fail
    have hS0 := K0.out w4.drew (Kept.refl _ _ _).drew
    refine wp_region_Z (fun W => W.cell? ⟨w3.heap.size, 0, none⟩ = some (.slice A3 n3 c3) ∧ W.cell? ⟨w3.heap.size, 1, none⟩ = some (.int .i64 bd3)) 4 (by kernel_rfl) ?_
    refine wpAnyZ_take 0 (v := ?_) (by kernel_rfl) rfl rfl (by kernel_rfl) (by kernel_rfl) (by kernel_rfl) (fun _ _ _ h => h) hS0 (Or.inl ⟨by rfl, ?_⟩) ?_
    rotate_left
    · (intro w hSw; (try dsimp only at hSw); go_simp; (try with_reducible rfl))
    try simp only [Act.put, List.setIfInBounds_toArray, List.set_cons_zero, List.set_cons_succ]
    refine wpAnyZ_take 1 (v := ?_) (by kernel_rfl) rfl rfl (by kernel_rfl) (by kernel_rfl) (by kernel_rfl) (fun _ _ _ h => h) hS0 (Or.inl ⟨by rfl, ?_⟩) ?_
    rotate_left
    · (intro w hSw; (try dsimp only at hSw); go_simp; (try with_reducible rfl))
    try simp only [Act.put, List.setIfInBounds_toArray, List.set_cons_zero, List.set_cons_succ]
    refine wpAnyZ_one 2 (by kernel_rfl) rfl rfl (fun K hK => ?_)
    go_simp
    refine (l1Constraint_any _ _ _ HR4.out.drew (by omega)).mono ?_
    rintro e w6 ⟨A6, n6, c6, ts6, bd6, rfl, hl6, hn6, hG6, hK6, hR6⟩
    have hK6' : Kept (w.heap.size + 2) (w.heap.size + 3) w4 w6 := ((Kept.refl _ _ w4).drew).trans hK6
    have hz6 := hK6.size
    have hz6' : w4.heap.size ≤ w6.heap.size := hz6
    have hzd : w4.drew.heap.size = w4.heap.size := rfl
    have C := Lib.hid (show CC w w6 A3 n3 c3 ts3 A6 n6 c6 ts6 from ⟨E4.out.fresh hK6' (by omega), R0.out.kept hK6' (.inl (by omega)), R1.out.kept hK6' (.inl (by omega)), S4.out.kept L4.out hK6' (.inr (by omega)), F4.out.kept S4.out L4.out hK6' (.inr (by omega)), L4.out.wide (by omega) (by omega), hG6.seg, hG6.free, hG6.lies.wide (by omega) (Nat.le_refl _)⟩)
    have hS6 := K0.out w6 (hK6'.wide (by omega) (by omega))
    have r0 := C.out.r0.cell 0
    have r1 := C.out.r0.cell 1
    have q0 := C.out.r0.frozen 0
    have q1 := C.out.r0.frozen 1
    have s0 := C.out.r1.cell 0
    have s1 := C.out.r1.cell 1
    have t0 := C.out.r1.frozen 0
    have t1 := C.out.r1.frozen 1
    have hr0 := C.out.r0.lt
    have hr1 := C.out.r1.lt
    clear hG6 hK6 hR6 hl6 S4 F4 L4 E4 R0 R1
    refine hK.out _ _ hS6 ?_
    clear hK K
    try simp only [Act.put, List.setIfInBounds_toArray, List.set_cons_zero, List.set_cons_succ]
    refine wpAnyZ_one 3 (by kernel_rfl) rfl rfl (fun K hK => ?_)
    go_simp
    have KR : Kept w.heap.size (w.heap.size + 3) w6 ((w6.setCell ⟨w.heap.size, 0, none⟩ (.slice A3 n3 c3)).setCell ⟨w.heap.size, 1, none⟩ (.int .i64 bd3)) := ((Kept.refl _ _ w6).setIn (p := ⟨w.heap.size, 0, none⟩) (by simp) (.slice A3 n3 c3)).setIn (p := ⟨w.heap.size, 1, none⟩) (by simp) (.int .i64 bd3)
    refine hK.out _ _ (K0.out _ ((hK6'.wide (by omega) (by omega)).trans KR)) ?_
    clear hK K
    try simp only [Act.put, List.setIfInBounds_toArray, List.set_cons_zero, List.set_cons_succ]
    refine wpAnyZ_last (by kernel_rfl) (by kernel_rfl) rfl rfl (fun K hK => ?_)
    go_simp
    refine hK.out _ _ ?_
    clear hK K KR hS6 hS0 b0 b1 hK6'
    go_wp2
    refine bodyPost_ret (v := .tuple #[.agg #[.slice A3 n3 c3, .int .i64 bd3], .agg #[.slice A6 n6 c6, .int .i64 bd6]]) (by simp [results, Tryd.results4, go_sem, r0, r1, s0, s1]) rfl ?_
    exact C.out.ret (by omega) (by omega)
  · have hb0 : (i == 0) = false := by simpa using h0
    go_wp2_with fail
    have hS0 := K0.out w4.drew (Kept.refl _ _ _).drew
    refine wp_region_Z (fun W => W.cell? ⟨w3.heap.size, 0, none⟩ = some (.slice A3 n3 c3) ∧ W.cell? ⟨w3.heap.size, 1, none⟩ = some (.int .i64 bd3)) 7 (by kernel_rfl) ?_
    refine wpAnyZ_take 0 (v := ?_) (by kernel_rfl) rfl rfl (by kernel_rfl) (by kernel_rfl) (by kernel_rfl) (fun _ _ _ h => h) hS0 (Or.inl ⟨by rfl, ?_⟩) ?_
    rotate_left
    · (intro w hSw; (try dsimp only at hSw); go_simp; (try with_reducible rfl))
    try simp only [Act.put, List.setIfInBounds_toArray, List.set_cons_zero, List.set_cons_succ]
    refine wpAnyZ_take 1 (v := ?_) (by kernel_rfl) rfl rfl (by kernel_rfl) (by kernel_rfl) (by kernel_rfl) (fun _ _ _ h => h) hS0 (Or.inl ⟨by rfl, ?_⟩) ?_
    rotate_left
    · (intro w hSw; (try dsimp only at hSw); go_simp; (try with_reducible rfl))
    try simp only [Act.put, List.setIfInBounds_toArray, List.set_cons_zero, List.set_cons_succ]
    refine wpAnyZ_take 2 (v := ?_) (by kernel_rfl) rfl rfl (by kernel_rfl) (by kernel_rfl) (by kernel_rfl) (fun _ _ _ h => h) hS0 (Or.inl ⟨by rfl, ?_⟩) ?_
    rotate_left
    · (intro w hSw; (try dsimp only at hSw); go_simp; (try with_reducible rfl))
    try simp only [Act.put, List.setIfInBounds_toArray, List.set_cons_zero, List.set_cons_succ]
    refine wpAnyZ_take 3 (v := ?_) (by kernel_rfl) rfl rfl (by kernel_rfl) (by kernel_rfl) (by kernel_rfl) (fun _ _ _ h => h) hS0 (Or.inl ⟨by rfl, ?_⟩) ?_
    rotate_left
    · (intro w hSw; (try dsimp only at hSw); go_simp; (try with_reducible rfl))
    try simp only [Act.put, List.setIfInBounds_toArray, List.set_cons_zero, List.set_cons_succ]
    refine wpAnyZ_one 4 (by kernel_rfl) rfl rfl (fun K hK => ?_)
    go_simp
    refine (l1Mutate_any _ _ A3 n3 c3 ts3 bd3 _ HR4.out.drew (by omega) (S4.out.ext (Ext.refl _).drew) (by omega)).mono ?_
    rintro e w5 ⟨A5, n5, c5, ts5, bd5, rfl, hl5, hn5, hG5, hK5, hR5⟩
    have hK5' : Kept (w.heap.size + 2) (w.heap.size + 3) w4 w5 := ((Kept.refl _ _ w4).drew).trans hK5
    refine hK.out _ _ (K0.out w5 (hK5'.wide (by omega) (by omega))) ?_
    clear hK K
    try simp only [Act.put, List.setIfInBounds_toArray, List.set_cons_zero, List.set_cons_succ]
    refine wpAnyZ_one 5 (by kernel_rfl) rfl rfl (fun K hK => ?_)
    go_simp
    refine (l1Mutate_any _ _ A5 n5 c5 ts5 bd5 w5 hR5 (by omega) hG5.seg (by omega)).mono ?_
    rintro e w6 ⟨A6, n6, c6, ts6, bd6, rfl, hl6, hn6, hG6, hK6, hR6⟩
    have hK6' : Kept (w.heap.size + 2) (w.heap.size + 3) w4 w6 := hK5'.trans hK6
    have hz5 := hK5.size
    have hz6 := hK6.size
    have hz5' : w4.heap.size ≤ w5.heap.size := hz5
    have C := Lib.hid (show CC w w6 A3 n3 c3 ts3 A6 n6 c6 ts6 from ⟨E4.out.fresh hK6' (by omega), R0.out.kept hK6' (.inl (by omega)), R1.out.kept hK6' (.inl (by omega)), S4.out.kept L4.out hK6' (.inr (by omega)), F4.out.kept S4.out L4.out hK6' (.inr (by omega)), L4.out.wide (by omega) (by omega), hG6.seg, hG6.free, hG6.lies.wide (by omega) (Nat.le_refl _)⟩)
    have hS6 := K0.out w6 (hK6'.wide (by omega) (by omega))
    have r0 := C.out.r0.cell 0
    have r1 := C.out.r0.cell 1
    have q0 := C.out.r0.frozen 0
    have q1 := C.out.r0.frozen 1
    have s0 := C.out.r1.cell 0
    have s1 := C.out.r1.cell 1
    have t0 := C.out.r1.frozen 0
    have t1 := C.out.r1.frozen 1
    have hr0 := C.out.r0.lt
    have hr1 := C.out.r1.lt
    clear hG6 hK6 hR6 hl6 S4 F4 L4 E4 R0 R1
    refine hK.out _ _ hS6 ?_
    clear hK K
    try simp only [Act.put, List.setIfInBounds_toArray, List.set_cons_zero, List.set_cons_succ]
    refine wpAnyZ_one 6 (by kernel_rfl) rfl rfl (fun K hK => ?_)
    go_simp
    have KR : Kept w.heap.size (w.heap.size + 3) w6 ((w6.setCell ⟨w.heap.size, 0, none⟩ (.slice A3 n3 c3)).setCell ⟨w.heap.size, 1, none⟩ (.int .i64 bd3)) := ((Kept.refl _ _ w6).setIn (p := ⟨w.heap.size, 0, none⟩) (by simp) (.slice A3 n3 c3)).setIn (p := ⟨w.heap.size, 1, none⟩) (by simp) (.int .i64 bd3)
    refine hK.out _ _ (K0.out _ ((hK6'.wide (by omega) (by omega)).trans KR)) ?_
    clear hK K
    try simp only [Act.put, List.setIfInBounds_toArray, List.set_cons_zero, List.set_cons_succ]
    refine wpAnyZ_last (by kernel_rfl) (by kernel_rfl) rfl rfl (fun K hK => ?_)
    go_simp
    refine hK.out _ _ ?_
    clear hK K KR hS6 hS0 b0 b1 hK6'
    go_wp2
    refine bodyPost_ret (v := .tuple #[.agg #[.slice A3 n3 c3, .int .i64 bd3], .agg #[.slice A6 n6 c6, .int .i64 bd6]]) (by simp [results, Tryd.results4, go_sem, r0, r1, s0, s1]) rfl ?_
    exact C.out.ret (by omega) (by omega)
end Go.Proofs.YtbpkpcfhmglddaaDoor
