/- DrawCoversConstraint. -/
import Derived.Test.YtihmkbfobihddaaRdW
import Derived.Test.YtihmkbfobihddaaWeak
import Derived.Test.YtihmkbfobihddaaSat
namespace Go.Proofs.Ytihmkbfobihddaa
open Go.RowKit

/-- SOME two constraints -/
def RetAA (N : Nat) (w : World) (e : Ending) (w' : World) : Prop :=
  ∃ A n c ts bd B m d us bd', e = .returned (.tuple #[.agg #[.slice A n c, .int .i64 bd], .agg #[.slice B m d, .int .i64 bd']]) ∧ ts.length = n ∧ n ≤ N ∧ us.length = m ∧ m ≤ N ∧ Got w w' 2 A n (encT ts) ∧ Got w w' 2 B m (encT us) ∧ Ext w w'

theorem RetAA.drew {N : Nat} {w W : World} {e : Ending} (h : RetAA N w e W) : RetAA N w e W.drew := by
  obtain ⟨A, n, c, ts, bd, B, m, d, us, bd', he, h1, h2, h3, h4, g1, g2, E⟩ := h
  exact ⟨A, n, c, ts, bd, B, m, d, us, bd', he, h1, h2, h3, h4, g1.later (Ext.refl _).drew, g2.later (Ext.refl _).drew, E.drew⟩

/-- the two results are in place -/
structure CC (w W : World) (A : Option Addr) (n c : Nat) (ts : List Tm) (B : Option Addr) (m d : Nat) (us : List Tm) : Prop where
  ext : Ext w W
  r0 : Blk W w.heap.size 33 #[.slice none 0 0, .int .i64 0]
  r1 : Blk W (w.heap.size + 1) 33 #[.slice none 0 0, .int .i64 0]
  segA : Seg W 2 A n (encT ts)
  freeA : Free W 2 A n
  liesA : Lies (w.heap.size + 2) W.heap.size A n
  segB : Seg W 2 B m (encT us)
  freeB : Free W 2 B m
  liesB : Lies (w.heap.size + 2) W.heap.size B m

theorem CC.ret {w W : World} {A : Option Addr} {n c : Nat} {ts : List Tm} {B : Option Addr} {m d : Nat} {us : List Tm} {bd bd' : Int} {N : Nat} (h : CC w W A n c ts B m d us) (hn : n ≤ N) (hm : m ≤ N) :
    RetAA N w (.returned (.tuple #[.agg #[.slice A n c, .int .i64 bd], .agg #[.slice B m d, .int .i64 bd']]))
      ((((W.setCell ⟨w.heap.size, 0, none⟩ (.slice A n c)).setCell ⟨w.heap.size, 1, none⟩ (.int .i64 bd)).setCell ⟨w.heap.size + 1, 0, none⟩ (.slice B m d)).setCell ⟨w.heap.size + 1, 1, none⟩ (.int .i64 bd')) := by
  have K : Kept w.heap.size (w.heap.size + 2) W ((((W.setCell ⟨w.heap.size, 0, none⟩ (.slice A n c)).setCell ⟨w.heap.size, 1, none⟩ (.int .i64 bd)).setCell ⟨w.heap.size + 1, 0, none⟩ (.slice B m d)).setCell ⟨w.heap.size + 1, 1, none⟩ (.int .i64 bd')) :=
    ((((Kept.refl _ _ W).setIn (by simp) _).setIn (by simp) _).setIn (by simp) _).setIn (by simp) _
  exact ⟨A, n, c, ts, bd, B, m, d, us, bd', rfl, h.segA.lenT, hn, h.segB.lenT, hm,
    ⟨h.segA.kept h.liesA K (.inr (Nat.le_refl _)), h.freeA.kept h.segA h.liesA K (.inr (Nat.le_refl _)), h.liesA.wide (by omega) K.size⟩,
    ⟨h.segB.kept h.liesB K (.inr (Nat.le_refl _)), h.freeB.kept h.segB h.liesB K (.inr (Nat.le_refl _)), h.liesB.wide (by omega) K.size⟩,
    h.ext.fresh K (Nat.le_refl _)⟩

set_option maxRecDepth 100000 in
set_option maxHeartbeats 4000000 in
theorem drawCov_any (A : Option Addr) (n c : Nat) (bs : List Int) (w : World) (hn : n ≤ maxLen) (hc : n ≤ c) (hs : Seg w 1 A n (encY bs)) (hb : bytesB bs) :
    Calls Try.prog 52 #[.slice A n c] w (RetAA 1048576 w) := by
  go_enter Try.func52, Try.ntmps52
  go_wp2_with fail
  refine (open_any A n c bs _ hn hc ((hs.alloc _).alloc _) hb).mono ?_
  rintro e w1 ⟨rfl, hE1, hR1⟩
  obtain ⟨B0, B1⟩ := Blk.of2 hE1
  have HB0 := Lib.hid B0
  have HB1 := Lib.hid B1
  have HE1 := Lib.hid ((((Ext.refl w).alloc _).alloc _).trans hE1)
  have HR1 := Lib.hid hR1
  simp only [World.size_alloc] at HR1
  clear hs hb hE1 hR1 B0 B1
  have hg := HR1.out.lt
  have hw1 := HE1.out.size
  go_wp2_with fail
  refine (l1Constraint_any _ _ w1 HR1.out (by omega)).mono ?_
  rintro e w2 ⟨A2, n2, c2, ts2, bd2, rfl, hl2, hn2, hG2, hK2, hR2⟩
  go_wp2_with fail
  refine (l1Mutate_any _ _ A2 n2 c2 ts2 bd2 w2 hR2 (by omega) hG2.seg (by omega)).mono ?_
  rintro e w3 ⟨A3, n3, c3, ts3, bd3, rfl, hl3, hn3, hG3, hK3, hR3⟩
  have hz2 := hK2.size
  have hz3 := hK3.size
  have HBr := Lib.hid (((HB0.out.kept hK2 (.inl (by omega))).kept hK3 (.inl (by omega))).alloc (.cells #[.slice A3 n3 c3, .int .i64 bd3] 33))
  have HBs := Lib.hid (((HB1.out.kept hK2 (.inl (by omega))).kept hK3 (.inl (by omega))).alloc (.cells #[.slice A3 n3 c3, .int .i64 bd3] 33))
  have HBc := Lib.hid (Blk.new w3 33 #[.slice A3 n3 c3, .int .i64 bd3])
  have HG3 := Lib.hid (hG3.later ((Ext.refl w3).alloc (.cells #[.slice A3 n3 c3, .int .i64 bd3] 33)))
  have HE3 := Lib.hid ((HE1.out.fresh (hK2.trans hK3) (by omega)).alloc (.cells #[.slice A3 n3 c3, .int .i64 bd3] 33))
  have HR3 := Lib.hid (hR3.alloc (.cells #[.slice A3 n3 c3, .int .i64 bd3] 33))
  have HL3 := Lib.hid (hG3.lies)
  clear hG2 hG3 hK2 hK3 hR2 hR3 HR1 HB0 HB1 hl2 HE1
  go_wp2_with fail
  refine (pick_any _ _ 4 _ HR3.out (by omega) (by omega)).mono ?_
  rintro e w4 ⟨i, rfl, hi, hK4, hR4⟩
  have hz4 := hK4.size
  rw [World.size_alloc] at hz4
  have HR4 := Lib.hid hR4
  have R0 := Lib.hid (HBr.out.kept hK4 (.inl (by omega)))
  have R1 := Lib.hid (HBs.out.kept hK4 (.inl (by omega)))
  have BC := Lib.hid (HBc.out.kept hK4 (.inr (by omega)))
  have S4 := Lib.hid (HG3.out.seg.kept HG3.out.lies hK4 (.inr (by omega)))
  have F4 := Lib.hid (HG3.out.free.kept HG3.out.seg HG3.out.lies hK4 (.inr (by omega)))
  have L4 := Lib.hid (HL3.out.wide (lo' := w2.heap.size) (hi' := w3.heap.size) (by omega) (by omega))
  have E4 := Lib.hid (HE3.out.fresh hK4 (by omega))
  clear hi hK4 hR4 HBr HBs HBc HG3 HE3 HR3 HL3
  by_cases h0 : i = 0
  · subst h0
    have K0 : Hid (∀ W, Kept (w.heap.size) (w.heap.size + 3) w4 W → (W.cell? ⟨w3.heap.size, 0, none⟩ = some (.slice A3 n3 c3) ∧ W.cell? ⟨w3.heap.size, 1, none⟩ = some (.int .i64 bd3))) := fun W e => by
      have B := BC.out.kept e (.inr (by omega))
      exact ⟨B.cell 0, B.cell 1⟩
    have b0 := BC.out.cell 0
    have b1 := BC.out.cell 1
    go_wp2_with fail
    have hS0 := K0.out w4.drew (Kept.refl _ _ _).drew
    refine wp_region_Z (fun W => W.cell? ⟨w3.heap.size, 0, none⟩ = some (.slice A3 n3 c3) ∧ W.cell? ⟨w3.heap.size, 1, none⟩ = some (.int .i64 bd3)) 6 (by kernel_rfl) ?_
    refine wpAnyZ_take 0 (v := ?_) (by kernel_rfl) rfl rfl (by kernel_rfl) (by kernel_rfl) (by kernel_rfl) (fun _ _ _ h => h) hS0 (Or.inl ⟨by rfl, ?_⟩) ?_
    rotate_left
    · (intro w hSw; (try dsimp only at hSw); go_simp; (try with_reducible rfl))
    try simp only [Act.put, List.setIfInBounds_toArray, List.set_cons_zero, List.set_cons_succ]
    refine wpAnyZ_take 1 (v := ?_) (by kernel_rfl) rfl rfl (by kernel_rfl) (by kernel_rfl) (by kernel_rfl) (fun _ _ _ h => h) hS0 (Or.inl ⟨by rfl, ?_⟩) ?_
    rotate_left
    · (intro w hSw; (try dsimp only at hSw); go_simp; (try with_reducible rfl))
    try simp only [Act.put, List.setIfInBounds_toArray, List.set_cons_zero, List.set_cons_succ]
    refine wpAnyZ_take 2 (v := ?_) (by kernel_rfl) rfl rfl (by kernel_rfl) (by kernel_rfl) (by kernel_rfl) (fun _ _ _ h => h) hS0 (Or.inl ⟨by rfl, ?_⟩) ?_
    rotate_left
    · (intro w hSw; (try dsimp only at hSw); go_simp; (try with_reducible rfl))
    try simp only [Act.put, List.setIfInBounds_toArray, List.set_cons_zero, List.set_cons_succ]
    refine wpAnyZ_one 3 (by kernel_rfl) rfl rfl (fun K hK => ?_)
    go_simp
    refine (l1Constraint_any _ _ _ HR4.out.drew (by omega)).mono ?_
    rintro e w5 ⟨A5, n5, c5, ts5, bd5, rfl, hl5, hn5, hG5, hK5, hR5⟩
    have hK5' : Kept w.heap.size (w.heap.size + 3) w4 w5 := ((Kept.refl _ _ w4).drew).trans (hK5.wide (by omega) (by omega))
    refine hK.out _ _ (K0.out w5 hK5') ?_
    clear hK K
    try simp only [Act.put, List.setIfInBounds_toArray, List.set_cons_zero, List.set_cons_succ]
    refine wpAnyZ_one 4 (by kernel_rfl) rfl rfl (fun K hK => ?_)
    go_simp
    refine (l1Mutate_any _ _ A5 n5 c5 ts5 bd5 w5 hR5 (by omega) hG5.seg (by omega)).mono ?_
    rintro e w6 ⟨A6, n6, c6, ts6, bd6, rfl, hl6, hn6, hG6, hK6, hR6⟩
    have hK6' : Kept (w.heap.size + 2) (w.heap.size + 3) w4 w6 := (((Kept.refl _ _ w4).drew).trans hK5).trans hK6
    have hz5 := hK5.size
    have hz6 := hK6.size
    have hz5' : w4.heap.size ≤ w5.heap.size := hz5
    have C := Lib.hid (show CC w w6 A3 n3 c3 ts3 A6 n6 c6 ts6 from ⟨E4.out.fresh hK6' (by omega), R0.out.kept hK6' (.inl (by omega)), R1.out.kept hK6' (.inl (by omega)), S4.out.kept L4.out hK6' (.inr (by omega)), F4.out.kept S4.out L4.out hK6' (.inr (by omega)), L4.out.wide (by omega) (by omega), hG6.seg, hG6.free, hG6.lies.wide (by omega) (Nat.le_refl _)⟩)
    have hS6 := K0.out w6 (hK6'.wide (by omega) (by omega))
    have r0 := C.out.r0.cell 0
    have r1 := C.out.r0.cell 1
    have q0 := C.out.r0.frozen 0
    have q1 := C.out.r0.frozen 1
    have s0 := C.out.r1.cell 0
    have s1 := C.out.r1.cell 1
    have t0 := C.out.r1.frozen 0
    have t1 := C.out.r1.frozen 1
    have hr0 := C.out.r0.lt
    have hr1 := C.out.r1.lt
    clear hG5 hG6 hK5 hK6 hR5 hR6 hK5' hl5 hl6 S4 F4 L4 E4 R0 R1
    refine hK.out _ _ hS6 ?_
    clear hK K
    try simp only [Act.put, List.setIfInBounds_toArray, List.set_cons_zero, List.set_cons_succ]
    refine wpAnyZ_one 5 (by kernel_rfl) rfl rfl (fun K hK => ?_)
    go_simp
    have KR : Kept w.heap.size (w.heap.size + 3) w6 ((w6.setCell ⟨w.heap.size, 0, none⟩ (.slice A3 n3 c3)).setCell ⟨w.heap.size, 1, none⟩ (.int .i64 bd3)) := ((Kept.refl _ _ w6).setIn (p := ⟨w.heap.size, 0, none⟩) (by simp) (.slice A3 n3 c3)).setIn (p := ⟨w.heap.size, 1, none⟩) (by simp) (.int .i64 bd3)
    refine hK.out _ _ (K0.out _ ((hK6'.wide (by omega) (by omega)).trans KR)) ?_
    clear hK K
    try simp only [Act.put, List.setIfInBounds_toArray, List.set_cons_zero, List.set_cons_succ]
    refine wpAnyZ_last (by kernel_rfl) (by kernel_rfl) rfl rfl (fun K hK => ?_)
    go_simp
    refine hK.out _ _ ?_
    clear hK K KR hS6 hS0 b0 b1 hK6'
    go_wp2
    refine bodyPost_ret (v := .tuple #[.agg #[.slice A3 n3 c3, .int .i64 bd3], .agg #[.slice A6 n6 c6, .int .i64 bd6]]) (by simp [results, Try.results52, go_sem, r0, r1, s0, s1]) rfl ?_
    exact C.out.ret (by omega) (by omega)
  by_cases h1 : i = 1
  · subst h1
    have K0 : Hid (∀ W, Kept (w.heap.size) (w.heap.size + 3) w4 W → (W.cell? ⟨w3.heap.size, 0, none⟩ = some (.slice A3 n3 c3) ∧ W.cell? ⟨w3.heap.size, 1, none⟩ = some (.int .i64 bd3))) := fun W e => by
      have B := BC.out.kept e (.inr (by omega))
      exact ⟨B.cell 0, B.cell 1⟩
    have b0 := BC.out.cell 0
    have b1 := BC.out.cell 1
    go_wp2_with fail
    have hS0 := K0.out w4.drew (Kept.refl _ _ _).drew
    clear b0 b1
    refine wp_region_Z (fun W => W.cell? ⟨w3.heap.size, 0, none⟩ = some (.slice A3 n3 c3) ∧ W.cell? ⟨w3.heap.size, 1, none⟩ = some (.int .i64 bd3)) 10 (by kernel_rfl) ?_
    refine wpAnyZ_take 0 (v := ?_) (by kernel_rfl) rfl rfl (by kernel_rfl) (by kernel_rfl) (by kernel_rfl) (fun _ _ _ h => h) hS0 (Or.inl ⟨by rfl, ?_⟩) ?_
    rotate_left
    · (intro w hSw; (try dsimp only at hSw); go_simp; (try with_reducible rfl))
    try simp only [Act.put, List.setIfInBounds_toArray, List.set_cons_zero, List.set_cons_succ]
    refine wpAnyZ_take 1 (v := ?_) (by kernel_rfl) rfl rfl (by kernel_rfl) (by kernel_rfl) (by kernel_rfl) (fun _ _ _ h => h) hS0 (Or.inl ⟨by rfl, ?_⟩) ?_
    rotate_left
    · (intro w hSw; (try dsimp only at hSw); go_simp; (try with_reducible rfl))
    try simp only [Act.put, List.setIfInBounds_toArray, List.set_cons_zero, List.set_cons_succ]
    refine wpAnyZ_two 2 8 (by kernel_rfl) rfl rfl rfl rfl (fun K hK => ?_) (fun K hK => ?_)
    · go_simp
      refine (pick_any _ _ 4 _ (HR4.out.drew) (by omega) (by omega)).mono ?_
      rintro e w5 ⟨j, rfl, hj, hK5, hR5⟩
      obtain ⟨v, hv⟩ : ∃ v, IntKind.i64.wrap (1 + j) = v := ⟨_, rfl⟩
      have hP5 : Kept (w.heap.size + 2) (w.heap.size + 3) w4 w5 := ((Kept.refl _ _ w4).drew).trans hK5
      have hQ5 := K0.out w5 (hP5.wide (by omega) (by omega))
      have hz5 := hP5.size
      refine hK.out _ _ hQ5 ?_
      clear hK K hj
      try simp only [Act.put, List.setIfInBounds_toArray, List.set_cons_zero, List.set_cons_succ]
      refine wpAnyZ_take 3 (v := ?_) (by kernel_rfl) rfl rfl (by kernel_rfl) (by kernel_rfl) (by kernel_rfl) (fun _ _ _ h => h) hQ5 (Or.inl ⟨by rfl, ?_⟩) ?_
      rotate_left
      · (intro w hSw; (try dsimp only at hSw); go_simp; (try with_reducible rfl))
      try simp only [Act.put, List.setIfInBounds_toArray, List.set_cons_zero, List.set_cons_succ]
      clear hv
      refine wpAnyZ_two 4 8 (by kernel_rfl) rfl rfl rfl rfl (fun K hK => ?_) (fun K hK => ?_)
      · go_simp
        refine (specWk_any A3 n3 c3 ts3 bd3 v _ (by unfold maxLen; omega) (S4.out.kept L4.out hP5 (.inr (by omega)))).mono ?_
        rintro e w6 ⟨B6, m6, d6, rfl, hl6, hG6, hE6⟩
        have hP6 : Kept (w.heap.size + 2) (w.heap.size + 3) w4 w6 := (hP5).trans (hE6.kept _ _)
        have hQ6 := K0.out w6 (hP6.wide (by omega) (by omega))
        have hz6 := hP6.size
        have hz6' := hE6.size
        have hm6 : m6 ≤ 1048576 := by rw [← hl6]; exact wcT_len _ _ _
        refine hK.out _ _ hQ6 ?_
        clear hK K
        try simp only [Act.put, List.setIfInBounds_toArray, List.set_cons_zero, List.set_cons_succ]
        refine wpAnyZ_take 5 (v := ?_) (by kernel_rfl) rfl rfl (by kernel_rfl) (by kernel_rfl) (by kernel_rfl) (fun _ _ _ h => h) hQ6 (Or.inl ⟨by rfl, ?_⟩) ?_
        rotate_left
        · (intro w hSw; (try dsimp only at hSw); go_simp; (try with_reducible rfl))
        try simp only [Act.put, List.setIfInBounds_toArray, List.set_cons_zero, List.set_cons_succ]
        refine wpAnyZ_take 6 (v := ?_) (by kernel_rfl) rfl rfl (by kernel_rfl) (by kernel_rfl) (by kernel_rfl) (fun _ _ _ h => h) hQ6 (Or.inl ⟨by rfl, ?_⟩) ?_
        rotate_left
        · (intro w hSw; (try dsimp only at hSw); go_simp; (try with_reducible rfl))
        try simp only [Act.put, List.setIfInBounds_toArray, List.set_cons_zero, List.set_cons_succ]
        refine wpAnyZ_take 7 (v := ?_) (by kernel_rfl) rfl rfl (by kernel_rfl) (by kernel_rfl) (by kernel_rfl) (fun _ _ _ h => h) hQ6 (Or.inl ⟨by rfl, ?_⟩) ?_
        rotate_left
        · (intro w hSw; (try dsimp only at hSw); go_simp; (try with_reducible rfl))
        try simp only [Act.put, List.setIfInBounds_toArray, List.set_cons_zero, List.set_cons_succ]
        refine wpAnyZ_one 8 (by kernel_rfl) rfl rfl (fun K hK => ?_)
        go_simp
        refine hK.out _ _ (K0.out _ ((hP6.wide (by omega) (by omega)).alloc _)) ?_
        clear hK K
        try simp only [Act.put, List.setIfInBounds_toArray, List.set_cons_zero, List.set_cons_succ]
        have BX := Blk.new w6 33 #[.slice none 0 0, .int .i64 0]
        refine wpAnyZ_one 9 (by kernel_rfl) rfl rfl (fun K hK => ?_)
        go_simp
        have K9 : Kept (w.heap.size + 2) (w.heap.size + 3) w4 (w6.alloc (.cells #[.slice B6 m6 d6, .int .i64 (wcD ts3 bd3 v)] 33)) := hP6.alloc _
        have G9 : Got w5 (w6.alloc (.cells #[.slice B6 m6 d6, .int .i64 (wcD ts3 bd3 v)] 33)) 2 B6 m6 (encT (wcT ts3 bd3 v)) := hG6.later ((Ext.refl _).alloc _)
        have B9 : Blk (w6.alloc (.cells #[.slice B6 m6 d6, .int .i64 (wcD ts3 bd3 v)] 33)) w6.heap.size 33 #[.slice B6 m6 d6, .int .i64 (wcD ts3 bd3 v)] := Blk.new _ _ _
        have hq9 : w4.heap.size ≤ w6.heap.size ∧ w4.heap.size ≤ (w5).heap.size := ⟨by first | omega | (simp only [World.size_alloc] at *; omega), by first | omega | (simp only [World.size_alloc] at *; omega)⟩
        generalize hw7 : (w6.alloc (.cells #[.slice B6 m6 d6, .int .i64 (wcD ts3 bd3 v)] 33)) = w7 at K9 G9 B9 ⊢
        clear hw7
        have C := Lib.hid (show CC w w7 A3 n3 c3 ts3 B6 m6 d6 (wcT ts3 bd3 v) from ⟨E4.out.fresh K9 (by omega), R0.out.kept K9 (.inl (by omega)), R1.out.kept K9 (.inl (by omega)), S4.out.kept L4.out K9 (.inr (by omega)), F4.out.kept S4.out L4.out K9 (.inr (by omega)), L4.out.wide (by omega) (by have := K9.size; omega), G9.seg, G9.free, G9.lies.wide (by omega) (Nat.le_refl _)⟩)
        have BP := BC.out.kept K9 (.inr (by omega))
        refine hK.out _ _ (K0.out w7 (K9.wide (by omega) (by omega))) ?_
        clear hK K
        try simp only [Act.put, List.setIfInBounds_toArray, List.set_cons_zero, List.set_cons_succ]
        refine wpAnyZ_last (by kernel_rfl) (by kernel_rfl) rfl rfl (fun K hK => ?_)
        go_simp
        refine hK.out _ _ ?_
        clear hK K
        have K1 : Hid (∀ W, Kept w.heap.size (w.heap.size + 2) w7 W → (W.cell? ⟨w3.heap.size, 0, none⟩ = some (.slice A3 n3 c3) ∧ W.cell? ⟨w3.heap.size, 1, none⟩ = some (.int .i64 bd3) ∧ W.cell? ⟨w6.heap.size, 0, none⟩ = some (.slice B6 m6 d6) ∧ W.cell? ⟨w6.heap.size, 1, none⟩ = some (.int .i64 (wcD ts3 bd3 v)))) := fun W e => by
          have B := BP.kept e (.inr (by omega))
          have D := B9.kept e (.inr (by omega))
          exact ⟨B.cell 0, B.cell 1, D.cell 0, D.cell 1⟩
        have r0 := C.out.r0.cell 0
        have r1 := C.out.r0.cell 1
        have q0 := C.out.r0.frozen 0
        have q1 := C.out.r0.frozen 1
        have s0 := C.out.r1.cell 0
        have s1 := C.out.r1.cell 1
        have t0 := C.out.r1.frozen 0
        have t1 := C.out.r1.frozen 1
        have hr0 := C.out.r0.lt
        have hr1 := C.out.r1.lt
        clear BP B9 G9 K9 S4 F4 L4 E4 R0 R1 K0 BC
        go_wp2_with fail
        have hS7 := K1.out w7.drew (Kept.refl _ _ _).drew
        refine wp_region_Z (fun W => W.cell? ⟨w3.heap.size, 0, none⟩ = some (.slice A3 n3 c3) ∧ W.cell? ⟨w3.heap.size, 1, none⟩ = some (.int .i64 bd3) ∧ W.cell? ⟨w6.heap.size, 0, none⟩ = some (.slice B6 m6 d6) ∧ W.cell? ⟨w6.heap.size, 1, none⟩ = some (.int .i64 (wcD ts3 bd3 v))) 3 (by kernel_rfl) ?_
        refine wpAnyZ_take 0 (v := ?_) (by kernel_rfl) rfl rfl (by kernel_rfl) (by kernel_rfl) (by kernel_rfl) (fun _ _ _ h => h) hS7 (Or.inl ⟨by rfl, ?_⟩) ?_
        rotate_left
        · (intro w hSw; (try dsimp only at hSw); go_simp; (try with_reducible rfl))
        try simp only [Act.put, List.setIfInBounds_toArray, List.set_cons_zero, List.set_cons_succ]
        refine wpAnyZ_take 1 (v := ?_) (by kernel_rfl) rfl rfl (by kernel_rfl) (by kernel_rfl) (by kernel_rfl) (fun _ _ _ h => h) hS7 (Or.inl ⟨by rfl, ?_⟩) ?_
        rotate_left
        · (intro w hSw; (try dsimp only at hSw); go_simp; (try with_reducible rfl))
        try simp only [Act.put, List.setIfInBounds_toArray, List.set_cons_zero, List.set_cons_succ]
        refine wpAnyZ_one 2 (by kernel_rfl) rfl rfl (fun K hK => ?_)
        go_simp
        refine hK.out _ _ (K1.out _ (((Kept.refl _ _ w7).drew.setIn (p := ⟨w.heap.size, 0, none⟩) (by simp) (.slice A3 n3 c3)).setIn (p := ⟨w.heap.size, 1, none⟩) (by simp) (.int .i64 bd3))) ?_
        clear hK K
        try simp only [Act.put, List.setIfInBounds_toArray, List.set_cons_zero, List.set_cons_succ]
        refine wpAnyZ_last (by kernel_rfl) (by kernel_rfl) rfl rfl (fun K hK => ?_)
        go_simp
        refine hK.out _ _ ?_
        clear hK K hS7 K1
        go_wp2
        refine bodyPost_ret (v := .tuple #[.agg #[.slice A3 n3 c3, .int .i64 bd3], .agg #[.slice B6 m6 d6, .int .i64 (wcD ts3 bd3 v)]]) (by simp [results, Try.results52, go_sem, r0, r1, s0, s1]) rfl ?_
        exact (C.out.ret (by omega) hm6).drew
      · go_simp
        refine hK.out _ _ (K0.out _ ((hP5.wide (by omega) (by omega)).alloc _)) ?_
        clear hK K
        try simp only [Act.put, List.setIfInBounds_toArray, List.set_cons_zero, List.set_cons_succ]
        refine wpAnyZ_one 4 (by kernel_rfl) rfl rfl (fun K hK => ?_)
        go_simp
        refine (specWk_any A3 n3 c3 ts3 bd3 v _ (by unfold maxLen; omega) ((S4.out.kept L4.out hP5 (.inr (by omega))).alloc _)).mono ?_
        rintro e w6 ⟨B6, m6, d6, rfl, hl6, hG6, hE6⟩
        have hP6 : Kept (w.heap.size + 2) (w.heap.size + 3) w4 w6 := (hP5.alloc _).trans (hE6.kept _ _)
        have hQ6 := K0.out w6 (hP6.wide (by omega) (by omega))
        have hz6 := hP6.size
        have hz6' := hE6.size
        have hm6 : m6 ≤ 1048576 := by rw [← hl6]; exact wcT_len _ _ _
        refine hK.out _ _ hQ6 ?_
        clear hK K
        try simp only [Act.put, List.setIfInBounds_toArray, List.set_cons_zero, List.set_cons_succ]
        refine wpAnyZ_take 5 (v := ?_) (by kernel_rfl) rfl rfl (by kernel_rfl) (by kernel_rfl) (by kernel_rfl) (fun _ _ _ h => h) hQ6 (Or.inl ⟨by rfl, ?_⟩) ?_
        rotate_left
        · (intro w hSw; (try dsimp only at hSw); go_simp; (try with_reducible rfl))
        try simp only [Act.put, List.setIfInBounds_toArray, List.set_cons_zero, List.set_cons_succ]
        refine wpAnyZ_take 6 (v := ?_) (by kernel_rfl) rfl rfl (by kernel_rfl) (by kernel_rfl) (by kernel_rfl) (fun _ _ _ h => h) hQ6 (Or.inl ⟨by rfl, ?_⟩) ?_
        rotate_left
        · (intro w hSw; (try dsimp only at hSw); go_simp; (try with_reducible rfl))
        try simp only [Act.put, List.setIfInBounds_toArray, List.set_cons_zero, List.set_cons_succ]
        refine wpAnyZ_take 7 (v := ?_) (by kernel_rfl) rfl rfl (by kernel_rfl) (by kernel_rfl) (by kernel_rfl) (fun _ _ _ h => h) hQ6 (Or.inl ⟨by rfl, ?_⟩) ?_
        rotate_left
        · (intro w hSw; (try dsimp only at hSw); go_simp; (try with_reducible rfl))
        try simp only [Act.put, List.setIfInBounds_toArray, List.set_cons_zero, List.set_cons_succ]
        have BX := (Blk.new w5 33 #[.slice none 0 0, .int .i64 0]).ext hE6
        have bx0 := BX.cell 0
        have bx1 := BX.cell 1
        have fx0 := BX.frozen 0
        have fx1 := BX.frozen 1
        refine wpAnyZ_one 9 (by kernel_rfl) rfl rfl (fun K hK => ?_)
        go_simp
        have K9 : Kept (w.heap.size + 2) (w.heap.size + 3) w4 ((w6.setCell ⟨w5.heap.size, 0, none⟩ (.slice B6 m6 d6)).setCell ⟨w5.heap.size, 1, none⟩ (.int .i64 (wcD ts3 bd3 v))) := hP6.fresh (((Kept.refl w5.heap.size (w5.heap.size + 1) w6).setIn (p := ⟨w5.heap.size, 0, none⟩) (by simp) (.slice B6 m6 d6)).setIn (p := ⟨w5.heap.size, 1, none⟩) (by simp) (.int .i64 (wcD ts3 bd3 v))) (by omega)
        have G9 : Got (w5.alloc (.cells #[.slice none 0 0, .int .i64 0] 33)) ((w6.setCell ⟨w5.heap.size, 0, none⟩ (.slice B6 m6 d6)).setCell ⟨w5.heap.size, 1, none⟩ (.int .i64 (wcD ts3 bd3 v))) 2 B6 m6 (encT (wcT ts3 bd3 v)) := hG6.kept (((Kept.refl w5.heap.size (w5.heap.size + 1) w6).setIn (p := ⟨w5.heap.size, 0, none⟩) (by simp) (.slice B6 m6 d6)).setIn (p := ⟨w5.heap.size, 1, none⟩) (by simp) (.int .i64 (wcD ts3 bd3 v))) (by simp only [World.size_alloc]; omega)
        have B9 : Blk ((w6.setCell ⟨w5.heap.size, 0, none⟩ (.slice B6 m6 d6)).setCell ⟨w5.heap.size, 1, none⟩ (.int .i64 (wcD ts3 bd3 v))) w5.heap.size 33 #[.slice B6 m6 d6, .int .i64 (wcD ts3 bd3 v)] := by simpa using (BX.set_ 0 (.slice B6 m6 d6)).set_ 1 (.int .i64 (wcD ts3 bd3 v))
        have hq9 : w4.heap.size ≤ w5.heap.size ∧ w4.heap.size ≤ ((w5.alloc (.cells #[.slice none 0 0, .int .i64 0] 33))).heap.size := ⟨by first | omega | (simp only [World.size_alloc] at *; omega), by first | omega | (simp only [World.size_alloc] at *; omega)⟩
        generalize hw7 : ((w6.setCell ⟨w5.heap.size, 0, none⟩ (.slice B6 m6 d6)).setCell ⟨w5.heap.size, 1, none⟩ (.int .i64 (wcD ts3 bd3 v))) = w7 at K9 G9 B9 ⊢
        clear hw7
        have C := Lib.hid (show CC w w7 A3 n3 c3 ts3 B6 m6 d6 (wcT ts3 bd3 v) from ⟨E4.out.fresh K9 (by omega), R0.out.kept K9 (.inl (by omega)), R1.out.kept K9 (.inl (by omega)), S4.out.kept L4.out K9 (.inr (by omega)), F4.out.kept S4.out L4.out K9 (.inr (by omega)), L4.out.wide (by omega) (by have := K9.size; omega), G9.seg, G9.free, G9.lies.wide (by omega) (Nat.le_refl _)⟩)
        have BP := BC.out.kept K9 (.inr (by omega))
        refine hK.out _ _ (K0.out w7 (K9.wide (by omega) (by omega))) ?_
        clear hK K
        try simp only [Act.put, List.setIfInBounds_toArray, List.set_cons_zero, List.set_cons_succ]
        refine wpAnyZ_last (by kernel_rfl) (by kernel_rfl) rfl rfl (fun K hK => ?_)
        go_simp
        refine hK.out _ _ ?_
        clear hK K
        have K1 : Hid (∀ W, Kept w.heap.size (w.heap.size + 2) w7 W → (W.cell? ⟨w3.heap.size, 0, none⟩ = some (.slice A3 n3 c3) ∧ W.cell? ⟨w3.heap.size, 1, none⟩ = some (.int .i64 bd3) ∧ W.cell? ⟨w5.heap.size, 0, none⟩ = some (.slice B6 m6 d6) ∧ W.cell? ⟨w5.heap.size, 1, none⟩ = some (.int .i64 (wcD ts3 bd3 v)))) := fun W e => by
          have B := BP.kept e (.inr (by omega))
          have D := B9.kept e (.inr (by omega))
          exact ⟨B.cell 0, B.cell 1, D.cell 0, D.cell 1⟩
        have r0 := C.out.r0.cell 0
        have r1 := C.out.r0.cell 1
        have q0 := C.out.r0.frozen 0
        have q1 := C.out.r0.frozen 1
        have s0 := C.out.r1.cell 0
        have s1 := C.out.r1.cell 1
        have t0 := C.out.r1.frozen 0
        have t1 := C.out.r1.frozen 1
        have hr0 := C.out.r0.lt
        have hr1 := C.out.r1.lt
        clear BP B9 G9 K9 S4 F4 L4 E4 R0 R1 K0 BC
        go_wp2_with fail
        have hS7 := K1.out w7.drew (Kept.refl _ _ _).drew
        refine wp_region_Z (fun W => W.cell? ⟨w3.heap.size, 0, none⟩ = some (.slice A3 n3 c3) ∧ W.cell? ⟨w3.heap.size, 1, none⟩ = some (.int .i64 bd3) ∧ W.cell? ⟨w5.heap.size, 0, none⟩ = some (.slice B6 m6 d6) ∧ W.cell? ⟨w5.heap.size, 1, none⟩ = some (.int .i64 (wcD ts3 bd3 v))) 3 (by kernel_rfl) ?_
        refine wpAnyZ_take 0 (v := ?_) (by kernel_rfl) rfl rfl (by kernel_rfl) (by kernel_rfl) (by kernel_rfl) (fun _ _ _ h => h) hS7 (Or.inl ⟨by rfl, ?_⟩) ?_
        rotate_left
        · (intro w hSw; (try dsimp only at hSw); go_simp; (try with_reducible rfl))
        try simp only [Act.put, List.setIfInBounds_toArray, List.set_cons_zero, List.set_cons_succ]
        refine wpAnyZ_take 1 (v := ?_) (by kernel_rfl) rfl rfl (by kernel_rfl) (by kernel_rfl) (by kernel_rfl) (fun _ _ _ h => h) hS7 (Or.inl ⟨by rfl, ?_⟩) ?_
        rotate_left
        · (intro w hSw; (try dsimp only at hSw); go_simp; (try with_reducible rfl))
        try simp only [Act.put, List.setIfInBounds_toArray, List.set_cons_zero, List.set_cons_succ]
        refine wpAnyZ_one 2 (by kernel_rfl) rfl rfl (fun K hK => ?_)
        go_simp
        refine hK.out _ _ (K1.out _ (((Kept.refl _ _ w7).drew.setIn (p := ⟨w.heap.size, 0, none⟩) (by simp) (.slice A3 n3 c3)).setIn (p := ⟨w.heap.size, 1, none⟩) (by simp) (.int .i64 bd3))) ?_
        clear hK K
        try simp only [Act.put, List.setIfInBounds_toArray, List.set_cons_zero, List.set_cons_succ]
        refine wpAnyZ_last (by kernel_rfl) (by kernel_rfl) rfl rfl (fun K hK => ?_)
        go_simp
        refine hK.out _ _ ?_
        clear hK K hS7 K1
        go_wp2
        refine bodyPost_ret (v := .tuple #[.agg #[.slice A3 n3 c3, .int .i64 bd3], .agg #[.slice B6 m6 d6, .int .i64 (wcD ts3 bd3 v)]]) (by simp [results, Try.results52, go_sem, r0, r1, s0, s1]) rfl ?_
        exact (C.out.ret (by omega) hm6).drew
    · go_simp
      refine hK.out _ _ (K0.out _ ((by first | exact ((Kept.refl _ _ w4).drew).alloc _ | exact ((Kept.refl _ _ w4).alloc _).drew))) ?_
      clear hK K
      try simp only [Act.put, List.setIfInBounds_toArray, List.set_cons_zero, List.set_cons_succ]
      refine wpAnyZ_one 2 (by kernel_rfl) rfl rfl (fun K hK => ?_)
      go_simp
      refine (pick_any _ _ 4 _ ((HR4.out.alloc _).drew) (by omega) (by omega)).mono ?_
      rintro e w5 ⟨j, rfl, hj, hK5, hR5⟩
      obtain ⟨v, hv⟩ : ∃ v, IntKind.i64.wrap (1 + j) = v := ⟨_, rfl⟩
      have hP5 : Kept (w.heap.size + 2) (w.heap.size + 3) w4 w5 := (((Kept.refl _ _ w4).alloc _).drew).trans hK5
      have hQ5 := K0.out w5 (hP5.wide (by omega) (by omega))
      have hz5 := hP5.size
      refine hK.out _ _ hQ5 ?_
      clear hK K hj
      try simp only [Act.put, List.setIfInBounds_toArray, List.set_cons_zero, List.set_cons_succ]
      refine wpAnyZ_take 3 (v := ?_) (by kernel_rfl) rfl rfl (by kernel_rfl) (by kernel_rfl) (by kernel_rfl) (fun _ _ _ h => h) hQ5 (Or.inl ⟨by rfl, ?_⟩) ?_
      rotate_left
      · (intro w hSw; (try dsimp only at hSw); go_simp; (try with_reducible rfl))
      try simp only [Act.put, List.setIfInBounds_toArray, List.set_cons_zero, List.set_cons_succ]
      clear hv
      refine wpAnyZ_one 4 (by kernel_rfl) rfl rfl (fun K hK => ?_)
      go_simp
      refine (specWk_any A3 n3 c3 ts3 bd3 v _ (by unfold maxLen; omega) (S4.out.kept L4.out hP5 (.inr (by omega)))).mono ?_
      rintro e w6 ⟨B6, m6, d6, rfl, hl6, hG6, hE6⟩
      have hP6 : Kept (w.heap.size + 2) (w.heap.size + 3) w4 w6 := (hP5).trans (hE6.kept _ _)
      have hQ6 := K0.out w6 (hP6.wide (by omega) (by omega))
      have hz6 := hP6.size
      have hz6' := hE6.size
      have hm6 : m6 ≤ 1048576 := by rw [← hl6]; exact wcT_len _ _ _
      refine hK.out _ _ hQ6 ?_
      clear hK K
      try simp only [Act.put, List.setIfInBounds_toArray, List.set_cons_zero, List.set_cons_succ]
      refine wpAnyZ_take 5 (v := ?_) (by kernel_rfl) rfl rfl (by kernel_rfl) (by kernel_rfl) (by kernel_rfl) (fun _ _ _ h => h) hQ6 (Or.inl ⟨by rfl, ?_⟩) ?_
      rotate_left
      · (intro w hSw; (try dsimp only at hSw); go_simp; (try with_reducible rfl))
      try simp only [Act.put, List.setIfInBounds_toArray, List.set_cons_zero, List.set_cons_succ]
      refine wpAnyZ_take 6 (v := ?_) (by kernel_rfl) rfl rfl (by kernel_rfl) (by kernel_rfl) (by kernel_rfl) (fun _ _ _ h => h) hQ6 (Or.inl ⟨by rfl, ?_⟩) ?_
      rotate_left
      · (intro w hSw; (try dsimp only at hSw); go_simp; (try with_reducible rfl))
      try simp only [Act.put, List.setIfInBounds_toArray, List.set_cons_zero, List.set_cons_succ]
      refine wpAnyZ_take 7 (v := ?_) (by kernel_rfl) rfl rfl (by kernel_rfl) (by kernel_rfl) (by kernel_rfl) (fun _ _ _ h => h) hQ6 (Or.inl ⟨by rfl, ?_⟩) ?_
      rotate_left
      · (intro w hSw; (try dsimp only at hSw); go_simp; (try with_reducible rfl))
      try simp only [Act.put, List.setIfInBounds_toArray, List.set_cons_zero, List.set_cons_succ]
      have BX := ((Blk.new w4 33 #[.slice none 0 0, .int .i64 0]).drew.kept hK5 (.inr (by omega))).ext hE6
      have bx0 := BX.cell 0
      have bx1 := BX.cell 1
      have fx0 := BX.frozen 0
      have fx1 := BX.frozen 1
      refine wpAnyZ_one 9 (by kernel_rfl) rfl rfl (fun K hK => ?_)
      go_simp
      have K9 : Kept (w.heap.size + 2) (w.heap.size + 3) w4 ((w6.setCell ⟨w4.heap.size, 0, none⟩ (.slice B6 m6 d6)).setCell ⟨w4.heap.size, 1, none⟩ (.int .i64 (wcD ts3 bd3 v))) := hP6.fresh (((Kept.refl w4.heap.size (w4.heap.size + 1) w6).setIn (p := ⟨w4.heap.size, 0, none⟩) (by simp) (.slice B6 m6 d6)).setIn (p := ⟨w4.heap.size, 1, none⟩) (by simp) (.int .i64 (wcD ts3 bd3 v))) (by omega)
      have G9 : Got w5 ((w6.setCell ⟨w4.heap.size, 0, none⟩ (.slice B6 m6 d6)).setCell ⟨w4.heap.size, 1, none⟩ (.int .i64 (wcD ts3 bd3 v))) 2 B6 m6 (encT (wcT ts3 bd3 v)) := hG6.kept (((Kept.refl w4.heap.size (w4.heap.size + 1) w6).setIn (p := ⟨w4.heap.size, 0, none⟩) (by simp) (.slice B6 m6 d6)).setIn (p := ⟨w4.heap.size, 1, none⟩) (by simp) (.int .i64 (wcD ts3 bd3 v))) (by have := hK5.size; simp only [World.size_alloc, World.size_drew] at this; omega)
      have B9 : Blk ((w6.setCell ⟨w4.heap.size, 0, none⟩ (.slice B6 m6 d6)).setCell ⟨w4.heap.size, 1, none⟩ (.int .i64 (wcD ts3 bd3 v))) w4.heap.size 33 #[.slice B6 m6 d6, .int .i64 (wcD ts3 bd3 v)] := by simpa using (BX.set_ 0 (.slice B6 m6 d6)).set_ 1 (.int .i64 (wcD ts3 bd3 v))
      have hq9 : w4.heap.size ≤ w4.heap.size ∧ w4.heap.size ≤ (w5).heap.size := ⟨by first | omega | (simp only [World.size_alloc] at *; omega), by first | omega | (simp only [World.size_alloc] at *; omega)⟩
      generalize hw7 : ((w6.setCell ⟨w4.heap.size, 0, none⟩ (.slice B6 m6 d6)).setCell ⟨w4.heap.size, 1, none⟩ (.int .i64 (wcD ts3 bd3 v))) = w7 at K9 G9 B9 ⊢
      clear hw7
      have C := Lib.hid (show CC w w7 A3 n3 c3 ts3 B6 m6 d6 (wcT ts3 bd3 v) from ⟨E4.out.fresh K9 (by omega), R0.out.kept K9 (.inl (by omega)), R1.out.kept K9 (.inl (by omega)), S4.out.kept L4.out K9 (.inr (by omega)), F4.out.kept S4.out L4.out K9 (.inr (by omega)), L4.out.wide (by omega) (by have := K9.size; omega), G9.seg, G9.free, G9.lies.wide (by omega) (Nat.le_refl _)⟩)
      have BP := BC.out.kept K9 (.inr (by omega))
      refine hK.out _ _ (K0.out w7 (K9.wide (by omega) (by omega))) ?_
      clear hK K
      try simp only [Act.put, List.setIfInBounds_toArray, List.set_cons_zero, List.set_cons_succ]
      refine wpAnyZ_last (by kernel_rfl) (by kernel_rfl) rfl rfl (fun K hK => ?_)
      go_simp
      refine hK.out _ _ ?_
      clear hK K
      have K1 : Hid (∀ W, Kept w.heap.size (w.heap.size + 2) w7 W → (W.cell? ⟨w3.heap.size, 0, none⟩ = some (.slice A3 n3 c3) ∧ W.cell? ⟨w3.heap.size, 1, none⟩ = some (.int .i64 bd3) ∧ W.cell? ⟨w4.heap.size, 0, none⟩ = some (.slice B6 m6 d6) ∧ W.cell? ⟨w4.heap.size, 1, none⟩ = some (.int .i64 (wcD ts3 bd3 v)))) := fun W e => by
        have B := BP.kept e (.inr (by omega))
        have D := B9.kept e (.inr (by omega))
        exact ⟨B.cell 0, B.cell 1, D.cell 0, D.cell 1⟩
      have r0 := C.out.r0.cell 0
      have r1 := C.out.r0.cell 1
      have q0 := C.out.r0.frozen 0
      have q1 := C.out.r0.frozen 1
      have s0 := C.out.r1.cell 0
      have s1 := C.out.r1.cell 1
      have t0 := C.out.r1.frozen 0
      have t1 := C.out.r1.frozen 1
      have hr0 := C.out.r0.lt
      have hr1 := C.out.r1.lt
      clear BP B9 G9 K9 S4 F4 L4 E4 R0 R1 K0 BC
      go_wp2_with fail
      have hS7 := K1.out w7.drew (Kept.refl _ _ _).drew
      refine wp_region_Z (fun W => W.cell? ⟨w3.heap.size, 0, none⟩ = some (.slice A3 n3 c3) ∧ W.cell? ⟨w3.heap.size, 1, none⟩ = some (.int .i64 bd3) ∧ W.cell? ⟨w4.heap.size, 0, none⟩ = some (.slice B6 m6 d6) ∧ W.cell? ⟨w4.heap.size, 1, none⟩ = some (.int .i64 (wcD ts3 bd3 v))) 3 (by kernel_rfl) ?_
      refine wpAnyZ_take 0 (v := ?_) (by kernel_rfl) rfl rfl (by kernel_rfl) (by kernel_rfl) (by kernel_rfl) (fun _ _ _ h => h) hS7 (Or.inl ⟨by rfl, ?_⟩) ?_
      rotate_left
      · (intro w hSw; (try dsimp only at hSw); go_simp; (try with_reducible rfl))
      try simp only [Act.put, List.setIfInBounds_toArray, List.set_cons_zero, List.set_cons_succ]
      refine wpAnyZ_take 1 (v := ?_) (by kernel_rfl) rfl rfl (by kernel_rfl) (by kernel_rfl) (by kernel_rfl) (fun _ _ _ h => h) hS7 (Or.inl ⟨by rfl, ?_⟩) ?_
      rotate_left
      · (intro w hSw; (try dsimp only at hSw); go_simp; (try with_reducible rfl))
      try simp only [Act.put, List.setIfInBounds_toArray, List.set_cons_zero, List.set_cons_succ]
      refine wpAnyZ_one 2 (by kernel_rfl) rfl rfl (fun K hK => ?_)
      go_simp
      refine hK.out _ _ (K1.out _ (((Kept.refl _ _ w7).drew.setIn (p := ⟨w.heap.size, 0, none⟩) (by simp) (.slice A3 n3 c3)).setIn (p := ⟨w.heap.size, 1, none⟩) (by simp) (.int .i64 bd3))) ?_
      clear hK K
      try simp only [Act.put, List.setIfInBounds_toArray, List.set_cons_zero, List.set_cons_succ]
      refine wpAnyZ_last (by kernel_rfl) (by kernel_rfl) rfl rfl (fun K hK => ?_)
      go_simp
      refine hK.out _ _ ?_
      clear hK K hS7 K1
      go_wp2
      refine bodyPost_ret (v := .tuple #[.agg #[.slice A3 n3 c3, .int .i64 bd3], .agg #[.slice B6 m6 d6, .int .i64 (wcD ts3 bd3 v)]]) (by simp [results, Try.results52, go_sem, r0, r1, s0, s1]) rfl ?_
      exact (C.out.ret (by omega) hm6).drew
  by_cases h2 : i = 2
  · subst h2
    have b0 := BC.out.cell 0
    have b1 := BC.out.cell 1
    clear h0 h1
    go_wp2_with fail
    refine (specSat_any A3 n3 c3 ts3 bd3 _ (by unfold maxLen; omega) S4.out).mono ?_
    rintro e w6 ⟨B6, m6, d6, rfl, hl6, hG6, hE6⟩
    have hm6 : m6 ≤ 1048576 := by rw [← hl6]; exact stT_len _ _
    have c0 := (BC.out.ext hE6).cell 0
    have c1 := (BC.out.ext hE6).cell 1
    clear b0 b1
    go_wp2_with fail
    have BX := Blk.new w6 33 #[.slice B6 m6 d6, .int .i64 (stD ts3 bd3)]
    have G7 := hG6.later ((Ext.refl w6).alloc (.cells #[.slice B6 m6 d6, .int .i64 (stD ts3 bd3)] 33))
    have E7 := hE6.alloc (.cells #[.slice B6 m6 d6, .int .i64 (stD ts3 bd3)] 33)
    generalize (w6.alloc (.cells #[.slice B6 m6 d6, .int .i64 (stD ts3 bd3)] 33)) = w7 at BX G7 E7 ⊢
    have K7 : Kept (w.heap.size + 2) (w.heap.size + 3) w4 w7 := E7.kept _ _
    have hz6 := hE6.size
    have hz7 := E7.size
    have C := Lib.hid (show CC w w7 B6 m6 d6 (stT ts3 bd3) A3 n3 c3 ts3 from ⟨E4.out.fresh K7 (by omega), R0.out.kept K7 (.inl (by omega)), R1.out.kept K7 (.inl (by omega)), G7.seg, G7.free, G7.lies.wide (by omega) (Nat.le_refl _), S4.out.kept L4.out K7 (.inr (by omega)), F4.out.kept S4.out L4.out K7 (.inr (by omega)), L4.out.wide (by omega) (by omega)⟩)
    have BP := BC.out.kept K7 (.inr (by omega))
    have K1 : Hid (∀ W, Kept w.heap.size (w.heap.size + 2) w7 W → (W.cell? ⟨w6.heap.size, 0, none⟩ = some (.slice B6 m6 d6) ∧ W.cell? ⟨w6.heap.size, 1, none⟩ = some (.int .i64 (stD ts3 bd3)) ∧ W.cell? ⟨w3.heap.size, 0, none⟩ = some (.slice A3 n3 c3) ∧ W.cell? ⟨w3.heap.size, 1, none⟩ = some (.int .i64 bd3))) := fun W e => by
      have B := BX.kept e (.inr (by omega))
      have D := BP.kept e (.inr (by omega))
      exact ⟨B.cell 0, B.cell 1, D.cell 0, D.cell 1⟩
    have r0 := C.out.r0.cell 0
    have r1 := C.out.r0.cell 1
    have q0 := C.out.r0.frozen 0
    have q1 := C.out.r0.frozen 1
    have s0 := C.out.r1.cell 0
    have s1 := C.out.r1.cell 1
    have t0 := C.out.r1.frozen 0
    have t1 := C.out.r1.frozen 1
    have hr0 := C.out.r0.lt
    have hr1 := C.out.r1.lt
    clear BP BX G7 E7 K7 S4 F4 L4 E4 R0 R1 BC c0 c1
    have hS7 := K1.out w7.drew (Kept.refl _ _ _).drew
    refine wp_region_Z (fun W => W.cell? ⟨w6.heap.size, 0, none⟩ = some (.slice B6 m6 d6) ∧ W.cell? ⟨w6.heap.size, 1, none⟩ = some (.int .i64 (stD ts3 bd3)) ∧ W.cell? ⟨w3.heap.size, 0, none⟩ = some (.slice A3 n3 c3) ∧ W.cell? ⟨w3.heap.size, 1, none⟩ = some (.int .i64 bd3)) 3 (by kernel_rfl) ?_
    refine wpAnyZ_take 0 (v := ?_) (by kernel_rfl) rfl rfl (by kernel_rfl) (by kernel_rfl) (by kernel_rfl) (fun _ _ _ h => h) hS7 (Or.inl ⟨by rfl, ?_⟩) ?_
    rotate_left
    · (intro w hSw; (try dsimp only at hSw); go_simp; (try with_reducible rfl))
    try simp only [Act.put, List.setIfInBounds_toArray, List.set_cons_zero, List.set_cons_succ]
    refine wpAnyZ_take 1 (v := ?_) (by kernel_rfl) rfl rfl (by kernel_rfl) (by kernel_rfl) (by kernel_rfl) (fun _ _ _ h => h) hS7 (Or.inl ⟨by rfl, ?_⟩) ?_
    rotate_left
    · (intro w hSw; (try dsimp only at hSw); go_simp; (try with_reducible rfl))
    try simp only [Act.put, List.setIfInBounds_toArray, List.set_cons_zero, List.set_cons_succ]
    refine wpAnyZ_one 2 (by kernel_rfl) rfl rfl (fun K hK => ?_)
    go_simp
    refine hK.out _ _ (K1.out _ (((Kept.refl _ _ w7).drew.setIn (p := ⟨w.heap.size, 0, none⟩) (by simp) (.slice B6 m6 d6)).setIn (p := ⟨w.heap.size, 1, none⟩) (by simp) (.int .i64 (stD ts3 bd3)))) ?_
    clear hK K
    try simp only [Act.put, List.setIfInBounds_toArray, List.set_cons_zero, List.set_cons_succ]
    refine wpAnyZ_last (by kernel_rfl) (by kernel_rfl) rfl rfl (fun K hK => ?_)
    go_simp
    refine hK.out _ _ ?_
    clear hK K hS7 K1
    go_wp2
    refine bodyPost_ret (v := .tuple #[.agg #[.slice B6 m6 d6, .int .i64 (stD ts3 bd3)], .agg #[.slice A3 n3 c3, .int .i64 bd3]]) (by simp [results, Try.results52, go_sem, r0, r1, s0, s1]) rfl ?_
    exact (C.out.ret hm6 (by omega)).drew
  have b0 := BC.out.cell 0
  have b1 := BC.out.cell 1
  go_wp2_with fail
  refine (l1Copy_own A3 n3 c3 ts3 bd3 _ S4.out (by omega)).mono ?_
  rintro e w6 ⟨B6, m6, d6, rfl, hl6, hO6, hE6⟩
  have hm6 : m6 ≤ 1048576 := by omega
  have c0 := (BC.out.ext hE6).cell 0
  have c1 := (BC.out.ext hE6).cell 1
  have HG6 := Lib.hid (own_got (w := w4) hO6 (by omega))
  clear b0 b1 hO6
  by_cases hn0 : 0 < m6
  · obtain ⟨b, off, cf, lt, rfl, ht0, hc0, hc1⟩ := HG6.out.seg.term hn0
    rw [Nat.zero_mul, Nat.add_zero] at hc0 hc1
    have hb6 := HG6.out.lies hn0 _ rfl
    have hf6 := HG6.out.free _ _ rfl 0 (by omega)
    rw [Nat.add_zero] at hf6
    simp only at hb6
    have BX := Blk.new w6 33 #[.slice (some ⟨b, off, none⟩) m6 d6, .int .i64 bd3]
    have G7 := HG6.out.later ((Ext.refl w6).alloc (.cells #[.slice (some ⟨b, off, none⟩) m6 d6, .int .i64 bd3] 33))
    have E7 := hE6.alloc (.cells #[.slice (some ⟨b, off, none⟩) m6 d6, .int .i64 bd3] 33)
    have X7 := (Ext.refl w6).alloc (.cells #[.slice (some ⟨b, off, none⟩) m6 d6, .int .i64 bd3] 33)
    have HR7 := Lib.hid (HR4.out.ext E7)
    have hc0' := X7.cell hc0
    have hf0' := X7.frozen hc0
    rw [hf6] at hf0'
    go_wp2_with fail
    generalize (w6.alloc (.cells #[.slice (some ⟨b, off, none⟩) m6 d6, .int .i64 bd3] 33)) = w7 at BX G7 E7 X7 HR7 hc0' hf0' ⊢
    have K7 : Kept (w.heap.size + 2) (w.heap.size + 3) w4 w7 := E7.kept _ _
    have hz6 := hE6.size
    have hz7 := E7.size
    have hz7' := X7.size
    have hbb := BX.lt
    have K0 : Hid (∀ W, Kept (w.heap.size + 2) (w.heap.size + 3) w7 W → (W.cell? ⟨w6.heap.size, 0, none⟩ = some (.slice (some ⟨b, off, none⟩) m6 d6) ∧ W.cell? ⟨b, off, none⟩ = some (.int .i64 cf))) := fun W e => ⟨(BX.kept e (.inr (by omega))).cell 0, (e.cell (p := ⟨b, off, none⟩) (by simp only; omega) (.inr (by simp only; omega))).trans hc0'⟩
    have hS0 := K0.out w7.drew (Kept.refl _ _ _).drew
    refine wp_region_Z (fun W => W.cell? ⟨w6.heap.size, 0, none⟩ = some (.slice (some ⟨b, off, none⟩) m6 d6) ∧ W.cell? ⟨b, off, none⟩ = some (.int .i64 cf)) 13 (by kernel_rfl) ?_
    refine wpAnyZ_take 0 (v := ?_) (by kernel_rfl) rfl rfl (by kernel_rfl) (by kernel_rfl) (by kernel_rfl) (fun _ _ _ h => h) hS0 (Or.inl ⟨by rfl, ?_⟩) ?_
    rotate_left
    · (intro w hSw; (try dsimp only at hSw); go_simp; (try with_reducible rfl))
    try simp only [Act.put, List.setIfInBounds_toArray, List.set_cons_zero, List.set_cons_succ]
    refine wpAnyZ_take 1 (v := ?_) (by kernel_rfl) rfl rfl (by kernel_rfl) (by kernel_rfl) (by kernel_rfl) (fun _ _ _ h => h) hS0 (Or.inl ⟨by rfl, ?_⟩) ?_
    rotate_left
    · (intro w hSw; (try dsimp only at hSw); go_simp; (try with_reducible rfl))
    try simp only [Act.put, List.setIfInBounds_toArray, List.set_cons_zero, List.set_cons_succ]
    refine wpAnyZ_take 2 (v := ?_) (by kernel_rfl) rfl rfl (by kernel_rfl) (by kernel_rfl) (by kernel_rfl) (fun _ _ _ h => h) hS0 (Or.inl ⟨by rfl, ?_⟩) ?_
    rotate_left
    · (intro w hSw; (try dsimp only at hSw); go_simp; (try with_reducible rfl))
    try simp only [Act.put, List.setIfInBounds_toArray, List.set_cons_zero, List.set_cons_succ]
    refine wpAnyZ_take 3 (v := ?_) (by kernel_rfl) rfl rfl (by kernel_rfl) (by kernel_rfl) (by kernel_rfl) (fun _ _ _ h => h) hS0 (Or.inl ⟨by rfl, ?_⟩) ?_
    rotate_left
    · (intro w hSw; (try dsimp only at hSw); go_simp; (try with_reducible rfl))
    try simp only [Act.put, List.setIfInBounds_toArray, List.set_cons_zero, List.set_cons_succ]
    refine wpAnyZ_take 4 (v := ?_) (by kernel_rfl) rfl rfl (by kernel_rfl) (by kernel_rfl) (by kernel_rfl) (fun _ _ _ h => h) hS0 (Or.inl ⟨by rfl, ?_⟩) ?_
    rotate_left
    · (intro w hSw; (try dsimp only at hSw); go_simp; (try with_reducible rfl))
    try simp only [Act.put, List.setIfInBounds_toArray, List.set_cons_zero, List.set_cons_succ]
    refine wpAnyZ_take 5 (v := ?_) (by kernel_rfl) rfl rfl (by kernel_rfl) (by kernel_rfl) (by kernel_rfl) (fun _ _ _ h => h) hS0 (Or.inl ⟨by rfl, ?_⟩) ?_
    rotate_left
    · (intro w hSw; (try dsimp only at hSw); go_simp; (try with_reducible rfl))
    try simp only [Act.put, List.setIfInBounds_toArray, List.set_cons_zero, List.set_cons_succ]
    refine wpAnyZ_take 6 (v := ?_) (by kernel_rfl) rfl rfl (by kernel_rfl) (by kernel_rfl) (by kernel_rfl) (fun _ _ _ h => h) hS0 (Or.inl ⟨by rfl, ?_⟩) ?_
    rotate_left
    · (intro w hSw; (try dsimp only at hSw); go_simp; (try with_reducible rfl))
    try simp only [Act.put, List.setIfInBounds_toArray, List.set_cons_zero, List.set_cons_succ]
    refine wpAnyZ_take 7 (v := ?_) (by kernel_rfl) rfl rfl (by kernel_rfl) (by kernel_rfl) (by kernel_rfl) (fun _ _ _ h => h) hS0 (Or.inl ⟨by rfl, ?_⟩) ?_
    rotate_left
    · (intro w hSw; (try dsimp only at hSw); go_simp; (try with_reducible rfl))
    try simp only [Act.put, List.setIfInBounds_toArray, List.set_cons_zero, List.set_cons_succ]
    refine wpAnyZ_one 8 (by kernel_rfl) rfl rfl (fun K hK => ?_)
    go_simp
    refine (pick_any _ _ 3 _ HR7.out.drew (by omega) (by omega)).mono ?_
    rintro e w8 ⟨u, rfl, hu, hK8, hR8⟩
    have hP8 : Kept (w.heap.size + 2) (w.heap.size + 3) w7 w8 := ((Kept.refl _ _ w7).drew).trans hK8
    have hS8 := K0.out w8 hP8
    refine hK.out _ _ hS8 ?_
    clear hK K
    try simp only [Act.put, List.setIfInBounds_toArray, List.set_cons_zero, List.set_cons_succ]
    refine wpAnyZ_one 9 (by kernel_rfl) rfl rfl (fun K hK => ?_)
    go_simp
    refine hK.out _ _ hS8 ?_
    clear hK K
    try simp only [Act.put, List.setIfInBounds_toArray, List.set_cons_zero, List.set_cons_succ]
    refine wpAnyZ_one 10 (by kernel_rfl) rfl rfl (fun K hK => ?_)
    go_simp
    refine hK.out _ _ hS8 ?_
    clear hK K
    try simp only [Act.put, List.setIfInBounds_toArray, List.set_cons_zero, List.set_cons_succ]
    refine wpAnyZ_one 11 (by kernel_rfl) rfl rfl (fun K hK => ?_)
    go_simp
    refine hK.out _ _ hS8 ?_
    clear hK K
    try simp only [Act.put, List.setIfInBounds_toArray, List.set_cons_zero, List.set_cons_succ]
    refine wpAnyZ_one 12 (by kernel_rfl) rfl rfl (fun K hK => ?_)
    go_simp
    refine hK.out _ _ hS8 ?_
    clear hK K
    try simp only [Act.put, List.setIfInBounds_toArray, List.set_cons_zero, List.set_cons_succ]
    have hf8 := (hP8.frozen (p := ⟨b, off, none⟩) (by simp only; omega) (.inr (by simp only; omega))).trans hf0'
    refine wpAnyZ_last (by kernel_rfl) (by kernel_rfl) rfl rfl (fun K hK => ?_)
    go_simp
    have K9 : Kept (w.heap.size + 2) (w.heap.size + 3) w4 (w8.setCell ⟨b, off, none⟩ (.int .i64 (IntKind.i64.wrap (IntKind.i64.wrap (cf + u) - 1)))) := (K7.trans hP8).setNew (by simp only; omega) _
    have G8 := G7.kept hP8 (by omega)
    have G9 : ∃ us, Got w4 (w8.setCell ⟨b, off, none⟩ (.int .i64 (IntKind.i64.wrap (IntKind.i64.wrap (cf + u) - 1)))) 2 (some ⟨b, off, none⟩) m6 (encT us) := by
      cases ts3 with
      | nil => simp at ht0
      | cons x xs =>
        have h9 := Seg.setAt (i := 0) G8.seg (by rw [G8.seg.1]; omega) (.int .i64 (IntKind.i64.wrap (IntKind.i64.wrap (cf + u) - 1)))
        rw [Nat.add_zero] at h9
        exact ⟨(IntKind.i64.wrap (IntKind.i64.wrap (cf + u) - 1), x.2) :: xs, by simpa [encT] using h9, G8.free.setCell _ _, by simpa using G8.lies⟩
    have B9 := (BX.kept hP8 (.inr (by omega))).far (p := ⟨b, off, none⟩) (by simp only; omega) (.int .i64 (IntKind.i64.wrap (IntKind.i64.wrap (cf + u) - 1)))
    refine hK.out _ _ ?_
    clear hK K
    generalize (w8.setCell ⟨b, off, none⟩ (.int .i64 (IntKind.i64.wrap (IntKind.i64.wrap (cf + u) - 1)))) = w9 at K9 G9 B9 ⊢
    obtain ⟨us, G9⟩ := G9
    have hz9 := K9.size
    have C := Lib.hid (show CC w w9 A3 n3 c3 ts3 (some ⟨b, off, none⟩) m6 d6 us from ⟨E4.out.fresh K9 (by omega), R0.out.kept K9 (.inl (by omega)), R1.out.kept K9 (.inl (by omega)), S4.out.kept L4.out K9 (.inr (by omega)), F4.out.kept S4.out L4.out K9 (.inr (by omega)), L4.out.wide (by omega) (by omega), G9.seg, G9.free, G9.lies.wide (by omega) (Nat.le_refl _)⟩)
    have BP := BC.out.kept K9 (.inr (by omega))
    have BX := B9
    have K1 : Hid (∀ W, Kept w.heap.size (w.heap.size + 2) w9 W → (W.cell? ⟨w3.heap.size, 0, none⟩ = some (.slice A3 n3 c3) ∧ W.cell? ⟨w3.heap.size, 1, none⟩ = some (.int .i64 bd3) ∧ W.cell? ⟨w6.heap.size, 0, none⟩ = some (.slice (some ⟨b, off, none⟩) m6 d6) ∧ W.cell? ⟨w6.heap.size, 1, none⟩ = some (.int .i64 bd3))) := fun W e => by
      have B := BP.kept e (.inr (by omega))
      have D := BX.kept e (.inr (by omega))
      exact ⟨B.cell 0, B.cell 1, D.cell 0, D.cell 1⟩
    have r0 := C.out.r0.cell 0
    have r1 := C.out.r0.cell 1
    have q0 := C.out.r0.frozen 0
    have q1 := C.out.r0.frozen 1
    have s0 := C.out.r1.cell 0
    have s1 := C.out.r1.cell 1
    have t0 := C.out.r1.frozen 0
    have t1 := C.out.r1.frozen 1
    have hr0 := C.out.r0.lt
    have hr1 := C.out.r1.lt
    clear BP BX B9 G9 K9 K7 S4 F4 L4 E4 R0 R1 BC c0 c1 G8 hf8 hS8 hP8 K0 hS0 HR7 X7 E7 G7 HG6 hK8 hR8 hc0' hf0'
    go_wp2_with fail
    have hS7 := K1.out w9.drew (Kept.refl _ _ _).drew
    refine wp_region_Z (fun W => W.cell? ⟨w3.heap.size, 0, none⟩ = some (.slice A3 n3 c3) ∧ W.cell? ⟨w3.heap.size, 1, none⟩ = some (.int .i64 bd3) ∧ W.cell? ⟨w6.heap.size, 0, none⟩ = some (.slice (some ⟨b, off, none⟩) m6 d6) ∧ W.cell? ⟨w6.heap.size, 1, none⟩ = some (.int .i64 bd3)) 3 (by kernel_rfl) ?_
    refine wpAnyZ_take 0 (v := ?_) (by kernel_rfl) rfl rfl (by kernel_rfl) (by kernel_rfl) (by kernel_rfl) (fun _ _ _ h => h) hS7 (Or.inl ⟨by rfl, ?_⟩) ?_
    rotate_left
    · (intro w hSw; (try dsimp only at hSw); go_simp; (try with_reducible rfl))
    try simp only [Act.put, List.setIfInBounds_toArray, List.set_cons_zero, List.set_cons_succ]
    refine wpAnyZ_take 1 (v := ?_) (by kernel_rfl) rfl rfl (by kernel_rfl) (by kernel_rfl) (by kernel_rfl) (fun _ _ _ h => h) hS7 (Or.inl ⟨by rfl, ?_⟩) ?_
    rotate_left
    · (intro w hSw; (try dsimp only at hSw); go_simp; (try with_reducible rfl))
    try simp only [Act.put, List.setIfInBounds_toArray, List.set_cons_zero, List.set_cons_succ]
    refine wpAnyZ_one 2 (by kernel_rfl) rfl rfl (fun K hK => ?_)
    go_simp
    refine hK.out _ _ (K1.out _ (((Kept.refl _ _ w9).drew.setIn (p := ⟨w.heap.size, 0, none⟩) (by simp) (.slice A3 n3 c3)).setIn (p := ⟨w.heap.size, 1, none⟩) (by simp) (.int .i64 bd3))) ?_
    clear hK K
    try simp only [Act.put, List.setIfInBounds_toArray, List.set_cons_zero, List.set_cons_succ]
    refine wpAnyZ_last (by kernel_rfl) (by kernel_rfl) rfl rfl (fun K hK => ?_)
    go_simp
    refine hK.out _ _ ?_
    clear hK K hS7 K1
    go_wp2
    refine bodyPost_ret (v := .tuple #[.agg #[.slice A3 n3 c3, .int .i64 bd3], .agg #[.slice (some ⟨b, off, none⟩) m6 d6, .int .i64 bd3]]) (by simp [results, Try.results52, go_sem, r0, r1, s0, s1]) rfl ?_
    exact (C.out.ret (by omega) hm6).drew
  · have hq0 : (0 : Nat) = 0 := rfl
    go_wp2_with fail
    have BX := Blk.new w6 33 #[.slice B6 m6 d6, .int .i64 bd3]
    have G7 := HG6.out.later ((Ext.refl w6).alloc (.cells #[.slice B6 m6 d6, .int .i64 bd3] 33))
    have E7 := hE6.alloc (.cells #[.slice B6 m6 d6, .int .i64 bd3] 33)
    generalize (w6.alloc (.cells #[.slice B6 m6 d6, .int .i64 bd3] 33)) = w7 at BX G7 E7 ⊢
    have K7 : Kept (w.heap.size + 2) (w.heap.size + 3) w4 w7 := E7.kept _ _
    have hz6 := hE6.size
    have hz7 := E7.size
    have C := Lib.hid (show CC w w7 A3 n3 c3 ts3 B6 m6 d6 ts3 from ⟨E4.out.fresh K7 (by omega), R0.out.kept K7 (.inl (by omega)), R1.out.kept K7 (.inl (by omega)), S4.out.kept L4.out K7 (.inr (by omega)), F4.out.kept S4.out L4.out K7 (.inr (by omega)), L4.out.wide (by omega) (by omega), G7.seg, G7.free, G7.lies.wide (by omega) (Nat.le_refl _)⟩)
    have BP := BC.out.kept K7 (.inr (by omega))
    have K1 : Hid (∀ W, Kept w.heap.size (w.heap.size + 2) w7 W → (W.cell? ⟨w3.heap.size, 0, none⟩ = some (.slice A3 n3 c3) ∧ W.cell? ⟨w3.heap.size, 1, none⟩ = some (.int .i64 bd3) ∧ W.cell? ⟨w6.heap.size, 0, none⟩ = some (.slice B6 m6 d6) ∧ W.cell? ⟨w6.heap.size, 1, none⟩ = some (.int .i64 bd3))) := fun W e => by
      have B := BP.kept e (.inr (by omega))
      have D := BX.kept e (.inr (by omega))
      exact ⟨B.cell 0, B.cell 1, D.cell 0, D.cell 1⟩
    have r0 := C.out.r0.cell 0
    have r1 := C.out.r0.cell 1
    have q0 := C.out.r0.frozen 0
    have q1 := C.out.r0.frozen 1
    have s0 := C.out.r1.cell 0
    have s1 := C.out.r1.cell 1
    have t0 := C.out.r1.frozen 0
    have t1 := C.out.r1.frozen 1
    have hr0 := C.out.r0.lt
    have hr1 := C.out.r1.lt
    clear BP BX G7 E7 K7 S4 F4 L4 E4 R0 R1 BC c0 c1
    have hS7 := K1.out w7.drew (Kept.refl _ _ _).drew
    refine wp_region_Z (fun W => W.cell? ⟨w3.heap.size, 0, none⟩ = some (.slice A3 n3 c3) ∧ W.cell? ⟨w3.heap.size, 1, none⟩ = some (.int .i64 bd3) ∧ W.cell? ⟨w6.heap.size, 0, none⟩ = some (.slice B6 m6 d6) ∧ W.cell? ⟨w6.heap.size, 1, none⟩ = some (.int .i64 bd3)) 3 (by kernel_rfl) ?_
    refine wpAnyZ_take 0 (v := ?_) (by kernel_rfl) rfl rfl (by kernel_rfl) (by kernel_rfl) (by kernel_rfl) (fun _ _ _ h => h) hS7 (Or.inl ⟨by rfl, ?_⟩) ?_
    rotate_left
    · (intro w hSw; (try dsimp only at hSw); go_simp; (try with_reducible rfl))
    try simp only [Act.put, List.setIfInBounds_toArray, List.set_cons_zero, List.set_cons_succ]
    refine wpAnyZ_take 1 (v := ?_) (by kernel_rfl) rfl rfl (by kernel_rfl) (by kernel_rfl) (by kernel_rfl) (fun _ _ _ h => h) hS7 (Or.inl ⟨by rfl, ?_⟩) ?_
    rotate_left
    · (intro w hSw; (try dsimp only at hSw); go_simp; (try with_reducible rfl))
    try simp only [Act.put, List.setIfInBounds_toArray, List.set_cons_zero, List.set_cons_succ]
    refine wpAnyZ_one 2 (by kernel_rfl) rfl rfl (fun K hK => ?_)
    go_simp
    refine hK.out _ _ (K1.out _ (((Kept.refl _ _ w7).drew.setIn (p := ⟨w.heap.size, 0, none⟩) (by simp) (.slice A3 n3 c3)).setIn (p := ⟨w.heap.size, 1, none⟩) (by simp) (.int .i64 bd3))) ?_
    clear hK K
    try simp only [Act.put, List.setIfInBounds_toArray, List.set_cons_zero, List.set_cons_succ]
    refine wpAnyZ_last (by kernel_rfl) (by kernel_rfl) rfl rfl (fun K hK => ?_)
    go_simp
    refine hK.out _ _ ?_
    clear hK K hS7 K1
    go_wp2
    refine bodyPost_ret (v := .tuple #[.agg #[.slice A3 n3 c3, .int .i64 bd3], .agg #[.slice B6 m6 d6, .int .i64 bd3]]) (by simp [results, Try.results52, go_sem, r0, r1, s0, s1]) rfl ?_
    exact (C.out.ret (by omega) hm6).drew
end Go.Proofs.Ytihmkbfobihddaa
