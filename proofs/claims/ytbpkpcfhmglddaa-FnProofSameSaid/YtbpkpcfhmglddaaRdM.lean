/- The drawn constraint: l1Constraint, l1Copy, l1Mutate; DrawConstraintValid. -/
import Derived.Test.YtbpkpcfhmglddaaRdC
import Derived.Test.YtbpkpcfhmglddaaLastS
import Derived.Test.YtbpkpcfhmglddaaSetAt
import Derived.Test.YtbpkpcfhmglddaaApp
import Derived.Test.YtbpkpcfhmglddaaToT
namespace Go.Proofs.Ytbpkpcfhmglddaa
open Go.RowKit

/-- a constraint that the call holds in a box gc of its own, the result's box being gr -/
structure OC (w W : World) (g gr gc lo hi L n c : Nat) (A : Option Addr) (ts : List Tm) (bd : Int) : Prop where
  kept : Kept g (g + 1) w W
  rd : Rd W g L
  res : Blk W gr 25 #[.slice none 0 0, .int .i64 0]
  box : Blk W gc 25 #[.slice A n c, .int .i64 bd]
  seg : Seg W 2 A n (encT ts)
  free : Free W 2 A n
  lies : Lies lo hi A n
  ggr : g < gr
  wgr : w.heap.size ≤ gr
  grlo : gr < lo
  gcgr : gr < gc
  gclo : gc < lo ∨ hi ≤ gc
  hiW : hi ≤ W.heap.size

theorem Seg.lenE {w : World} {sz n : Nat} {A : Option Addr} {xs : List Value} (h : Seg w sz A n xs) : xs.length = n * sz := h.1
section
variable {w W W' : World} {g gr gc lo hi L n c : Nat} {A : Option Addr} {ts : List Tm} {bd : Int}
theorem OC.step {L' : Nat} (h : OC w W g gr gc lo hi L n c A ts bd) (K : Kept g (g + 1) W W') (R : Rd W' g L') : OC w W' g gr gc lo hi L' n c A ts bd := by
  obtain ⟨h1, h2, h3, h4, h5, h6, h7, h8, h9, h10, h11, h12, h13⟩ := h
  have := K.size
  exact ⟨h1.trans K, R, h3.kept K (.inr (by omega)), h4.kept K (.inr (by omega)), h5.kept h7 K (.inr (by omega)), h6.kept h5 h7 K (.inr (by omega)), h7, h8, h9, h10, h11, h12, by omega⟩
theorem OC.ext (h : OC w W g gr gc lo hi L n c A ts bd) (E : Ext W W') : OC w W' g gr gc lo hi L n c A ts bd := h.step (E.kept _ _) (h.rd.ext E)
theorem OC.alloc (h : OC w W g gr gc lo hi L n c A ts bd) (o : Obj) : OC w (W.alloc o) g gr gc lo hi L n c A ts bd := h.ext ((Ext.refl _).alloc _)
theorem OC.drew (h : OC w W g gr gc lo hi L n c A ts bd) : OC w W.drew g gr gc lo hi L n c A ts bd := h.ext (Ext.refl _).drew
theorem OC.bound (h : OC w W g gr gc lo hi L n c A ts bd) (u : Int) : OC w (W.setCell ⟨gc, 1, none⟩ (.int .i64 u)) g gr gc lo hi L n c A ts u := by
  obtain ⟨h1, h2, h3, h4, h5, h6, h7, h8, h9, h10, h11, h12, h13⟩ := h
  have K : Kept gc (gc + 1) W (W.setCell ⟨gc, 1, none⟩ (.int .i64 u)) := (Kept.refl _ _ _).setIn (by simp) _
  exact ⟨h1.setNew (by simp only; omega) _, h2.far (p := ⟨gc, 1, none⟩) (by simp only; omega) _, h3.far (p := ⟨gc, 1, none⟩) (by simp only; omega) _, h4.set_ 1 _, h5.kept h7 K (by omega), h6.kept h5 h7 K (by omega), h7, h8, h9, h10, h11, h12, by simpa using h13⟩
theorem OC.term {us : List Tm} {b off i : Nat} (h : OC w W g gr gc lo hi L n c (some ⟨b, off, none⟩) ts bd) (u : Value) (hin : i < n * 2) (hu : (encT ts).set i u = encT us) : OC w (W.setCell ⟨b, off + i, none⟩ u) g gr gc lo hi L n c (some ⟨b, off, none⟩) us bd := by
  obtain ⟨h1, h2, h3, h4, h5, h6, h7, h8, h9, h10, h11, h12, h13⟩ := h
  have hb := h7 (by omega) _ rfl
  simp only at hb
  have h5' := Seg.setAt h5 (i := i) (by rw [Seg.lenE h5]; exact hin) u
  rw [hu] at h5'
  exact ⟨h1.setNew (by simp only; omega) _, h2.far (p := ⟨b, off + i, none⟩) (by simp only; omega) _, h3.far (p := ⟨b, off + i, none⟩) (by simp only; omega) _, h4.far (p := ⟨b, off + i, none⟩) (by simp only; omega) _, h5', h6.setCell _ _, h7, h8, h9, h10, h11, h12, by simpa using h13⟩
theorem OC.ret {N L' : Nat} (h : OC w W g gr gc lo hi L n c A ts bd) (hN : n ≤ N) (hL : L ≤ L') : RdC N g L' w (.returned (.agg #[.slice A n c, .int .i64 bd])) ((W.setCell ⟨gr, 0, none⟩ (.slice A n c)).setCell ⟨gr, 1, none⟩ (.int .i64 bd)) := by
  obtain ⟨h1, h2, h3, h4, h5, h6, h7, h8, h9, h10, h11, h12, h13⟩ := h
  have K : Kept gr (gr + 1) W ((W.setCell ⟨gr, 0, none⟩ (.slice A n c)).setCell ⟨gr, 1, none⟩ (.int .i64 bd)) := ((Kept.refl _ _ W).setIn (p := ⟨gr, 0, none⟩) (by simp) (.slice A n c)).setIn (p := ⟨gr, 1, none⟩) (by simp) (.int .i64 bd)
  exact ⟨A, n, c, ts, bd, rfl, h5.lenT, hN, ⟨h5.kept h7 K (.inr (by omega)), h6.kept h5 h7 K (.inr (by omega)), h7.wide (by omega) (Nat.le_trans h13 K.size)⟩, (h1.setNew (p := ⟨gr, 0, none⟩) (by simp only; omega) _).setNew (p := ⟨gr, 1, none⟩) (by simp only; omega) _, ((h2.mono hL).far (p := ⟨gr, 0, none⟩) (by simp only; omega) _).far (p := ⟨gr, 1, none⟩) (by simp only; omega) _⟩
theorem OC.lt (h : OC w W g gr gc lo hi L n c A ts bd) : gr < W.heap.size ∧ gc < W.heap.size := ⟨h.res.lt, h.box.lt⟩
end
theorem encT_put0 (ts : List Tm) (hn : 0 < ts.length) (i : Nat) (hi : i < 2) (z : Int) : ∃ us : List Tm, us.length = ts.length ∧ (encT ts).set i (.int .i64 z) = encT us := by
  match ts, hn with
  | t :: ts, _ =>
    match i, hi with
    | 0, _ => exact ⟨(z, t.2) :: ts, rfl, rfl⟩
    | 1, _ => exact ⟨(t.1, z) :: ts, rfl, rfl⟩

set_option maxRecDepth 100000 in
set_option maxHeartbeats 4000000 in
theorem l1Constraint_any (g L : Nat) (w : World) (h : Rd w g L) (hL : L ≤ 800000000) :
    Calls Try.prog 50 #[.pointer (some ⟨g, 0, none⟩)] w (RdC 12 g (L + 60) w) := by
  have hgw := h.lt
  have HR := Lib.hid h
  clear h
  go_enter Try.func50, Try.ntmps50
  go_wp2_with fail
  refine (num_lit [4, 5, 3, 6, 12] g _ 5 _ _ _ _ (by simp) rfl rfl (by omega) (by omega) (HR.out.alloc _) (by omega)).mono ?_
  rintro e w1 ⟨m, rfl, hm, hK1, hR1⟩
  have hmb : 0 ≤ m ∧ m ≤ 12 := by simp at hm; omega
  obtain ⟨m, rfl⟩ := Int.eq_ofNat_of_zero_le hmb.1
  have hres := Lib.hid ((Blk.new w 25 #[.slice none 0 0, .int .i64 0]).kept hK1 (.inr (by omega)))
  have HK1 := Lib.hid (((Kept.refl g (g + 1) w).alloc (.cells #[.slice none 0 0, .int .i64 0] 25)).trans hK1)
  have HR1 := Lib.hid hR1
  have hz1 := hres.out.lt
  clear hm hK1 hR1
  go_wp2_with fail
  refine (l1Draw_any g _ m _ HR1.out (by omega) (by omega)).mono ?_
  rintro e w2 ⟨A, n, c, ts, bd, rfl, hl, hn, hG, hK2, hR2⟩
  have hz2 := hK2.size
  have O := Lib.hid (show OC w (w2.alloc (.cells #[.slice A n c, .int .i64 bd] 25)) g w.heap.size w2.heap.size w1.heap.size w2.heap.size (L + 51) n c A ts bd from
    ⟨(HK1.out.trans hK2).alloc _, hR2.alloc _, (hres.out.kept hK2 (.inr (by omega))).alloc _, Blk.new _ _ _, hG.seg.alloc _, hG.free.ext hG.seg ((Ext.refl _).alloc _), hG.lies, hgw, Nat.le_refl _, hz1, by omega, .inr (Nat.le_refl _), by simp⟩)
  clear hl hG hK2 hR2 hres HK1 HR1
  go_wp2_with fail
  refine (pick_any g _ 12 _ O.out.rd (by omega) (by omega)).mono ?_
  rintro e w3 ⟨i, rfl, hi, hK3, hR3⟩
  have O3 := Lib.hid (O.out.step hK3 hR3)
  clear hK3 hR3 O hi
  have hz3 := O3.out.lt
  by_cases h0 : i = 0
  · subst h0
    have b0 := O3.out.box.cell 0
    by_cases hn0 : 0 < n
    · have hn1 : decide ((0 : Int) < (n : Int)) = true := decide_eq_true (by omega)
      go_wp2_with fail
      obtain ⟨b, off, rfl⟩ := O3.out.seg.addr hn0
      have hbl := O3.out.lies hn0 _ rfl
      have hO := O3.out
      have hbW : b < w3.heap.size := by have := hO.hiW; have := hbl.2; simp only at this; omega
      have hoff := hO.gclo
      have hlie : w1.heap.size ≤ b ∧ b < w2.heap.size := hbl
      clear hO
      have K0 : Hid (∀ W, Kept g (g + 1) w3 W → W.cell? ⟨w2.heap.size, 0, none⟩ = some (.slice (some ⟨b, off, none⟩) n c)) := fun W e => by
        rw [e.cell (by simp only; omega) (.inr (by simp only; omega))]; exact b0
      have hS0 := K0.out w3.drew (Kept.refl _ _ _).drew
      refine wp_region_Z (fun w' => w'.cell? ⟨w2.heap.size, 0, none⟩ = some (.slice (some ⟨b, off, none⟩) n c)) 7 (by kernel_rfl) ?_
      refine wpAnyZ_take 0 (v := ?_) (by kernel_rfl) rfl rfl (by kernel_rfl) (by kernel_rfl) (by kernel_rfl) (fun _ _ _ h => h) hS0 (Or.inl ⟨by rfl, ?_⟩) ?_
      rotate_left
      · (intro w hSw; (try dsimp only at hSw); go_simp; (try with_reducible rfl))
      try simp only [Act.put, List.setIfInBounds_toArray, List.set_cons_zero, List.set_cons_succ]
      refine wpAnyZ_take 1 (v := ?_) (by kernel_rfl) rfl rfl (by kernel_rfl) (by kernel_rfl) (by kernel_rfl) (fun _ _ _ h => h) hS0 (Or.inl ⟨by rfl, ?_⟩) ?_
      rotate_left
      · (intro w hSw; (try dsimp only at hSw); go_simp; (try with_reducible rfl))
      try simp only [Act.put, List.setIfInBounds_toArray, List.set_cons_zero, List.set_cons_succ]
      refine wpAnyZ_take 2 (v := ?_) (by kernel_rfl) rfl rfl (by kernel_rfl) (by kernel_rfl) (by kernel_rfl) (fun _ _ _ h => h) hS0 (Or.inl ⟨by rfl, ?_⟩) ?_
      rotate_left
      · (intro w hSw; (try dsimp only at hSw); go_simp; (try with_reducible rfl))
      try simp only [Act.put, List.setIfInBounds_toArray, List.set_cons_zero, List.set_cons_succ]
      refine wpAnyZ_one 3 (by kernel_rfl) rfl rfl (fun K hK => ?_)
      go_simp
      refine hK.out _ _ (K0.out _ (by first | exact ((Kept.refl _ _ _).drew).alloc _ | exact ((Kept.refl _ _ _).alloc _).drew)) ?_
      clear hK K
      try simp only [Act.put, List.setIfInBounds_toArray, List.set_cons_zero, List.set_cons_succ]
      refine wpAnyZ_one 4 (by kernel_rfl) rfl rfl (fun K hK => ?_)
      go_simp
      refine (num_litD [1000, 999, 100] g _ 3 _ _ _ w3 rfl rfl rfl (by omega) (by omega) O3.out.rd (by omega)).mono ?_
      rintro e w4 ⟨u, rfl, hu, hK4, hR4⟩
      have hS4 := K0.out w4 hK4
      have O4 := Lib.hid (O3.out.step hK4 hR4)
      obtain ⟨b', off', cc, ll, e', hx, t1, t2⟩ := O4.out.seg.term hn0
      injection e' with e'; injection e' with e1 e2
      subst e1; subst e2
      have tf := O4.out.free b off rfl 0 (by omega)
      rw [Nat.zero_mul, Nat.add_zero] at t1
      rw [Nat.add_zero] at tf
      obtain ⟨us, hul, hus⟩ := encT_put0 ts (by rw [O4.out.seg.lenT]; exact hn0) 0 (by omega) u
      have O5 := Lib.hid (O4.out.term (i := 0) (.int .i64 u) (by omega) hus)
      clear hx t2 hu hK4 hR4 O3 O4 hul hus
      refine hK.out _ _ hS4 ?_
      clear hK K
      try simp only [Act.put, List.setIfInBounds_toArray, List.set_cons_zero, List.set_cons_succ]
      refine wpAnyZ_one 5 (by kernel_rfl) rfl rfl (fun K hK => ?_)
      go_simp
      refine hK.out _ _ hS4 ?_
      clear hK K
      try simp only [Act.put, List.setIfInBounds_toArray, List.set_cons_zero, List.set_cons_succ]
      refine wpAnyZ_one 6 (by kernel_rfl) rfl rfl (fun K hK => ?_)
      go_simp
      refine hK.out _ _ hS4 ?_
      clear hK K
      try simp only [Act.put, List.setIfInBounds_toArray, List.set_cons_zero, List.set_cons_succ]
      refine wpAnyZ_last (by kernel_rfl) (by kernel_rfl) rfl rfl (fun K hK => ?_)
      go_simp
      refine hK.out _ _ ?_
      clear hK K
      clear t1 tf hS4 b0 K0
      rw [Nat.add_zero] at O5
      have hz5 := O5.out.lt
      rw [World.size_setCell] at hz5
      go_wp2_with fail
      refine (num_lit [1000, 500, 20000, 1] g _ 4 _ _ _ _ (by simp) rfl rfl (by omega) (by omega) O5.out.rd (by omega)).mono ?_
      rintro e w6 ⟨bd2, rfl, hu, hK6, hR6⟩
      have O6 := Lib.hid (O5.out.step hK6 hR6)
      have O7 := Lib.hid (O6.out.bound bd2)
      have hz6 := O6.out.lt
      have f1 := O6.out.box.frozen 1
      have d1 := O6.out.box.cell 1
      have d0 := O6.out.box.cell 0
      have r0 := O7.out.res.cell 0
      have r1 := O7.out.res.cell 1
      have q0 := O7.out.res.frozen 0
      have q1 := O7.out.res.frozen 1
      clear hK6 hR6 hu O5
      go_wp2
      refine bodyPost_ret (v := .agg #[.slice (some ⟨b, off, none⟩) n c, .int .i64 bd2]) (by simp [results, Try.results50, go_sem, r0, r1]) rfl ?_
      exact O7.out.ret hn (by omega)
    · have hn1 : decide ((0 : Int) < (n : Int)) = false := decide_eq_false (by omega)
      have d1 := O3.out.box.cell 1
      have r0 := O3.out.res.cell 0
      have r1 := O3.out.res.cell 1
      have q0 := O3.out.res.frozen 0
      have q1 := O3.out.res.frozen 1
      go_wp2
      refine bodyPost_ret (v := .agg #[.slice A n c, .int .i64 bd]) (by simp [results, Try.results50, go_sem, r0, r1]) rfl ?_
      exact O3.out.ret hn (by omega)
  · have hb : (i == 0) = false := by simpa using h0
    have d0 := O3.out.box.cell 0
    have d1 := O3.out.box.cell 1
    have r0 := O3.out.res.cell 0
    have r1 := O3.out.res.cell 1
    have q0 := O3.out.res.frozen 0
    have q1 := O3.out.res.frozen 1
    go_wp2
    refine bodyPost_ret (v := .agg #[.slice A n c, .int .i64 bd]) (by simp [results, Try.results50, go_sem, r0, r1]) rfl ?_
    exact O3.out.ret hn (by omega)

/-- .. whose terms lie in a row of the call's own -/
def RetCO (ts : List Tm) (bd : Int) (w : World) (e : Ending) (w' : World) : Prop :=
  ∃ A n cap, e = .returned (.agg #[.slice A n cap, .int .i64 bd]) ∧ ts.length = n ∧ w'.ownsRow (w.heap.size + 2) 38 2 (.slice A n cap) n (encT ts) ∧ Ext w w'
set_option maxRecDepth 100000 in
set_option maxHeartbeats 2000000 in
theorem l1Copy_own (A : Option Addr) (n c : Nat) (ts : List Tm) (bd : Int) (w : World) (h : Seg w 2 A n (encT ts)) (hn : n ≤ 1048576) :
    Calls Try.prog 65 #[.agg #[.slice A n c, .int .i64 bd]] w (RetCO ts bd w) := by
  obtain ⟨i0, hi, hz0, hz1, hz2⟩ := info_parts Try.infoTmR
  have HI := Lib.hid hi
  have HZ0 := Lib.hid hz0
  have HZ1 := Lib.hid hz1
  have HZ2 := Lib.hid hz2
  have HL := Lib.hid h.lenT
  have HS := Lib.hid h
  have hB0 : Hid (Blk ((w.alloc (.cells #[.slice A n c, .int .i64 bd] 25)).alloc (.cells #[.slice none 0 0, .int .i64 0] 25)) w.heap.size 25 #[.slice A n c, .int .i64 bd]) := (Blk.new _ _ _).alloc _
  have hB1 : Hid (Blk ((w.alloc (.cells #[.slice A n c, .int .i64 bd] 25)).alloc (.cells #[.slice none 0 0, .int .i64 0] 25)) (w.heap.size + 1) 25 #[.slice none 0 0, .int .i64 0]) := by
    have := Blk.new (w.alloc (.cells #[.slice A n c, .int .i64 bd] 25)) 25 #[.slice none 0 0, .int .i64 0]
    rw [World.size_alloc] at this; exact this
  have K0 : Hid (∀ W, Ext ((w.alloc (.cells #[.slice A n c, .int .i64 bd] 25)).alloc (.cells #[.slice none 0 0, .int .i64 0] 25)) W → (W.cell? ⟨w.heap.size, 0, none⟩ = some (.slice A n c) ∧ W.cell? ⟨w.heap.size, 1, none⟩ = some (.int .i64 bd))) := fun W e => ⟨e.cell (hB0.out.cell 0), e.cell (hB0.out.cell 1)⟩
  clear hi hz0 hz1 hz2 h
  go_enter Try.func65, Try.ntmps65
  go_wp2_with fail
  have hS0 := K0.out ((w.alloc (.cells #[.slice A n c, .int .i64 bd] 25)).alloc (.cells #[.slice none 0 0, .int .i64 0] 25)).drew (Ext.refl _).drew
  refine wp_region_Z (fun W => W.cell? ⟨w.heap.size, 0, none⟩ = some (.slice A n c) ∧ W.cell? ⟨w.heap.size, 1, none⟩ = some (.int .i64 bd)) 7 (by kernel_rfl) ?_
  refine wpAnyZ_take 1 (v := ?_) (by kernel_rfl) rfl rfl (by kernel_rfl) (by kernel_rfl) (by kernel_rfl) (fun _ _ _ h => h) hS0 (Or.inl ⟨by rfl, ?_⟩) ?_
  rotate_left
  · (intro w hSw; (try dsimp only at hSw); go_simp; (try with_reducible rfl))
  try simp only [Act.put, List.setIfInBounds_toArray, List.set_cons_zero, List.set_cons_succ]
  refine wpAnyZ_take 2 (v := ?_) (by kernel_rfl) rfl rfl (by kernel_rfl) (by kernel_rfl) (by kernel_rfl) (fun _ _ _ h => h) hS0 (Or.inl ⟨by rfl, ?_⟩) ?_
  rotate_left
  · (intro w hSw; (try dsimp only at hSw); go_simp; (try with_reducible rfl))
  try simp only [Act.put, List.setIfInBounds_toArray, List.set_cons_zero, List.set_cons_succ]
  refine wpAnyZ_take 4 (v := ?_) (by kernel_rfl) rfl rfl (by kernel_rfl) (by kernel_rfl) (by kernel_rfl) (fun _ _ _ h => h) hS0 (Or.inl ⟨by rfl, ?_⟩) ?_
  rotate_left
  · (intro w hSw; (try dsimp only at hSw); go_simp; (try with_reducible rfl))
  try simp only [Act.put, List.setIfInBounds_toArray, List.set_cons_zero, List.set_cons_succ]
  refine wpAnyZ_take 5 (v := ?_) (by kernel_rfl) rfl rfl (by kernel_rfl) (by kernel_rfl) (by kernel_rfl) (fun _ _ _ h => h) hS0 (Or.inl ⟨by rfl, ?_⟩) ?_
  rotate_left
  · (intro w hSw; (try dsimp only at hSw); go_simp; (try with_reducible rfl))
  try simp only [Act.put, List.setIfInBounds_toArray, List.set_cons_zero, List.set_cons_succ]
  refine wpAnyZ_one 0 (by kernel_rfl) rfl rfl (fun K hK => ?_)
  go_simp
  refine hK.out _ _ (K0.out _ (by first | exact ((Ext.refl _).drew).alloc _ | exact ((Ext.refl _).alloc _).drew)) ?_
  clear hK K
  try simp only [Act.put, List.setIfInBounds_toArray, List.set_cons_zero, List.set_cons_succ]
  have OE := own_empty ((w.alloc (.cells #[.slice A n c, .int .i64 bd] 25)).alloc (.cells #[.slice none 0 0, .int .i64 0] 25)) (w.heap.size + 1 + 1) 38 2 (by simp)
  simp only [World.size_alloc] at OE
  refine wpAnyZ_one 3 (by kernel_rfl) rfl rfl (fun K hK => ?_)
  refine wp_append_seg _ _ _ _ (by rfl) (w.heap.size + 1 + 1) 38 i0 _ 2 16 Try.underlying23 HI.out HZ0.out HZ1.out HZ2.out rfl (by omega) _ 0 [] (by rfl) OE.drew A n c (encT ts) (by rfl) ((((HS.out.alloc _).alloc _).alloc _).ext (Ext.refl _).drew) (oneCT ts) (by unfold maxLen; omega) (by omega) (by simp) ?_
  intro A1 k1 w1 hown1 hg1
  rw [List.nil_append] at hown1
  simp only [Nat.zero_add] at hown1 ⊢
  have EG : Ext ((w.alloc (.cells #[.slice A n c, .int .i64 bd] 25)).alloc (.cells #[.slice none 0 0, .int .i64 0] 25)) w1 := ((Ext.refl _).alloc _).drew.grown hg1 (fun k hk => by simp [Value.ownBlock] at hk; simp; omega)
  have hS1 := K0.out w1 EG
  refine hK.out _ _ hS1 ?_
  clear hK K
  try simp only [Act.put, List.setIfInBounds_toArray, List.set_cons_zero, List.set_cons_succ]
  have r0 := (hB1.out.ext EG).cell 0
  have r1 := (hB1.out.ext EG).cell 1
  have q0 := (hB1.out.ext EG).frozen 0
  have q1 := (hB1.out.ext EG).frozen 1
  have HE := Lib.hid EG
  clear EG OE hg1
  refine wpAnyZ_one 6 (by kernel_rfl) rfl rfl (fun K hK => ?_)
  go_simp
  refine hK.out _ _ hS1 ?_
  clear hK K
  try simp only [Act.put, List.setIfInBounds_toArray, List.set_cons_zero, List.set_cons_succ]
  refine wpAnyZ_last (by kernel_rfl) (by kernel_rfl) rfl rfl (fun K hK => ?_)
  go_simp
  refine hK.out _ _ ?_
  clear hK K
  go_wp2
  refine bodyPost_ret (v := .agg #[.slice A1 n k1, .int .i64 bd]) (by simp [results, Try.results65, go_sem, r0, r1]) rfl ?_
  have K : Kept (w.heap.size + 1) (w.heap.size + 1 + 1) w1 _ := ((Kept.refl _ _ w1).setIn (p := ⟨w.heap.size + 1, 0, none⟩) (by simp) (.slice A1 n k1)).setIn (p := ⟨w.heap.size + 1, 1, none⟩) (by simp) (.int .i64 bd)
  exact ⟨A1, n, k1, rfl, HL.out, own_kept hown1 K (Nat.le_refl _), ((((Ext.refl w).alloc _).alloc _).trans HE.out |>.setNew (p := ⟨w.heap.size + 1, 0, none⟩) (by simp) _).setNew (p := ⟨w.heap.size + 1, 1, none⟩) (by simp) _⟩
theorem l1Copy_any (A : Option Addr) (n c : Nat) (ts : List Tm) (bd : Int) (w : World) (h : Seg w 2 A n (encT ts)) (hn : n ≤ 1048576) :
    Calls Try.prog 65 #[.agg #[.slice A n c, .int .i64 bd]] w (RetC ts bd w) :=
  (l1Copy_own A n c ts bd w h hn).mono fun _ _ ⟨A1, n1, k1, he, hl, ho, hE⟩ => ⟨A1, n1, k1, he, hl, own_got ho (by omega), hE⟩
theorem RdC.of {N g gr lo L L' n c : Nat} {w W : World} {A : Option Addr} {ts : List Tm} {bd : Int} (h1 : Kept g (g + 1) w W) (h2 : Rd W g L) (h5 : Seg W 2 A n (encT ts)) (h6 : Free W 2 A n) (h7 : Lies lo W.heap.size A n)
    (ggr : g < gr) (wgr : w.heap.size ≤ gr) (grlo : gr < lo) (hN : n ≤ N) (hL : L ≤ L') : RdC N g L' w (.returned (.agg #[.slice A n c, .int .i64 bd])) ((W.setCell ⟨gr, 0, none⟩ (.slice A n c)).setCell ⟨gr, 1, none⟩ (.int .i64 bd)) := by
  have K : Kept gr (gr + 1) W ((W.setCell ⟨gr, 0, none⟩ (.slice A n c)).setCell ⟨gr, 1, none⟩ (.int .i64 bd)) := ((Kept.refl _ _ W).setIn (p := ⟨gr, 0, none⟩) (by simp) (.slice A n c)).setIn (p := ⟨gr, 1, none⟩) (by simp) (.int .i64 bd)
  exact ⟨A, n, c, ts, bd, rfl, h5.lenT, hN, ⟨h5.kept h7 K (.inr (by omega)), h6.kept h5 h7 K (.inr (by omega)), h7.wide (by omega) K.size⟩, (h1.setNew (p := ⟨gr, 0, none⟩) (by simp only; omega) _).setNew (p := ⟨gr, 1, none⟩) (by simp only; omega) _, ((h2.mono hL).far (p := ⟨gr, 0, none⟩) (by simp only; omega) _).far (p := ⟨gr, 1, none⟩) (by simp only; omega) _⟩


theorem encT_putL (ts : List Tm) : ∀ (m : Nat) (c l z : Int), ts[m]? = some (c, l) → ∃ us : List Tm, us.length = ts.length ∧ (encT ts).set (m * 2 + 1) (.int .i64 z) = encT us := by
  induction ts with
  | nil => intro m c l z h; simp at h
  | cons t ts ih =>
    intro m c l z h
    cases m with
    | zero => exact ⟨(t.1, z) :: ts, rfl, rfl⟩
    | succ m =>
      rw [List.getElem?_cons_succ] at h
      obtain ⟨us, h1, h2⟩ := ih m c l z h
      refine ⟨t :: us, by simp [h1], ?_⟩
      rw [show (m + 1) * 2 + 1 = m * 2 + 1 + 1 + 1 from by omega]
      simp only [encT, List.set_cons_succ, h2]

set_option maxRecDepth 100000 in
set_option maxHeartbeats 4000000 in
theorem l1Mutate_any (g L : Nat) (A : Option Addr) (n c : Nat) (ts : List Tm) (bd : Int) (w : World) (h : Rd w g L) (hL : L ≤ 800000000) (hs : Seg w 2 A n (encT ts)) (hn : n ≤ 1000) :
    Calls Try.prog 49 #[.pointer (some ⟨g, 0, none⟩), .agg #[.slice A n c, .int .i64 bd]] w (RdC (n + 1) g (L + 5) w) := by
  have hgw := h.lt
  have HR := Lib.hid h
  have HLt := Lib.hid hs.lenT
  clear h
  obtain ⟨i0, hi, hz0, hz1, hz2⟩ := info_parts Try.infoTmR
  have HI := Lib.hid hi
  have HZ0 := Lib.hid hz0
  have HZ1 := Lib.hid hz1
  have HZ2 := Lib.hid hz2
  clear hi hz0 hz1 hz2
  go_enter Try.func49, Try.ntmps49
  go_wp2_with fail
  refine (l1Copy_own A n c ts bd _ ((hs.alloc _).alloc _) (by omega)).mono ?_
  rintro e w1 ⟨A1, n1, c1, rfl, hl, hown, hE1⟩
  obtain rfl : n1 = n := by have := HLt.out; omega
  simp only [World.size_alloc] at hown
  obtain ⟨-, B1⟩ := Blk.of2 hE1
  have EW : Ext w w1 := (((Ext.refl w).alloc _).alloc _).trans hE1
  have hz1 := B1.lt
  have hp := own_parts hown
  have O := Lib.hid (show OC w (w1.alloc (.cells #[.slice A1 n1 c1, .int .i64 bd] 25)) g (w.heap.size + 1) w1.heap.size (w.heap.size + 2) w1.heap.size L n1 c1 A1 ts bd from
    ⟨(EW.kept _ _).alloc _, (HR.out.ext EW).alloc _, B1.alloc _, Blk.new _ _ _, hp.1.alloc _, hp.2.1.ext hp.1 ((Ext.refl _).alloc _), hp.2.2.wide (by omega) (Nat.le_refl _), by omega, by omega, by omega, by omega, .inr (Nat.le_refl _), by simp⟩)
  have HOwn := Lib.hid hown
  have HRow : Hid (∀ k, (Value.slice A1 n1 c1).ownBlock = some k → k < w1.heap.size) := fun k hk => (hown.lt k hk).2
  clear hl hown hE1 EW B1 hp hs
  have d0 := O.out.box.cell 0
  go_wp2_with fail
  refine (pick_any g _ 40 _ O.out.rd (by omega) (by omega)).mono ?_
  rintro e w3 ⟨i, rfl, hi, hK3, hR3⟩
  have O3 := Lib.hid (O.out.step hK3 hR3)
  have HOwn3 := Lib.hid (own_kept (HOwn.out.alloc _) hK3 (by omega))
  clear hK3 hR3 O hi d0 HOwn
  have hz3 := O3.out.lt
  by_cases h0 : i = 0
  · subst h0
    go_wp2_with fail
    refine (num_lit [-1, 20001, 9223372036854775807] g _ 3 _ _ _ _ (by simp) rfl rfl (by omega) (by omega) O3.out.rd (by omega)).mono ?_
    rintro e w4 ⟨u, rfl, hu, hK4, hR4⟩
    have O4 := Lib.hid (O3.out.step hK4 hR4)
    have O5 := Lib.hid (O4.out.bound u)
    have hz4 := O4.out.lt
    have f1 := O4.out.box.frozen 1
    have d1 := O4.out.box.cell 1
    have d0 := O4.out.box.cell 0
    have r0 := O5.out.res.cell 0
    have r1 := O5.out.res.cell 1
    have q0 := O5.out.res.frozen 0
    have q1 := O5.out.res.frozen 1
    clear hK4 hR4 hu O3 O4
    go_wp2
    refine bodyPost_ret (v := .agg #[.slice A1 n1 c1, .int .i64 u]) (by simp [results, Try.results49, go_sem, r0, r1]) rfl ?_
    exact O5.out.ret (by omega) (by omega)
  by_cases h1 : i = 1
  · subst h1
    have b0 := O3.out.box.cell 0
    by_cases hn0 : 0 < n1
    · have hn1 : decide ((0 : Int) < (n1 : Int)) = true := decide_eq_true (by omega)
      obtain ⟨b, off, rfl⟩ := O3.out.seg.addr hn0
      have hbl := O3.out.lies hn0 _ rfl
      have hO := O3.out
      have hbW : b < w3.heap.size := by have := hO.hiW; have := hbl.2; simp only at this; omega
      have hlie : w.heap.size + 2 ≤ b ∧ b < w1.heap.size := hbl
      clear hO
      have K0 : Hid (∀ W, Kept g (g + 1) w3 W → W.cell? ⟨w1.heap.size, 0, none⟩ = some (.slice (some ⟨b, off, none⟩) n1 c1)) := fun W e => by
        rw [e.cell (by simp only; omega) (.inr (by simp only; omega))]; exact b0
      have hS0 := K0.out w3.drew (Kept.refl _ _ _).drew
      go_wp2_with fail
      refine wp_region_Z (fun w' => w'.cell? ⟨w1.heap.size, 0, none⟩ = some (.slice (some ⟨b, off, none⟩) n1 c1)) 7 (by kernel_rfl) ?_
      refine wpAnyZ_take 0 (v := ?_) (by kernel_rfl) rfl rfl (by kernel_rfl) (by kernel_rfl) (by kernel_rfl) (fun _ _ _ h => h) hS0 (Or.inl ⟨by rfl, ?_⟩) ?_
      rotate_left
      · (intro w hSw; (try dsimp only at hSw); go_simp; (try with_reducible rfl))
      try simp only [Act.put, List.setIfInBounds_toArray, List.set_cons_zero, List.set_cons_succ]
      refine wpAnyZ_take 1 (v := ?_) (by kernel_rfl) rfl rfl (by kernel_rfl) (by kernel_rfl) (by kernel_rfl) (fun _ _ _ h => h) hS0 (Or.inl ⟨by rfl, ?_⟩) ?_
      rotate_left
      · (intro w hSw; (try dsimp only at hSw); go_simp; (try with_reducible rfl))
      try simp only [Act.put, List.setIfInBounds_toArray, List.set_cons_zero, List.set_cons_succ]
      refine wpAnyZ_take 2 (v := ?_) (by kernel_rfl) rfl rfl (by kernel_rfl) (by kernel_rfl) (by kernel_rfl) (fun _ _ _ h => h) hS0 (Or.inl ⟨by rfl, ?_⟩) ?_
      rotate_left
      · (intro w hSw; (try dsimp only at hSw); go_simp; (try with_reducible rfl))
      try simp only [Act.put, List.setIfInBounds_toArray, List.set_cons_zero, List.set_cons_succ]
      refine wpAnyZ_one 3 (by kernel_rfl) rfl rfl (fun K hK => ?_)
      go_simp
      refine hK.out _ _ (K0.out _ (by first | exact ((Kept.refl _ _ _).drew).alloc _ | exact ((Kept.refl _ _ _).alloc _).drew)) ?_
      clear hK K
      try simp only [Act.put, List.setIfInBounds_toArray, List.set_cons_zero, List.set_cons_succ]
      refine wpAnyZ_one 4 (by kernel_rfl) rfl rfl (fun K hK => ?_)
      go_simp
      refine (num_litD [0, -1, 1001] g _ 3 _ _ _ w3 rfl rfl rfl (by omega) (by omega) O3.out.rd (by omega)).mono ?_
      rintro e w4 ⟨u, rfl, hu, hK4, hR4⟩
      have hS4 := K0.out w4 hK4
      have O4 := Lib.hid (O3.out.step hK4 hR4)
      obtain ⟨b', off', cc, ll, e', hx, t1, t2⟩ := O4.out.seg.term hn0
      injection e' with e'; injection e' with e1 e2
      subst e1; subst e2
      have tf := O4.out.free b off rfl 0 (by omega)
      rw [Nat.zero_mul, Nat.add_zero] at t1
      rw [Nat.add_zero] at tf
      obtain ⟨us, hul, hus⟩ := encT_put0 ts (by rw [O4.out.seg.lenT]; exact hn0) 0 (by omega) u
      have O5 := Lib.hid (O4.out.term (i := 0) (.int .i64 u) (by omega) hus)
      rw [Nat.add_zero] at O5
      clear hx hu hK4 hR4 O3 O4 hul hus
      refine hK.out _ _ hS4 ?_
      clear hK K
      try simp only [Act.put, List.setIfInBounds_toArray, List.set_cons_zero, List.set_cons_succ]
      refine wpAnyZ_one 5 (by kernel_rfl) rfl rfl (fun K hK => ?_)
      go_simp
      refine hK.out _ _ hS4 ?_
      clear hK K
      try simp only [Act.put, List.setIfInBounds_toArray, List.set_cons_zero, List.set_cons_succ]
      refine wpAnyZ_one 6 (by kernel_rfl) rfl rfl (fun K hK => ?_)
      go_simp
      refine hK.out _ _ hS4 ?_
      clear hK K
      try simp only [Act.put, List.setIfInBounds_toArray, List.set_cons_zero, List.set_cons_succ]
      refine wpAnyZ_last (by kernel_rfl) (by kernel_rfl) rfl rfl (fun K hK => ?_)
      go_simp
      refine hK.out _ _ ?_
      clear hK K
      clear t1 t2 tf hS4 b0 K0
      have hz5 := O5.out.lt
      rw [World.size_setCell] at hz5
      have d0 := O5.out.box.cell 0
      have d1 := O5.out.box.cell 1
      have r0 := O5.out.res.cell 0
      have r1 := O5.out.res.cell 1
      have q0 := O5.out.res.frozen 0
      have q1 := O5.out.res.frozen 1
      go_wp2
      refine bodyPost_ret (v := .agg #[.slice (some ⟨b, off, none⟩) n1 c1, .int .i64 bd]) (by simp [results, Try.results49, go_sem, r0, r1]) rfl ?_
      exact O5.out.ret (by omega) (by omega)
    · have hn1 : decide ((0 : Int) < (n1 : Int)) = false := decide_eq_false (by omega)
      have d0 := O3.out.box.cell 0
      have d1 := O3.out.box.cell 1
      have r0 := O3.out.res.cell 0
      have r1 := O3.out.res.cell 1
      have q0 := O3.out.res.frozen 0
      have q1 := O3.out.res.frozen 1
      go_wp2
      refine bodyPost_ret (v := .agg #[.slice A1 n1 c1, .int .i64 bd]) (by simp [results, Try.results49, go_sem, r0, r1]) rfl ?_
      exact O3.out.ret (by omega) (by omega)
  by_cases h2 : i = 2
  · subst h2
    have b0 := O3.out.box.cell 0
    by_cases hn0 : 0 < n1
    · obtain ⟨m, rfl⟩ : ∃ m, n1 = m + 1 := ⟨n1 - 1, by omega⟩
      have hn1 : decide ((0 : Int) < ((m + 1 : Nat) : Int)) = true := decide_eq_true (by omega)
      obtain ⟨b, off, rfl⟩ := O3.out.seg.addr hn0
      have hbl := O3.out.lies hn0 _ rfl
      have hO := O3.out
      have hbW : b < w3.heap.size := by have := hO.hiW; have := hbl.2; simp only at this; omega
      have hlie : w.heap.size + 2 ≤ b ∧ b < w1.heap.size := hbl
      clear hO
      have K0 : Hid (∀ W, Kept g (g + 1) w3 W → W.cell? ⟨w1.heap.size, 0, none⟩ = some (.slice (some ⟨b, off, none⟩) (m + 1) c1)) := fun W e => by
        rw [e.cell (by simp only; omega) (.inr (by simp only; omega))]; exact b0
      have hS0 := K0.out w3.drew (Kept.refl _ _ _).drew
      have im : IntKind.i64.wrap (m : Int) = (m : Int) := IntWalk.i64_in _ (by omega)
      have im0 : (0 : Int) ≤ (m : Int) := Int.natCast_nonneg _
      have im1 : (m : Int) < (m : Int) + 1 := by omega
      go_wp2_with fail
      refine wp_region_Z (fun w' => w'.cell? ⟨w1.heap.size, 0, none⟩ = some (.slice (some ⟨b, off, none⟩) (m + 1) c1)) 9 (by kernel_rfl) ?_
      refine wpAnyZ_take 0 (v := ?_) (by kernel_rfl) rfl rfl (by kernel_rfl) (by kernel_rfl) (by kernel_rfl) (fun _ _ _ h => h) hS0 (Or.inl ⟨by rfl, ?_⟩) ?_
      rotate_left
      · (intro w hSw; (try dsimp only at hSw); go_simp; (try with_reducible rfl))
      try simp only [Act.put, List.setIfInBounds_toArray, List.set_cons_zero, List.set_cons_succ]
      refine wpAnyZ_take 1 (v := ?_) (by kernel_rfl) rfl rfl (by kernel_rfl) (by kernel_rfl) (by kernel_rfl) (fun _ _ _ h => h) hS0 (Or.inl ⟨by rfl, ?_⟩) ?_
      rotate_left
      · (intro w hSw; (try dsimp only at hSw); go_simp; (try with_reducible rfl))
      try simp only [Act.put, List.setIfInBounds_toArray, List.set_cons_zero, List.set_cons_succ]
      refine wpAnyZ_take 2 (v := ?_) (by kernel_rfl) rfl rfl (by kernel_rfl) (by kernel_rfl) (by kernel_rfl) (fun _ _ _ h => h) hS0 (Or.inl ⟨by rfl, ?_⟩) ?_
      rotate_left
      · (intro w hSw; (try dsimp only at hSw); go_simp; (try with_reducible rfl))
      try simp only [Act.put, List.setIfInBounds_toArray, List.set_cons_zero, List.set_cons_succ]
      refine wpAnyZ_take 3 (v := ?_) (by kernel_rfl) rfl rfl (by kernel_rfl) (by kernel_rfl) (by kernel_rfl) (fun _ _ _ h => h) hS0 (Or.inl ⟨by rfl, ?_⟩) ?_
      rotate_left
      · (intro w hSw; (try dsimp only at hSw); go_simp; (try with_reducible rfl))
      try simp only [Act.put, List.setIfInBounds_toArray, List.set_cons_zero, List.set_cons_succ]
      refine wpAnyZ_take 4 (v := ?_) (by kernel_rfl) rfl rfl (by kernel_rfl) (by kernel_rfl) (by kernel_rfl) (fun _ _ _ h => h) hS0 (Or.inl ⟨by rfl, ?_⟩) ?_
      rotate_left
      · (intro w hSw; (try dsimp only at hSw); go_simp; (try with_reducible rfl))
      try simp only [Act.put, List.setIfInBounds_toArray, List.set_cons_zero, List.set_cons_succ]
      refine wpAnyZ_one 5 (by kernel_rfl) rfl rfl (fun K hK => ?_)
      go_simp
      refine hK.out _ _ (K0.out _ (by first | exact ((Kept.refl _ _ _).drew).alloc _ | exact ((Kept.refl _ _ _).alloc _).drew)) ?_
      clear hK K
      try simp only [Act.put, List.setIfInBounds_toArray, List.set_cons_zero, List.set_cons_succ]
      refine wpAnyZ_one 6 (by kernel_rfl) rfl rfl (fun K hK => ?_)
      go_simp
      refine (num_litD [0, 13, -13, 1, -9223372036854775808] g _ 5 _ _ _ w3 rfl rfl rfl (by omega) (by omega) O3.out.rd (by omega)).mono ?_
      rintro e w4 ⟨u, rfl, hu, hK4, hR4⟩
      have hS4 := K0.out w4 hK4
      have O4 := Lib.hid (O3.out.step hK4 hR4)
      obtain ⟨b', off', cc, ll, e', hx, t1, t2⟩ := O4.out.seg.term (k := m) (by omega)
      injection e' with e'; injection e' with e1 e2
      subst e1; subst e2
      have tf := O4.out.free b off rfl (m * 2 + 1) (by omega)
      rw [← Nat.add_assoc] at tf
      obtain ⟨us, hul, hus⟩ := encT_putL ts m cc ll u hx
      have O5 := Lib.hid (O4.out.term (i := m * 2 + 1) (.int .i64 u) (by omega) hus)
      rw [← Nat.add_assoc] at O5
      clear hx hu hK4 hR4 O3 O4 hul hus
      refine hK.out _ _ hS4 ?_
      clear hK K
      try simp only [Act.put, List.setIfInBounds_toArray, List.set_cons_zero, List.set_cons_succ]
      refine wpAnyZ_one 7 (by kernel_rfl) rfl rfl (fun K hK => ?_)
      go_simp
      refine hK.out _ _ hS4 ?_
      clear hK K
      try simp only [Act.put, List.setIfInBounds_toArray, List.set_cons_zero, List.set_cons_succ]
      refine wpAnyZ_one 8 (by kernel_rfl) rfl rfl (fun K hK => ?_)
      go_simp
      refine hK.out _ _ hS4 ?_
      clear hK K
      try simp only [Act.put, List.setIfInBounds_toArray, List.set_cons_zero, List.set_cons_succ]
      refine wpAnyZ_last (by kernel_rfl) (by kernel_rfl) rfl rfl (fun K hK => ?_)
      go_simp
      refine hK.out _ _ ?_
      clear hK K
      clear t1 t2 tf hS4 b0 K0
      have hz5 := O5.out.lt
      rw [World.size_setCell] at hz5
      clear im im0 im1 hn1 hn0 h0 h1
      have d0 := O5.out.box.cell 0
      have d1 := O5.out.box.cell 1
      have r0 := O5.out.res.cell 0
      have r1 := O5.out.res.cell 1
      have q0 := O5.out.res.frozen 0
      have q1 := O5.out.res.frozen 1
      go_wp2
      refine bodyPost_ret (v := .agg #[.slice (some ⟨b, off, none⟩) (m + 1) c1, .int .i64 bd]) (by simp [results, Try.results49, go_sem, r0, r1]) rfl ?_
      exact O5.out.ret (by omega) (by omega)
    · have hn1 : decide ((0 : Int) < (n1 : Int)) = false := decide_eq_false (by omega)
      have d0 := O3.out.box.cell 0
      have d1 := O3.out.box.cell 1
      have r0 := O3.out.res.cell 0
      have r1 := O3.out.res.cell 1
      have q0 := O3.out.res.frozen 0
      have q1 := O3.out.res.frozen 1
      go_wp2
      refine bodyPost_ret (v := .agg #[.slice A1 n1 c1, .int .i64 bd]) (by simp [results, Try.results49, go_sem, r0, r1]) rfl ?_
      exact O3.out.ret (by omega) (by omega)
  have hb0 : (i == 0) = false := by simpa using h0
  have hb1 : (i == 1) = false := by simpa using h1
  have hb2 : (i == 2) = false := by simpa using h2
  by_cases h3 : i = 3
  · subst h3
    clear hb0 hb1 hb2 h0 h1 h2
    have b0 := O3.out.box.cell 0
    have hrow : Hid (∀ k, (Value.slice A1 n1 c1).ownBlock = some k → k < w1.heap.size) := fun k hk => HRow.out k hk
    go_wp2_with (first
      |
        (at_builtin
         refine wpList_append_lies _ rfl (.tmp 47) (.tmp 49) 23 rfl (w.heap.size + 1 + 1 + 2) 38 i0 _ 2 16 Try.underlying23 HI.out HZ0.out HZ1.out HZ2.out rfl (by omega) (.slice A1 n1 c1) n1 _ rfl (HOwn3.out.alloc _) ⟨w3.heap.size, 0, none⟩ 1 1 [.int .i64 1, .int .i64 1] rfl rfl (cell_two_new w3 (.int .i64 1) (.int .i64 1) 38) ?_ (by omega) ?_ ?_ ?_ (w3.heap.size + 1) (by simp) ?_
         (intro u hu; simp at hu; rcases hu with rfl | rfl <;> rfl)
         (unfold maxLen; omega)
         omega
         (simp; omega)
         (intro gg cp w5 hown5 hg5 hat hlt5)
         (have BB : Hid (Blk w5 w1.heap.size 25 #[.slice A1 n1 c1, .int .i64 bd]) := (hg5.block w1.heap.size (by simp; omega) (fun e => by have := hrow.out _ e.symm; omega)).trans (O3.out.box.alloc _))
         (have BR := own_blk (O3.out.res.alloc (.cells #[.int .i64 1, .int .i64 1] 38)) (HOwn3.out.alloc _) (by omega) hg5)
         (have bb := BB.out.cell 0)
         (have bb1 := BB.out.cell 1)
         (have fz := BB.out.frozen 0)
         (have r0 := BR.cell 0)
         (have r1 := BR.cell 1)
         (have q0 := BR.frozen 0)
         (have q1 := BR.frozen 1)))
    have hgg : gg ≠ w1.heap.size := by
      rcases hat with e | e
      · have := hrow.out _ e; omega
      · omega
    have hgb : w.heap.size + 1 + 1 + 2 ≤ gg := (hown5.lt gg rfl).1
    have K5 : Kept g (g + 1) w w5 := by
      have := O3.out.kept
      exact (this.alloc (.cells #[.int .i64 1, .int .i64 1] 38)).fresh (kept_of_grown (lo := w.heap.size + 1 + 1 + 2) hg5 fun k hk => ((HOwn3.out.alloc (.cells #[.int .i64 1, .int .i64 1] 38)).lt k hk).1) (by omega)
    have R5 : Rd w5 g (L + 1) := ((O3.out.rd.alloc (.cells #[.int .i64 1, .int .i64 1] 38)).kept (kept_of_grown (lo := w.heap.size + 1 + 1 + 2) hg5 fun k hk => ((HOwn3.out.alloc (.cells #[.int .i64 1, .int .i64 1] 38)).lt k hk).1) (by omega))
    have P5 := own_parts hown5
    have hz5 : w1.heap.size < w5.heap.size := BB.out.lt
    have KB : Kept w1.heap.size (w1.heap.size + 1) w5 (w5.setCell ⟨w1.heap.size, 0, none⟩ (.slice (some ⟨gg, 0, none⟩) (n1 + 1) cp)) := (Kept.refl _ _ _).setIn (by simp) _
    have LG : Lies gg (gg + 1) (some ⟨gg, 0, none⟩) (n1 + 1) := fun _ ad e => by injection e with e; subst e; simp
    have us : encT ts ++ [.int .i64 1, .int .i64 1] = encT (ts ++ [(1, 1)]) := by rw [encT_append]; rfl
    have P5s := P5.1
    rw [us] at P5s
    have S6 := Lib.hid (P5s.kept LG KB (by omega))
    have F6 := Lib.hid (P5.2.1.kept P5s LG KB (by omega))
    have L6 := Lib.hid (P5.2.2.wide (Nat.le_refl _) KB.size)
    have K6 := Lib.hid (K5.setNew (p := ⟨w1.heap.size, 0, none⟩) (by simp only; omega) (.slice (some ⟨gg, 0, none⟩) (n1 + 1) cp))
    have R6 := Lib.hid (R5.far (p := ⟨w1.heap.size, 0, none⟩) (by simp only; omega) (.slice (some ⟨gg, 0, none⟩) (n1 + 1) cp))
    clear hat hg5 hown5 BR K5 R5 P5 P5s KB LG us BB
    refine bodyPost_ret (v := .agg #[.slice (some ⟨gg, 0, none⟩) (n1 + 1) cp, .int .i64 bd]) (by simp [results, Try.results49, go_sem, r0, r1]) rfl ?_
    exact RdC.of K6.out R6.out S6.out F6.out L6.out (by omega) (by omega) (by omega) (by omega) (by omega)
  · have hb3 : (i == 3) = false := by simpa using h3
    clear h0 h1 h2 h3
    have d0 := O3.out.box.cell 0
    have d1 := O3.out.box.cell 1
    have r0 := O3.out.res.cell 0
    have r1 := O3.out.res.cell 1
    have q0 := O3.out.res.frozen 0
    have q1 := O3.out.res.frozen 1
    go_wp2
    refine bodyPost_ret (v := .agg #[.slice A1 n1 c1, .int .i64 bd]) (by simp [results, Try.results49, go_sem, r0, r1]) rfl ?_
    exact O3.out.ret (by omega) (by omega)
end Go.Proofs.Ytbpkpcfhmglddaa
