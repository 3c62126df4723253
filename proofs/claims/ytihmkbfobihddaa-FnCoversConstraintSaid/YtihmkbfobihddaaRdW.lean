/- Drawn constraints with a number; drawn pairs of constraints. -/
import Derived.Test.YtihmkbfobihddaaRdV
namespace Go.Proofs.Ytihmkbfobihddaa
open Go.RowKit

/-- SOME constraint and SOME number -/
def RetAZ (N : Nat) (w : World) (e : Ending) (w' : World) : Prop :=
  ∃ A n c ts bd z, e = .returned (.tuple #[.agg #[.slice A n c, .int .i64 bd], .int .i64 z]) ∧ ts.length = n ∧ n ≤ N ∧ Got w w' 2 A n (encT ts) ∧ Ext w w'

set_option maxRecDepth 100000 in
set_option maxHeartbeats 2000000 in
theorem drawMul_any (A : Option Addr) (n c : Nat) (bs : List Int) (w : World) (hn : n ≤ maxLen) (hc : n ≤ c) (hs : Seg w 1 A n (encY bs)) (hb : bytesB bs) :
    Calls Try.prog 51 #[.slice A n c] w (RetAZ 13 w) := by
  go_enter Try.func51, Try.ntmps51
  go_wp2_with fail
  refine (open_any A n c bs _ hn hc (hs.alloc _) hb).mono ?_
  rintro e w1 ⟨rfl, hE1, hR1⟩
  have HB1 := Lib.hid (Blk.of1 hE1)
  have HE1 := Lib.hid (((Ext.refl w).alloc _).trans hE1)
  have HR1 := Lib.hid hR1
  simp only [World.size_alloc] at HR1
  clear hs hb hE1 hR1
  have hg := HR1.out.lt
  have hw1 := HE1.out.size
  go_wp2_with fail
  refine (l1Constraint_any _ _ w1 HR1.out (by omega)).mono ?_
  rintro e w2 ⟨A2, n2, c2, ts2, bd2, rfl, hl2, hn2, hG2, hK2, hR2⟩
  go_wp2_with fail
  refine (l1Mutate_any _ _ A2 n2 c2 ts2 bd2 w2 hR2 (by omega) hG2.seg (by omega)).mono ?_
  rintro e w3 ⟨A3, n3, c3, ts3, bd3, rfl, hl3, hn3, hG3, hK3, hR3⟩
  have hz2 := hK2.size
  have hz3 := hK3.size
  have HBr := Lib.hid ((HB1.out.kept hK2 (.inl (by omega))).kept hK3 (.inl (by omega)))
  have HBc := Lib.hid (Blk.new w3 33 #[.slice A3 n3 c3, .int .i64 bd3])
  have HG3 := Lib.hid hG3
  have HE3 := Lib.hid (HE1.out.fresh (hK2.trans hK3) (by omega))
  have HR3 := Lib.hid hR3
  have K0 : Hid (∀ W, Kept (w.heap.size + 1) (w.heap.size + 2) (w3.alloc (.cells #[.slice A3 n3 c3, .int .i64 bd3] 33)) W → (W.cell? ⟨w3.heap.size, 0, none⟩ = some (.slice A3 n3 c3) ∧ W.cell? ⟨w3.heap.size, 1, none⟩ = some (.int .i64 bd3))) := fun W e => by
    have B := HBc.out.kept e (.inr (by omega))
    exact ⟨B.cell 0, B.cell 1⟩
  clear hG2 hG3 hK2 hK3 hR2 hR3 HR1 HB1 hl2 HE1
  go_wp2_with fail
  have hS0 := K0.out (w3.alloc (.cells #[.slice A3 n3 c3, .int .i64 bd3] 33)).drew (Kept.refl _ _ _).drew
  refine wp_region_Z (fun W => W.cell? ⟨w3.heap.size, 0, none⟩ = some (.slice A3 n3 c3) ∧ W.cell? ⟨w3.heap.size, 1, none⟩ = some (.int .i64 bd3)) 5 (by kernel_rfl) ?_
  refine wpAnyZ_take 0 (v := ?_) (by kernel_rfl) rfl rfl (by kernel_rfl) (by kernel_rfl) (by kernel_rfl) (fun _ _ _ h => h) hS0 (Or.inl ⟨by rfl, ?_⟩) ?_
  rotate_left
  · (intro w hSw; (try dsimp only at hSw); go_simp; (try with_reducible rfl))
  try simp only [Act.put, List.setIfInBounds_toArray, List.set_cons_zero, List.set_cons_succ]
  refine wpAnyZ_take 1 (v := ?_) (by kernel_rfl) rfl rfl (by kernel_rfl) (by kernel_rfl) (by kernel_rfl) (fun _ _ _ h => h) hS0 (Or.inl ⟨by rfl, ?_⟩) ?_
  rotate_left
  · (intro w hSw; (try dsimp only at hSw); go_simp; (try with_reducible rfl))
  try simp only [Act.put, List.setIfInBounds_toArray, List.set_cons_zero, List.set_cons_succ]
  refine wpAnyZ_one 2 (by kernel_rfl) rfl rfl (fun K hK => ?_)
  go_simp
  refine hK.out _ _ (K0.out _ (by first | exact ((Kept.refl _ _ _).drew).alloc _ | exact ((Kept.refl _ _ _).alloc _).drew)) ?_
  clear hK K
  try simp only [Act.put, List.setIfInBounds_toArray, List.set_cons_zero, List.set_cons_succ]
  refine wpAnyZ_one 3 (by kernel_rfl) rfl rfl (fun K hK => ?_)
  go_simp
  refine (num_litD [2, 3, 1, 5, 200, 1000, 0, -1, 1001] _ _ 9 _ _ _ (w3.alloc (.cells #[.slice A3 n3 c3, .int .i64 bd3] 33)) (by simp) rfl rfl (by omega) (by omega) (HR3.out.alloc _) (by omega)).mono ?_
  rintro e w4 ⟨z, rfl, _, hK4, hR4⟩
  have hS4 := K0.out w4 hK4
  have BR := (HBr.out.alloc (.cells #[.slice A3 n3 c3, .int .i64 bd3] 33)).kept hK4 (.inl (by omega))
  have r0 := BR.cell 0
  have r1 := BR.cell 1
  have q0 := BR.frozen 0
  have q1 := BR.frozen 1
  have hz := BR.lt
  have hz4 := hK4.size
  rw [World.size_alloc] at hz4
  have S3 := Lib.hid (HG3.out.seg.kept HG3.out.lies (((Kept.refl _ _ w3).alloc _).trans hK4) (.inr (by omega)))
  have F3 := Lib.hid (HG3.out.free.kept HG3.out.seg HG3.out.lies (((Kept.refl _ _ w3).alloc _).trans hK4) (.inr (by omega)))
  have L3 := Lib.hid (HG3.out.lies.wide (Nat.le_refl _) (Nat.le_of_succ_le hz4))
  have HE4 := Lib.hid (HE3.out.fresh (((Kept.refl _ _ w3).alloc _).trans hK4) (by omega))
  clear hK4 hR4 BR HR3 HE3 HG3 HBr
  refine hK.out _ _ hS4 ?_
  clear hK K
  try simp only [Act.put, List.setIfInBounds_toArray, List.set_cons_zero, List.set_cons_succ]
  refine wpAnyZ_one 4 (by kernel_rfl) rfl rfl (fun K hK => ?_)
  go_simp
  have KR : Kept w.heap.size (w.heap.size + 1) w4 ((w4.setCell ⟨w.heap.size, 0, none⟩ (.slice A3 n3 c3)).setCell ⟨w.heap.size, 1, none⟩ (.int .i64 bd3)) := ((Kept.refl _ _ w4).setIn (p := ⟨w.heap.size, 0, none⟩) (by simp) (.slice A3 n3 c3)).setIn (p := ⟨w.heap.size, 1, none⟩) (by simp) (.int .i64 bd3)
  refine hK.out _ _ ⟨(KR.cell (by simp only; omega) (.inr (by simp only; omega))).trans hS4.1, (KR.cell (by simp only; omega) (.inr (by simp only; omega))).trans hS4.2⟩ ?_
  clear hK K
  try simp only [Act.put, List.setIfInBounds_toArray, List.set_cons_zero, List.set_cons_succ]
  refine wpAnyZ_last (by kernel_rfl) (by kernel_rfl) rfl rfl (fun K hK => ?_)
  go_simp
  refine hK.out _ _ ?_
  clear hK K
  have HKR := Lib.hid KR
  clear KR hS4 hS0
  go_wp2
  refine bodyPost_ret (v := .tuple #[.agg #[.slice A3 n3 c3, .int .i64 bd3], .int .i64 z]) (by simp [results, Try.results51, go_sem, r0, r1]) rfl ?_
  exact ⟨A3, n3, c3, ts3, bd3, z, rfl, hl3, by omega, ⟨S3.out.kept L3.out HKR.out (.inr (by omega)), F3.out.kept S3.out L3.out HKR.out (.inr (by omega)), L3.out.wide (by omega) HKR.out.size⟩, (HE4.out.setNew (p := ⟨w.heap.size, 0, none⟩) (by simp) _).setNew (p := ⟨w.heap.size, 1, none⟩) (by simp) _⟩

set_option maxRecDepth 100000 in
set_option maxHeartbeats 2000000 in
theorem drawWk_any (A : Option Addr) (n c : Nat) (bs : List Int) (w : World) (hn : n ≤ maxLen) (hc : n ≤ c) (hs : Seg w 1 A n (encY bs)) (hb : bytesB bs) :
    Calls Try.prog 41 #[.slice A n c] w (RetAZ 13 w) := by
  go_enter Try.func41, Try.ntmps41
  go_wp2_with fail
  refine (open_any A n c bs _ hn hc (hs.alloc _) hb).mono ?_
  rintro e w1 ⟨rfl, hE1, hR1⟩
  have HB1 := Lib.hid (Blk.of1 hE1)
  have HE1 := Lib.hid (((Ext.refl w).alloc _).trans hE1)
  have HR1 := Lib.hid hR1
  simp only [World.size_alloc] at HR1
  clear hs hb hE1 hR1
  have hg := HR1.out.lt
  have hw1 := HE1.out.size
  go_wp2_with fail
  refine (l1Constraint_any _ _ w1 HR1.out (by omega)).mono ?_
  rintro e w2 ⟨A2, n2, c2, ts2, bd2, rfl, hl2, hn2, hG2, hK2, hR2⟩
  go_wp2_with fail
  refine (l1Mutate_any _ _ A2 n2 c2 ts2 bd2 w2 hR2 (by omega) hG2.seg (by omega)).mono ?_
  rintro e w3 ⟨A3, n3, c3, ts3, bd3, rfl, hl3, hn3, hG3, hK3, hR3⟩
  have hz2 := hK2.size
  have hz3 := hK3.size
  have HBr := Lib.hid ((HB1.out.kept hK2 (.inl (by omega))).kept hK3 (.inl (by omega)))
  have HBc := Lib.hid (Blk.new w3 33 #[.slice A3 n3 c3, .int .i64 bd3])
  have HG3 := Lib.hid hG3
  have HE3 := Lib.hid (HE1.out.fresh (hK2.trans hK3) (by omega))
  have HR3 := Lib.hid hR3
  have K0 : Hid (∀ W, Kept (w.heap.size + 1) (w.heap.size + 2) (w3.alloc (.cells #[.slice A3 n3 c3, .int .i64 bd3] 33)) W → (W.cell? ⟨w3.heap.size, 0, none⟩ = some (.slice A3 n3 c3) ∧ W.cell? ⟨w3.heap.size, 1, none⟩ = some (.int .i64 bd3))) := fun W e => by
    have B := HBc.out.kept e (.inr (by omega))
    exact ⟨B.cell 0, B.cell 1⟩
  clear hG2 hG3 hK2 hK3 hR2 hR3 HR1 HB1 hl2 HE1
  go_wp2_with fail
  have hS0 := K0.out (w3.alloc (.cells #[.slice A3 n3 c3, .int .i64 bd3] 33)).drew (Kept.refl _ _ _).drew
  refine wp_region_Z (fun W => W.cell? ⟨w3.heap.size, 0, none⟩ = some (.slice A3 n3 c3) ∧ W.cell? ⟨w3.heap.size, 1, none⟩ = some (.int .i64 bd3)) 5 (by kernel_rfl) ?_
  refine wpAnyZ_take 0 (v := ?_) (by kernel_rfl) rfl rfl (by kernel_rfl) (by kernel_rfl) (by kernel_rfl) (fun _ _ _ h => h) hS0 (Or.inl ⟨by rfl, ?_⟩) ?_
  rotate_left
  · (intro w hSw; (try dsimp only at hSw); go_simp; (try with_reducible rfl))
  try simp only [Act.put, List.setIfInBounds_toArray, List.set_cons_zero, List.set_cons_succ]
  refine wpAnyZ_take 1 (v := ?_) (by kernel_rfl) rfl rfl (by kernel_rfl) (by kernel_rfl) (by kernel_rfl) (fun _ _ _ h => h) hS0 (Or.inl ⟨by rfl, ?_⟩) ?_
  rotate_left
  · (intro w hSw; (try dsimp only at hSw); go_simp; (try with_reducible rfl))
  try simp only [Act.put, List.setIfInBounds_toArray, List.set_cons_zero, List.set_cons_succ]
  refine wpAnyZ_one 2 (by kernel_rfl) rfl rfl (fun K hK => ?_)
  go_simp
  refine hK.out _ _ (K0.out _ (by first | exact ((Kept.refl _ _ _).drew).alloc _ | exact ((Kept.refl _ _ _).alloc _).drew)) ?_
  clear hK K
  try simp only [Act.put, List.setIfInBounds_toArray, List.set_cons_zero, List.set_cons_succ]
  refine wpAnyZ_one 3 (by kernel_rfl) rfl rfl (fun K hK => ?_)
  go_simp
  refine (num_litD [1, 2, 3, 4, 12, 0, 13, -1] _ _ 8 _ _ _ (w3.alloc (.cells #[.slice A3 n3 c3, .int .i64 bd3] 33)) (by simp) rfl rfl (by omega) (by omega) (HR3.out.alloc _) (by omega)).mono ?_
  rintro e w4 ⟨z, rfl, _, hK4, hR4⟩
  have hS4 := K0.out w4 hK4
  have BR := (HBr.out.alloc (.cells #[.slice A3 n3 c3, .int .i64 bd3] 33)).kept hK4 (.inl (by omega))
  have r0 := BR.cell 0
  have r1 := BR.cell 1
  have q0 := BR.frozen 0
  have q1 := BR.frozen 1
  have hz := BR.lt
  have hz4 := hK4.size
  rw [World.size_alloc] at hz4
  have S3 := Lib.hid (HG3.out.seg.kept HG3.out.lies (((Kept.refl _ _ w3).alloc _).trans hK4) (.inr (by omega)))
  have F3 := Lib.hid (HG3.out.free.kept HG3.out.seg HG3.out.lies (((Kept.refl _ _ w3).alloc _).trans hK4) (.inr (by omega)))
  have L3 := Lib.hid (HG3.out.lies.wide (Nat.le_refl _) (Nat.le_of_succ_le hz4))
  have HE4 := Lib.hid (HE3.out.fresh (((Kept.refl _ _ w3).alloc _).trans hK4) (by omega))
  clear hK4 hR4 BR HR3 HE3 HG3 HBr
  refine hK.out _ _ hS4 ?_
  clear hK K
  try simp only [Act.put, List.setIfInBounds_toArray, List.set_cons_zero, List.set_cons_succ]
  refine wpAnyZ_one 4 (by kernel_rfl) rfl rfl (fun K hK => ?_)
  go_simp
  have KR : Kept w.heap.size (w.heap.size + 1) w4 ((w4.setCell ⟨w.heap.size, 0, none⟩ (.slice A3 n3 c3)).setCell ⟨w.heap.size, 1, none⟩ (.int .i64 bd3)) := ((Kept.refl _ _ w4).setIn (p := ⟨w.heap.size, 0, none⟩) (by simp) (.slice A3 n3 c3)).setIn (p := ⟨w.heap.size, 1, none⟩) (by simp) (.int .i64 bd3)
  refine hK.out _ _ ⟨(KR.cell (by simp only; omega) (.inr (by simp only; omega))).trans hS4.1, (KR.cell (by simp only; omega) (.inr (by simp only; omega))).trans hS4.2⟩ ?_
  clear hK K
  try simp only [Act.put, List.setIfInBounds_toArray, List.set_cons_zero, List.set_cons_succ]
  refine wpAnyZ_last (by kernel_rfl) (by kernel_rfl) rfl rfl (fun K hK => ?_)
  go_simp
  refine hK.out _ _ ?_
  clear hK K
  have HKR := Lib.hid KR
  clear KR hS4 hS0
  go_wp2
  refine bodyPost_ret (v := .tuple #[.agg #[.slice A3 n3 c3, .int .i64 bd3], .int .i64 z]) (by simp [results, Try.results41, go_sem, r0, r1]) rfl ?_
  exact ⟨A3, n3, c3, ts3, bd3, z, rfl, hl3, by omega, ⟨S3.out.kept L3.out HKR.out (.inr (by omega)), F3.out.kept S3.out L3.out HKR.out (.inr (by omega)), L3.out.wide (by omega) HKR.out.size⟩, (HE4.out.setNew (p := ⟨w.heap.size, 0, none⟩) (by simp) _).setNew (p := ⟨w.heap.size, 1, none⟩) (by simp) _⟩

set_option maxRecDepth 100000 in
set_option maxHeartbeats 1000000 in
theorem drawDiv_any (A : Option Addr) (n c : Nat) (bs : List Int) (w : World) (hn : n ≤ maxLen) (hc : n ≤ c) (hs : Seg w 1 A n (encY bs)) (hb : bytesB bs) :
    Calls Try.prog 34 #[.slice A n c] w (RetAZ 13 w) := by
  go_enter Try.func34, Try.ntmps34
  go_wp2_with fail
  refine (drawMul_any A n c bs _ hn hc (hs.alloc _) hb).mono ?_
  rintro e w1 ⟨A3, n3, c3, ts3, bd3, z, rfl, hl3, hn3, hG3, hE1⟩
  have B := Blk.of1 hE1
  have r0 := B.cell 0
  have r1 := B.cell 1
  have q0 := B.frozen 0
  have q1 := B.frozen 1
  have hz := B.lt
  have HG3 := Lib.hid hG3
  have HE := Lib.hid (((Ext.refl w).alloc _).trans hE1)
  clear B hG3 hE1 hs hb
  go_wp2
  refine bodyPost_ret (v := .tuple #[.agg #[.slice A3 n3 c3, .int .i64 bd3], .int .i64 z]) (by simp [results, Try.results34, go_sem, r0, r1]) rfl ?_
  have K : Kept w.heap.size (w.heap.size + 1) w1 _ := ((Kept.refl _ _ w1).setIn (p := ⟨w.heap.size, 0, none⟩) (by simp) (.slice A3 n3 c3)).setIn (p := ⟨w.heap.size, 1, none⟩) (by simp) (.int .i64 bd3)
  have G := HG3.out.kept K (by simp)
  exact ⟨A3, n3, c3, ts3, bd3, z, rfl, hl3, hn3, ⟨G.seg, G.free, G.lies.wide (by simp) (Nat.le_refl _)⟩, (HE.out.setNew (by simp) _).setNew (by simp) _⟩

/-- SOME values -/
def RetBs (w : World) (e : Ending) (w' : World) : Prop :=
  ∃ A n c vs, e = .returned (.slice A n c) ∧ vs.length = n ∧ n ≤ 12 ∧ Got w w' 1 A n (encB vs) ∧ Ext w w'
set_option maxHeartbeats 1000000 in
theorem drawBC_any (A : Option Addr) (n c : Nat) (bs : List Int) (w : World) (hn : n ≤ maxLen) (hc : n ≤ c) (hs : Seg w 1 A n (encY bs)) (hb : bytesB bs) :
    Calls Try.prog 20 #[.slice A n c] w (RetBs w) := by
  go_enter Try.func20, Try.ntmps20
  go_wp2_with fail
  refine (open_any A n c bs _ hn hc hs hb).mono ?_
  rintro e w1 ⟨rfl, hE1, hR1⟩
  have hg := hR1.lt
  go_wp2_with fail
  refine (l1Values_any _ _ w1 hR1 (by omega)).mono ?_
  rintro e w2 ⟨A2, n2, c2, vs, rfl, hl2, hn2, hG2, hK2, hR2⟩
  have HG := Lib.hid hG2
  have HE := Lib.hid (hE1.fresh hK2 (Nat.le_refl _))
  have HE1 := Lib.hid hE1
  clear hG2 hE1 hK2 hR1 hR2 hs hb
  go_wp2
  go_ret
  exact ⟨A2, n2, c2, vs, rfl, hl2, hn2, HG.out.from_ HE1.out, HE.out⟩
end Go.Proofs.Ytihmkbfobihddaa
