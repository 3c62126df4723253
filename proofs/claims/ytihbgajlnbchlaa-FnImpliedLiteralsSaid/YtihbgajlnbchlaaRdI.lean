/- Drawn arguments of SlackOf and ImpliedLiterals. -/
import Derived.Test.YtihbgajlnbchlaaRdP
namespace Go.Proofs.Ytihbgajlnbchlaa
open Go.RowKit

/-- SOME constraint and SOME integers -/
def RetAI (N : Nat) (w : World) (e : Ending) (w' : World) : Prop :=
  ∃ A n c ts bd B m d vs, e = .returned (.tuple #[.agg #[.slice A n c, .int .i64 bd], .slice B m d]) ∧ ts.length = n ∧ n ≤ N ∧ vs.length = m ∧ m ≤ 12 ∧ Got w w' 2 A n (encT ts) ∧ Got w w' 1 B m (encI vs) ∧ Ext w w'
set_option maxRecDepth 100000 in
set_option maxHeartbeats 2000000 in
theorem drawSlack_any (A : Option Addr) (n c : Nat) (bs : List Int) (w : World) (hn : n ≤ maxLen) (hc : n ≤ c) (hs : Seg w 1 A n (encY bs)) (hb : bytesB bs) :
    Calls Try.prog 15 #[.slice A n c] w (RetAI 13 w) := by
  go_enter Try.func15, Try.ntmps15
  go_wp2_with fail
  refine (open_any A n c bs _ hn hc (hs.alloc _) hb).mono ?_
  rintro e w1 ⟨rfl, hE1, hR1⟩
  have HB1 := Lib.hid (Blk.of1 hE1)
  have HE1 := Lib.hid (((Ext.refl w).alloc _).trans hE1)
  have HR1 := Lib.hid hR1
  simp only [World.size_alloc] at HR1
  clear hs hb hE1 hR1
  have hg := HR1.out.lt
  have hw1 := HE1.out.size
  go_wp2_with fail
  refine (l1Constraint_any _ _ w1 HR1.out (by omega)).mono ?_
  rintro e w2 ⟨A2, n2, c2, ts2, bd2, rfl, hl2, hn2, hG2, hK2, hR2⟩
  go_wp2_with fail
  refine (l1Mutate_any _ _ A2 n2 c2 ts2 bd2 w2 hR2 (by omega) hG2.seg (by omega)).mono ?_
  rintro e w3 ⟨A3, n3, c3, ts3, bd3, rfl, hl3, hn3, hG3, hK3, hR3⟩
  have hz2 := hK2.size
  have hz3 := hK3.size
  have HBr := Lib.hid ((HB1.out.kept hK2 (.inl (by omega))).kept hK3 (.inl (by omega)))
  have HBc := Lib.hid (Blk.new w3 25 #[.slice A3 n3 c3, .int .i64 bd3])
  have HG3 := Lib.hid hG3
  have HE3 := Lib.hid (HE1.out.fresh (hK2.trans hK3) (by omega))
  have HR3 := Lib.hid hR3
  have K0 : Hid (∀ W, Kept (w.heap.size + 1) (w.heap.size + 2) (w3.alloc (.cells #[.slice A3 n3 c3, .int .i64 bd3] 25)) W → (W.cell? ⟨w3.heap.size, 0, none⟩ = some (.slice A3 n3 c3) ∧ W.cell? ⟨w3.heap.size, 1, none⟩ = some (.int .i64 bd3))) := fun W e => by
    have B := HBc.out.kept e (.inr (by omega))
    exact ⟨B.cell 0, B.cell 1⟩
  clear hG2 hG3 hK2 hK3 hR2 hR3 HR1 HB1 hl2 HE1
  go_wp2_with fail
  have hS0 := K0.out (w3.alloc (.cells #[.slice A3 n3 c3, .int .i64 bd3] 25)).drew (Kept.refl _ _ _).drew
  refine wp_region_Z (fun W => W.cell? ⟨w3.heap.size, 0, none⟩ = some (.slice A3 n3 c3) ∧ W.cell? ⟨w3.heap.size, 1, none⟩ = some (.int .i64 bd3)) 4 (by kernel_rfl) ?_
  refine wpAnyZ_take 0 (v := ?_) (by kernel_rfl) rfl rfl (by kernel_rfl) (by kernel_rfl) (by kernel_rfl) (fun _ _ _ h => h) hS0 (Or.inl ⟨by rfl, ?_⟩) ?_
  rotate_left
  · (intro w hSw; (try dsimp only at hSw); go_simp; (try with_reducible rfl))
  try simp only [Act.put, List.setIfInBounds_toArray, List.set_cons_zero, List.set_cons_succ]
  refine wpAnyZ_take 1 (v := ?_) (by kernel_rfl) rfl rfl (by kernel_rfl) (by kernel_rfl) (by kernel_rfl) (fun _ _ _ h => h) hS0 (Or.inl ⟨by rfl, ?_⟩) ?_
  rotate_left
  · (intro w hSw; (try dsimp only at hSw); go_simp; (try with_reducible rfl))
  try simp only [Act.put, List.setIfInBounds_toArray, List.set_cons_zero, List.set_cons_succ]
  refine wpAnyZ_one 2 (by kernel_rfl) rfl rfl (fun K hK => ?_)
  go_simp
  refine (l3Partial_any _ _ _ (HR3.out.alloc (.cells #[.slice A3 n3 c3, .int .i64 bd3] 25)).drew (by omega)).mono ?_
  rintro e w4 ⟨B4, m4, d4, vs4, rfl, hl4, hn4, hG4, hK4, hR4⟩
  have hK4' : Kept (w.heap.size + 1) (w.heap.size + 2) (w3.alloc (.cells #[.slice A3 n3 c3, .int .i64 bd3] 25)) w4 := ((Kept.refl _ _ _).drew).trans hK4
  have hS4 := K0.out w4 hK4'
  have BR := (HBr.out.alloc (.cells #[.slice A3 n3 c3, .int .i64 bd3] 25)).kept hK4' (.inl (by omega))
  have r0 := BR.cell 0
  have r1 := BR.cell 1
  have q0 := BR.frozen 0
  have q1 := BR.frozen 1
  have hz := BR.lt
  have hz4 := hK4'.size
  rw [World.size_alloc] at hz4
  have S3 := Lib.hid (HG3.out.seg.kept HG3.out.lies (((Kept.refl _ _ w3).alloc _).trans hK4') (.inr (by omega)))
  have F3 := Lib.hid (HG3.out.free.kept HG3.out.seg HG3.out.lies (((Kept.refl _ _ w3).alloc _).trans hK4') (.inr (by omega)))
  have L3 := Lib.hid (HG3.out.lies.wide (Nat.le_refl _) (Nat.le_of_succ_le hz4))
  have HG4 := Lib.hid hG4
  have HE4 := Lib.hid (HE3.out.fresh (((Kept.refl _ _ w3).alloc _).trans hK4') (by omega))
  clear hG4 hK4 hK4' hR4 BR HR3 HE3 HG3 HBr
  refine hK.out _ _ hS4 ?_
  clear hK K
  try simp only [Act.put, List.setIfInBounds_toArray, List.set_cons_zero, List.set_cons_succ]
  refine wpAnyZ_one 3 (by kernel_rfl) rfl rfl (fun K hK => ?_)
  go_simp
  have KR : Kept w.heap.size (w.heap.size + 1) w4 ((w4.setCell ⟨w.heap.size, 0, none⟩ (.slice A3 n3 c3)).setCell ⟨w.heap.size, 1, none⟩ (.int .i64 bd3)) := ((Kept.refl _ _ w4).setIn (p := ⟨w.heap.size, 0, none⟩) (by simp) (.slice A3 n3 c3)).setIn (p := ⟨w.heap.size, 1, none⟩) (by simp) (.int .i64 bd3)
  refine hK.out _ _ ⟨(KR.cell (by simp only; omega) (.inr (by simp only; omega))).trans hS4.1, (KR.cell (by simp only; omega) (.inr (by simp only; omega))).trans hS4.2⟩ ?_
  clear hK K
  try simp only [Act.put, List.setIfInBounds_toArray, List.set_cons_zero, List.set_cons_succ]
  refine wpAnyZ_last (by kernel_rfl) (by kernel_rfl) rfl rfl (fun K hK => ?_)
  go_simp
  refine hK.out _ _ ?_
  clear hK K
  have HKR := Lib.hid KR
  clear KR hS4 hS0
  go_wp2
  refine bodyPost_ret (v := .tuple #[.agg #[.slice A3 n3 c3, .int .i64 bd3], .slice B4 m4 d4]) (by simp [results, Try.results15, go_sem, r0, r1]) rfl ?_
  exact ⟨A3, n3, c3, ts3, bd3, B4, m4, d4, vs4, rfl, hl3, by omega, hl4, hn4, ⟨S3.out.kept L3.out HKR.out (.inr (by omega)), F3.out.kept S3.out L3.out HKR.out (.inr (by omega)), L3.out.wide (by omega) HKR.out.size⟩,
    ⟨HG4.out.seg.kept HG4.out.lies HKR.out (.inr (by simp; omega)), HG4.out.free.kept HG4.out.seg HG4.out.lies HKR.out (.inr (by simp; omega)), HG4.out.lies.wide (by simp; omega) HKR.out.size⟩, (HE4.out.setNew (p := ⟨w.heap.size, 0, none⟩) (by simp) _).setNew (p := ⟨w.heap.size, 1, none⟩) (by simp) _⟩

set_option maxRecDepth 100000 in
set_option maxHeartbeats 1000000 in
theorem drawImpl_any (A : Option Addr) (n c : Nat) (bs : List Int) (w : World) (hn : n ≤ maxLen) (hc : n ≤ c) (hs : Seg w 1 A n (encY bs)) (hb : bytesB bs) :
    Calls Try.prog 21 #[.slice A n c] w (RetAI 13 w) := by
  go_enter Try.func21, Try.ntmps21
  go_wp2_with fail
  refine (drawSlack_any A n c bs _ hn hc (hs.alloc _) hb).mono ?_
  rintro e w1 ⟨A3, n3, c3, ts3, bd3, B4, m4, d4, vs4, rfl, hl3, hn3, hl4, hn4, hG3, hG4, hE1⟩
  have B1 := Blk.of1 hE1
  have r0 := B1.cell 0
  have r1 := B1.cell 1
  have q0 := B1.frozen 0
  have q1 := B1.frozen 1
  have hz := B1.lt
  have hz1 := hE1.size
  rw [World.size_alloc] at hz1
  have HG3 := Lib.hid hG3
  have HG4 := Lib.hid hG4
  have HE1 := Lib.hid (((Ext.refl w).alloc _).trans hE1)
  clear hs hb hG3 hG4 B1 hE1
  go_wp2
  refine bodyPost_ret (v := .tuple #[.agg #[.slice A3 n3 c3, .int .i64 bd3], .slice B4 m4 d4]) (by simp [results, Try.results21, go_sem, r0, r1]) rfl ?_
  have KR : Kept w.heap.size (w.heap.size + 1) w1 ((w1.setCell ⟨w.heap.size, 0, none⟩ (.slice A3 n3 c3)).setCell ⟨w.heap.size, 1, none⟩ (.int .i64 bd3)) := ((Kept.refl _ _ w1).setIn (p := ⟨w.heap.size, 0, none⟩) (by simp) (.slice A3 n3 c3)).setIn (p := ⟨w.heap.size, 1, none⟩) (by simp) (.int .i64 bd3)
  have G3 := HG3.out.kept KR (by simp)
  have G4 := HG4.out.kept KR (by simp)
  have E0 : Ext w (w.alloc (.cells #[.slice none 0 0, .int .i64 0] 25)) := (Ext.refl w).alloc _
  have hz0 := E0.size
  exact ⟨A3, n3, c3, ts3, bd3, B4, m4, d4, vs4, rfl, hl3, hn3, hl4, hn4, ⟨G3.seg, G3.free, G3.lies.wide (by simp) (Nat.le_refl _)⟩, ⟨G4.seg, G4.free, G4.lies.wide (by simp) (Nat.le_refl _)⟩, (HE1.out.setNew (p := ⟨w.heap.size, 0, none⟩) (by simp) _).setNew (p := ⟨w.heap.size, 1, none⟩) (by simp) _⟩
end Go.Proofs.Ytihbgajlnbchlaa
