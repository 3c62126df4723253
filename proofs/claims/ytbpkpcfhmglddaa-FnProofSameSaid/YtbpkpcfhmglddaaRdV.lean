/- Drawn values; DrawConstraintValid and its fellows, DrawEvalConstraint. -/
import Derived.Test.YtbpkpcfhmglddaaRdM
namespace Go.Proofs.Ytbpkpcfhmglddaa
open Go.RowKit

/-- SOME constraint of at most N terms, in memory of the call's own -/
def RetA (N : Nat) (w : World) (e : Ending) (w' : World) : Prop :=
  ∃ A n c ts bd, e = .returned (.agg #[.slice A n c, .int .i64 bd]) ∧ ts.length = n ∧ n ≤ N ∧ Got w w' 2 A n (encT ts) ∧ Ext w w'

set_option maxRecDepth 100000 in
set_option maxHeartbeats 1000000 in
theorem drawCV_any (A : Option Addr) (n c : Nat) (bs : List Int) (w : World) (hn : n ≤ maxLen) (hc : n ≤ c) (hs : Seg w 1 A n (encY bs)) (hb : bytesB bs) :
    Calls Try.prog 33 #[.slice A n c] w (RetA 13 w) := by
  go_enter Try.func33, Try.ntmps33
  go_wp2_with fail
  refine (open_any A n c bs _ hn hc (hs.alloc _) hb).mono ?_
  rintro e w1 ⟨rfl, hE1, hR1⟩
  have HB1 := Lib.hid (Blk.of1 hE1)
  have HE1 := Lib.hid (((Ext.refl w).alloc _).trans hE1)
  have HR1 := Lib.hid hR1
  simp only [World.size_alloc] at HR1
  clear hs hb hE1 hR1
  have hg := HR1.out.lt
  go_wp2_with fail
  refine (l1Constraint_any _ _ w1 HR1.out (by omega)).mono ?_
  rintro e w2 ⟨A2, n2, c2, ts2, bd2, rfl, hl2, hn2, hG2, hK2, hR2⟩
  go_wp2_with fail
  refine (l1Mutate_any _ _ A2 n2 c2 ts2 bd2 w2 hR2 (by omega) hG2.seg (by omega)).mono ?_
  rintro e w3 ⟨A3, n3, c3, ts3, bd3, rfl, hl3, hn3, hG3, hK3, hR3⟩
  have B := (HB1.out.kept hK2 (.inl (by omega))).kept hK3 (.inl (by omega))
  have r0 := B.cell 0
  have r1 := B.cell 1
  have q0 := B.frozen 0
  have q1 := B.frozen 1
  have hz := B.lt
  have HG3 := Lib.hid hG3
  have hEE := Lib.hid (HE1.out.fresh (hK2.trans hK3) (by omega))
  have hz2 := hK2.size
  have hw2 := HE1.out.size
  clear B hG2 hG3 hK2 hK3 hR2 hR3 HR1 HB1 hl2
  go_wp2
  refine bodyPost_ret (v := .agg #[.slice A3 n3 c3, .int .i64 bd3]) (by simp [results, Try.results33, go_sem, r0, r1]) rfl ?_
  have K : Kept w.heap.size (w.heap.size + 1) w3 _ := ((Kept.refl _ _ w3).setIn (p := ⟨w.heap.size, 0, none⟩) (by simp) (.slice A3 n3 c3)).setIn (p := ⟨w.heap.size, 1, none⟩) (by simp) (.int .i64 bd3)
  exact ⟨A3, n3, c3, ts3, bd3, rfl, hl3, by omega, ⟨(HG3.out.kept K (by omega)).seg, (HG3.out.kept K (by omega)).free, (HG3.out.kept K (by omega)).lies.wide (by omega) (Nat.le_refl _)⟩, (hEE.out.setNew (by simp) _).setNew (by simp) _⟩



set_option maxRecDepth 100000 in
set_option maxHeartbeats 1000000 in
theorem drawSaturateConstraint_any (A : Option Addr) (n c : Nat) (bs : List Int) (w : World) (hn : n ≤ maxLen) (hc : n ≤ c) (hs : Seg w 1 A n (encY bs)) (hb : bytesB bs) :
    Calls Try.prog 14 #[.slice A n c] w (RetA 13 w) := by
  go_enter Try.func14, Try.ntmps14
  go_wp2_with fail
  refine (drawCV_any A n c bs _ hn hc (hs.alloc _) hb).mono ?_
  rintro e w1 ⟨A3, n3, c3, ts3, bd3, rfl, hl3, hn3, hG3, hE1⟩
  have B := Blk.of1 hE1
  have r0 := B.cell 0
  have r1 := B.cell 1
  have q0 := B.frozen 0
  have q1 := B.frozen 1
  have hz := B.lt
  have HG3 := Lib.hid hG3
  have HE := Lib.hid (((Ext.refl w).alloc _).trans hE1)
  clear B hG3 hE1 hs hb
  go_wp2
  refine bodyPost_ret (v := .agg #[.slice A3 n3 c3, .int .i64 bd3]) (by simp [results, Try.results14, go_sem, r0, r1]) rfl ?_
  have K : Kept w.heap.size (w.heap.size + 1) w1 _ := ((Kept.refl _ _ w1).setIn (p := ⟨w.heap.size, 0, none⟩) (by simp) (.slice A3 n3 c3)).setIn (p := ⟨w.heap.size, 1, none⟩) (by simp) (.int .i64 bd3)
  have G := HG3.out.kept K (by simp)
  exact ⟨A3, n3, c3, ts3, bd3, rfl, hl3, hn3, ⟨G.seg, G.free, G.lies.wide (by simp) (Nat.le_refl _)⟩, (HE.out.setNew (by simp) _).setNew (by simp) _⟩



end Go.Proofs.Ytbpkpcfhmglddaa
