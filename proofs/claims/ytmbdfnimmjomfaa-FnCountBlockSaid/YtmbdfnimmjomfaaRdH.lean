/- Hard problems: l5Hard; DrawCountSolutions, DrawNextSolution. -/
import Derived.Test.YtmbdfnimmjomfaaRdL
import Derived.Test.YtmbdfnimmjomfaaSetAt
namespace Go.Proofs.Ytmbdfnimmjomfaa
open Go.RowKit

/-- SOME constraints, in a row of the call's own -/
def RdLO (N m g L : Nat) (w : World) (e : Ending) (w' : World) : Prop :=
  ∃ A n c hs cs, e = .returned (.slice A n c) ∧ n ≤ N ∧ hs.length = cs.length ∧ w'.ownsRow w.heap.size 26 2 (.slice A n c) n (encH hs cs) ∧ InL w' w.heap.size m (Value.slice A n c).ownBlock hs cs ∧ Kept g (g + 1) w w' ∧ Rd w' g L

set_option maxRecDepth 100000 in
set_option maxHeartbeats 2000000 in
theorem l3ProblemO_any (g L : Nat) (w : World) (h : Rd w g L) (hL : L ≤ 800000000) :
    Calls Try.prog 63 #[.pointer (some ⟨g, 0, none⟩)] w (RdLO 8 12 g (L + 500) w) := by
  obtain ⟨i0, hi, hz0, hz1, hz2⟩ := info_parts Try.infoCnL
  have HI := Lib.hid hi
  have HZ0 := Lib.hid hz0
  have HZ1 := Lib.hid hz1
  have HZ2 := Lib.hid hz2
  have hgw := h.lt
  have HR := Lib.hid h
  clear hi hz0 hz1 hz2 h
  go_enter Try.func63, Try.ntmps63
  go_wp2_with fail
  refine (num_lit [4, 5, 3, 6] g _ 4 _ _ _ _ (by simp) rfl rfl (by omega) (by omega) (HR.out.alloc _) (by omega)).mono ?_
  rintro e w1 ⟨m, rfl, hm, hK1, hR1⟩
  have hmb : 0 ≤ m ∧ m ≤ 6 := by simp at hm; omega
  obtain ⟨m, rfl⟩ := Int.eq_ofNat_of_zero_le hmb.1
  have HK1 := Lib.hid (((Kept.refl g (g + 1) w).alloc (.cells #[] 26)).trans hK1)
  have HR1 := Lib.hid hR1
  have hown1 := Lib.hid (own_kept (own_empty w w.heap.size 26 2 (Nat.le_refl _)) hK1 (by omega))
  have hz1 := hK1.size
  clear hm hK1 hR1 HR
  go_wp2_with fail
  refine (num_lit [4, 6, 3, 8, 2, 1, 0] g _ 7 _ _ _ _ (by simp) rfl rfl (by omega) (by omega) HR1.out (by omega)).mono ?_
  rintro e w2 ⟨q, rfl, hq, hK2, hR2⟩
  have hqb : 0 ≤ q ∧ q ≤ 8 := by simp at hq; omega
  obtain ⟨q, rfl⟩ := Int.eq_ofNat_of_zero_le hqb.1
  have HK2 := Lib.hid (HK1.out.trans hK2)
  have HR2 := Lib.hid hR2
  have hown2 := Lib.hid (own_kept hown1.out hK2 (by omega))
  have hz2 := hK2.size
  clear hq hK2 hR2 HR1 HK1 hown1
  go_wp2_with fail
  go_loopw [3, 5] (fun s0 i wr => ∃ (s : Value) (j k : Nat) (hs : List Hd) (cs : List Cn), s = s0 ∧ k + j ≤ 8 ∧ i = .int .i64 j ∧ hs.length = cs.length ∧ Kept g (g + 1) w wr ∧ Hid (Rd wr g (L + 2 + 60 * k)) ∧ Hid (wr.ownsRow w.heap.size 26 2 s k (encH hs cs)) ∧ Hid (InL wr w.heap.size 12 s.ownBlock hs cs)) (fun _ i _ => (intOf i).toNat)
  case atStart => exact ⟨_, q, 0, [], [], rfl, by omega, rfl, rfl, HK2.out, HR2.out.mono (by omega), hown2.out, InL.nil _ _ _ _⟩
  case round =>
    clear HK2 HR2 hown2
    obtain ⟨s, j, k, hs, cs, hs0, hk, rfl, hl, hE, hR, hown, hin⟩ := hrel
    subst hs0
    have HL := Lib.hid hl
    have hzw := hE.size
    clear hl
    by_cases hlt : 0 < j
    · go_wp2_with fail
      refine (l1Draw_any g _ m _ hR.out (by omega) (by omega)).mono ?_
      rintro e w3 ⟨A, n, c, ts, bd, rfl, hlt3, hn, hG, hK3, hR3⟩
      have hz3 := hK3.size
      have HK3 := Lib.hid (hE.trans hK3)
      have HR3 := Lib.hid hR3
      have hown3 := Lib.hid (own_kept hown.out hK3 (by omega))
      have hin3 := Lib.hid (hin.out.kept hK3 (by omega))
      have HG := Lib.hid hG
      have hob : Hid (∀ b, s.ownBlock = some b → b < wr.heap.size) := fun b hb => (hown.out.lt b hb).2
      clear hE hR hown hin hK3 hR3 hG
      go_wp2_with (first
        | (at_builtin
           refine wpList_append_lies _ rfl _ _ 42 rfl w.heap.size 26 i0 _ 2 32 Try.underlying42 HI.out HZ0.out HZ1.out HZ2.out rfl (by omega) s k _ rfl (hown3.out.alloc _) ⟨w3.heap.size, 0, none⟩ 1 1 [.slice A n c, .int .i64 bd] rfl rfl (cell_two_new w3 (.slice A n c) (.int .i64 bd) 26) ?_ (by omega) ?_ ?_ ?_ (w3.heap.size + 1) (by simp) ?_
           (intro u hu; simp at hu; rcases hu with rfl | rfl <;> rfl)
           (unfold maxLen; omega)
           omega
           (simp; omega)
           (intro gg cp w5 hown5 hg5 hat5 hlt5)))
      go_roundw
      case rel =>
        have KG : Kept w.heap.size (w3.alloc (.cells #[.slice A n c, .int .i64 bd] 26)).heap.size (w3.alloc (.cells #[.slice A n c, .int .i64 bd] 26)) w5 := kept_of_grown hg5 fun k hk => ((hown3.out.alloc (.cells #[.slice A n c, .int .i64 bd] 26)).lt k hk).1
        have I2 : InL w5 w.heap.size 12 (Value.slice (some ⟨gg, 0, none⟩) (k + 1) cp).ownBlock (hs ++ [(A, n, c)]) (cs ++ [(ts, bd)]) := ((hin3.out.ext ((Ext.refl _).alloc (.cells #[.slice A n c, .int .i64 bd] 26))).snoc (cap := c) HL.out (bd := bd) hn (HG.out.seg.alloc _) ((HG.out.lies.wide (lo' := w.heap.size) (by omega) (by simp))) (fun h0 ad e e2 => by
          have := HG.out.lies h0 ad e
          have := hob.out _ e2
          omega)).grownTo hg5 hat5 (by simp)
        refine ⟨_, j - 1, k + 1, hs ++ [(A, n, c)], cs ++ [(ts, bd)], rfl, by omega, by go_num, by simp [HL.out], (HK3.out.alloc _).fresh KG (Nat.le_refl _), ((HR3.out.alloc (.cells #[.slice A n c, .int .i64 bd] 26)).kept KG hgw).mono (by omega), ?_, I2⟩
        rw [encH_append hs cs _ _ HL.out]
        simpa [encH, Hid] using hown5
      case measure => simp [intOf]; omega
    · obtain rfl : j = 0 := by omega
      obtain ⟨A1, c1, rfl⟩ := own_slice hown.out
      go_wp2
      go_ret
      exact ⟨A1, k, c1, hs, cs, rfl, by omega, HL.out, hown.out, hin.out, hE, hR.out.mono (by omega)⟩

set_option maxHeartbeats 1000000 in
/-- SOME total -/
theorem l1TotalW_any (A : Option Addr) (n cap : Nat) (ts : List Tm) (bd : Int) (w : World) (h : Seg w 2 A n (encT ts)) (hn : n ≤ 1000) :
    Calls Try.prog 66 #[.agg #[.slice A n cap, .int .i64 bd]] w fun e w' => (∃ z : Int, e = .returned (.int .i64 z) ∧ -9223372036854775808 ≤ z ∧ z ≤ 9223372036854775807) ∧ Ext w w' := by
  go_enter Try.func66, Try.ntmps66
  go_wp2_with fail
  go_loopw [3, 4] (fun s i wr => ∃ (k : Nat) (z : Int), k ≤ n ∧ i = .int .i64 k ∧ s = .int .i64 z ∧ -9223372036854775808 ≤ z ∧ z ≤ 9223372036854775807 ∧ Ext (w.alloc (.cells #[.slice A n cap, .int .i64 bd] 26)) wr) (fun _ i _ => n - (intOf i).toNat)
  case atStart => exact ⟨0, 0, Nat.zero_le _, rfl, rfl, by omega, by omega, Ext.refl _⟩
  case round =>
    obtain ⟨k, z, hk, rfl, rfl, hz0, hz1, hE⟩ := hrel
    have B0 := Blk.of1 hE
    have b0 := B0.cell 0
    have b1 := B0.cell 1
    clear B0
    by_cases hlt : k < n
    · obtain ⟨b, off, c, l, rfl, hx, c1, c2⟩ := ((h.alloc _).ext hE).term hlt
      obtain ⟨y, hy, hy0, hy1⟩ : ∃ y, IntKind.i64.wrap (z + c) = y ∧ -9223372036854775808 ≤ y ∧ y ≤ 9223372036854775807 := ⟨_, rfl, by rw [IntKind.wrap_i64]; omega, by rw [IntKind.wrap_i64]; omega⟩
      clear hx h
      go_wp2
      go_roundw
      case rel => exact ⟨k + 1, y, by omega, by go_num, by first | rfl | go_num, hy0, hy1, hE⟩
      case measure => simp [intOf]; omega
    · obtain rfl : k = n := by omega
      clear h
      go_wp2
      go_ret
      exact ⟨⟨z, rfl, hz0, hz1⟩, ((Ext.refl _).alloc _).trans hE⟩

set_option maxRecDepth 100000 in
set_option maxHeartbeats 4000000 in
theorem l5Hard_any (g L : Nat) (w : World) (h : Rd w g L) (hL : L ≤ 700000000) :
    Calls Try.prog 47 #[.pointer (some ⟨g, 0, none⟩)] w (RdL 14 12 (g + 1) g (L + 1500) w) := by
  obtain ⟨i0, hi, hz0, hz1, hz2⟩ := info_parts Try.infoCnL
  have HI := Lib.hid hi
  have HZ0 := Lib.hid hz0
  have HZ1 := Lib.hid hz1
  have HZ2 := Lib.hid hz2
  have hgw := h.lt
  have HR := Lib.hid h
  clear hi hz0 hz1 hz2 h
  go_enter Try.func47, Try.ntmps47
  go_wp2_with fail
  refine (l3ProblemO_any g L w HR.out (by omega)).mono ?_
  rintro e w1 ⟨A1, n1, c1, hs1, cs1, rfl, hn1, hl1, hown1, hin1, hK1, hR1⟩
  have hz1 := hK1.size
  have HR1 := Lib.hid hR1
  have HK1 := Lib.hid hK1
  have HO1 := Lib.hid hown1
  have HI1 := Lib.hid hin1
  clear hown1 hin1 hK1 hR1 HR
  go_wp2_with fail
  refine (num_lit [2, 4, 3, 6, 0] g _ 5 _ _ _ _ (by first | rfl | simp) rfl rfl (by omega) (by omega) HR1.out (by omega)).mono ?_
  rintro e w2 ⟨q, rfl, hq, hK2, hR2⟩
  have hqb : 0 ≤ q ∧ q ≤ 6 := by simp at hq; omega
  obtain ⟨q, rfl⟩ := Int.eq_ofNat_of_zero_le hqb.1
  have HK2 := Lib.hid (HK1.out.trans hK2)
  have HR2 := Lib.hid hR2
  have hown2 := Lib.hid (own_kept HO1.out hK2 (by omega))
  have hin2 := Lib.hid (HI1.out.kept hK2 (by omega))
  have hz2 := hK2.size
  clear hq hK2 hR2 HR1 HK1 HO1 HI1
  go_wp2_with fail
  go_loopw [3, 4] (fun s0 i wr => ∃ (s : Value) (j k : Nat) (hs : List Hd) (cs : List Cn), s = s0 ∧ k + j ≤ 14 ∧ i = .int .i64 j ∧ hs.length = cs.length ∧ Kept g (g + 1) w wr ∧ Hid (Rd wr g (L + 501 + 60 * k)) ∧ Hid (wr.ownsRow w.heap.size 26 2 s k (encH hs cs)) ∧ Hid (InL wr w.heap.size 12 s.ownBlock hs cs)) (fun _ i _ => (intOf i).toNat)
  case atStart => exact ⟨_, q, n1, hs1, cs1, rfl, by omega, rfl, hl1, HK2.out, HR2.out.mono (by omega), hown2.out, hin2.out⟩
  case round =>
    clear HK2 HR2 hown2 hin2
    obtain ⟨s, j, k, hs, cs, hs0, hk, rfl, hl, hE, hR, hown, hin⟩ := hrel
    subst hs0
    have HL := Lib.hid hl
    have hzw := hE.size
    clear hl
    by_cases hlt : 0 < j
    · have hwj : IntKind.i64.wrap ((j : Int) - 1) = (j : Int) - 1 := IntWalk.i64_in _ (by omega)
      go_wp2_with fail
      refine (l1Draw_any g _ 4 _ hR.out (by omega) (by omega)).mono ?_
      rintro e w3 ⟨A, n, c, ts, bd, rfl, hlt3, hn, hG, hK3, hR3⟩
      have hz3 := hK3.size
      have HK3 := Lib.hid (hE.trans hK3)
      have HR3 := Lib.hid hR3
      have hown3 := Lib.hid (own_kept hown.out hK3 (by omega))
      have hin3 := Lib.hid (hin.out.kept hK3 (by omega))
      have hin3b := hin3
      have HG := Lib.hid hG
      have hob : Hid (∀ b, s.ownBlock = some b → b < wr.heap.size) := fun b hb => (hown.out.lt b hb).2
      clear hE hR hown hin hK3 hR3 hG
      go_wp2_with fail
      refine (l1TotalW_any A n c ts bd _ (HG.out.seg.alloc _) (by omega)).mono ?_
      rintro e w4 ⟨⟨z, rfl, hz0, hz1⟩, hE4⟩
      have B4 := Lib.hid (Blk.of1 hE4)
      have HE4 := Lib.hid (((Ext.refl w3).alloc (.cells #[.slice A n c, .int .i64 bd] 26)).trans hE4)
      have hz4 := HE4.out.size
      have hzb := B4.out.lt
      have HR4 := Lib.hid (HR3.out.ext HE4.out)
      have hown4 := Lib.hid (own_ext_keep hown3.out HE4.out)
      have hin4 := Lib.hid (hin3.out.ext HE4.out)
      have HG4 := Lib.hid (HG.out.later HE4.out)
      have HK4 := Lib.hid (HK3.out.trans (HE4.out.kept g (g + 1)))
      have b0 := B4.out.cell 0
      have b1 := B4.out.cell 1
      clear hE4 HE4 HR3 hown3 hin3 HK3
      go_wp2_with fail
      refine (pick_any g _ _ _ HR4.out (by omega) ?_).mono ?_
      · unfold wrap64; omega
      rintro e w5 ⟨i, rfl, hi, hK5, hR5⟩
      obtain ⟨u, hu⟩ : ∃ u, wrap64 (z - i) = u := ⟨_, rfl⟩
      have hz5 := hK5.size
      have B5 := Lib.hid (B4.out.kept hK5 (.inr (by omega)))
      have b0 := B5.out.cell 0
      have b1 := B5.out.cell 1
      have f1 := B5.out.frozen 1
      have HB6 : Hid (Blk (w5.setCell ⟨w3.heap.size, 1, none⟩ (.int .i64 u)) w3.heap.size 26 #[.slice A n c, .int .i64 u]) := B5.out.set_ 1 (.int .i64 u)
      have K36 : Kept w3.heap.size (w3.heap.size + 1) w5 (w5.setCell ⟨w3.heap.size, 1, none⟩ (.int .i64 u)) := (Kept.refl _ _ w5).setIn (p := ⟨w3.heap.size, 1, none⟩) (by simp) _
      have HK6 := Lib.hid ((HK4.out.trans hK5).setNew (p := ⟨w3.heap.size, 1, none⟩) (by simp only; omega) (.int .i64 u))
      have HR6 := Lib.hid (hR5.far (p := ⟨w3.heap.size, 1, none⟩) (by simp only; omega) (.int .i64 u))
      have hown5 := own_kept hown4.out hK5 (by omega)
      have hown6 : Hid ((w5.setCell ⟨w3.heap.size, 1, none⟩ (.int .i64 u)).ownsRow w.heap.size 26 2 s k (encH hs cs)) := by
        refine ⟨hown5.1, ?_⟩
        rcases hown5.2 with hn | ⟨gg, cap, cur, hv, hb, hgg, rest⟩
        · exact .inl hn
        · refine .inr ⟨gg, cap, cur, hv, hb, ?_, rest⟩
          have := hob.out gg (by rw [hv]; rfl)
          exact (Below.heap_setCell _ _ _ _ (by simp only; omega)).trans hgg
      have hin6 : Hid (InL (w5.setCell ⟨w3.heap.size, 1, none⟩ (.int .i64 u)) w.heap.size 12 s.ownBlock hs cs) := by
        have h5 := hin4.out.kept hK5 (by omega)
        have h3 := hin3b.out
        intro ix x cc e1 e2
        obtain ⟨q1, q2, q3, q4⟩ := h5 ix x cc e1 e2
        obtain ⟨p1, p2, p3, p4⟩ := h3 ix x cc e1 e2
        exact ⟨q1, q2.kept p3 K36 (.inl (Nat.le_refl _)), q3.wide (Nat.le_refl _) K36.size, q4⟩
      have HG6 : Hid (Got wr (w5.setCell ⟨w3.heap.size, 1, none⟩ (.int .i64 u)) 2 A n (encT ts)) := by
        have g5 : Seg w5 2 A n (encT ts) := HG4.out.seg.kept HG4.out.lies hK5 (.inr (by omega))
        have f5 : Free w5 2 A n := HG4.out.free.kept HG4.out.seg HG4.out.lies hK5 (.inr (by omega))
        exact ⟨g5.kept HG.out.lies K36 (.inl (Nat.le_refl _)), f5.kept g5 HG.out.lies K36 (.inl (Nat.le_refl _)), HG.out.lies.wide (Nat.le_refl _) (by simp; omega)⟩
      have hz6 : w5.heap.size = (w5.setCell ⟨w3.heap.size, 1, none⟩ (.int .i64 u)).heap.size := by simp
      clear hi hK5 hR5 hown5 K36 B4 HR4 hown4 hin4 HG4 HK4 HB6 hin3b
      generalize hW : (w5.setCell ⟨w3.heap.size, 1, none⟩ (.int .i64 u)) = W6 at HK6 HR6 hown6 hin6 HG6 hz6
      have HW := Lib.hid hW
      clear hW
      go_wp2_with (first
        | (at_builtin
           rw [HW.out]
           refine wpList_append_lies _ rfl (.tmp 28) (.tmp 30) 42 rfl w.heap.size 26 i0 _ 2 32 Try.underlying42 HI.out HZ0.out HZ1.out HZ2.out rfl (by omega) s k _ rfl (hown6.out.alloc _) ⟨W6.heap.size, 0, none⟩ 1 1 [.slice A n c, .int .i64 u] rfl rfl (cell_two_new W6 (.slice A n c) (.int .i64 u) 26) ?_ (by omega) ?_ ?_ ?_ (W6.heap.size + 1) (by simp) ?_
           (intro u' hu'; simp at hu'; rcases hu' with rfl | rfl <;> rfl)
           (unfold maxLen; omega)
           omega
           (simp; omega)
           (intro gg cp w7 hown7 hg7 hat7 hlt7)))
      go_roundw
      case rel =>
        have KG : Kept w.heap.size (W6.alloc (.cells #[.slice A n c, .int .i64 u] 26)).heap.size (W6.alloc (.cells #[.slice A n c, .int .i64 u] 26)) w7 := kept_of_grown hg7 fun k hk => ((hown6.out.alloc (.cells #[.slice A n c, .int .i64 u] 26)).lt k hk).1
        have I2 : InL w7 w.heap.size 12 (Value.slice (some ⟨gg, 0, none⟩) (k + 1) cp).ownBlock (hs ++ [(A, n, c)]) (cs ++ [(ts, u)]) := ((hin6.out.ext ((Ext.refl _).alloc (.cells #[.slice A n c, .int .i64 u] 26))).snoc (cap := c) HL.out (bd := u) hn (HG6.out.seg.alloc _) ((HG6.out.lies.wide (lo' := w.heap.size) (by omega) (by simp))) (fun h0 ad e e2 => by
          have := HG6.out.lies h0 ad e
          have := hob.out _ e2
          omega)).grownTo hg7 hat7 (by simp)
        refine ⟨_, j - 1, k + 1, hs ++ [(A, n, c)], cs ++ [(ts, u)], rfl, by omega, by go_num, by simp [HL.out], (HK6.out.alloc _).fresh KG (Nat.le_refl _), ((HR6.out.alloc (.cells #[.slice A n c, .int .i64 u] 26)).kept KG hgw).mono (by omega), ?_, I2⟩
        rw [encH_append hs cs _ _ HL.out]
        simpa [encH, Hid] using hown7
      case measure => simp [intOf]; omega
    · obtain rfl : j = 0 := by omega
      obtain ⟨A1, c1, rfl⟩ := own_slice hown.out
      have hP := own_parts hown.out
      have HF : Hid (LiC wr (g + 1) 12 A1 k cs) := by
        refine ⟨hs, HL.out, hP.1, hP.2.2.wide (by omega) (Nat.le_refl _), fun i x c e1 e2 => ?_⟩
        obtain ⟨q1, q2, q3, _⟩ := hin.out i x c e1 e2
        exact ⟨q1, q2, q3.wide (by omega) (Nat.le_refl _), fun _ _ _ => by simp⟩
      clear hP
      go_wp2
      go_ret
      exact ⟨_, k, c1, cs, rfl, by omega, HF.out, hE, hR.out.mono (by omega)⟩

/-- SOME constraints -/
def RetLo (w : World) (e : Ending) (w' : World) : Prop :=
  ∃ A n c cs, e = .returned (.slice A n c) ∧ cs.length = n ∧ n ≤ 20 ∧ SegC w' A n cs ∧ Ext w w'
set_option maxRecDepth 100000 in
set_option maxHeartbeats 2000000 in
theorem drawCnt_any (A : Option Addr) (n c : Nat) (bs : List Int) (w : World) (hn : n ≤ maxLen) (hc : n ≤ c) (hs : Seg w 1 A n (encY bs)) (hb : bytesB bs) :
    Calls Try.prog 21 #[.slice A n c] w (RetLo w) := by
  go_enter Try.func21, Try.ntmps21
  go_wp2_with fail
  refine (open_any A n c bs _ hn hc hs hb).mono ?_
  rintro e w1 ⟨rfl, hE1, hR1⟩
  go_wp2_with fail
  refine (l5Hard_any _ _ w1 hR1 (by omega)).mono ?_
  rintro e w2 ⟨A2, n2, c2, cs2, rfl, hn2, hL2, hK2, hR2⟩
  go_wp2_with fail
  refine (l3Mutate_any _ _ _ A2 n2 c2 cs2 w2 hR2 (by omega) (by omega) (by omega) hL2).mono ?_
  rintro e w3 ⟨A3, n3, c3, cs3, rfl, hn3, hL3, hK3, hR3⟩
  go_wp2
  go_ret
  exact ⟨A3, n3, c3, cs3, rfl, hL3.len, by omega, hL3.segC (by omega), hE1.fresh (hK2.trans hK3) (Nat.le_refl _)⟩

/-- SOME constraints and SOME values -/
def RetLV (w : World) (e : Ending) (w' : World) : Prop :=
  ∃ A n c cs B m d vs, e = .returned (.tuple #[.slice A n c, .slice B m d]) ∧ cs.length = n ∧ n ≤ 20 ∧ vs.length = m ∧ m ≤ 12 ∧ SegC w' A n cs ∧ Got w w' 1 B m (encB vs) ∧ Ext w w'
set_option maxRecDepth 100000 in
set_option maxHeartbeats 2000000 in
theorem drawNx_any (A : Option Addr) (n c : Nat) (bs : List Int) (w : World) (hn : n ≤ maxLen) (hc : n ≤ c) (hs : Seg w 1 A n (encY bs)) (hb : bytesB bs) :
    Calls Try.prog 25 #[.slice A n c] w (RetLV w) := by
  go_enter Try.func25, Try.ntmps25
  go_wp2_with fail
  refine (open_any A n c bs _ hn hc hs hb).mono ?_
  rintro e w1 ⟨rfl, hE1, hR1⟩
  go_wp2_with fail
  refine (l5Hard_any _ _ w1 hR1 (by omega)).mono ?_
  rintro e w2 ⟨A2, n2, c2, cs2, rfl, hn2, hL2, hK2, hR2⟩
  go_wp2_with fail
  refine (l3Mutate_any _ _ _ A2 n2 c2 cs2 w2 hR2 (by omega) (by omega) (by omega) hL2).mono ?_
  rintro e w3 ⟨A3, n3, c3, cs3, rfl, hn3, hL3, hK3, hR3⟩
  have z1 := hE1.size
  have z2 := hK2.size
  have z3 := hK3.size
  have hg := hR3.lt
  go_wp2_with fail
  refine (l1Values_any _ _ w3 hR3 (by omega)).mono ?_
  rintro e w4 ⟨A4, n4, c4, vs, rfl, hl4, hn4, hG4, hK4, hR4⟩
  have z4 := hK4.size
  have HLI := Lib.hid hG4.lies
  have HS4 := Lib.hid hG4.seg
  have HF4 := Lib.hid hG4.free
  have HR4 := Lib.hid hR4
  have HV := Lib.hid hl4
  have HFIN : Hid (∀ W, Kept w.heap.size (w.heap.size + 1) w3 W → SegC W A3 n3 cs3 ∧ Ext w W) := fun W K => ⟨(hL3.kept K (Nat.le_refl _)).segC (by omega), hE1.fresh (hK2.trans (hK3.trans K)) (Nat.le_refl _)⟩
  have HLC := Lib.hid hL3.len
  have HK4 := Lib.hid hK4
  clear hs hb hE1 hR1 hR2 hR3 hR4 hK2 hK3 hK4 hG4 hl4 hL2 hL3
  go_wp2_with fail
  refine (pick_any _ _ 2 _ HR4.out (by omega) (by omega)).mono ?_
  rintro e w5 ⟨i, rfl, hi, hK5, hR5⟩
  have z5 := hK5.size
  have HK5 := Lib.hid (HK4.out.trans hK5)
  have HS5 := Lib.hid (HS4.out.kept HLI.out hK5 (.inr (by omega)))
  have HF5 := Lib.hid (HF4.out.kept HS4.out HLI.out hK5 (.inr (by omega)))
  clear hi hK5 hR5 HK4 HS4 HF4 HR4
  by_cases h0 : i = 0
  · subst h0
    go_wp2_with fail
    go_loopw [7] (fun i wr => ∃ (k : Nat), k ≤ 3 ∧ i = .int .i64 k ∧ Hid (Kept w.heap.size (w.heap.size + 1) w3 wr) ∧ Hid (w5.heap.size ≤ wr.heap.size) ∧ ∃ us : List Bool, Hid (us.length = n4) ∧ Hid (Seg wr 1 A4 n4 (encB us)) ∧ Hid (Free wr 1 A4 n4)) (fun i _ => 3 - (intOf i).toNat)
    case atStart => exact ⟨0, by omega, rfl, HK5.out, Nat.le_refl _, vs, HV.out, HS5.out, HF5.out⟩
    case round =>
      clear HK5 HS5 HF5
      obtain ⟨k, hk, rfl, hK, hz, us, hul, hS, hF⟩ := hrel
      have hzz := hz.out
      by_cases h1 : k < n4
      · have d1 : decide ((k : Int) < (n4 : Int)) = true := decide_eq_true (by omega)
        by_cases h3 : k < 3
        · have d3 : decide ((k : Int) < 3) = true := decide_eq_true (by omega)
          obtain ⟨b, off, x, rfl, hx, t1⟩ := hS.out.bool h1
          have tf := hF.out b off rfl k (by omega)
          have l4 := HLI.out (by omega) _ rfl
          simp only at l4
          have s6 := hS.out.setAt (i := k) (by have := hul.out; simp [encB]; omega) (.bool false)
          have es : (encB us).set k (.bool false) = encB (us.set k false) := by simp [encB, List.map_set]
          rw [es] at s6
          have S6 := Lib.hid s6
          have F6 := Lib.hid (hF.out.setCell ⟨b, off + k, none⟩ (.bool false))
          have K6 := Lib.hid (hK.out.setNew (p := ⟨b, off + k, none⟩) (by simp only; omega) (.bool false))
          clear es s6 hK hS hF hx
          go_wp2
          go_roundw
          case rel => exact ⟨k + 1, by omega, by go_num, K6.out, (by unfold Hid; simp; omega), us.set k false, (by unfold Hid; rw [List.length_set]; exact hul.out), S6.out, F6.out⟩
          case measure => simp [intOf]; omega
        · have d3 : decide ((k : Int) < 3) = false := decide_eq_false (by omega)
          go_wp2
          go_ret2
          exact ⟨A3, n3, c3, cs3, A4, n4, c4, us, rfl, HLC.out, by omega, hul.out, hn4, (HFIN.out _ hK.out).1, ⟨hS.out, hF.out, HLI.out.wide (by omega) (by omega)⟩, (HFIN.out _ hK.out).2⟩
      · have d1 : decide ((k : Int) < (n4 : Int)) = false := decide_eq_false (by omega)
        go_wp2
        go_ret2
        exact ⟨A3, n3, c3, cs3, A4, n4, c4, us, rfl, HLC.out, by omega, hul.out, hn4, (HFIN.out _ hK.out).1, ⟨hS.out, hF.out, HLI.out.wide (by omega) (by omega)⟩, (HFIN.out _ hK.out).2⟩
  · have hb0 : (i == 0) = false := by simpa using h0
    clear h0
    go_wp2
    go_ret2
    exact ⟨A3, n3, c3, cs3, A4, n4, c4, vs, rfl, HLC.out, by omega, HV.out, hn4, (HFIN.out _ HK5.out).1, ⟨HS5.out, HF5.out, HLI.out.wide (by omega) (by omega)⟩, (HFIN.out _ HK5.out).2⟩
end Go.Proofs.Ytmbdfnimmjomfaa
