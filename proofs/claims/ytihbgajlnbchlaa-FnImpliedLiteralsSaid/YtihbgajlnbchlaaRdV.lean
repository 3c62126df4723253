/- Drawn values; DrawConstraintValid and its fellows, DrawEvalConstraint. -/
import Derived.Test.YtihbgajlnbchlaaRdM
namespace Go.Proofs.Ytihbgajlnbchlaa
open Go.RowKit

/-- SOME constraint of at most N terms, in memory of the call's own -/
def RetA (N : Nat) (w : World) (e : Ending) (w' : World) : Prop :=
  ∃ A n c ts bd, e = .returned (.agg #[.slice A n c, .int .i64 bd]) ∧ ts.length = n ∧ n ≤ N ∧ Got w w' 2 A n (encT ts) ∧ Ext w w'

set_option maxRecDepth 100000 in
set_option maxHeartbeats 1000000 in
theorem drawCV_any (A : Option Addr) (n c : Nat) (bs : List Int) (w : World) (hn : n ≤ maxLen) (hc : n ≤ c) (hs : Seg w 1 A n (encY bs)) (hb : bytesB bs) :
    Calls Try.prog 28 #[.slice A n c] w (RetA 13 w) := by
  go_enter Try.func28, Try.ntmps28
  go_wp2_with fail
  refine (open_any A n c bs _ hn hc (hs.alloc _) hb).mono ?_
  rintro e w1 ⟨rfl, hE1, hR1⟩
  have HB1 := Lib.hid (Blk.of1 hE1)
  have HE1 := Lib.hid (((Ext.refl w).alloc _).trans hE1)
  have HR1 := Lib.hid hR1
  simp only [World.size_alloc] at HR1
  clear hs hb hE1 hR1
  have hg := HR1.out.lt
  go_wp2_with fail
  refine (l1Constraint_any _ _ w1 HR1.out (by omega)).mono ?_
  rintro e w2 ⟨A2, n2, c2, ts2, bd2, rfl, hl2, hn2, hG2, hK2, hR2⟩
  go_wp2_with fail
  refine (l1Mutate_any _ _ A2 n2 c2 ts2 bd2 w2 hR2 (by omega) hG2.seg (by omega)).mono ?_
  rintro e w3 ⟨A3, n3, c3, ts3, bd3, rfl, hl3, hn3, hG3, hK3, hR3⟩
  have B := (HB1.out.kept hK2 (.inl (by omega))).kept hK3 (.inl (by omega))
  have r0 := B.cell 0
  have r1 := B.cell 1
  have q0 := B.frozen 0
  have q1 := B.frozen 1
  have hz := B.lt
  have HG3 := Lib.hid hG3
  have hEE := Lib.hid (HE1.out.fresh (hK2.trans hK3) (by omega))
  have hz2 := hK2.size
  have hw2 := HE1.out.size
  clear B hG2 hG3 hK2 hK3 hR2 hR3 HR1 HB1 hl2
  go_wp2
  refine bodyPost_ret (v := .agg #[.slice A3 n3 c3, .int .i64 bd3]) (by simp [results, Try.results28, go_sem, r0, r1]) rfl ?_
  have K : Kept w.heap.size (w.heap.size + 1) w3 _ := ((Kept.refl _ _ w3).setIn (p := ⟨w.heap.size, 0, none⟩) (by simp) (.slice A3 n3 c3)).setIn (p := ⟨w.heap.size, 1, none⟩) (by simp) (.int .i64 bd3)
  exact ⟨A3, n3, c3, ts3, bd3, rfl, hl3, by omega, ⟨(HG3.out.kept K (by omega)).seg, (HG3.out.kept K (by omega)).free, (HG3.out.kept K (by omega)).lies.wide (by omega) (Nat.le_refl _)⟩, (hEE.out.setNew (by simp) _).setNew (by simp) _⟩





/-- SOME values -/
def RdB (g L : Nat) (w : World) (e : Ending) (w' : World) : Prop :=
  ∃ A n c bs, e = .returned (.slice A n c) ∧ bs.length = n ∧ n ≤ 12 ∧ Got w w' 1 A n (encB bs) ∧ Kept g (g + 1) w w' ∧ Rd w' g L
theorem Try.infoBoR : (Try.prog.info? 4).map (fun i => (i.zero, i.size, i.bytes)) = some (some (.bool false), 1, 1) := by kernel_rfl
theorem encB_append (a b : List Bool) : encB (a ++ b) = encB a ++ encB b := by simp [encB]
set_option maxRecDepth 100000 in
set_option maxHeartbeats 2000000 in
theorem l1Values_any (g L : Nat) (w : World) (h : Rd w g L) (hL : L ≤ 800000000) :
    Calls Try.prog 54 #[.pointer (some ⟨g, 0, none⟩)] w (RdB g (L + 20) w) := by
  obtain ⟨i0, hi, hz0, hz1, hz2⟩ := info_parts Try.infoBoR
  have HI := Lib.hid hi
  have HZ0 := Lib.hid hz0
  have HZ1 := Lib.hid hz1
  have HZ2 := Lib.hid hz2
  have hgw := h.lt
  have HR := Lib.hid h
  clear hi hz0 hz1 hz2 h
  go_enter Try.func54, Try.ntmps54
  go_wp2_with fail
  go_loopw [3, 4] (fun s i wr => ∃ (k : Nat) (bs : List Bool), k ≤ 12 ∧ i = .int .i64 k ∧ bs.length = k ∧ Kept g (g + 1) w wr ∧ Hid (Rd wr g (L + k)) ∧ Hid (wr.ownsRow w.heap.size 4 1 s k (encB bs))) (fun _ i _ => 12 - (intOf i).toNat)
  case atStart => exact ⟨0, [], by omega, rfl, rfl, (Kept.refl _ _ _).alloc _, HR.out.alloc _, own_empty w w.heap.size 4 1 (Nat.le_refl _)⟩
  case round =>
    obtain ⟨k, bs, hk, rfl, hl, hE, hR, hown⟩ := hrel
    have HL := Lib.hid hl
    clear hl
    by_cases hlt : k < 12
    · go_wp2_with fail
      refine (pick_any g _ 2 _ hR.out (by omega) (by omega)).mono ?_
      rintro e w1 ⟨i, rfl, hi, hK1, hR1⟩
      have HK1 := Lib.hid (hE.trans hK1)
      have HR1 := Lib.hid hR1
      have hown1 := Lib.hid (own_kept hown.out hK1 (by omega))
      have hz1 := hK1.size
      have hzw := hE.size
      clear hi hK1 hR1 hE hR hown
      obtain ⟨bb, hbb⟩ : ∃ b : Bool, (i == 0) = b := ⟨_, rfl⟩
      go_wp2_with (first
        | (at_builtin
           refine wpList_append_own _ rfl _ _ 29 rfl w.heap.size 4 i0 _ 1 1 Try.underlying29 HI.out HZ0.out HZ1.out HZ2.out rfl (by omega) _ k _ rfl (hown1.out.alloc _) ⟨w1.heap.size, 0, none⟩ 1 1 [.bool bb] rfl rfl (World.news_of_block (cs := #[.bool bb]) (t := 4) (fr := (0, 0)) (heap_alloc_new w1 _)) ?_ ?_ ?_ ?_ ?_
           (intro u hu; simp at hu; rcases hu with rfl | rfl <;> rfl)
           (unfold maxLen; omega)
           omega
           (simp; omega)
           (intro v1 w5 hown5 hg5 _)))
      go_roundw
      case rel =>
        have KG : Kept w.heap.size (w1.alloc (.cells #[.bool bb] 4)).heap.size (w1.alloc (.cells #[.bool bb] 4)) w5 := kept_of_grown hg5 fun k hk => ((hown1.out.alloc (.cells #[.bool bb] 4)).lt k hk).1
        refine ⟨k + 1, bs ++ [bb], by omega, by go_num, by rw [List.length_append, HL.out]; rfl, (HK1.out.alloc _).fresh KG (Nat.le_refl _), ((HR1.out.alloc (.cells #[.bool bb] 4)).kept KG hgw).mono (by omega), ?_⟩
        rw [encB_append]
        simpa [encB, Hid] using hown5
      case measure => simp [intOf]; omega
    · obtain rfl : k = 12 := by omega
      go_wp2_with fail
      refine (pick_any g _ 40 _ hR.out (by omega) (by omega)).mono ?_
      rintro e w1 ⟨i, rfl, hi, hK1, hR1⟩
      have HK1 := Lib.hid (hE.trans hK1)
      have HR1 := Lib.hid hR1
      have hown1 := Lib.hid (own_kept hown.out hK1 (by omega))
      clear hi hK1 hR1 hE hR hown
      obtain ⟨gg, c1, rfl, hgb, hgl⟩ := hown1.out.form (by omega)
      have hcap : 12 ≤ c1 := by
        rcases hown1.out.2 with ⟨e, _⟩ | ⟨g', cap, cur, e, _, _, hnc, _⟩
        · cases e
        · injection e with _ _ e3; omega
      have hP := own_parts hown1.out
      by_cases h0 : i = 0
      · subst h0
        have HS : Hid (Seg w1 1 (some ⟨gg, 0, none⟩) 11 (encB (bs.take 11))) := ⟨by have := HL.out; simp [encB]; omega, fun _ => by
          obtain ⟨b, off, e, hcc⟩ := hP.1.2 (by omega)
          refine ⟨b, off, e, fun j u hu => hcc j u ?_⟩
          have e2 : encB (bs.take 11) = (encB bs).take 11 := by simp [encB]
          rw [e2] at hu
          have hj : j < 11 := by have := (List.getElem?_eq_some_iff.1 hu).1; simp at this; omega
          rw [List.getElem?_take, if_pos hj] at hu
          exact hu⟩
        have HF : Hid (Free w1 1 (some ⟨gg, 0, none⟩) 11) := fun b off e j hj => hP.2.1 b off e j (by omega)
        have HLi : Hid (Lies w.heap.size w1.heap.size (some ⟨gg, 0, none⟩) 11) := fun _ ad e => hP.2.2 (by omega) ad e
        clear hP
        go_wp2
        go_ret
        exact ⟨_, 11, c1, bs.take 11, rfl, by rw [List.length_take, HL.out]; rfl, by omega, ⟨HS.out, HF.out, HLi.out⟩, HK1.out, HR1.out.mono (by omega)⟩
      · have hb : (i == 0) = false := by simpa using h0
        have HG : Hid (Got w w1 1 (some ⟨gg, 0, none⟩) 12 (encB bs)) := own_got hown1.out (Nat.le_refl _)
        clear hP
        go_wp2
        go_ret
        exact ⟨_, 12, c1, bs, rfl, HL.out, by omega, HG.out, HK1.out, HR1.out.mono (by omega)⟩

/-- SOME constraint and SOME values -/
def RetAB (N : Nat) (w : World) (e : Ending) (w' : World) : Prop :=
  ∃ A n c ts bd B m d vs, e = .returned (.tuple #[.agg #[.slice A n c, .int .i64 bd], .slice B m d]) ∧ ts.length = n ∧ n ≤ N ∧ vs.length = m ∧ m ≤ 12 ∧ Got w w' 2 A n (encT ts) ∧ Got w w' 1 B m (encB vs) ∧ Ext w w'
set_option maxRecDepth 100000 in
set_option maxHeartbeats 2000000 in
theorem drawEval_any (A : Option Addr) (n c : Nat) (bs : List Int) (w : World) (hn : n ≤ maxLen) (hc : n ≤ c) (hs : Seg w 1 A n (encY bs)) (hb : bytesB bs) :
    Calls Try.prog 16 #[.slice A n c] w (RetAB 13 w) := by
  go_enter Try.func16, Try.ntmps16
  go_wp2_with fail
  refine (open_any A n c bs _ hn hc (hs.alloc _) hb).mono ?_
  rintro e w1 ⟨rfl, hE1, hR1⟩
  have HB1 := Lib.hid (Blk.of1 hE1)
  have HE1 := Lib.hid (((Ext.refl w).alloc _).trans hE1)
  have HR1 := Lib.hid hR1
  simp only [World.size_alloc] at HR1
  clear hs hb hE1 hR1
  have hg := HR1.out.lt
  have hw1 := HE1.out.size
  go_wp2_with fail
  refine (l1Constraint_any _ _ w1 HR1.out (by omega)).mono ?_
  rintro e w2 ⟨A2, n2, c2, ts2, bd2, rfl, hl2, hn2, hG2, hK2, hR2⟩
  go_wp2_with fail
  refine (l1Mutate_any _ _ A2 n2 c2 ts2 bd2 w2 hR2 (by omega) hG2.seg (by omega)).mono ?_
  rintro e w3 ⟨A3, n3, c3, ts3, bd3, rfl, hl3, hn3, hG3, hK3, hR3⟩
  have hz2 := hK2.size
  have hz3 := hK3.size
  have HBr := Lib.hid ((HB1.out.kept hK2 (.inl (by omega))).kept hK3 (.inl (by omega)))
  have HBc := Lib.hid (Blk.new w3 25 #[.slice A3 n3 c3, .int .i64 bd3])
  have HG3 := Lib.hid hG3
  have HE3 := Lib.hid (HE1.out.fresh (hK2.trans hK3) (by omega))
  have HR3 := Lib.hid hR3
  have K0 : Hid (∀ W, Kept (w.heap.size + 1) (w.heap.size + 2) (w3.alloc (.cells #[.slice A3 n3 c3, .int .i64 bd3] 25)) W → (W.cell? ⟨w3.heap.size, 0, none⟩ = some (.slice A3 n3 c3) ∧ W.cell? ⟨w3.heap.size, 1, none⟩ = some (.int .i64 bd3))) := fun W e => by
    have B := HBc.out.kept e (.inr (by omega))
    exact ⟨B.cell 0, B.cell 1⟩
  clear hG2 hG3 hK2 hK3 hR2 hR3 HR1 HB1 hl2 HE1
  go_wp2_with fail
  have hS0 := K0.out (w3.alloc (.cells #[.slice A3 n3 c3, .int .i64 bd3] 25)).drew (Kept.refl _ _ _).drew
  refine wp_region_Z (fun W => W.cell? ⟨w3.heap.size, 0, none⟩ = some (.slice A3 n3 c3) ∧ W.cell? ⟨w3.heap.size, 1, none⟩ = some (.int .i64 bd3)) 4 (by kernel_rfl) ?_
  refine wpAnyZ_take 0 (v := ?_) (by kernel_rfl) rfl rfl (by kernel_rfl) (by kernel_rfl) (by kernel_rfl) (fun _ _ _ h => h) hS0 (Or.inl ⟨by rfl, ?_⟩) ?_
  rotate_left
  · (intro w hSw; (try dsimp only at hSw); go_simp; (try with_reducible rfl))
  try simp only [Act.put, List.setIfInBounds_toArray, List.set_cons_zero, List.set_cons_succ]
  refine wpAnyZ_take 1 (v := ?_) (by kernel_rfl) rfl rfl (by kernel_rfl) (by kernel_rfl) (by kernel_rfl) (fun _ _ _ h => h) hS0 (Or.inl ⟨by rfl, ?_⟩) ?_
  rotate_left
  · (intro w hSw; (try dsimp only at hSw); go_simp; (try with_reducible rfl))
  try simp only [Act.put, List.setIfInBounds_toArray, List.set_cons_zero, List.set_cons_succ]
  refine wpAnyZ_one 2 (by kernel_rfl) rfl rfl (fun K hK => ?_)
  go_simp
  refine (l1Values_any _ _ _ (HR3.out.alloc (.cells #[.slice A3 n3 c3, .int .i64 bd3] 25)).drew (by omega)).mono ?_
  rintro e w4 ⟨B4, m4, d4, vs4, rfl, hl4, hn4, hG4, hK4, hR4⟩
  have hK4' : Kept (w.heap.size + 1) (w.heap.size + 2) (w3.alloc (.cells #[.slice A3 n3 c3, .int .i64 bd3] 25)) w4 := ((Kept.refl _ _ _).drew).trans hK4
  have hS4 := K0.out w4 hK4'
  have BR := (HBr.out.alloc (.cells #[.slice A3 n3 c3, .int .i64 bd3] 25)).kept hK4' (.inl (by omega))
  have r0 := BR.cell 0
  have r1 := BR.cell 1
  have q0 := BR.frozen 0
  have q1 := BR.frozen 1
  have hz := BR.lt
  have hz4 := hK4'.size
  rw [World.size_alloc] at hz4
  have S3 := Lib.hid (HG3.out.seg.kept HG3.out.lies (((Kept.refl _ _ w3).alloc _).trans hK4') (.inr (by omega)))
  have F3 := Lib.hid (HG3.out.free.kept HG3.out.seg HG3.out.lies (((Kept.refl _ _ w3).alloc _).trans hK4') (.inr (by omega)))
  have L3 := Lib.hid (HG3.out.lies.wide (Nat.le_refl _) (Nat.le_of_succ_le hz4))
  have HG4 := Lib.hid hG4
  have HE4 := Lib.hid (HE3.out.fresh (((Kept.refl _ _ w3).alloc _).trans hK4') (by omega))
  clear hG4 hK4 hK4' hR4 BR HR3 HE3 HG3 HBr
  refine hK.out _ _ hS4 ?_
  clear hK K
  try simp only [Act.put, List.setIfInBounds_toArray, List.set_cons_zero, List.set_cons_succ]
  refine wpAnyZ_one 3 (by kernel_rfl) rfl rfl (fun K hK => ?_)
  go_simp
  have KR : Kept w.heap.size (w.heap.size + 1) w4 ((w4.setCell ⟨w.heap.size, 0, none⟩ (.slice A3 n3 c3)).setCell ⟨w.heap.size, 1, none⟩ (.int .i64 bd3)) := ((Kept.refl _ _ w4).setIn (p := ⟨w.heap.size, 0, none⟩) (by simp) (.slice A3 n3 c3)).setIn (p := ⟨w.heap.size, 1, none⟩) (by simp) (.int .i64 bd3)
  refine hK.out _ _ ⟨(KR.cell (by simp only; omega) (.inr (by simp only; omega))).trans hS4.1, (KR.cell (by simp only; omega) (.inr (by simp only; omega))).trans hS4.2⟩ ?_
  clear hK K
  try simp only [Act.put, List.setIfInBounds_toArray, List.set_cons_zero, List.set_cons_succ]
  refine wpAnyZ_last (by kernel_rfl) (by kernel_rfl) rfl rfl (fun K hK => ?_)
  go_simp
  refine hK.out _ _ ?_
  clear hK K
  have HKR := Lib.hid KR
  clear KR hS4 hS0
  go_wp2
  refine bodyPost_ret (v := .tuple #[.agg #[.slice A3 n3 c3, .int .i64 bd3], .slice B4 m4 d4]) (by simp [results, Try.results16, go_sem, r0, r1]) rfl ?_
  exact ⟨A3, n3, c3, ts3, bd3, B4, m4, d4, vs4, rfl, hl3, by omega, hl4, hn4, ⟨S3.out.kept L3.out HKR.out (.inr (by omega)), F3.out.kept S3.out L3.out HKR.out (.inr (by omega)), L3.out.wide (by omega) HKR.out.size⟩,
    ⟨HG4.out.seg.kept HG4.out.lies HKR.out (.inr (by simp; omega)), HG4.out.free.kept HG4.out.seg HG4.out.lies HKR.out (.inr (by simp; omega)), HG4.out.lies.wide (by simp; omega) HKR.out.size⟩, (HE4.out.setNew (p := ⟨w.heap.size, 0, none⟩) (by simp) _).setNew (p := ⟨w.heap.size, 1, none⟩) (by simp) _⟩
end Go.Proofs.Ytihbgajlnbchlaa
