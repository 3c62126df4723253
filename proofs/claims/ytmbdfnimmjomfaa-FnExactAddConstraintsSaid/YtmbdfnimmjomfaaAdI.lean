/- AddConstraints: the program's; slices.Grow, slices.Concat. -/
import Derived.Test.YtmbdfnimmjomfaaAd
import Derived.Test.YtmbdfnimmjomfaaNFi2
import Derived.Lib.AppendZerosOnto
import Derived.Lib.SliceRun
namespace Go.Proofs.Ytmbdfnimmjomfaa
open Go.RowKit

set_option maxHeartbeats 4000000 in
set_option maxRecDepth 100000 in
/-- slices.Grow of nil -/
theorem growT_any (n : Nat) (w : World) (hn : n ≤ 1000) :
    Calls Try.prog 61 #[.slice none 0 0, .int .i64 n] w fun e w' => ∃ A c, e = .returned (.slice A 0 c) ∧ w'.ownsRow w.heap.size 47 2 (.slice A 0 c) 0 [] ∧ Ext w w' := by
  obtain ⟨i0, hi, hz0, hz1, hz2⟩ := info_parts Try.infoTmF
  rcases Nat.eq_zero_or_pos n with h0 | h0
  · subst h0
    go_enter Try.func61, Try.ntmps61
    go_wp2
    go_ret
    exact ⟨none, 0, rfl, World.ownsRow_nil _ _ _ _, Ext.refl _⟩
  · have hold : (Builtin.firstCells i0.size 0 (.slice none 0 0)).run Try.prog w.drew = .ok #[] w.drew := run_firstCells_none w.drew i0.size 0 0 0
    have hrz : ∀ ty, (Builtin.append_ #[24, 3] ty #[.slice none 0 0, .int .i64 (n : Int)]).run Try.prog w =
        .ok (.slice (some ⟨w.heap.size, 0, none⟩) n (grownCap w n 0 47)) (w.drew.alloc (.cells (#[] ++ Builtin.zeroCells (Value.agg #[.int .i64 0, .int .i64 0]).cells n ++ Builtin.zeroCells (Value.agg #[.int .i64 0, .int .i64 0]).cells (grownCap w n 0 47 - n)) 47)) := fun ty => by
      have h := Lib.run_append_grow_zeros w 24 3 ty 47 i0 (.agg #[.int .i64 0, .int .i64 0]) .i64 .i64 Try.underlying24 Try.underlying3 hi hz0 none 0 0 [] hold n (by omega) (by rw [hz1]; omega) (by omega) (by omega)
        (by rw [hz2]; omega)
        (growslice_fits (by omega) (by rw [hz2]; omega))
      simpa using h
    have hGn : n ≤ grownCap w n 0 47 := grownCap_ge w _ _ _
    obtain ⟨G, hG⟩ : ∃ G, G = grownCap w n 0 47 := ⟨_, rfl⟩
    rw [← hG] at hrz hGn
    have hG63 : G ≤ 9223372036854775807 := by
      have := grownCap_le_maxLen w n 0 47 (by unfold maxLen; omega)
      rw [← hG] at this
      unfold maxLen at this
      omega
    clear hold hG
    go_enter Try.func61, Try.ntmps61
    go_wp2_with (at_builtin; refine Lib.wpList_append_run _ rfl _ _ _ _ rfl _ _ rfl rfl _ _ (hrz _) ?_)
    go_ret
    have hsz : (Builtin.zeroCells #[.int .i64 0, .int .i64 0] n ++ Builtin.zeroCells #[.int .i64 0, .int .i64 0] (G - n) : Array Value).size = G * 2 := by
      rw [Array.size_append, size_zeroCells, size_zeroCells]; simp; omega
    refine ⟨_, G, rfl, ⟨by simp, .inr ⟨w.heap.size, G, _, rfl, Nat.le_refl _, heap_alloc_new w _, by omega, by unfold maxLen; omega, hsz, by simp⟩⟩, ((Ext.refl _).alloc _).drew⟩

set_option maxHeartbeats 4000000 in
set_option maxRecDepth 100000 in
/-- slices.Concat of two slices -/
theorem concatT_any (g : Nat) (A : Option Addr) (n cap : Nat) (ts : List Tm) (B : Option Addr) (m capb : Nat) (us : List Tm) (w : World) (hB : Blk w g 24 #[.slice A n cap, .slice B m capb]) (hn : n ≤ 100) (h : Seg w 2 A n (encT ts)) (hm : m ≤ 100) (hb : Seg w 2 B m (encT us)) :
    Calls Try.prog 44 #[.slice (some ⟨g, 0, none⟩) 2 2] w fun e w' => ∃ A' c', e = .returned (.slice A' (n + m) c') ∧ Got w w' 2 A' (n + m) (encT (ts ++ us)) ∧ Ext w w' := by
  obtain ⟨i0, hi, hz0, hz1, hz2⟩ := info_parts Try.infoTmF
  have HI := Lib.hid hi
  have HZ0 := Lib.hid hz0
  have HZ1 := Lib.hid hz1
  have HZ2 := Lib.hid hz2
  clear hi hz0 hz1 hz2
  have HB := Lib.hid hB
  have HA := Lib.hid h
  have HU := Lib.hid hb
  clear hB h hb
  go_enter Try.func44, Try.ntmps44
  go_wp2_with fail
  go_loopw [3, 11] (fun s i wr => ∃ (k z : Nat), k ≤ 2 ∧ i = .int .i64 k ∧ s = .int .i64 z ∧ (k = 0 ∧ z = 0 ∨ k = 1 ∧ z = n ∨ k = 2 ∧ z = n + m) ∧ Ext w wr) (fun _ i _ => 2 - (intOf i).toNat)
  case atStart => exact ⟨0, 0, by omega, rfl, rfl, .inl ⟨rfl, rfl⟩, Ext.refl _⟩
  case round =>
    obtain ⟨k, z, hk, rfl, rfl, hc, hE⟩ := hrel
    have d0 := (HB.out.ext hE).cell 0
    have d1 := (HB.out.ext hE).cell 1
    rcases hc with ⟨rfl, rfl⟩ | ⟨rfl, rfl⟩ | ⟨rfl, rfl⟩
    · go_wp2
      go_roundw
      case rel => exact ⟨1, n, by omega, by go_num, by go_num, .inr (.inl ⟨rfl, rfl⟩), hE⟩
      case measure => simp [intOf]
    · have hwz : IntKind.i64.wrap ((z : Int) + (m : Int)) = (z : Int) + (m : Int) := IntWalk.i64_in _ (by omega)
      have hng : ¬ ((z : Int) + (m : Int) < 0) := by omega
      go_wp2
      go_roundw
      case rel => exact ⟨2, z + m, by omega, by go_num, by go_num, .inr (.inr ⟨rfl, rfl⟩), hE⟩
      case measure => simp [intOf]
    · clear d0 d1
      obtain ⟨wc, rfl⟩ : ∃ x, x = wr := ⟨wr, rfl⟩
      have hgr := growT_any (n + m) wc (by omega)
      rw [Int.natCast_add] at hgr
      go_wp2_with fail
      refine hgr.mono ?_
      rintro e w1 ⟨A1, c1, rfl, hown1, hE1⟩
      have HEr := Lib.hid hE
      have HO1 := Lib.hid hown1
      have HE1 := Lib.hid hE1
      clear hgr hown1 hE1 hE
      go_wp2_with fail
      go_loopw [6, 27] (fun v i W => ∃ (k z : Nat) (xs : List Tm), k ≤ 2 ∧ i = .int .i64 k ∧ (k = 0 ∧ z = 0 ∧ xs = [] ∨ k = 1 ∧ z = n ∧ xs = ts ∨ k = 2 ∧ z = n + m ∧ xs = ts ++ us) ∧ Ext wc W ∧ Hid (W.ownsRow wc.heap.size 47 2 v z (encT xs))) (fun _ i _ => 2 - (intOf i).toNat)
      case atStart => exact ⟨0, 0, [], by omega, rfl, .inl ⟨rfl, rfl, rfl⟩, HE1.out, HO1.out⟩
      case round =>
        clear HE1 HO1
        obtain ⟨k, z, xs, hk, rfl, hc, hE2, hown⟩ := hrel
        obtain ⟨A5, c5, rfl⟩ := own_slice hown.out
        have d0 := (HB.out.ext (HEr.out.trans hE2)).cell 0
        have d1 := (HB.out.ext (HEr.out.trans hE2)).cell 1
        have S0 := Lib.hid (HA.out.ext (HEr.out.trans hE2))
        have S1 := Lib.hid (HU.out.ext (HEr.out.trans hE2))
        rcases hc with ⟨rfl, rfl, rfl⟩ | ⟨rfl, rfl, rfl⟩ | ⟨rfl, rfl, rfl⟩
        · go_wp2_with (first
            | (at_builtin
               refine wpList_append_seg _ rfl (.tmp 31) (.tmp 32) 24 rfl wc.heap.size 47 i0 _ 2 16 Try.underlying24 HI.out HZ0.out HZ1.out HZ2.out rfl (by omega) (.slice A5 0 c5) 0 [] rfl hown.out A n cap (encT ts) rfl S0.out (oneCTA ts) ?_ ?_ ?_ ?_
               (unfold maxLen; omega)
               omega
               (exact hE2.size)
               (intro A9 c9 w9 hown9 hg9)))
          go_roundw
          case rel => exact ⟨1, n, ts, by omega, by go_num, .inr (.inl ⟨rfl, rfl, rfl⟩), own_ext hE2 hown.out (Nat.le_refl _) hg9, by simpa [Hid] using hown9⟩
          case measure => simp [intOf]
        · go_wp2_with (first
            | (at_builtin
               refine wpList_append_seg _ rfl (.tmp 31) (.tmp 32) 24 rfl wc.heap.size 47 i0 _ 2 16 Try.underlying24 HI.out HZ0.out HZ1.out HZ2.out rfl (by omega) (.slice A5 z c5) z (encT xs) rfl hown.out B m capb (encT us) rfl S1.out (oneCTA us) ?_ ?_ ?_ ?_
               (unfold maxLen; omega)
               omega
               (exact hE2.size)
               (intro A9 c9 w9 hown9 hg9)))
          go_roundw
          case rel => exact ⟨2, z + m, xs ++ us, by omega, by go_num, .inr (.inr ⟨rfl, rfl, rfl⟩), own_ext hE2 hown.out (Nat.le_refl _) hg9, by rw [encT_append]; exact hown9⟩
          case measure => simp [intOf]
        · clear d0 d1
          have HF := Lib.hid (own_got (w := w) hown.out HEr.out.size)
          have HFE := Lib.hid (HEr.out.trans hE2)
          go_wp2
          go_ret
          exact ⟨A5, c5, rfl, HF.out, HFE.out⟩

set_option maxRecDepth 100000 in
set_option maxHeartbeats 4000000 in
theorem implAdd_any (A : Option Addr) (n cap : Nat) (ts : List Tm) (bd : Int) (B : Option Addr) (m capb : Nat) (us : List Tm) (bd' : Int) (w : World) (hn : n ≤ maxLen) (h : Seg w 2 A n (encT ts)) (hm : m ≤ maxLen) (hb : Seg w 2 B m (encT us)) :
    Calls Try.prog 20 #[.agg #[.slice A n cap, .int .i64 bd], .agg #[.slice B m capb, .int .i64 bd']] w fun e w' => RetCB (adT ts bd us bd') (adD ts bd us bd') (adB ts bd us bd') w e w' := by
  obtain ⟨i0, hi, hz0, hz1, hz2⟩ := info_parts Try.infoTmF
  have HI := Lib.hid hi
  have HZ0 := Lib.hid hz0
  have HZ1 := Lib.hid hz1
  have HZ2 := Lib.hid hz2
  clear hi hz0 hz1 hz2
  have hno : Hid (∀ W' : World, Ext w W' → adB ts bd us bd' = false → RetCB (adT ts bd us bd') (adD ts bd us bd') (adB ts bd us bd') w (.returned (.tuple #[.agg #[.slice none 0 0, .int .i64 0], .bool false])) W') := fun W' hE hc =>
    (RetCB.zero hE).of_eq (adT_no hc).symm (adD_no hc).symm hc.symm
  have HL := Lib.hid h.lenT
  have HLb := Lib.hid hb.lenT
  by_cases hv : cvB ts bd = true
  · have HV := Lib.hid hv
    clear hv
    by_cases hv2 : cvB us bd' = true
    · have HV2 := Lib.hid hv2
      clear hv2
      have hl1 := cvB_len HV.out
      have hl2 := cvB_len HV2.out
      rw [HL.out] at hl1
      rw [HLb.out] at hl2
      have hbd1 := cvB_bd HV.out
      have hbd2 := cvB_bd HV2.out
      have hwr : IntKind.i64.wrap (bd + bd') = bd + bd' := IntWalk.i64_in _ (by omega)
      go_enter Try.func20, Try.ntmps20
      go_wp2_with fail
      refine (calls_val (implCV_any A n cap ts bd _ hn (((h.alloc _).alloc _).alloc _)) (congrArg Value.bool HV.out)).mono ?_
      rintro e w1 ⟨rfl, hE1⟩
      obtain ⟨B0, B1, B2⟩ := Blk.of3 hE1
      have HE1 := Lib.hid (((((Ext.refl w).alloc _).alloc _).alloc _).trans hE1)
      have d0 := B1.cell 0
      have d1 := B1.cell 1
      have HB0 := Lib.hid B0
      have HB1 := Lib.hid B1
      have HB2 := Lib.hid B2
      have hz1 := B2.lt
      have HA := Lib.hid h
      have HBs := Lib.hid hb
      clear B0 B1 B2 h hb hE1
      go_wp2_with fail
      refine (calls_val (implCV_any B m capb us bd' _ hm (HBs.out.ext HE1.out)) (congrArg Value.bool HV2.out)).mono ?_
      rintro e w2 ⟨rfl, hE2⟩
      have HE2 := Lib.hid (HE1.out.trans hE2)
      have K0 : Hid (∀ W, Ext w2 W → (W.cell? ⟨w.heap.size, 0, none⟩ = some (.slice A n cap) ∧ W.cell? ⟨w.heap.size, 1, none⟩ = some (.int .i64 bd) ∧ W.cell? ⟨w.heap.size + 1, 0, none⟩ = some (.slice B m capb) ∧ W.cell? ⟨w.heap.size + 1, 1, none⟩ = some (.int .i64 bd'))) := fun W e =>
        ⟨(HB0.out.ext (hE2.trans e)).cell 0, (HB0.out.ext (hE2.trans e)).cell 1, (HB1.out.ext (hE2.trans e)).cell 0, (HB1.out.ext (hE2.trans e)).cell 1⟩
      have HR2 := Lib.hid (HB2.out.ext hE2)
      have H0 := Lib.hid (HB0.out.ext hE2)
      have H1 := Lib.hid (HB1.out.ext hE2)
      have hz2 := HR2.out.lt
      clear d0 d1 hE2
      go_wp2_with fail
      have hS0 := K0.out w2.drew (Ext.refl _).drew
      refine wp_region_Z (fun W => W.cell? ⟨w.heap.size, 0, none⟩ = some (.slice A n cap) ∧ W.cell? ⟨w.heap.size, 1, none⟩ = some (.int .i64 bd) ∧ W.cell? ⟨w.heap.size + 1, 0, none⟩ = some (.slice B m capb) ∧ W.cell? ⟨w.heap.size + 1, 1, none⟩ = some (.int .i64 bd')) 15 (by kernel_rfl) ?_
      refine wpAnyZ_take 0 (v := ?_) (by kernel_rfl) rfl rfl (by kernel_rfl) (by kernel_rfl) (by kernel_rfl) (fun _ _ _ h => h) hS0 (Or.inl ⟨by rfl, ?_⟩) ?_
      rotate_left
      · (intro w hSw; (try dsimp only at hSw); go_simp; (try with_reducible rfl))
      try simp only [Act.put, List.setIfInBounds_toArray, List.set_cons_zero, List.set_cons_succ]
      refine wpAnyZ_take 1 (v := ?_) (by kernel_rfl) rfl rfl (by kernel_rfl) (by kernel_rfl) (by kernel_rfl) (fun _ _ _ h => h) hS0 (Or.inl ⟨by rfl, ?_⟩) ?_
      rotate_left
      · (intro w hSw; (try dsimp only at hSw); go_simp; (try with_reducible rfl))
      try simp only [Act.put, List.setIfInBounds_toArray, List.set_cons_zero, List.set_cons_succ]
      refine wpAnyZ_take 2 (v := ?_) (by kernel_rfl) rfl rfl (by kernel_rfl) (by kernel_rfl) (by kernel_rfl) (fun _ _ _ h => h) hS0 (Or.inl ⟨by rfl, ?_⟩) ?_
      rotate_left
      · (intro w hSw; (try dsimp only at hSw); go_simp; (try with_reducible rfl))
      try simp only [Act.put, List.setIfInBounds_toArray, List.set_cons_zero, List.set_cons_succ]
      refine wpAnyZ_take 3 (v := ?_) (by kernel_rfl) rfl rfl (by kernel_rfl) (by kernel_rfl) (by kernel_rfl) (fun _ _ _ h => h) hS0 (Or.inl ⟨by rfl, ?_⟩) ?_
      rotate_left
      · (intro w hSw; (try dsimp only at hSw); go_simp; (try with_reducible rfl))
      try simp only [Act.put, List.setIfInBounds_toArray, List.set_cons_zero, List.set_cons_succ]
      refine wpAnyZ_take 6 (v := ?_) (by kernel_rfl) rfl rfl (by kernel_rfl) (by kernel_rfl) (by kernel_rfl) (fun _ _ _ h => h) hS0 (Or.inl ⟨by rfl, ?_⟩) ?_
      rotate_left
      · (intro w hSw; (try dsimp only at hSw); go_simp; (try with_reducible rfl))
      try simp only [Act.put, List.setIfInBounds_toArray, List.set_cons_zero, List.set_cons_succ]
      refine wpAnyZ_take 7 (v := ?_) (by kernel_rfl) rfl rfl (by kernel_rfl) (by kernel_rfl) (by kernel_rfl) (fun _ _ _ h => h) hS0 (Or.inl ⟨by rfl, ?_⟩) ?_
      rotate_left
      · (intro w hSw; (try dsimp only at hSw); go_simp; (try with_reducible rfl))
      try simp only [Act.put, List.setIfInBounds_toArray, List.set_cons_zero, List.set_cons_succ]
      refine wpAnyZ_take 8 (v := ?_) (by kernel_rfl) rfl rfl (by kernel_rfl) (by kernel_rfl) (by kernel_rfl) (fun _ _ _ h => h) hS0 (Or.inl ⟨by rfl, ?_⟩) ?_
      rotate_left
      · (intro w hSw; (try dsimp only at hSw); go_simp; (try with_reducible rfl))
      try simp only [Act.put, List.setIfInBounds_toArray, List.set_cons_zero, List.set_cons_succ]
      refine wpAnyZ_take 9 (v := ?_) (by kernel_rfl) rfl rfl (by kernel_rfl) (by kernel_rfl) (by kernel_rfl) (fun _ _ _ h => h) hS0 (Or.inl ⟨by rfl, ?_⟩) ?_
      rotate_left
      · (intro w hSw; (try dsimp only at hSw); go_simp; (try with_reducible rfl))
      try simp only [Act.put, List.setIfInBounds_toArray, List.set_cons_zero, List.set_cons_succ]
      refine wpAnyZ_take 10 (v := ?_) (by kernel_rfl) rfl rfl (by kernel_rfl) (by kernel_rfl) (by kernel_rfl) (fun _ _ _ h => h) hS0 (Or.inl ⟨by rfl, ?_⟩) ?_
      rotate_left
      · (intro w hSw; (try dsimp only at hSw); go_simp; (try with_reducible rfl))
      try simp only [Act.put, List.setIfInBounds_toArray, List.set_cons_zero, List.set_cons_succ]
      refine wpAnyZ_one 4 (by kernel_rfl) rfl rfl (fun K hK => ?_)
      go_simp
      refine hK.out _ _ (K0.out _ (by first | exact ((Ext.refl _).drew).alloc _ | exact ((Ext.refl _).alloc _).drew)) ?_
      clear hK K hS0
      try simp only [Act.put, List.setIfInBounds_toArray, List.set_cons_zero, List.set_cons_succ]
      have BX : Hid (Blk ((w2.alloc (.cells #[.slice A n cap, .slice B m capb] 24)).drew) w2.heap.size 24 #[.slice A n cap, .slice B m capb]) := (Blk.new _ _ _).drew
      have EX : Ext w2 ((w2.alloc (.cells #[.slice A n cap, .slice B m capb] 24)).drew) := ((Ext.refl _).alloc _).drew
      refine wpAnyZ_one 5 (by kernel_rfl) rfl rfl (fun K hK => ?_)
      go_simp
      refine (concatT_any w2.heap.size A n cap ts B m capb us _ BX.out (by omega) ((HA.out.ext HE2.out).ext EX) (by omega) ((HBs.out.ext HE2.out).ext EX)).mono ?_
      rintro e w4 ⟨A2, k2, rfl, hG4, hE4⟩
      have EG2 : Ext w2 w4 := EX.trans hE4
      refine hK.out _ _ (K0.out w4 EG2) ?_
      clear hK K EX BX hE4
      try simp only [Act.put, List.setIfInBounds_toArray, List.set_cons_zero, List.set_cons_succ]
      have HSA := Lib.hid hG4.seg
      have HSM := Lib.hid (smT_append (cvB_sm HV.out) (cvB_sm HV2.out))
      clear hG4
      refine wpAnyZ_one 11 (by kernel_rfl) rfl rfl (fun K hK => ?_)
      go_simp
      refine (normal_any A2 (n + m) k2 (ts ++ us) (bd + bd') _ (by omega) HSA.out HSM.out (by omega)).mono ?_
      rintro e w6 ⟨A6, n6, c6, rfl, hl6, hG6, hE6⟩
      have HB := Lib.hid ((HR2.out.ext EG2).ext hE6)
      have HW5 := Lib.hid (HE2.out.trans EG2)
      have HW6 := Lib.hid ((HE2.out.trans EG2).trans hE6)
      have EG6 := Lib.hid (EG2.trans hE6)
      have hz5 := (HR2.out.ext EG2).lt
      have hzz := HB.out.lt
      have r0 := HB.out.cell 0
      have r1 := HB.out.cell 1
      have q0 := HB.out.frozen 0
      have q1 := HB.out.frozen 1
      have HG6 := Lib.hid hG6
      have HL6 := Lib.hid hl6
      have hS6 := K0.out w6 EG6.out
      refine hK.out _ _ hS6 ?_
      clear hK K EG2 hE6 hG6 hl6
      try simp only [Act.put, List.setIfInBounds_toArray, List.set_cons_zero, List.set_cons_succ]
      refine wpAnyZ_take 12 (v := ?_) (by kernel_rfl) rfl rfl (by kernel_rfl) (by kernel_rfl) (by kernel_rfl) (fun _ _ _ h => h) hS6 (Or.inl ⟨by rfl, ?_⟩) ?_
      rotate_left
      · (intro w hSw; (try dsimp only at hSw); go_simp; (try with_reducible rfl))
      try simp only [Act.put, List.setIfInBounds_toArray, List.set_cons_zero, List.set_cons_succ]
      refine wpAnyZ_take 13 (v := ?_) (by kernel_rfl) rfl rfl (by kernel_rfl) (by kernel_rfl) (by kernel_rfl) (fun _ _ _ h => h) hS6 (Or.inl ⟨by rfl, ?_⟩) ?_
      rotate_left
      · (intro w hSw; (try dsimp only at hSw); go_simp; (try with_reducible rfl))
      try simp only [Act.put, List.setIfInBounds_toArray, List.set_cons_zero, List.set_cons_succ]
      refine wpAnyZ_one 14 (by kernel_rfl) rfl rfl (fun K hK => ?_)
      go_simp
      have KR : Kept (w.heap.size + 1 + 1) (w.heap.size + 1 + 1 + 1) w6 ((w6.setCell ⟨w.heap.size + 1 + 1, 0, none⟩ (.slice A6 n6 c6)).setCell ⟨w.heap.size + 1 + 1, 1, none⟩ (.int .i64 (vD (ts ++ us) (bd + bd')))) := ((Kept.refl _ _ w6).setIn (p := ⟨w.heap.size + 1 + 1, 0, none⟩) (by simp) (.slice A6 n6 c6)).setIn (p := ⟨w.heap.size + 1 + 1, 1, none⟩) (by simp) (.int .i64 (vD (ts ++ us) (bd + bd')))
      have L0 := (H0.out.ext EG6.out).kept KR (.inl (by omega))
      have L1 := (H1.out.ext EG6.out).kept KR (.inl (by omega))
      refine hK.out _ _ ⟨L0.cell 0, L0.cell 1, L1.cell 0, L1.cell 1⟩ ?_
      clear hK K L0 L1
      try simp only [Act.put, List.setIfInBounds_toArray, List.set_cons_zero, List.set_cons_succ]
      refine wpAnyZ_last (by kernel_rfl) (by kernel_rfl) rfl rfl (fun K hK => ?_)
      go_simp
      refine hK.out _ _ ?_
      clear hK K hS6
      obtain ⟨e1, e2, e3⟩ := ad_v HV.out HV2.out
      have HE1' := Lib.hid e1
      have HE2' := Lib.hid e2
      have HE3' := Lib.hid e3
      have HKR := Lib.hid KR
      clear e1 e2 e3 KR
      go_wp2
      refine bodyPost_ret (v := .tuple #[.agg #[.slice A6 n6 c6, .int .i64 (vD (ts ++ us) (bd + bd'))], .bool (noB (ts ++ us) (bd + bd'))]) (by simp [results, Try.results20, go_sem, r0, r1]; try rfl) rfl ?_
      refine RetCB.of_eq ?_ HE1'.out HE2'.out HE3'.out
      exact ⟨A6, n6, c6, rfl, HL6.out, (HG6.out.kept HKR.out (by omega)).from_ HW5.out, HW6.out.fresh HKR.out (by omega)⟩
    · have hf : cvB us bd' = false := by simpa using hv2
      have HV2 := Lib.hid hf
      have HO : Hid (adB ts bd us bd' = false) := by unfold adB Hid; rw [hf]; simp
      clear hv2 hf
      go_enter Try.func20, Try.ntmps20
      go_wp2_with fail
      refine (calls_val (implCV_any A n cap ts bd _ hn (((h.alloc _).alloc _).alloc _)) (congrArg Value.bool HV.out)).mono ?_
      rintro e w1 ⟨rfl, hE1⟩
      obtain ⟨B0, B1, B2⟩ := Blk.of3 hE1
      have HE1 := Lib.hid (((((Ext.refl w).alloc _).alloc _).alloc _).trans hE1)
      have d0 := B1.cell 0
      have d1 := B1.cell 1
      have HB2 := Lib.hid B2
      have hz1 := B2.lt
      have HBs := Lib.hid hb
      clear B0 B1 B2 h hb hE1
      go_wp2_with fail
      refine (calls_val (implCV_any B m capb us bd' _ hm (HBs.out.ext HE1.out)) (congrArg Value.bool HV2.out)).mono ?_
      rintro e w2 ⟨rfl, hE2⟩
      have HE2 := Lib.hid (HE1.out.trans hE2)
      have HR2 := Lib.hid (HB2.out.ext hE2)
      have r0 := HR2.out.cell 0
      have r1 := HR2.out.cell 1
      have q0 := HR2.out.frozen 0
      have q1 := HR2.out.frozen 1
      have hz2 := HR2.out.lt
      clear d0 d1 hE2
      go_wp2
      refine bodyPost_ret (v := .tuple #[.agg #[.slice none 0 0, .int .i64 0], .bool false]) (by simp [results, Try.results20, go_sem, r0, r1]) rfl ?_
      exact hno.out _ ((HE2.out.setNew (by simp only; omega) _).setNew (by simp only; omega) _) HO.out
  · have hf : cvB ts bd = false := by simpa using hv
    have HV := Lib.hid hf
    have HO : Hid (adB ts bd us bd' = false) := by unfold adB Hid; rw [hf]; simp
    clear hv hf hb
    go_enter Try.func20, Try.ntmps20
    go_wp2_with fail
    refine (calls_val (implCV_any A n cap ts bd _ hn (((h.alloc _).alloc _).alloc _)) (congrArg Value.bool HV.out)).mono ?_
    rintro e w1 ⟨rfl, hE1⟩
    obtain ⟨B0, B1, B2⟩ := Blk.of3 hE1
    have HE1 := Lib.hid (((((Ext.refl w).alloc _).alloc _).alloc _).trans hE1)
    have r0 := B2.cell 0
    have r1 := B2.cell 1
    have q0 := B2.frozen 0
    have q1 := B2.frozen 1
    have hz2 := B2.lt
    clear B0 B1 B2 h hE1
    go_wp2
    refine bodyPost_ret (v := .tuple #[.agg #[.slice none 0 0, .int .i64 0], .bool false]) (by simp [results, Try.results20, go_sem, r0, r1]) rfl ?_
    exact hno.out _ ((HE1.out.setNew (by simp only; omega) _).setNew (by simp only; omega) _) HO.out
end Go.Proofs.Ytmbdfnimmjomfaa
