/- AddConstraints: the reference's. -/
import Derived.Test.YtmbdfnimmjomfaaNFs

namespace Go.Proofs.Ytmbdfnimmjomfaa
open Go.RowKit

theorem ad_v {ts : List Tm} {bd : Int} {us : List Tm} {bd' : Int} (h1 : cvB ts bd = true) (h2 : cvB us bd' = true) : vT (ts ++ us) (bd + bd') = adT ts bd us bd' ∧ vD (ts ++ us) (bd + bd') = adD ts bd us bd' ∧ noB (ts ++ us) (bd + bd') = adB ts bd us bd' := by
  have e : adB ts bd us bd' = noB (ts ++ us) (bd + bd') := by unfold adB; rw [h1, h2]; rfl
  unfold vT vD adT adD
  rw [e]; exact ⟨rfl, rfl, rfl⟩
theorem oneCTA (ts : List Tm) : ∀ u ∈ encT ts, u.oneCell' = true := by
  induction ts with
  | nil => intro u hu; simp [encT] at hu
  | cons t ts ih =>
    intro u hu
    simp only [encT, List.mem_cons] at hu
    rcases hu with rfl | rfl | hu
    · rfl
    · rfl
    · exact ih u hu

set_option maxRecDepth 100000 in
set_option maxHeartbeats 4000000 in
theorem specAdd_any (A : Option Addr) (n cap : Nat) (ts : List Tm) (bd : Int) (B : Option Addr) (m capb : Nat) (us : List Tm) (bd' : Int) (w : World) (hn : n ≤ maxLen) (h : Seg w 2 A n (encT ts)) (hm : m ≤ maxLen) (hb : Seg w 2 B m (encT us)) :
    Calls Try.prog 18 #[.agg #[.slice A n cap, .int .i64 bd], .agg #[.slice B m capb, .int .i64 bd']] w fun e w' => RetCB (adT ts bd us bd') (adD ts bd us bd') (adB ts bd us bd') w e w' := by
  obtain ⟨i0, hi, hz0, hz1, hz2⟩ := info_parts Try.infoTmF
  have HI := Lib.hid hi
  have HZ0 := Lib.hid hz0
  have HZ1 := Lib.hid hz1
  have HZ2 := Lib.hid hz2
  clear hi hz0 hz1 hz2
  have hno : Hid (∀ W' : World, Ext w W' → adB ts bd us bd' = false → RetCB (adT ts bd us bd') (adD ts bd us bd') (adB ts bd us bd') w (.returned (.tuple #[.agg #[.slice none 0 0, .int .i64 0], .bool false])) W') := fun W' hE hc =>
    (RetCB.zero hE).of_eq (adT_no hc).symm (adD_no hc).symm hc.symm
  have HL := Lib.hid h.lenT
  have HLb := Lib.hid hb.lenT
  by_cases hv : cvB ts bd = true
  · have HV := Lib.hid hv
    clear hv
    by_cases hv2 : cvB us bd' = true
    · have HV2 := Lib.hid hv2
      clear hv2
      have hl1 := cvB_len HV.out
      have hl2 := cvB_len HV2.out
      rw [HL.out] at hl1
      rw [HLb.out] at hl2
      have hbd1 := cvB_bd HV.out
      have hbd2 := cvB_bd HV2.out
      have hwr : IntKind.i64.wrap (bd + bd') = bd + bd' := IntWalk.i64_in _ (by omega)
      go_enter Try.func18, Try.ntmps18
      go_wp2_with fail
      refine (calls_val (specCV_any A n cap ts bd _ hn (((h.alloc _).alloc _).alloc _)) (congrArg Value.bool HV.out)).mono ?_
      rintro e w1 ⟨rfl, hE1⟩
      obtain ⟨B0, B1, B2⟩ := Blk.of3 hE1
      have HE1 := Lib.hid (((((Ext.refl w).alloc _).alloc _).alloc _).trans hE1)
      have d0 := B1.cell 0
      have d1 := B1.cell 1
      have HB0 := Lib.hid B0
      have HB1 := Lib.hid B1
      have HB2 := Lib.hid B2
      have hz1 := B2.lt
      have HA := Lib.hid h
      have HBs := Lib.hid hb
      clear B0 B1 B2 h hb hE1
      go_wp2_with fail
      refine (calls_val (specCV_any B m capb us bd' _ hm (HBs.out.ext HE1.out)) (congrArg Value.bool HV2.out)).mono ?_
      rintro e w2 ⟨rfl, hE2⟩
      have HE2 := Lib.hid (HE1.out.trans hE2)
      have K0 : Hid (∀ W, Ext w2 W → (W.cell? ⟨w.heap.size, 0, none⟩ = some (.slice A n cap) ∧ W.cell? ⟨w.heap.size, 1, none⟩ = some (.int .i64 bd) ∧ W.cell? ⟨w.heap.size + 1, 0, none⟩ = some (.slice B m capb) ∧ W.cell? ⟨w.heap.size + 1, 1, none⟩ = some (.int .i64 bd'))) := fun W e =>
        ⟨(HB0.out.ext (hE2.trans e)).cell 0, (HB0.out.ext (hE2.trans e)).cell 1, (HB1.out.ext (hE2.trans e)).cell 0, (HB1.out.ext (hE2.trans e)).cell 1⟩
      have HR2 := Lib.hid (HB2.out.ext hE2)
      have hz2 := HR2.out.lt
      clear d0 d1 hE2
      go_wp2_with fail
      have hS0 := K0.out w2.drew (Ext.refl _).drew
      refine wp_region_Z (fun W => W.cell? ⟨w.heap.size, 0, none⟩ = some (.slice A n cap) ∧ W.cell? ⟨w.heap.size, 1, none⟩ = some (.int .i64 bd) ∧ W.cell? ⟨w.heap.size + 1, 0, none⟩ = some (.slice B m capb) ∧ W.cell? ⟨w.heap.size + 1, 1, none⟩ = some (.int .i64 bd')) 17 (by kernel_rfl) ?_
      refine wpAnyZ_take 1 (v := ?_) (by kernel_rfl) rfl rfl (by kernel_rfl) (by kernel_rfl) (by kernel_rfl) (fun _ _ _ h => h) hS0 (Or.inl ⟨by rfl, ?_⟩) ?_
      rotate_left
      · (intro w hSw; (try dsimp only at hSw); go_simp; (try with_reducible rfl))
      try simp only [Act.put, List.setIfInBounds_toArray, List.set_cons_zero, List.set_cons_succ]
      refine wpAnyZ_take 2 (v := ?_) (by kernel_rfl) rfl rfl (by kernel_rfl) (by kernel_rfl) (by kernel_rfl) (fun _ _ _ h => h) hS0 (Or.inl ⟨by rfl, ?_⟩) ?_
      rotate_left
      · (intro w hSw; (try dsimp only at hSw); go_simp; (try with_reducible rfl))
      try simp only [Act.put, List.setIfInBounds_toArray, List.set_cons_zero, List.set_cons_succ]
      refine wpAnyZ_take 4 (v := ?_) (by kernel_rfl) rfl rfl (by kernel_rfl) (by kernel_rfl) (by kernel_rfl) (fun _ _ _ h => h) hS0 (Or.inl ⟨by rfl, ?_⟩) ?_
      rotate_left
      · (intro w hSw; (try dsimp only at hSw); go_simp; (try with_reducible rfl))
      try simp only [Act.put, List.setIfInBounds_toArray, List.set_cons_zero, List.set_cons_succ]
      refine wpAnyZ_take 5 (v := ?_) (by kernel_rfl) rfl rfl (by kernel_rfl) (by kernel_rfl) (by kernel_rfl) (fun _ _ _ h => h) hS0 (Or.inl ⟨by rfl, ?_⟩) ?_
      rotate_left
      · (intro w hSw; (try dsimp only at hSw); go_simp; (try with_reducible rfl))
      try simp only [Act.put, List.setIfInBounds_toArray, List.set_cons_zero, List.set_cons_succ]
      refine wpAnyZ_take 7 (v := ?_) (by kernel_rfl) rfl rfl (by kernel_rfl) (by kernel_rfl) (by kernel_rfl) (fun _ _ _ h => h) hS0 (Or.inl ⟨by rfl, ?_⟩) ?_
      rotate_left
      · (intro w hSw; (try dsimp only at hSw); go_simp; (try with_reducible rfl))
      try simp only [Act.put, List.setIfInBounds_toArray, List.set_cons_zero, List.set_cons_succ]
      refine wpAnyZ_take 8 (v := ?_) (by kernel_rfl) rfl rfl (by kernel_rfl) (by kernel_rfl) (by kernel_rfl) (fun _ _ _ h => h) hS0 (Or.inl ⟨by rfl, ?_⟩) ?_
      rotate_left
      · (intro w hSw; (try dsimp only at hSw); go_simp; (try with_reducible rfl))
      try simp only [Act.put, List.setIfInBounds_toArray, List.set_cons_zero, List.set_cons_succ]
      refine wpAnyZ_take 9 (v := ?_) (by kernel_rfl) rfl rfl (by kernel_rfl) (by kernel_rfl) (by kernel_rfl) (fun _ _ _ h => h) hS0 (Or.inl ⟨by rfl, ?_⟩) ?_
      rotate_left
      · (intro w hSw; (try dsimp only at hSw); go_simp; (try with_reducible rfl))
      try simp only [Act.put, List.setIfInBounds_toArray, List.set_cons_zero, List.set_cons_succ]
      refine wpAnyZ_take 10 (v := ?_) (by kernel_rfl) rfl rfl (by kernel_rfl) (by kernel_rfl) (by kernel_rfl) (fun _ _ _ h => h) hS0 (Or.inl ⟨by rfl, ?_⟩) ?_
      rotate_left
      · (intro w hSw; (try dsimp only at hSw); go_simp; (try with_reducible rfl))
      try simp only [Act.put, List.setIfInBounds_toArray, List.set_cons_zero, List.set_cons_succ]
      refine wpAnyZ_take 11 (v := ?_) (by kernel_rfl) rfl rfl (by kernel_rfl) (by kernel_rfl) (by kernel_rfl) (fun _ _ _ h => h) hS0 (Or.inl ⟨by rfl, ?_⟩) ?_
      rotate_left
      · (intro w hSw; (try dsimp only at hSw); go_simp; (try with_reducible rfl))
      try simp only [Act.put, List.setIfInBounds_toArray, List.set_cons_zero, List.set_cons_succ]
      refine wpAnyZ_one 0 (by kernel_rfl) rfl rfl (fun K hK => ?_)
      go_simp
      refine hK.out _ _ (K0.out _ (by first | exact ((Ext.refl _).drew).alloc _ | exact ((Ext.refl _).alloc _).drew)) ?_
      clear hK K hS0
      try simp only [Act.put, List.setIfInBounds_toArray, List.set_cons_zero, List.set_cons_succ]
      have OE := own_empty w2 w2.heap.size 47 2 (Nat.le_refl _)
      refine wpAnyZ_one 3 (by kernel_rfl) rfl rfl (fun K hK => ?_)
      refine wp_append_seg _ _ _ _ (by rfl) w2.heap.size 47 i0 _ 2 16 Try.underlying24 HI.out HZ0.out HZ1.out HZ2.out rfl (by omega) _ 0 [] (by rfl) OE.drew A n cap (encT ts) (by rfl) ((((HA.out.ext HE2.out).alloc _)).ext (Ext.refl _).drew) (oneCTA ts) (by unfold maxLen; omega) (by omega) (by simp) ?_
      intro A1 k1 w3 hown1 hg1
      rw [List.nil_append] at hown1
      simp only [Nat.zero_add] at hown1 ⊢
      have EG1 : Ext w2 w3 := ((Ext.refl _).alloc _).drew.grown hg1 (fun k hk => by simp [Value.ownBlock] at hk; omega)
      refine hK.out _ _ (K0.out w3 EG1) ?_
      clear hK K OE hg1
      try simp only [Act.put, List.setIfInBounds_toArray, List.set_cons_zero, List.set_cons_succ]
      refine wpAnyZ_one 6 (by kernel_rfl) rfl rfl (fun K hK => ?_)
      refine wp_append_seg _ _ _ _ (by rfl) w2.heap.size 47 i0 _ 2 16 Try.underlying24 HI.out HZ0.out HZ1.out HZ2.out rfl (by omega) (.slice A1 n k1) n (encT ts) (by rfl) hown1 B m capb (encT us) (by rfl) ((HBs.out.ext HE2.out).ext EG1) (oneCTA us) (by unfold maxLen; omega) (by omega) (EG1.size) ?_
      intro A2 k2 w4 hown2 hg2
      have EG2 : Ext w2 w4 := own_ext EG1 hown1 (Nat.le_refl _) hg2
      rw [← encT_append] at hown2
      refine hK.out _ _ (K0.out w4 EG2) ?_
      clear hK K hown1 EG1 hg2
      try simp only [Act.put, List.setIfInBounds_toArray, List.set_cons_zero, List.set_cons_succ]
      have HSA := Lib.hid (own_parts hown2).1
      have HSM := Lib.hid (smT_append (cvB_sm HV.out) (cvB_sm HV2.out))
      clear hown2
      refine wpAnyZ_one 12 (by kernel_rfl) rfl rfl (fun K hK => ?_)
      go_simp
      refine (l1Net_any A2 (n + m) k2 (ts ++ us) (bd + bd') _ (by omega) HSA.out HSM.out (by omega)).mono ?_
      rintro e w5 ⟨A3, c3, rfl, hG3, hE3⟩
      have EG5 := Lib.hid (EG2.trans hE3)
      have HG3 := Lib.hid hG3.seg
      have hS5 := K0.out w5 EG5.out
      refine hK.out _ _ hS5 ?_
      clear hK K EG2 hG3 hE3
      try simp only [Act.put, List.setIfInBounds_toArray, List.set_cons_zero, List.set_cons_succ]
      refine wpAnyZ_take 13 (v := ?_) (by kernel_rfl) rfl rfl (by kernel_rfl) (by kernel_rfl) (by kernel_rfl) (fun _ _ _ h => h) hS5 (Or.inl ⟨by rfl, ?_⟩) ?_
      rotate_left
      · (intro w hSw; (try dsimp only at hSw); go_simp; (try with_reducible rfl))
      try simp only [Act.put, List.setIfInBounds_toArray, List.set_cons_zero, List.set_cons_succ]
      refine wpAnyZ_take 14 (v := ?_) (by kernel_rfl) rfl rfl (by kernel_rfl) (by kernel_rfl) (by kernel_rfl) (fun _ _ _ h => h) hS5 (Or.inl ⟨by rfl, ?_⟩) ?_
      rotate_left
      · (intro w hSw; (try dsimp only at hSw); go_simp; (try with_reducible rfl))
      try simp only [Act.put, List.setIfInBounds_toArray, List.set_cons_zero, List.set_cons_succ]
      refine wpAnyZ_take 15 (v := ?_) (by kernel_rfl) rfl rfl (by kernel_rfl) (by kernel_rfl) (by kernel_rfl) (fun _ _ _ h => h) hS5 (Or.inl ⟨by rfl, ?_⟩) ?_
      rotate_left
      · (intro w hSw; (try dsimp only at hSw); go_simp; (try with_reducible rfl))
      try simp only [Act.put, List.setIfInBounds_toArray, List.set_cons_zero, List.set_cons_succ]
      refine wpAnyZ_one 16 (by kernel_rfl) rfl rfl (fun K hK => ?_)
      go_simp
      refine hK.out _ _ hS5 ?_
      clear hK K
      try simp only [Act.put, List.setIfInBounds_toArray, List.set_cons_zero, List.set_cons_succ]
      refine wpAnyZ_last (by kernel_rfl) (by kernel_rfl) rfl rfl (fun K hK => ?_)
      go_simp
      refine hK.out _ _ ?_
      clear hK K hS5
      obtain ⟨e1, e2, e3⟩ := ad_v HV.out HV2.out
      have HE1' := Lib.hid e1
      have HE2' := Lib.hid e2
      have HE3' := Lib.hid e3
      clear e1 e2 e3
      go_wp2_with fail
      refine (l1Normal_any A3 c3 (ts ++ us) (bd + bd') _ HG3.out (by rw [List.length_append, HL.out, HLb.out]; omega) HSM.out (by omega)).mono ?_
      rintro e w6 ⟨A6, n6, c6, rfl, hl6, hG6, hE6⟩
      have HB := Lib.hid ((HR2.out.ext EG5.out).ext hE6)
      have HW5 := Lib.hid (HE2.out.trans EG5.out)
      have HW6 := Lib.hid ((HE2.out.trans EG5.out).trans hE6)
      have hz5 := (HR2.out.ext EG5.out).lt
      have hzz := HB.out.lt
      have r0 := HB.out.cell 0
      have r1 := HB.out.cell 1
      have q0 := HB.out.frozen 0
      have q1 := HB.out.frozen 1
      have HG6 := Lib.hid hG6
      have HL6 := Lib.hid hl6
      clear hE6 hG6 hl6
      go_wp2
      refine bodyPost_ret (v := .tuple #[.agg #[.slice A6 n6 c6, .int .i64 (vD (ts ++ us) (bd + bd'))], .bool (noB (ts ++ us) (bd + bd'))]) (by simp [results, Try.results18, go_sem, r0, r1]; try rfl) rfl ?_
      have K : Kept (w.heap.size + 1 + 1) (w.heap.size + 1 + 1 + 1) w6 _ := ((Kept.refl _ _ w6).setIn (p := ⟨w.heap.size + 1 + 1, 0, none⟩) (by simp) (.slice A6 n6 c6)).setIn (p := ⟨w.heap.size + 1 + 1, 1, none⟩) (by simp) (.int .i64 (vD (ts ++ us) (bd + bd')))
      refine RetCB.of_eq ?_ HE1'.out HE2'.out HE3'.out
      exact ⟨A6, n6, c6, rfl, HL6.out, (HG6.out.kept K (by omega)).from_ HW5.out, (HW6.out.setNew (by simp only; omega) _).setNew (by simp only; omega) _⟩
    · have hf : cvB us bd' = false := by simpa using hv2
      have HV2 := Lib.hid hf
      have HO : Hid (adB ts bd us bd' = false) := by unfold adB Hid; rw [hf]; simp
      clear hv2 hf
      go_enter Try.func18, Try.ntmps18
      go_wp2_with fail
      refine (calls_val (specCV_any A n cap ts bd _ hn (((h.alloc _).alloc _).alloc _)) (congrArg Value.bool HV.out)).mono ?_
      rintro e w1 ⟨rfl, hE1⟩
      obtain ⟨B0, B1, B2⟩ := Blk.of3 hE1
      have HE1 := Lib.hid (((((Ext.refl w).alloc _).alloc _).alloc _).trans hE1)
      have d0 := B1.cell 0
      have d1 := B1.cell 1
      have HB2 := Lib.hid B2
      have hz1 := B2.lt
      have HBs := Lib.hid hb
      clear B0 B1 B2 h hb hE1
      go_wp2_with fail
      refine (calls_val (specCV_any B m capb us bd' _ hm (HBs.out.ext HE1.out)) (congrArg Value.bool HV2.out)).mono ?_
      rintro e w2 ⟨rfl, hE2⟩
      have HE2 := Lib.hid (HE1.out.trans hE2)
      have HR2 := Lib.hid (HB2.out.ext hE2)
      have r0 := HR2.out.cell 0
      have r1 := HR2.out.cell 1
      have q0 := HR2.out.frozen 0
      have q1 := HR2.out.frozen 1
      have hz2 := HR2.out.lt
      clear d0 d1 hE2
      go_wp2
      refine bodyPost_ret (v := .tuple #[.agg #[.slice none 0 0, .int .i64 0], .bool false]) (by simp [results, Try.results18, go_sem, r0, r1]) rfl ?_
      exact hno.out _ ((HE2.out.setNew (by simp only; omega) _).setNew (by simp only; omega) _) HO.out
  · have hf : cvB ts bd = false := by simpa using hv
    have HV := Lib.hid hf
    have HO : Hid (adB ts bd us bd' = false) := by unfold adB Hid; rw [hf]; simp
    clear hv hf hb
    go_enter Try.func18, Try.ntmps18
    go_wp2_with fail
    refine (calls_val (specCV_any A n cap ts bd _ hn (((h.alloc _).alloc _).alloc _)) (congrArg Value.bool HV.out)).mono ?_
    rintro e w1 ⟨rfl, hE1⟩
    obtain ⟨B0, B1, B2⟩ := Blk.of3 hE1
    have HE1 := Lib.hid (((((Ext.refl w).alloc _).alloc _).alloc _).trans hE1)
    have r0 := B2.cell 0
    have r1 := B2.cell 1
    have q0 := B2.frozen 0
    have q1 := B2.frozen 1
    have hz2 := B2.lt
    clear B0 B1 B2 h hE1
    go_wp2
    refine bodyPost_ret (v := .tuple #[.agg #[.slice none 0 0, .int .i64 0], .bool false]) (by simp [results, Try.results18, go_sem, r0, r1]) rfl ?_
    exact hno.out _ ((HE1.out.setNew (by simp only; omega) _).setNew (by simp only; omega) _) HO.out
end Go.Proofs.Ytmbdfnimmjomfaa
