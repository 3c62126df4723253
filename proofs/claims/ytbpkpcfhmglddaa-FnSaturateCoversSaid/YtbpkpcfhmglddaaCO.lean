/- ClauseOf: the reference's. -/
import Derived.Test.YtbpkpcfhmglddaaPlCO
import Derived.Test.YtbpkpcfhmglddaaMemE
import Derived.Test.YtbpkpcfhmglddaaMk
import Derived.Test.YtbpkpcfhmglddaaLastS
import Derived.Deep.AppendLies
import Derived.Deep.QuietTactic
namespace Go.Proofs.Ytbpkpcfhmglddaa
open Go.RowKit

theorem Try.infoTmO : (Try.prog.info? 38).map (fun i => (i.zero, i.size, i.bytes)) = some (some (.agg #[.int .i64 0, .int .i64 0]), 2, 16) := by kernel_rfl

set_option maxRecDepth 100000 in
set_option maxHeartbeats 4000000 in
theorem specCO_any (A : Option Addr) (n cap : Nat) (zs : List Int) (w : World) (hn : n ≤ maxLen) (h : Seg w 1 A n (encI zs)) :
    Calls Try.prog 6 #[.slice A n cap] w fun e w' => RetCB (coT zs) (coD zs) (coB zs) w e w' := by
  have hno : Hid (∀ W W' : World, Ext w W' → coB zs = false → RetCB (coT zs) (coD zs) (coB zs) w (.returned (.tuple #[.agg #[.slice none 0 0, .int .i64 0], .bool false])) W') := fun W W' hE hc =>
    (RetCB.zero hE).of_eq (by unfold coT; rw [if_neg (by rw [hc]; simp)]) (by unfold coD; rw [if_neg (by rw [hc]; simp)]) hc.symm
  have HL := Lib.hid h.lenI
  have hmk := Try.mkI13
  obtain ⟨i0, hi, hz0, hz1, hz2⟩ := info_parts Try.infoTmO
  have HI := Lib.hid hi
  have HZ0 := Lib.hid hz0
  have HZ1 := Lib.hid hz1
  have HZ2 := Lib.hid hz2
  clear hi hz0 hz1 hz2
  unfold maxLen at hn
  by_cases h40 : 40 < n
  · have hc : Hid (coB zs = false) := by unfold coB Hid; rw [decide_eq_false (by rw [HL.out]; omega)]; rfl
    clear h
    go_enter Try.func6, Try.ntmps6
    go_wp2
    refine bodyPost_ret (v := .tuple #[.agg #[.slice none 0 0, .int .i64 0], .bool false]) (by simp [results, Try.results6, go_sem]) rfl ?_
    refine hno.out w _ ?_ hc.out
    repeat (first | exact Ext.refl _ | refine Ext.setNew ?_ (by simp) _ | refine Ext.alloc ?_ _)
  have hN := Lib.hid h
  clear h
  go_enter Try.func6, Try.ntmps6
  go_wp2_with fail
  clear hmk
  go_loopw [5] (fun i wr => ∃ (k : Nat), k ≤ n ∧ i = .int .i64 k ∧ Ext w wr ∧ Hid (Blk wr w.heap.size 25 #[.slice none 0 0, .int .i64 0]) ∧ Hid (coOk (zs.take k) = true) ∧ Hid (Blk wr (w.heap.size + 1) 3 (encI (seenL (zs.take k))).toArray)) (fun i _ => n - (intOf i).toNat)
  case atStart =>
    refine ⟨0, by omega, rfl, ((Ext.refl _).alloc _).alloc _, (Blk.new _ _ _).alloc _, rfl, ?_⟩
    have := Blk.new (w.alloc (.cells #[.slice none 0 0, .int .i64 0] 25)) 3 (encI (seenL [])).toArray
    rw [World.size_alloc] at this
    exact this
  case round =>
    obtain ⟨k, hk, rfl, hE, hB0, hok, hBs⟩ := hrel
    have r0 := hB0.out.cell 0
    have r1 := hB0.out.cell 1
    have q0 := hB0.out.frozen 0
    have q1 := hB0.out.frozen 1
    have hzr := hBs.out.lt
    by_cases hlt : k < n
    · obtain ⟨b, off, z, rfl, hx, c1⟩ := (hN.out.ext hE).int hlt
      have hbl := World.block_lt_of_cell? _ _ c1
      simp only at hbl
      have htk := take_of_get _ _ _ hx
      by_cases hl : litB z = true
      · have HLt := Lib.hid hl
        have hlb := (litB_iff z).1 hl
        have hp := absI_pos hl
        obtain ⟨m, hm⟩ : ∃ m : Nat, absI z = (m : Int) := ⟨(absI z).toNat, by omega⟩
        have HM := Lib.hid hm
        obtain ⟨x, hx1, _⟩ := seenL_at (zs.take k) (fun l hl => (coOk_lit hok.out l hl).1) m (by omega)
        have hsn := coOk_snoc hok.out hl
        rw [← htk, hm, toNat_cast, hx1] at hsn
        have hs1 : Hid (seenL (zs.take (k + 1)) = (seenL (zs.take k)).set m z) := by rw [htk, seenL_snoc, hm]; rfl
        have HSN := Lib.hid hsn
        have cs : wr.cell? ⟨w.heap.size + 1, m, none⟩ = some (.int .i64 x) := by
          rw [hBs.out.cell]; simp [encI, hx1]
        have fs := hBs.out.frozen m
        have hm13 : (m : Int) < 13 := by omega
        have hm0 : (0 : Int) ≤ (m : Int) := Int.natCast_nonneg _
        have k0 : (0 : Int) ≤ (k : Int) := Int.natCast_nonneg _
        have k1 : (k : Int) < (n : Int) := by omega
        have wn : IntKind.i64.wrap (-z) = -z := IntWalk.i64_in _ (by omega)
        clear hx htk hl hm hx1 hsn
        go_wp2_with fail
        refine (calls_val (l1Lit_any z _) (congrArg Value.bool HLt.out)).mono ?_
        rintro e w1 ⟨rfl, rfl⟩
        go_wp2_with fail
        refine (calls_val (l1Abs_any z _ (by omega) (by omega)) (congrArg (Value.int .i64) HM.out)).mono ?_
        rintro e w1 ⟨rfl, rfl⟩
        by_cases hxz : x = -z
        · have hb : (x == -z) = true := by simpa using hxz
          have hc : Hid (coB zs = false) := coB_no (coOk_no (k := k + 1) (by
            cases hcc : coOk (zs.take (k + 1)) with
            | false => rfl
            | true => exact absurd (by rw [hxz]) (HSN.out.1 hcc)))
          clear hxz
          go_wp2_with fail
          go_quiet (fail)
          clear wn
          go_wp2
          refine bodyPost_ret (v := .tuple #[.agg #[.slice none 0 0, .int .i64 0], .bool false]) (by simp [results, Try.results6, go_sem, r0, r1]) rfl ?_
          exact hno.out w _ ((((hE.drewN _)).setNew (by simp) _).setNew (by simp) _) hc.out
        · have hb : (x == -z) = false := by simpa using hxz
          have hok2 : Hid (coOk (zs.take (k + 1)) = true) := HSN.out.2 fun e => hxz (by injection e)
          clear hxz
          go_wp2_with fail
          go_quiet (fail)
          clear wn hb
          go_wp2
          go_roundw
          case rel =>
            refine ⟨k + 1, by omega, by go_num, (hE.drewN _).setNew (by simp) _, (hB0.out.drewN _).far (p := ⟨w.heap.size + 1, m, none⟩) (by simp) _, hok2.out, ?_⟩
            rw [hs1.out, ← encI_set1]
            exact (hBs.out.drewN _).set_ m _
          case measure => simp [intOf]; omega
      · have hl' : litB z = false := by simpa using hl
        have hc : Hid (coB zs = false) := coB_no (coOk_no (k := k + 1) (by
          cases hcc : coOk (zs.take (k + 1)) with
          | false => rfl
          | true => exact absurd (coOk_lit hcc z (by rw [htk]; simp)).1 hl))
        have HLf := Lib.hid hl'
        clear hx htk hl hl'
        go_wp2_with fail
        refine (calls_val (l1Lit_any z _) (congrArg Value.bool HLf.out)).mono ?_
        rintro e w1 ⟨rfl, rfl⟩
        go_wp2
        refine bodyPost_ret (v := .tuple #[.agg #[.slice none 0 0, .int .i64 0], .bool false]) (by simp [results, Try.results6, go_sem, r0, r1]) rfl ?_
        exact hno.out w _ ((hE.setNew (by simp) _).setNew (by simp) _) hc.out
    · obtain rfl : k = n := by omega
      rw [List.take_of_length_le (by rw [HL.out]; omega)] at hok hBs
      obtain ⟨w5, rfl⟩ : ∃ x, x = wr := ⟨wr, rfl⟩
      have HO : Hid (coB zs = true) := coB_of (by rw [HL.out]; omega) hok.out
      generalize hS : seenL zs = S at hBs
      have HS := Lib.hid hS
      have HSl : Hid (S.length = 13) := by rw [← hS]; exact seenL_len zs
      have HE := Lib.hid hE
      clear r0 r1 q0 q1 hS hE hN
      go_wp2_with fail
      go_loopw [8] (fun i wr => ∃ (v : Nat), 1 ≤ v ∧ v ≤ 13 ∧ i = .int .i64 v ∧ Ext w wr ∧ Hid (Blk wr w.heap.size 25 #[.slice none 0 0, .int .i64 0]) ∧ Hid (Blk wr (w.heap.size + 1) 3 (encI S).toArray) ∧ ∃ (s : Value) (j : Nat), (coUp S (v - 1)).length = j ∧ j + 1 ≤ v ∧ Hid (Blk wr w5.heap.size 25 #[s, .int .i64 1]) ∧ Hid (wr.ownsRow (w5.heap.size + 1) 38 2 s j (encT (coUp S (v - 1))))) (fun i _ => 13 - (intOf i).toNat)
      case atStart => exact ⟨1, by omega, by omega, rfl, HE.out.alloc _, hB0.out.alloc _, hBs.out.alloc _, .slice none 0 0, 0, rfl, by omega, Blk.new _ _ _, World.ownsRow_nil _ _ _ _⟩
      case round =>
        clear hB0 hBs HE
        obtain ⟨v, hv1, hv2, rfl, hE, hB0, hBs, s, j, hj, hjv, hB1, hown⟩ := hrel
        have HJ := Lib.hid hj
        clear hj
        have hzc := hB1.out.lt
        by_cases hlt : v ≤ 12
        · obtain ⟨x, hx⟩ : ∃ x, S[v]? = some x := ⟨S[v]'(by rw [HSl.out]; omega), List.getElem?_eq_getElem _⟩
          have hgd : S.getD v 0 = x := by rw [List.getD_eq_getElem?_getD, hx]; rfl
          have hup := coUp_succ S (v - 1)
          rw [show v - 1 + 1 = v from by omega, hgd] at hup
          have HUP := Lib.hid hup
          have cs : wr.cell? ⟨w.heap.size + 1, v, none⟩ = some (.int .i64 x) := by
            rw [hBs.out.cell]; simp [encI, hx]
          have v0 : (0 : Int) ≤ (v : Int) := Int.natCast_nonneg _
          have v1 : (v : Int) < 13 := by omega
          clear hx hgd hup
          by_cases hx0 : x = 0
          · have hb : (x != 0) = false := by simpa using hx0
            have hup2 : Hid (coUp S v = coUp S (v - 1)) := by have := HUP.out; rw [if_pos hx0, List.append_nil] at this; exact this
            clear hx0
            go_wp2
            go_roundw
            case rel => exact ⟨v + 1, by omega, by omega, by go_num, hE, hB0.out, hBs.out, s, j, by rw [Nat.add_sub_cancel, hup2.out, HJ.out], by omega, hB1.out, by rw [Nat.add_sub_cancel, hup2.out]; exact hown.out⟩
            case measure => simp [intOf]; omega
          · have hb : (x != 0) = true := by simpa using hx0
            have hup2 : Hid (coUp S v = coUp S (v - 1) ++ [(1, x)]) := by have := HUP.out; rw [if_neg hx0] at this; exact this
            clear hx0
            have b1 := hB1.out.cell 0
            have hne : ∀ k, k < w5.heap.size + 1 → some k ≠ s.ownBlock := fun k hk e => by have := (hown.out.lt k e.symm).1; omega
            have K0 : Hid (∀ W, Ext wr W → (W.cell? ⟨w5.heap.size, 0, none⟩ = some s ∧ W.cell? ⟨w.heap.size + 1, v, none⟩ = some (.int .i64 x))) := fun W e => ⟨e.cell b1, e.cell cs⟩
            have KA : Hid (∀ W W', Ext wr W → W.grownBy W' s.ownBlock → (W'.cell? ⟨w5.heap.size, 0, none⟩ = some s ∧ W'.cell? ⟨w.heap.size + 1, v, none⟩ = some (.int .i64 x))) := fun W W' e hg => by
              have q := K0.out W e
              have z := e.size
              refine ⟨?_, ?_⟩
              · rw [hg.cell_far _ (by simp only; omega) (hne _ (by simp only; omega))]; exact q.1
              · rw [hg.cell_far _ (by simp only; omega) (hne _ (by simp only; omega))]; exact q.2
            go_wp2_with fail
            have hS0 := K0.out wr.drew (Ext.refl _).drew
            refine wp_region_Z (fun w' => w'.cell? ⟨w5.heap.size, 0, none⟩ = some s ∧ w'.cell? ⟨w.heap.size + 1, v, none⟩ = some (.int .i64 x)) 10 (by kernel_rfl) ?_
            refine wpAnyZ_take 0 (v := ?_) (by kernel_rfl) rfl rfl (by kernel_rfl) (by kernel_rfl) (by kernel_rfl) (fun _ _ _ h => h) hS0 (Or.inl ⟨by rfl, ?_⟩) ?_
            rotate_left
            · (intro w hSw; (try dsimp only at hSw); go_simp; (try with_reducible rfl))
            try simp only [Act.put, List.setIfInBounds_toArray, List.set_cons_zero, List.set_cons_succ]
            refine wpAnyZ_take 1 (v := ?_) (by kernel_rfl) rfl rfl (by kernel_rfl) (by kernel_rfl) (by kernel_rfl) (fun _ _ _ h => h) hS0 (Or.inl ⟨by rfl, ?_⟩) ?_
            rotate_left
            · (intro w hSw; (try dsimp only at hSw); go_simp; (try with_reducible rfl))
            try simp only [Act.put, List.setIfInBounds_toArray, List.set_cons_zero, List.set_cons_succ]
            refine wpAnyZ_take 2 (v := ?_) (by kernel_rfl) rfl rfl (by kernel_rfl) (by kernel_rfl) (by kernel_rfl) (fun _ _ _ h => h) hS0 (Or.inl ⟨by rfl, ?_⟩) ?_
            rotate_left
            · (intro w hSw; (try dsimp only at hSw); go_simp; (try with_reducible rfl))
            try simp only [Act.put, List.setIfInBounds_toArray, List.set_cons_zero, List.set_cons_succ]
            refine wpAnyZ_take 3 (v := ?_) (by kernel_rfl) rfl rfl (by kernel_rfl) (by kernel_rfl) (by kernel_rfl) (fun _ _ _ h => h) hS0 (Or.inl ⟨by rfl, ?_⟩) ?_
            rotate_left
            · (intro w hSw; (try dsimp only at hSw); go_simp; (try with_reducible rfl))
            try simp only [Act.put, List.setIfInBounds_toArray, List.set_cons_zero, List.set_cons_succ]
            refine wpAnyZ_take 4 (v := ?_) (by kernel_rfl) rfl rfl (by kernel_rfl) (by kernel_rfl) (by kernel_rfl) (fun _ _ _ h => h) hS0 (Or.inl ⟨by rfl, ?_⟩) ?_
            rotate_left
            · (intro w hSw; (try dsimp only at hSw); go_simp; (try with_reducible rfl))
            try simp only [Act.put, List.setIfInBounds_toArray, List.set_cons_zero, List.set_cons_succ]
            refine wpAnyZ_take 5 (v := ?_) (by kernel_rfl) rfl rfl (by kernel_rfl) (by kernel_rfl) (by kernel_rfl) (fun _ _ _ h => h) hS0 (Or.inl ⟨by rfl, ?_⟩) ?_
            rotate_left
            · (intro w hSw; (try dsimp only at hSw); go_simp; (try with_reducible rfl))
            try simp only [Act.put, List.setIfInBounds_toArray, List.set_cons_zero, List.set_cons_succ]
            refine wpAnyZ_take 6 (v := ?_) (by kernel_rfl) rfl rfl (by kernel_rfl) (by kernel_rfl) (by kernel_rfl) (fun _ _ _ h => h) hS0 (Or.inl ⟨by rfl, ?_⟩) ?_
            rotate_left
            · (intro w hSw; (try dsimp only at hSw); go_simp; (try with_reducible rfl))
            try simp only [Act.put, List.setIfInBounds_toArray, List.set_cons_zero, List.set_cons_succ]
            refine wpAnyZ_one 7 (by kernel_rfl) rfl rfl (fun K hK => ?_)
            go_simp
            refine hK.out _ _ (K0.out _ (by first | exact ((Ext.refl _).drew).alloc _ | exact ((Ext.refl _).alloc _).drew)) ?_
            clear hK K
            try simp only [Act.put, List.setIfInBounds_toArray, List.set_cons_zero, List.set_cons_succ]
            refine wpAnyZ_one 8 (by kernel_rfl) rfl rfl (fun K hK => ?_)
            refine wp_append_lies _ _ _ _ (by rfl) (w5.heap.size + 1) 38 i0 _ 2 16 Try.underlying23 HI.out HZ0.out HZ1.out HZ2.out rfl (by omega) s j _ (by rfl) (hown.out.alloc _).drew
                  ⟨wr.heap.size, 0, none⟩ 1 1 [.int .i64 1, .int .i64 x] (by rfl) (by rfl) (World.news_of_block (cs := #[.int .i64 1, .int .i64 x]) (t := 38) (fr := (0, 0)) (heap_alloc_new wr _)) (by simp [Value.oneCell'])
                  (by omega) (by unfold maxLen; omega) (by omega) (by simp; omega) (wr.heap.size + 1) (by simp) ?_
            intro gg cp w1 hown1 hg1 hat hlt1
            have BB1 := own_blk ((hB1.out.alloc _).drew) ((hown.out.alloc _).drew) (by omega) hg1
            have bb1 := BB1.cell 0
            have fz1 := BB1.frozen 0
            clear BB1
            have hSa := KA.out _ _ (by first | exact ((Ext.refl _).drew).alloc _ | exact ((Ext.refl _).alloc _).drew) hg1
            refine hK.out _ _ hSa ?_
            clear hK K
            try simp only [Act.put, List.setIfInBounds_toArray, List.set_cons_zero, List.set_cons_succ]
            refine wpAnyZ_one 9 (by kernel_rfl) rfl rfl (fun K hK => ?_)
            go_simp
            refine hK.out _ _ hSa ?_
            clear hK K
            try simp only [Act.put, List.setIfInBounds_toArray, List.set_cons_zero, List.set_cons_succ]
            refine wpAnyZ_last (by kernel_rfl) (by kernel_rfl) rfl rfl (fun K hK => ?_)
            go_simp
            refine hK.out _ _ ?_
            clear hK K
            have hg2 : (wr.drew.alloc (.cells #[.int .i64 1, .int .i64 x] 38)).grownBy w1 s.ownBlock := hg1
            obtain ⟨E1, K1, O1⟩ := push_box hE.drew hB1.out.drew hown.out.drew (by omega) (by omega) (by omega) hg2 hown1
            have Kx := push_blk (gc := w5.heap.size) (v1 := .slice (some ⟨gg, 0, none⟩) (j + 1) cp) hBs.out.drew hown.out.drew (by omega) (by omega) hg2
            have Kr := push_blk (gc := w5.heap.size) (v1 := .slice (some ⟨gg, 0, none⟩) (j + 1) cp) hB0.out.drew hown.out.drew (by omega) (by omega) hg2
            go_wp2
            go_roundw
            case rel =>
              refine ⟨v + 1, by omega, by omega, by go_num, E1, Kr, Kx, _, j + 1, by rw [Nat.add_sub_cancel, hup2.out, List.length_append, HJ.out]; rfl, by omega, K1, ?_⟩
              rw [Nat.add_sub_cancel, hup2.out, encT_append]
              simpa [encT, Hid] using O1
            case measure => simp [intOf]; omega
        · obtain rfl : v = 13 := by omega
          obtain ⟨A1, c1, rfl⟩ := own_slice hown.out
          have b2 := hB1.out.cell 0
          have b3 := hB1.out.cell 1
          have r0 := hB0.out.cell 0
          have r1 := hB0.out.cell 1
          have q0 := hB0.out.frozen 0
          have q1 := hB0.out.frozen 1
          have hzr2 := hB0.out.lt
          have hcT : Hid (coT zs = coUp S 12) := by unfold coT Hid; rw [if_pos HO.out, HS.out]
          go_wp2
          refine bodyPost_ret (v := .tuple #[.agg #[.slice A1 j c1, .int .i64 1], .bool true]) (by simp [results, Try.results6, go_sem, r0, r1]) rfl ?_
          have K : Kept w.heap.size (w.heap.size + 1) wr _ := ((Kept.refl _ _ wr).setIn (p := ⟨w.heap.size, 0, none⟩) (by simp) (.slice A1 j c1)).setIn (p := ⟨w.heap.size, 1, none⟩) (by simp) (.int .i64 1)
          have G := own_got2 (w := w) hown.out K (by omega) (by omega)
          refine ⟨A1, j, c1, by unfold coD; rw [if_pos HO.out, HO.out], by rw [hcT.out]; exact HJ.out, ?_, (hE.setNew (by simp) _).setNew (by simp) _⟩
          rw [hcT.out]
          exact G
end Go.Proofs.Ytbpkpcfhmglddaa
