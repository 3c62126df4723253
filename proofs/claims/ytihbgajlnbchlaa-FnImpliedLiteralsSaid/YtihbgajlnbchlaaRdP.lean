/- Drawn partial assignments; DrawExtendsPartial. -/
import Derived.Test.YtihbgajlnbchlaaRdV
import Derived.Test.YtihbgajlnbchlaaSetAt
namespace Go.Proofs.Ytihbgajlnbchlaa
open Go.RowKit

/-- SOME integers, at most 12 -/
def RdP (g L : Nat) (w : World) (e : Ending) (w' : World) : Prop :=
  ∃ A n c zs, e = .returned (.slice A n c) ∧ zs.length = n ∧ n ≤ 12 ∧ Got w w' 1 A n (encI zs) ∧ Kept g (g + 1) w w' ∧ Rd w' g L
theorem Try.infoInR : (Try.prog.info? 3).map (fun i => (i.zero, i.size, i.bytes)) = some (some (.int .i64 0), 1, 8) := by kernel_rfl
theorem encI_append (a b : List Int) : encI (a ++ b) = encI a ++ encI b := by simp [encI]
set_option maxRecDepth 100000 in
set_option maxHeartbeats 2000000 in
theorem l3Partial_any (g L : Nat) (w : World) (h : Rd w g L) (hL : L ≤ 800000000) :
    Calls Try.prog 53 #[.pointer (some ⟨g, 0, none⟩)] w (RdP g (L + 20) w) := by
  obtain ⟨i0, hi, hz0, hz1, hz2⟩ := info_parts Try.infoInR
  have HI := Lib.hid hi
  have HZ0 := Lib.hid hz0
  have HZ1 := Lib.hid hz1
  have HZ2 := Lib.hid hz2
  have hgw := h.lt
  have HR := Lib.hid h
  clear hi hz0 hz1 hz2 h
  go_enter Try.func53, Try.ntmps53
  go_wp2_with fail
  go_loopw [3, 4] (fun s i wr => ∃ (k : Nat) (zs : List Int), k ≤ 12 ∧ i = .int .i64 k ∧ zs.length = k ∧ Kept g (g + 1) w wr ∧ Hid (Rd wr g (L + k)) ∧ Hid (wr.ownsRow w.heap.size 3 1 s k (encI zs))) (fun _ i _ => 12 - (intOf i).toNat)
  case atStart => exact ⟨0, [], by omega, rfl, rfl, (Kept.refl _ _ _).alloc _, HR.out.alloc _, own_empty w w.heap.size 3 1 (Nat.le_refl _)⟩
  case round =>
    obtain ⟨k, zs, hk, rfl, hl, hE, hR, hown⟩ := hrel
    have HL := Lib.hid hl
    have hzw := hE.size
    clear hl
    by_cases hlt : k < 12
    · go_wp2_with fail
      refine (num_lit [0, 0, 1, -1, 0] g _ 5 _ _ _ _ (by simp) rfl rfl (by omega) (by omega) hR.out (by omega)).mono ?_
      rintro e w1 ⟨z, rfl, _, hK1, hR1⟩
      have HK1 := Lib.hid (hE.trans hK1)
      have HR1 := Lib.hid hR1
      have hown1 := Lib.hid (own_kept hown.out hK1 (by omega))
      have hz1 := hK1.size
      clear hK1 hR1 hE hR hown
      go_wp2_with (first
        | (at_builtin
           refine wpList_append_own _ rfl _ _ 26 rfl w.heap.size 3 i0 _ 1 8 Try.underlying26 HI.out HZ0.out HZ1.out HZ2.out rfl (by omega) _ k _ rfl (hown1.out.alloc _) ⟨w1.heap.size, 0, none⟩ 1 1 [.int .i64 z] rfl rfl (World.news_of_block (cs := #[.int .i64 z]) (t := 3) (fr := (0, 0)) (heap_alloc_new w1 _)) ?_ ?_ ?_ ?_ ?_
           (intro u hu; simp at hu; rcases hu with rfl | rfl <;> rfl)
           (unfold maxLen; omega)
           omega
           (simp; omega)
           (intro v1 w5 hown5 hg5 _)))
      go_roundw
      case rel =>
        have KG : Kept w.heap.size (w1.alloc (.cells #[.int .i64 z] 3)).heap.size (w1.alloc (.cells #[.int .i64 z] 3)) w5 := kept_of_grown hg5 fun k hk => ((hown1.out.alloc (.cells #[.int .i64 z] 3)).lt k hk).1
        refine ⟨k + 1, zs ++ [z], by omega, by go_num, by rw [List.length_append, HL.out]; rfl, (HK1.out.alloc _).fresh KG (Nat.le_refl _), ((HR1.out.alloc (.cells #[.int .i64 z] 3)).kept KG hgw).mono (by omega), ?_⟩
        rw [encI_append]
        simpa [encI, Hid] using hown5
      case measure => simp [intOf]; omega
    · obtain rfl : k = 12 := by omega
      go_wp2_with fail
      refine (pick_any g _ 40 _ hR.out (by omega) (by omega)).mono ?_
      rintro e w1 ⟨i, rfl, hi, hK1, hR1⟩
      have HK1 := Lib.hid (hE.trans hK1)
      have HR1 := Lib.hid hR1
      have hown1 := Lib.hid (own_kept hown.out hK1 (by omega))
      have hz1 := hK1.size
      clear hi hK1 hR1 hE hR hown
      obtain ⟨gg, c1, rfl, hgb, hgl⟩ := hown1.out.form (by omega)
      have hcap : 12 ≤ c1 := by
        rcases hown1.out.2 with ⟨e, _⟩ | ⟨g', cap, cur, e, _, _, hnc, _⟩
        · cases e
        · injection e with _ _ e3; omega
      by_cases h0 : i = 0
      · subst h0
        go_wp2_with fail
        refine (num_lit [2, -2, 9223372036854775807, -9223372036854775808] g _ 4 _ _ _ _ (by simp) rfl rfl (by omega) (by omega) HR1.out (by omega)).mono ?_
        rintro e w2 ⟨z, rfl, _, hK2, hR2⟩
        have hP := own_parts (own_kept hown1.out hK2 (by omega))
        obtain ⟨b', off', x, e', hx, t1⟩ := hP.1.int (k := 0) (by omega)
        injection e' with e'; injection e' with e1 e2
        subst e1; subst e2
        have tf := hP.2.1 gg 0 rfl 0 (by omega)
        have HS := Lib.hid (hP.1.setAt (i := 0) (by rw [hP.1.1]; omega) (.int .i64 z))
        have es : (encI zs).set 0 (.int .i64 z) = encI (zs.set 0 z) := by simp [encI, List.map_set]
        rw [es, Nat.add_zero] at HS
        have HF := Lib.hid (hP.2.1.setCell ⟨gg, 0, none⟩ (.int .i64 z))
        have HLi := Lib.hid hP.2.2
        have HK2 := Lib.hid ((HK1.out.trans hK2).setNew (p := ⟨gg, 0, none⟩) hgb (.int .i64 z))
        have HR2 := Lib.hid (hR2.far (p := ⟨gg, 0, none⟩) (by simp only; omega) (.int .i64 z))
        clear hx hP es hK2 hR2 hown1 HK1 HR1
        rw [Nat.add_zero] at t1 tf
        go_wp2
        go_ret
        exact ⟨_, 12, c1, zs.set 0 z, rfl, by rw [List.length_set, HL.out], by omega, ⟨HS.out, HF.out, HLi.out.wide (Nat.le_refl _) (by simp)⟩, HK2.out, HR2.out.mono (by omega)⟩
      by_cases h1 : i = 1
      · subst h1
        have hP := own_parts hown1.out
        have HS : Hid (Seg w1 1 (some ⟨gg, 0, none⟩) 11 (encI (zs.take 11))) := ⟨by have := HL.out; simp [encI]; omega, fun _ => by
          obtain ⟨b, off, e, hcc⟩ := hP.1.2 (by omega)
          refine ⟨b, off, e, fun j u hu => hcc j u ?_⟩
          have e2 : encI (zs.take 11) = (encI zs).take 11 := by simp [encI]
          rw [e2] at hu
          have hj : j < 11 := by have := (List.getElem?_eq_some_iff.1 hu).1; simp at this; omega
          rw [List.getElem?_take, if_pos hj] at hu
          exact hu⟩
        have HF : Hid (Free w1 1 (some ⟨gg, 0, none⟩) 11) := fun b off e j hj => hP.2.1 b off e j (by omega)
        have HLi : Hid (Lies w.heap.size w1.heap.size (some ⟨gg, 0, none⟩) 11) := fun _ ad e => hP.2.2 (by omega) ad e
        clear hP
        go_wp2
        go_ret
        exact ⟨_, 11, c1, zs.take 11, rfl, by rw [List.length_take, HL.out]; rfl, by omega, ⟨HS.out, HF.out, HLi.out⟩, HK1.out, HR1.out.mono (by omega)⟩
      · have hb0 : (i == 0) = false := by simpa using h0
        have hb1 : (i == 1) = false := by simpa using h1
        have HG : Hid (Got w w1 1 (some ⟨gg, 0, none⟩) 12 (encI zs)) := own_got hown1.out (Nat.le_refl _)
        clear h0 h1
        go_wp2
        go_ret
        exact ⟨_, 12, c1, zs, rfl, HL.out, by omega, HG.out, HK1.out, HR1.out.mono (by omega)⟩

end Go.Proofs.Ytihbgajlnbchlaa
