/- Drawn values; DrawConstraintValid and its fellows, DrawEvalConstraint. -/
import Derived.Test.YtmbdfnimmjomfaaRdM
namespace Go.Proofs.Ytmbdfnimmjomfaa
open Go.RowKit

/-- SOME constraint of at most N terms, in memory of the call's own -/
def RetA (N : Nat) (w : World) (e : Ending) (w' : World) : Prop :=
  ∃ A n c ts bd, e = .returned (.agg #[.slice A n c, .int .i64 bd]) ∧ ts.length = n ∧ n ≤ N ∧ Got w w' 2 A n (encT ts) ∧ Ext w w'






/-- SOME values -/
def RdB (g L : Nat) (w : World) (e : Ending) (w' : World) : Prop :=
  ∃ A n c bs, e = .returned (.slice A n c) ∧ bs.length = n ∧ n ≤ 12 ∧ Got w w' 1 A n (encB bs) ∧ Kept g (g + 1) w w' ∧ Rd w' g L
theorem Try.infoBoR : (Try.prog.info? 4).map (fun i => (i.zero, i.size, i.bytes)) = some (some (.bool false), 1, 1) := by kernel_rfl
theorem encB_append (a b : List Bool) : encB (a ++ b) = encB a ++ encB b := by simp [encB]
set_option maxRecDepth 100000 in
set_option maxHeartbeats 2000000 in
theorem l1Values_any (g L : Nat) (w : World) (h : Rd w g L) (hL : L ≤ 800000000) :
    Calls Try.prog 54 #[.pointer (some ⟨g, 0, none⟩)] w (RdB g (L + 20) w) := by
  obtain ⟨i0, hi, hz0, hz1, hz2⟩ := info_parts Try.infoBoR
  have HI := Lib.hid hi
  have HZ0 := Lib.hid hz0
  have HZ1 := Lib.hid hz1
  have HZ2 := Lib.hid hz2
  have hgw := h.lt
  have HR := Lib.hid h
  clear hi hz0 hz1 hz2 h
  go_enter Try.func54, Try.ntmps54
  go_wp2_with fail
  go_loopw [3, 4] (fun s i wr => ∃ (k : Nat) (bs : List Bool), k ≤ 12 ∧ i = .int .i64 k ∧ bs.length = k ∧ Kept g (g + 1) w wr ∧ Hid (Rd wr g (L + k)) ∧ Hid (wr.ownsRow w.heap.size 4 1 s k (encB bs))) (fun _ i _ => 12 - (intOf i).toNat)
  case atStart => exact ⟨0, [], by omega, rfl, rfl, (Kept.refl _ _ _).alloc _, HR.out.alloc _, own_empty w w.heap.size 4 1 (Nat.le_refl _)⟩
  case round =>
    obtain ⟨k, bs, hk, rfl, hl, hE, hR, hown⟩ := hrel
    have HL := Lib.hid hl
    clear hl
    by_cases hlt : k < 12
    · go_wp2_with fail
      refine (pick_any g _ 2 _ hR.out (by omega) (by omega)).mono ?_
      rintro e w1 ⟨i, rfl, hi, hK1, hR1⟩
      have HK1 := Lib.hid (hE.trans hK1)
      have HR1 := Lib.hid hR1
      have hown1 := Lib.hid (own_kept hown.out hK1 (by omega))
      have hz1 := hK1.size
      have hzw := hE.size
      clear hi hK1 hR1 hE hR hown
      obtain ⟨bb, hbb⟩ : ∃ b : Bool, (i == 0) = b := ⟨_, rfl⟩
      go_wp2_with (first
        | (at_builtin
           refine wpList_append_own _ rfl _ _ 49 rfl w.heap.size 4 i0 _ 1 1 Try.underlying49 HI.out HZ0.out HZ1.out HZ2.out rfl (by omega) _ k _ rfl (hown1.out.alloc _) ⟨w1.heap.size, 0, none⟩ 1 1 [.bool bb] rfl rfl (World.news_of_block (cs := #[.bool bb]) (t := 4) (fr := (0, 0)) (heap_alloc_new w1 _)) ?_ ?_ ?_ ?_ ?_
           (intro u hu; simp at hu; rcases hu with rfl | rfl <;> rfl)
           (unfold maxLen; omega)
           omega
           (simp; omega)
           (intro v1 w5 hown5 hg5 _)))
      go_roundw
      case rel =>
        have KG : Kept w.heap.size (w1.alloc (.cells #[.bool bb] 4)).heap.size (w1.alloc (.cells #[.bool bb] 4)) w5 := kept_of_grown hg5 fun k hk => ((hown1.out.alloc (.cells #[.bool bb] 4)).lt k hk).1
        refine ⟨k + 1, bs ++ [bb], by omega, by go_num, by rw [List.length_append, HL.out]; rfl, (HK1.out.alloc _).fresh KG (Nat.le_refl _), ((HR1.out.alloc (.cells #[.bool bb] 4)).kept KG hgw).mono (by omega), ?_⟩
        rw [encB_append]
        simpa [encB, Hid] using hown5
      case measure => simp [intOf]; omega
    · obtain rfl : k = 12 := by omega
      go_wp2_with fail
      refine (pick_any g _ 40 _ hR.out (by omega) (by omega)).mono ?_
      rintro e w1 ⟨i, rfl, hi, hK1, hR1⟩
      have HK1 := Lib.hid (hE.trans hK1)
      have HR1 := Lib.hid hR1
      have hown1 := Lib.hid (own_kept hown.out hK1 (by omega))
      clear hi hK1 hR1 hE hR hown
      obtain ⟨gg, c1, rfl, hgb, hgl⟩ := hown1.out.form (by omega)
      have hcap : 12 ≤ c1 := by
        rcases hown1.out.2 with ⟨e, _⟩ | ⟨g', cap, cur, e, _, _, hnc, _⟩
        · cases e
        · injection e with _ _ e3; omega
      have hP := own_parts hown1.out
      by_cases h0 : i = 0
      · subst h0
        have HS : Hid (Seg w1 1 (some ⟨gg, 0, none⟩) 11 (encB (bs.take 11))) := ⟨by have := HL.out; simp [encB]; omega, fun _ => by
          obtain ⟨b, off, e, hcc⟩ := hP.1.2 (by omega)
          refine ⟨b, off, e, fun j u hu => hcc j u ?_⟩
          have e2 : encB (bs.take 11) = (encB bs).take 11 := by simp [encB]
          rw [e2] at hu
          have hj : j < 11 := by have := (List.getElem?_eq_some_iff.1 hu).1; simp at this; omega
          rw [List.getElem?_take, if_pos hj] at hu
          exact hu⟩
        have HF : Hid (Free w1 1 (some ⟨gg, 0, none⟩) 11) := fun b off e j hj => hP.2.1 b off e j (by omega)
        have HLi : Hid (Lies w.heap.size w1.heap.size (some ⟨gg, 0, none⟩) 11) := fun _ ad e => hP.2.2 (by omega) ad e
        clear hP
        go_wp2
        go_ret
        exact ⟨_, 11, c1, bs.take 11, rfl, by rw [List.length_take, HL.out]; rfl, by omega, ⟨HS.out, HF.out, HLi.out⟩, HK1.out, HR1.out.mono (by omega)⟩
      · have hb : (i == 0) = false := by simpa using h0
        have HG : Hid (Got w w1 1 (some ⟨gg, 0, none⟩) 12 (encB bs)) := own_got hown1.out (Nat.le_refl _)
        clear hP
        go_wp2
        go_ret
        exact ⟨_, 12, c1, bs, rfl, HL.out, by omega, HG.out, HK1.out, HR1.out.mono (by omega)⟩

end Go.Proofs.Ytmbdfnimmjomfaa
