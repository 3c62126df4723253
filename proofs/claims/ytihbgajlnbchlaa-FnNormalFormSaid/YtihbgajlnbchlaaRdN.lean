/- DrawNormalForm. -/
import Derived.Test.YtihbgajlnbchlaaRdV
import Derived.Test.YtihbgajlnbchlaaSetAt
namespace Go.Proofs.Ytihbgajlnbchlaa
open Go.RowKit

/-- SOME terms and SOME integer -/
def RetTZ (w : World) (e : Ending) (w' : World) : Prop :=
  ∃ A n c ts z, e = .returned (.tuple #[.slice A n c, .int .i64 z]) ∧ ts.length = n ∧ n ≤ 12 ∧ Got w w' 2 A n (encT ts) ∧ Ext w w'
set_option maxRecDepth 100000 in
set_option maxHeartbeats 4000000 in
theorem drawNF_any (A : Option Addr) (n c : Nat) (bs : List Int) (w : World) (hn : n ≤ maxLen) (hc : n ≤ c) (hs : Seg w 1 A n (encY bs)) (hb : bytesB bs) :
    Calls Try.prog 37 #[.slice A n c] w (RetTZ w) := by
  obtain ⟨i0, hi, hz0, hz1, hz2⟩ := info_parts Try.infoTmR
  have HI := Lib.hid hi
  have HZ0 := Lib.hid hz0
  have HZ1 := Lib.hid hz1
  have HZ2 := Lib.hid hz2
  clear hi hz0 hz1 hz2
  go_enter Try.func37, Try.ntmps37
  go_wp2_with fail
  refine (open_any A n c bs _ hn hc hs hb).mono ?_
  rintro e w1 ⟨rfl, hE1, hR1⟩
  have hg := hR1.lt
  have HE1 := Lib.hid hE1
  have HR1 := Lib.hid hR1
  have hz1 := hE1.size
  clear hs hb hE1 hR1
  obtain ⟨g, hgg⟩ : ∃ g, w.heap.size = g := ⟨_, rfl⟩
  rw [hgg] at HR1 hg ⊢
  go_wp2_with fail
  refine (num_lit [3, 4, 5, 2, 0, 8] g _ 6 _ _ _ _ (by simp) rfl rfl (by omega) (by omega) (HR1.out.alloc _) (by omega)).mono ?_
  rintro e w2 ⟨q, rfl, hq, hK2, hR2⟩
  have hqb : 0 ≤ q ∧ q ≤ 8 := by simp at hq; omega
  obtain ⟨q, rfl⟩ := Int.eq_ofNat_of_zero_le hqb.1
  have HK2 := Lib.hid (((Kept.refl g (g + 1) w1).alloc (.cells #[] 40)).trans hK2)
  have HR2 := Lib.hid hR2
  have hown2 := Lib.hid (own_kept (own_empty w1 w1.heap.size 40 2 (Nat.le_refl _)) hK2 (by omega))
  have hz2 := hK2.size
  clear hq hK2 hR2 HR1
  go_wp2_with fail
  go_loopw [5, 6] (fun s i wr => ∃ (j k : Nat) (ts : List Tm), k + j ≤ 8 ∧ i = .int .i64 j ∧ ts.length = k ∧ Kept g (g + 1) w1 wr ∧ Hid (Rd wr g (10 + 2 * k)) ∧ Hid (wr.ownsRow w1.heap.size 40 2 s k (encT ts))) (fun _ i _ => (intOf i).toNat)
  case atStart => exact ⟨q, 0, [], by omega, rfl, rfl, HK2.out, HR2.out.mono (by omega), hown2.out⟩
  case round =>
    clear HK2 HR2 hown2
    obtain ⟨j, k, ts, hk, rfl, hl, hE, hR, hown⟩ := hrel
    have HL := Lib.hid hl
    have hzw := hE.size
    clear hl
    obtain ⟨A5, c5, rfl⟩ := own_slice hown.out
    by_cases hlt : 0 < j
    · have hw : IntKind.i64.wrap ((j : Int) - 1) = (j : Int) - 1 := IntWalk.i64_in _ (by omega)
      go_wp2_with fail
      refine (num_lit [1, -1, 2, -3, 0, 4] g _ 6 _ _ _ _ (by first | rfl | simp) rfl rfl (by omega) (by omega) hR.out (by omega)).mono ?_
      rintro e w3 ⟨a, rfl, ha, hK3, hR3⟩
      go_wp2_with fail
      refine (num_lit [1, -1, 2, -2, 3, -3, 4, 12] g _ 8 _ _ _ _ (by first | rfl | simp) rfl rfl (by omega) (by omega) hR3 (by omega)).mono ?_
      rintro e w4 ⟨l, rfl, hlq, hK4, hR4⟩
      have hz3 := hK3.size
      have hz4 := hK4.size
      have HK4 := Lib.hid ((hE.trans hK3).trans hK4)
      have HR4 := Lib.hid hR4
      have hown4 := Lib.hid (own_kept (own_kept hown.out hK3 (by omega)) hK4 (by omega))
      clear hE hR hown hK3 hR3 hK4 hR4 ha hlq
      go_wp2_with (first
        | (at_builtin
           refine wpList_append_own _ rfl (.tmp 17) (.tmp 25) 23 rfl w1.heap.size 40 i0 _ 2 16 Try.underlying23 HI.out HZ0.out HZ1.out HZ2.out rfl (by omega) (.slice A5 k c5) k _ rfl (hown4.out.alloc _) ⟨w4.heap.size, 0, none⟩ 1 1 [.int .i64 a, .int .i64 l] rfl rfl (cell_two_new _ _ _ _) ?_ ?_ ?_ ?_ ?_
           (intro u hu; simp at hu; rcases hu with rfl | rfl <;> rfl)
           (unfold maxLen; omega)
           omega
           (simp; omega)
           (intro v1 w5 hown5 hg5 _)))
      go_roundw
      case rel =>
        have KG := kept_of_grown hg5 fun k hk => ((hown4.out.alloc (.cells #[.int .i64 a, .int .i64 l] 40)).lt k hk).1
        refine ⟨j - 1, k + 1, ts ++ [(a, l)], by omega, by go_num, by simp [HL.out], (HK4.out.alloc _).fresh KG (Nat.le_refl _), ((HR4.out.alloc (.cells #[.int .i64 a, .int .i64 l] 40)).kept KG hg).mono (by omega), ?_⟩
        rw [encT_append]
        simpa [encT, Hid] using hown5
      case measure => simp [intOf]; omega
    · obtain rfl : j = 0 := by omega
      have hzw1 : w.heap.size ≤ w1.heap.size := by omega
      rcases Nat.eq_zero_or_pos k with h0 | hpos
      · subst h0
        go_wp2_with fail
        refine (num_lit [1, 0, 2, -1, 3, 5, -20000, 20000, 20001] g _ 9 _ _ _ _ (by first | rfl | simp) rfl rfl (by omega) (by omega) hR.out (by omega)).mono ?_
        rintro e w6 ⟨z, rfl, hz, hK6, hR6⟩
        have HF := Lib.hid (own_got (w := w) (own_kept hown.out hK6 (by omega)) hzw1)
        have HE := Lib.hid (HE1.out.fresh (hE.trans hK6) (by omega))
        clear hz hK6 hR6 hown hR hE
        go_wp2
        go_ret2
        exact ⟨A5, 0, c5, ts, z, rfl, HL.out, by omega, HF.out, HE.out⟩
      · have hb : decide ((0 : Int) < (k : Int)) = true := decide_eq_true (by omega)
        go_wp2_with fail
        refine (pick_any g _ 12 _ hR.out (by omega) (by omega)).mono ?_
        rintro e w3 ⟨i, rfl, hi, hK3, hR3⟩
        have hz3 := hK3.size
        have HK3 := Lib.hid (hE.trans hK3)
        have HR3 := Lib.hid hR3
        have hown3 := Lib.hid (own_kept hown.out hK3 (by omega))
        clear hi hK3 hR3 hE hR hown
        by_cases h0 : i = 0
        · subst h0
          go_wp2_with fail
          refine (num_lit [1000, -1000, 1001, -9223372036854775808] g _ 4 _ _ _ _ (by first | rfl | simp) rfl rfl (by omega) (by omega) HR3.out (by omega)).mono ?_
          rintro e w4 ⟨a, rfl, ha, hK4, hR4⟩
          go_wp2_with fail
          refine (num_lit [1, 0, 13, -13] g _ 4 _ _ _ _ (by first | rfl | simp) rfl rfl (by omega) (by omega) hR4 (by omega)).mono ?_
          rintro e w5 ⟨l, rfl, hlq, hK5, hR5⟩
          have hz4 := hK4.size
          have hz5 := hK5.size
          have HK5 := Lib.hid ((HK3.out.trans hK4).trans hK5)
          have HR5 := Lib.hid hR5
          have hP := own_parts (own_kept (own_kept hown3.out hK4 (by omega)) hK5 (by omega))
          obtain ⟨b, off, rfl⟩ := hP.1.addr hpos
          have hbl := hP.2.2 hpos _ rfl
          simp only at hbl
          obtain ⟨b', off', u0, e', hx0, d0⟩ : ∃ b' off' u0, (some ⟨b, off, none⟩ : Option Addr) = some ⟨b', off', none⟩ ∧ (encT ts)[0]? = some u0 ∧ w5.cell? ⟨b', off' + 0, none⟩ = some u0 := by
            obtain ⟨b', off', e', hc⟩ := hP.1.2 hpos
            have hl0 : 0 < (encT ts).length := by rw [encT_length, HL.out]; omega
            exact ⟨b', off', _, e', List.getElem?_eq_getElem hl0, hc 0 _ (List.getElem?_eq_getElem hl0)⟩
          injection e' with e'; injection e' with e1 e2
          subst e1; subst e2
          obtain ⟨b', off', u1, e', hx1, d1⟩ : ∃ b' off' u1, (some ⟨b, off, none⟩ : Option Addr) = some ⟨b', off', none⟩ ∧ (encT ts)[1]? = some u1 ∧ w5.cell? ⟨b', off' + 1, none⟩ = some u1 := by
            obtain ⟨b', off', e', hc⟩ := hP.1.2 hpos
            have hl1 : 1 < (encT ts).length := by rw [encT_length, HL.out]; omega
            exact ⟨b', off', _, e', List.getElem?_eq_getElem hl1, hc 1 _ (List.getElem?_eq_getElem hl1)⟩
          injection e' with e'; injection e' with e1 e2
          subst e1; subst e2
          have f0 := hP.2.1 b off rfl 0 (by omega)
          have f1 := hP.2.1 b off rfl 1 (by omega)
          rw [Nat.add_zero] at d0 f0
          have s1 := hP.1.setAt (i := 0) (by rw [encT_length, HL.out]; omega) (.int .i64 a)
          have s2 := s1.setAt (i := 1) (by rw [List.length_set, encT_length, HL.out]; omega) (.int .i64 l)
          obtain ⟨us, hus, hse⟩ : ∃ us : List Tm, us.length = ts.length ∧ ((encT ts).set 0 (.int .i64 a)).set 1 (.int .i64 l) = encT us := by
            cases ts with
            | nil => have := HL.out; simp at this; omega
            | cons t ts => exact ⟨(a, l) :: ts, rfl, rfl⟩
          rw [hse, Nat.add_zero] at s2
          have HS2 := Lib.hid s2
          have HF2 := Lib.hid ((hP.2.1.setCell ⟨b, off, none⟩ (.int .i64 a)).setCell ⟨b, off + 1, none⟩ (.int .i64 l))
          have HLI := Lib.hid hP.2.2
          have HK6 := Lib.hid ((HK5.out.setNew (p := ⟨b, off, none⟩) (by simp only; omega) (.int .i64 a)).setNew (p := ⟨b, off + 1, none⟩) (by simp only; omega) (.int .i64 l))
          have HR6 := Lib.hid ((HR5.out.far (p := ⟨b, off, none⟩) (by simp only; omega) (.int .i64 a)).far (p := ⟨b, off + 1, none⟩) (by simp only; omega) (.int .i64 l))
          have HUS := Lib.hid hus
          clear hP s1 s2 hx0 hx1 hse hus ha hlq hK4 hK5 hR4 hR5 hown3 HK3 HR3 HK5 HR5
          go_wp2_with fail
          refine (num_lit [1, 0, 2, -1, 3, 5, -20000, 20000, 20001] g _ 9 _ _ _ _ (by first | rfl | simp) rfl rfl (by omega) (by omega) HR6.out (by omega)).mono ?_
          rintro e w6 ⟨z, rfl, hz, hK6, hR6⟩
          have hz6 := hK6.size
          simp only [World.size_setCell] at hz6
          have HE := Lib.hid (HE1.out.fresh (HK6.out.trans hK6) (by omega))
          have HG : Hid (Got w w6 2 (some ⟨b, off, none⟩) k (encT us)) := by
            have L0 : Lies w1.heap.size w5.heap.size (some ⟨b, off, none⟩) k := HLI.out
            exact ⟨HS2.out.kept L0 hK6 (.inr (by omega)), HF2.out.kept HS2.out L0 hK6 (.inr (by omega)), L0.wide hzw1 hz6⟩
          clear hz hK6 hR6 d0 d1 f0 f1
          go_wp2
          go_ret2
          exact ⟨_, k, c5, us, z, rfl, by rw [HUS.out, HL.out], by omega, HG.out, HE.out⟩
        · have hb0 : (i == 0) = false := by simpa using h0
          clear h0
          go_wp2_with fail
          refine (num_lit [1, 0, 2, -1, 3, 5, -20000, 20000, 20001] g _ 9 _ _ _ _ (by first | rfl | simp) rfl rfl (by omega) (by omega) HR3.out (by omega)).mono ?_
          rintro e w6 ⟨z, rfl, hz, hK6, hR6⟩
          have HF := Lib.hid (own_got (w := w) (own_kept hown3.out hK6 (by omega)) hzw1)
          have HE := Lib.hid (HE1.out.fresh (HK3.out.trans hK6) (by omega))
          clear hz hK6 hR6 hown3
          go_wp2
          go_ret2
          exact ⟨A5, k, c5, ts, z, rfl, HL.out, by omega, HF.out, HE.out⟩
end Go.Proofs.Ytihbgajlnbchlaa
