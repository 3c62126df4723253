/- Drawn partial assignments; DrawExtendsPartial. -/
import Derived.Test.YtihmkbfobihddaaRdV
import Derived.Test.YtihmkbfobihddaaSetAt
namespace Go.Proofs.Ytihmkbfobihddaa
open Go.RowKit

/-- SOME integers, at most 12 -/
def RdP (g L : Nat) (w : World) (e : Ending) (w' : World) : Prop :=
  ∃ A n c zs, e = .returned (.slice A n c) ∧ zs.length = n ∧ n ≤ 12 ∧ Got w w' 1 A n (encI zs) ∧ Kept g (g + 1) w w' ∧ Rd w' g L
theorem Try.infoInR : (Try.prog.info? 3).map (fun i => (i.zero, i.size, i.bytes)) = some (some (.int .i64 0), 1, 8) := by kernel_rfl
theorem encI_append (a b : List Int) : encI (a ++ b) = encI a ++ encI b := by simp [encI]
set_option maxRecDepth 100000 in
set_option maxHeartbeats 2000000 in
theorem l3Partial_any (g L : Nat) (w : World) (h : Rd w g L) (hL : L ≤ 800000000) :
    Calls Try.prog 55 #[.pointer (some ⟨g, 0, none⟩)] w (RdP g (L + 20) w) := by
  obtain ⟨i0, hi, hz0, hz1, hz2⟩ := info_parts Try.infoInR
  have HI := Lib.hid hi
  have HZ0 := Lib.hid hz0
  have HZ1 := Lib.hid hz1
  have HZ2 := Lib.hid hz2
  have hgw := h.lt
  have HR := Lib.hid h
  clear hi hz0 hz1 hz2 h
  go_enter Try.func55, Try.ntmps55
  go_wp2_with fail
  go_loopw [3, 4] (fun s i wr => ∃ (k : Nat) (zs : List Int), k ≤ 12 ∧ i = .int .i64 k ∧ zs.length = k ∧ Kept g (g + 1) w wr ∧ Hid (Rd wr g (L + k)) ∧ Hid (wr.ownsRow w.heap.size 3 1 s k (encI zs))) (fun _ i _ => 12 - (intOf i).toNat)
  case atStart => exact ⟨0, [], by omega, rfl, rfl, (Kept.refl _ _ _).alloc _, HR.out.alloc _, own_empty w w.heap.size 3 1 (Nat.le_refl _)⟩
  case round =>
    obtain ⟨k, zs, hk, rfl, hl, hE, hR, hown⟩ := hrel
    have HL := Lib.hid hl
    have hzw := hE.size
    clear hl
    by_cases hlt : k < 12
    · go_wp2_with fail
      refine (num_lit [0, 0, 1, -1, 0] g _ 5 _ _ _ _ (by simp) rfl rfl (by omega) (by omega) hR.out (by omega)).mono ?_
      rintro e w1 ⟨z, rfl, _, hK1, hR1⟩
      have HK1 := Lib.hid (hE.trans hK1)
      have HR1 := Lib.hid hR1
      have hown1 := Lib.hid (own_kept hown.out hK1 (by omega))
      have hz1 := hK1.size
      clear hK1 hR1 hE hR hown
      go_wp2_with (first
        | (at_builtin
           refine wpList_append_own _ rfl _ _ 23 rfl w.heap.size 3 i0 _ 1 8 Try.underlying23 HI.out HZ0.out HZ1.out HZ2.out rfl (by omega) _ k _ rfl (hown1.out.alloc _) ⟨w1.heap.size, 0, none⟩ 1 1 [.int .i64 z] rfl rfl (World.news_of_block (cs := #[.int .i64 z]) (t := 3) (fr := (0, 0)) (heap_alloc_new w1 _)) ?_ ?_ ?_ ?_ ?_
           (intro u hu; simp at hu; rcases hu with rfl | rfl <;> rfl)
           (unfold maxLen; omega)
           omega
           (simp; omega)
           (intro v1 w5 hown5 hg5 _)))
      go_roundw
      case rel =>
        have KG : Kept w.heap.size (w1.alloc (.cells #[.int .i64 z] 3)).heap.size (w1.alloc (.cells #[.int .i64 z] 3)) w5 := kept_of_grown hg5 fun k hk => ((hown1.out.alloc (.cells #[.int .i64 z] 3)).lt k hk).1
        refine ⟨k + 1, zs ++ [z], by omega, by go_num, by rw [List.length_append, HL.out]; rfl, (HK1.out.alloc _).fresh KG (Nat.le_refl _), ((HR1.out.alloc (.cells #[.int .i64 z] 3)).kept KG hgw).mono (by omega), ?_⟩
        rw [encI_append]
        simpa [encI, Hid] using hown5
      case measure => simp [intOf]; omega
    · obtain rfl : k = 12 := by omega
      go_wp2_with fail
      refine (pick_any g _ 40 _ hR.out (by omega) (by omega)).mono ?_
      rintro e w1 ⟨i, rfl, hi, hK1, hR1⟩
      have HK1 := Lib.hid (hE.trans hK1)
      have HR1 := Lib.hid hR1
      have hown1 := Lib.hid (own_kept hown.out hK1 (by omega))
      have hz1 := hK1.size
      clear hi hK1 hR1 hE hR hown
      obtain ⟨gg, c1, rfl, hgb, hgl⟩ := hown1.out.form (by omega)
      have hcap : 12 ≤ c1 := by
        rcases hown1.out.2 with ⟨e, _⟩ | ⟨g', cap, cur, e, _, _, hnc, _⟩
        · cases e
        · injection e with _ _ e3; omega
      by_cases h0 : i = 0
      · subst h0
        go_wp2_with fail
        refine (num_lit [2, -2, 9223372036854775807, -9223372036854775808] g _ 4 _ _ _ _ (by simp) rfl rfl (by omega) (by omega) HR1.out (by omega)).mono ?_
        rintro e w2 ⟨z, rfl, _, hK2, hR2⟩
        have hP := own_parts (own_kept hown1.out hK2 (by omega))
        obtain ⟨b', off', x, e', hx, t1⟩ := hP.1.int (k := 0) (by omega)
        injection e' with e'; injection e' with e1 e2
        subst e1; subst e2
        have tf := hP.2.1 gg 0 rfl 0 (by omega)
        have HS := Lib.hid (hP.1.setAt (i := 0) (by rw [hP.1.1]; omega) (.int .i64 z))
        have es : (encI zs).set 0 (.int .i64 z) = encI (zs.set 0 z) := by simp [encI, List.map_set]
        rw [es, Nat.add_zero] at HS
        have HF := Lib.hid (hP.2.1.setCell ⟨gg, 0, none⟩ (.int .i64 z))
        have HLi := Lib.hid hP.2.2
        have HK2 := Lib.hid ((HK1.out.trans hK2).setNew (p := ⟨gg, 0, none⟩) hgb (.int .i64 z))
        have HR2 := Lib.hid (hR2.far (p := ⟨gg, 0, none⟩) (by simp only; omega) (.int .i64 z))
        clear hx hP es hK2 hR2 hown1 HK1 HR1
        rw [Nat.add_zero] at t1 tf
        go_wp2
        go_ret
        exact ⟨_, 12, c1, zs.set 0 z, rfl, by rw [List.length_set, HL.out], by omega, ⟨HS.out, HF.out, HLi.out.wide (Nat.le_refl _) (by simp)⟩, HK2.out, HR2.out.mono (by omega)⟩
      by_cases h1 : i = 1
      · subst h1
        have hP := own_parts hown1.out
        have HS : Hid (Seg w1 1 (some ⟨gg, 0, none⟩) 11 (encI (zs.take 11))) := ⟨by have := HL.out; simp [encI]; omega, fun _ => by
          obtain ⟨b, off, e, hcc⟩ := hP.1.2 (by omega)
          refine ⟨b, off, e, fun j u hu => hcc j u ?_⟩
          have e2 : encI (zs.take 11) = (encI zs).take 11 := by simp [encI]
          rw [e2] at hu
          have hj : j < 11 := by have := (List.getElem?_eq_some_iff.1 hu).1; simp at this; omega
          rw [List.getElem?_take, if_pos hj] at hu
          exact hu⟩
        have HF : Hid (Free w1 1 (some ⟨gg, 0, none⟩) 11) := fun b off e j hj => hP.2.1 b off e j (by omega)
        have HLi : Hid (Lies w.heap.size w1.heap.size (some ⟨gg, 0, none⟩) 11) := fun _ ad e => hP.2.2 (by omega) ad e
        clear hP
        go_wp2
        go_ret
        exact ⟨_, 11, c1, zs.take 11, rfl, by rw [List.length_take, HL.out]; rfl, by omega, ⟨HS.out, HF.out, HLi.out⟩, HK1.out, HR1.out.mono (by omega)⟩
      · have hb0 : (i == 0) = false := by simpa using h0
        have hb1 : (i == 1) = false := by simpa using h1
        have HG : Hid (Got w w1 1 (some ⟨gg, 0, none⟩) 12 (encI zs)) := own_got hown1.out (Nat.le_refl _)
        clear h0 h1
        go_wp2
        go_ret
        exact ⟨_, 12, c1, zs, rfl, HL.out, by omega, HG.out, HK1.out, HR1.out.mono (by omega)⟩

/-- SOME integers and SOME values -/
def RetIB (w : World) (e : Ending) (w' : World) : Prop :=
  ∃ A n c zs B m d vs, e = .returned (.tuple #[.slice A n c, .slice B m d]) ∧ zs.length = n ∧ n ≤ 12 ∧ vs.length = m ∧ m ≤ 12 ∧ Got w w' 1 A n (encI zs) ∧ Got w w' 1 B m (encB vs) ∧ Ext w w'
set_option maxRecDepth 100000 in
set_option maxHeartbeats 2000000 in
theorem drawEP_any (A : Option Addr) (n c : Nat) (bs : List Int) (w : World) (hn : n ≤ maxLen) (hc : n ≤ c) (hs : Seg w 1 A n (encY bs)) (hb : bytesB bs) :
    Calls Try.prog 15 #[.slice A n c] w (RetIB w) := by
  go_enter Try.func15, Try.ntmps15
  go_wp2_with fail
  refine (open_any A n c bs _ hn hc hs hb).mono ?_
  rintro e w1 ⟨rfl, hE1, hR1⟩
  have hg := hR1.lt
  go_wp2_with fail
  refine (l3Partial_any _ _ w1 hR1 (by omega)).mono ?_
  rintro e w2 ⟨A5, n5, c5, zs, rfl, hl5, hn5, hG5, hK2, hR2⟩
  go_wp2_with fail
  refine (l1Values_any _ _ w2 hR2 (by omega)).mono ?_
  rintro e w3 ⟨A6, n6, c6, vs, rfl, hl6, hn6, hG6, hK3, hR3⟩
  have z1 := hE1.size
  have z2 := hK2.size
  have z3 := hK3.size
  have HL5 := Lib.hid hG5.lies
  have HL6 := Lib.hid hG6.lies
  have HS5 := Lib.hid (hG5.seg.kept hG5.lies hK3 (.inr (by omega)))
  have HF5 := Lib.hid (hG5.free.kept hG5.seg hG5.lies hK3 (.inr (by omega)))
  have HS6 := Lib.hid hG6.seg
  have HF6 := Lib.hid hG6.free
  have HE := Lib.hid (hE1.fresh (hK2.trans hK3) (Nat.le_refl _))
  have HR := Lib.hid hR3
  have HZ := Lib.hid hl5
  have HV := Lib.hid hl6
  clear hs hb hE1 hR1 hR2 hR3 hK2 hK3 hG5 hG6 hl5 hl6
  go_wp2_with fail
  go_loopw [7] (fun i wr => ∃ (k : Nat), k ≤ 12 ∧ i = .int .i64 k ∧ Hid (Ext w wr) ∧ Hid (w3.heap.size ≤ wr.heap.size) ∧ Hid (Rd wr w.heap.size (100 + k)) ∧ Hid (Seg wr 1 A5 n5 (encI zs)) ∧ Hid (Free wr 1 A5 n5) ∧ ∃ us : List Bool, Hid (us.length = n6) ∧ Hid (Seg wr 1 A6 n6 (encB us)) ∧ Hid (Free wr 1 A6 n6)) (fun i _ => 12 - (intOf i).toNat)
  case atStart => exact ⟨0, by omega, rfl, HE.out, Nat.le_refl _, HR.out.mono (by omega), HS5.out, HF5.out, vs, HV.out, HS6.out, HF6.out⟩
  case round =>
    clear HE HR HS5 HF5 HS6 HF6
    obtain ⟨k, hk, rfl, hE, hz, hR, hS5, hF5, us, hul, hS6, hF6⟩ := hrel
    have hzz := hz.out
    have hEz := hE.out.size
    by_cases h1 : k < n5
    · by_cases h2 : k < n6
      · have d1 : decide ((k : Int) < (n5 : Int)) = true := decide_eq_true (by omega)
        have d2 : decide ((k : Int) < (n6 : Int)) = true := decide_eq_true (by omega)
        go_wp2_with fail
        refine (pick_any _ _ 12 _ hR.out (by omega) (by omega)).mono ?_
        rintro e w4 ⟨i, rfl, hi, hK4, hR4⟩
        have hi0 := hi.1
        have z4 := hK4.size
        have HE4 := Lib.hid (hE.out.fresh hK4 (Nat.le_refl _))
        have HR4 := Lib.hid hR4
        have HS5 := Lib.hid (hS5.out.kept HL5.out hK4 (.inr (by omega)))
        have HF5 := Lib.hid (hF5.out.kept hS5.out HL5.out hK4 (.inr (by omega)))
        have HS6 := Lib.hid (hS6.out.kept HL6.out hK4 (.inr (by omega)))
        have HF6 := Lib.hid (hF6.out.kept hS6.out HL6.out hK4 (.inr (by omega)))
        clear hE hR hS5 hF5 hS6 hF6 hK4 hR4 hi
        by_cases hi1 : 0 < i
        · obtain ⟨b5, off5, x, rfl, hx, t1⟩ := HS5.out.int h1
          obtain ⟨b6, off6, y, rfl, hy, t2⟩ := HS6.out.bool h2
          clear hx hy
          by_cases hx0 : x = 0
          · have hb0 : (x != 0) = false := by simpa using hx0
            clear hx0
            go_wp2
            go_roundw
            case rel => exact ⟨k + 1, by omega, by go_num, HE4.out, (by unfold Hid; omega), HR4.out.mono (by omega), HS5.out, HF5.out, us, hul.out, HS6.out, HF6.out⟩
            case measure => simp [intOf]; omega
          · have hb0 : (x != 0) = true := by simpa using hx0
            have tf := HF6.out b6 off6 rfl k (by omega)
            have l5 := HL5.out (by omega) _ rfl
            have l6 := HL6.out (by omega) _ rfl
            simp only at l5 l6
            clear hx0
            obtain ⟨bb, hbb⟩ : ∃ b, decide (0 < x) = b := ⟨_, rfl⟩
            have KS : Kept b6 (b6 + 1) w4 (w4.setCell ⟨b6, off6 + k, none⟩ (.bool bb)) := (Kept.refl _ _ _).setIn (by simp) _
            have s6 := HS6.out.setAt (i := k) (by have := hul.out; simp [encB]; omega) (.bool bb)
            have es : (encB us).set k (.bool bb) = encB (us.set k bb) := by simp [encB, List.map_set]
            rw [es] at s6
            have S6 := Lib.hid s6
            have F6 := Lib.hid (HF6.out.setCell ⟨b6, off6 + k, none⟩ (.bool bb))
            have L5' : Lies w1.heap.size w2.heap.size (some ⟨b5, off5, none⟩) n5 := HL5.out
            have S5 := Lib.hid (HS5.out.kept L5' KS (.inl (by omega)))
            have F5 := Lib.hid (HF5.out.kept HS5.out L5' KS (.inl (by omega)))
            have E5 := Lib.hid (HE4.out.setNew (p := ⟨b6, off6 + k, none⟩) (by simp only; omega) (.bool bb))
            have R5 := Lib.hid (HR4.out.far (p := ⟨b6, off6 + k, none⟩) (by simp only; omega) (.bool bb))
            clear KS es s6 L5' HE4 HR4
            go_wp2
            go_roundw
            case rel => exact ⟨k + 1, by omega, by go_num, E5.out, (by unfold Hid; simp; omega), R5.out.mono (by omega), S5.out, F5.out, us.set k bb, (by unfold Hid; rw [List.length_set]; exact hul.out), S6.out, F6.out⟩
            case measure => simp [intOf]; omega
        · have d3 : decide ((0 : Int) < i) = false := decide_eq_false hi1
          clear hi1
          go_wp2
          go_ret2
          exact ⟨A5, n5, c5, zs, A6, n6, c6, us, rfl, HZ.out, hn5, hul.out, hn6, ⟨HS5.out, HF5.out, HL5.out.wide (by omega) (by omega)⟩, ⟨HS6.out, HF6.out, HL6.out.wide (by omega) (by omega)⟩, HE4.out⟩
      · have d1 : decide ((k : Int) < (n5 : Int)) = true := decide_eq_true (by omega)
        have d2 : decide ((k : Int) < (n6 : Int)) = false := decide_eq_false (by omega)
        go_wp2
        go_ret2
        exact ⟨A5, n5, c5, zs, A6, n6, c6, us, rfl, HZ.out, hn5, hul.out, hn6, ⟨hS5.out, hF5.out, HL5.out.wide (by omega) (by omega)⟩, ⟨hS6.out, hF6.out, HL6.out.wide (by omega) (by omega)⟩, hE.out⟩
    · have d1 : decide ((k : Int) < (n5 : Int)) = false := decide_eq_false (by omega)
      go_wp2
      go_ret2
      exact ⟨A5, n5, c5, zs, A6, n6, c6, us, rfl, HZ.out, hn5, hul.out, hn6, ⟨hS5.out, hF5.out, HL5.out.wide (by omega) (by omega)⟩, ⟨hS6.out, hF6.out, HL6.out.wide (by omega) (by omega)⟩, hE.out⟩
end Go.Proofs.Ytihmkbfobihddaa
