/- Propagate, the program's and the reference's: l3Assign, l3Propagate, propagate. -/
import Derived.Test.YtbpkpcfhmglddaaPlPr
import Derived.Test.YtbpkpcfhmglddaaSetAt
import Derived.Test.YtbpkpcfhmglddaaClone
import Derived.Deep.LoopGhost
namespace Go.Proofs.Ytbpkpcfhmglddaa
open Go.RowKit

theorem encI_setI (p : List Int) (i : Nat) (z : Int) : (encI p).set i (.int .i64 z) = encI (p.set i z) := by
  unfold encI; rw [List.map_set]

/-- an assignment in place -/
structure PM (w W : World) (lo hi : Nat) (B : Option Addr) (p : List Int) : Prop where
  kept : Kept lo hi w W
  seg : Seg W 1 B 12 (encI p)
  free : Free W 1 B 12
  lies : Lies lo hi B 12

theorem PM.step {w W : World} {lo hi : Nat} {b off : Nat} {p : List Int} (h : PM w W lo hi (some ⟨b, off, none⟩) p) (m : Nat) (hm : m < 12) (x : Int) :
    PM w (W.setCell ⟨b, off + m, none⟩ (.int .i64 x)) lo hi (some ⟨b, off, none⟩) (p.set m x) := by
  have hl := h.lies (by omega) _ rfl
  simp only at hl
  refine ⟨h.kept.setIn (by simp only; omega) _, ?_, h.free.setCell _ _, h.lies⟩
  have := Seg.setAt h.seg (i := m) (by rw [h.seg.1]; omega) (.int .i64 x)
  rwa [encI_setI] at this
theorem PM.ext {w W W' : World} {lo hi : Nat} {B : Option Addr} {p : List Int} (h : PM w W lo hi B p) (hE : Ext W W') : PM w W' lo hi B p :=
  ⟨h.kept.trans (hE.kept _ _), h.seg.ext hE, h.free.ext h.seg hE, h.lies⟩

set_option maxHeartbeats 1000000 in
theorem l3Assign_any (B : Option Addr) (cap : Nat) (p : List Int) (l : Int) (w W : World) (lo hi : Nat) (h : PM w W lo hi B p) (hl : litB l = true) :
    Calls Try.prog 97 #[.slice B 12 cap, .int .i64 l] W fun e w' => e = .returned (.tuple #[]) ∧ PM w w' lo hi B (asg p l) := by
  obtain ⟨m, hm, hlm⟩ := lit_cases hl
  obtain ⟨b, off, x, rfl, hx, c1⟩ := h.seg.int hm
  have hf := h.free _ _ rfl m (by omega)
  have H := Lib.hid (h.step m hm)
  clear h hx hl
  rcases hlm with rfl | rfl
  · have ha : Hid (asg p ((m : Int) + 1) = p.set m 1) := by unfold asg Hid; rw [if_pos (by omega), show ((m : Int) + 1 - 1).toNat = m from by omega]
    have hp : (0 : Int) < (m : Int) + 1 := by omega
    go_enter Try.func97, Try.ntmps97
    go_wp2
    refine ⟨rfl, .tuple #[], by simp [results, Try.results97, go_sem], ?_⟩
    exact ⟨rfl, by rw [ha.out]; exact H.out 1⟩
  · have ha : Hid (asg p (-((m : Int) + 1)) = p.set m (-1)) := by unfold asg Hid; rw [if_neg (by omega), show (- -((m : Int) + 1) - 1).toNat = m from by omega]
    have hp : ¬ (0 : Int) < -((m : Int) + 1) := by omega
    go_enter Try.func97, Try.ntmps97
    go_wp2
    refine ⟨rfl, .tuple #[], by simp [results, Try.results97, go_sem], ?_⟩
    exact ⟨rfl, by rw [ha.out]; exact H.out (-1)⟩

theorem passP_cons_bad {c : Cn} {cs : List Cn} {p : List Int} {i : Int} {ch : Bool} (h : slkC p c < 0) : passP (c :: cs) p i ch = (p, i, ch) := by
  rw [passP, if_pos h]
theorem passP_cons_ok {c : Cn} {cs : List Cn} {p : List Int} {i : Int} {ch : Bool} (h : ¬ slkC p c < 0) : passP (c :: cs) p i ch = passP cs (asgL p (imC p c)) (i + 1) (ch || !(imC p c).isEmpty) := by
  rw [passP, if_neg h]
theorem asgL_snoc (p : List Int) (ls : List Int) (l : Int) : asgL p (ls ++ [l]) = asg (asgL p ls) l := by unfold asgL; rw [List.foldl_append]; rfl

set_option maxRecDepth 100000 in
set_option maxHeartbeats 4000000 in
theorem l3Prop_any (A : Option Addr) (n cap : Nat) (cs : List Cn) (B : Option Addr) (capb : Nat) (p : List Int) (w0 w : World) (lo hi : Nat) (hn : n ≤ maxLen) (h : SegC w0 A n cs) (hv : cs.all cvC = true)
    (hE0 : Ext w0 w) (hlo : w0.heap.size ≤ lo) (hhi : hi ≤ w.heap.size) (hp : pvB p = true) (hP : PM w w lo hi B p) :
    Calls Try.prog 91 #[.slice A n cap, .slice B 12 capb] w fun e w' => e = .returned (.int .i64 (propP cs 13 p).2) ∧ PM w w' lo hi B (propP cs 13 p).1 := by
  have HL := Lib.hid h.len
  have HV := Lib.hid hv
  have HS := Lib.hid h
  have HE0 := Lib.hid hE0
  unfold maxLen at hn
  have hz12 : zc p < 13 := by have h1 := (pvB_at hp).1; have h2 : zc p ≤ p.length := List.count_le_length; omega
  have HP0 := Lib.hid hp
  have HPM := Lib.hid hP
  have hee : ∀ W, Kept lo hi w W → Ext w0 W := fun W k => HE0.out.fresh k hlo
  have HEE := Lib.hid hee
  have hz12' := Lib.hid hz12
  clear hv h hE0 hp hP hee hz12
  go_enter Try.func91, Try.ntmps91
  go_wp2_with fail
  go_loopg [5] 13 (fun g ch wr => ∃ (cb : Bool) (q : List Int), ch = .bool cb ∧ PM w wr lo hi B q ∧ Hid (pvB q = true) ∧ Hid ((cb = true ∧ zc q < g ∧ propP cs 13 p = propP cs g q) ∨ (cb = false ∧ propP cs 13 p = (q, -1))))
  case atStart => exact ⟨true, p, rfl, HPM.out, HP0.out, .inl ⟨rfl, hz12'.out, rfl⟩⟩
  case round =>
    obtain ⟨cb, q, rfl, hM, hq, hD⟩ := hrel
    have HM := Lib.hid hM
    clear hM HPM
    cases cb
    · have hD' : Hid (propP cs 13 p = (q, -1)) := by
        rcases hD.out with ⟨h, _⟩ | ⟨_, h⟩
        · cases h
        · exact h
      go_wp2
      go_ret
      exact ⟨ret_i (by rw [hD'.out]), by rw [hD'.out]; exact HM.out⟩
    · have hD' : Hid (zc q < gk ∧ propP cs 13 p = propP cs gk q) := by
        rcases hD.out with ⟨_, h⟩ | ⟨h, _⟩
        · exact h
        · cases h
      obtain ⟨f, rfl⟩ : ∃ f, gk = f + 1 := ⟨gk - 1, by have := hD'.out.1; omega⟩
      clear hD
      obtain ⟨wo, rfl⟩ : ∃ x, x = wr := ⟨wr, rfl⟩
      go_wp2_with fail
      go_loopw [5, 6] (fun ch i wr => ∃ (k : Nat) (cb : Bool) (q' : List Int), k ≤ n ∧ ch = .bool cb ∧ i = .int .i64 k ∧ PM w wr lo hi B q' ∧ Hid (pvB q' = true) ∧ Hid (passP cs q 0 false = passP (cs.drop k) q' k cb) ∧ Hid (zc q' ≤ zc q ∧ (cb = true → zc q' < zc q))) (fun _ i _ => n - (intOf i).toNat)
      case atStart => exact ⟨0, false, q, Nat.zero_le _, rfl, rfl, HM.out, hq.out, rfl, Nat.le_refl _, fun h => by cases h⟩
      case round =>
        obtain ⟨k, cb, q', hk, rfl, rfl, hM', hq', hpass, hzz⟩ := hrel
        have hE := HEE.out _ hM'.kept
        have hszw := hM'.kept.size
        have HM' := Lib.hid hM'
        clear hM'
        by_cases hlt : k < n
        · obtain ⟨b, off, A', n', cap', ts, bd, rfl, hx, c1, c2, hn', hS'⟩ := (HS.out.ext hE).at_ hlt
          have HX := Lib.hid (drop_of_get _ _ _ hx)
          have HC := Lib.hid (List.all_eq_true.1 HV.out _ (List.mem_of_getElem? hx))
          have HS' := Lib.hid hS'
          clear hx hS' hn'
          obtain ⟨s, hs⟩ : ∃ s, slkT q' ts - bd = s := ⟨_, rfl⟩
          have HSl := Lib.hid hs
          clear hs
          by_cases hs0 : s < 0
          · have HR : Hid (propP cs 13 p = (q', (k : Int))) := by
              unfold Hid
              rw [hD'.out.2, propP, hpass.out, HX.out, passP_cons_bad (by unfold slkC; rw [HSl.out]; exact hs0)]
              simp only
              rw [if_pos (Int.natCast_nonneg _)]
            go_wp2_with fail
            refine (l3Slack_any A' n' cap' ts bd B capb q' _ HS'.out HC.out HM'.out.seg hq'.out).mono ?_
            rintro e w1 ⟨rfl, hE1⟩
            rw [HSl.out]
            go_wp2
            go_ret
            exact ⟨ret_i (by rw [HR.out]), by rw [HR.out]; exact HM'.out.ext hE1⟩
          · go_wp2_with fail
            refine (l3Slack_any A' n' cap' ts bd B capb q' _ HS'.out HC.out HM'.out.seg hq'.out).mono ?_
            rintro e w1 ⟨rfl, hE1⟩
            rw [HSl.out]
            have d1 := hE1.cell c1
            have d2 := hE1.cell c2
            clear c1 c2
            go_wp2_with fail
            refine (l3Implied_any A' n' cap' ts bd B capb q' _ (HS'.out.ext hE1) HC.out (HM'.out.seg.ext hE1) hq'.out).mono ?_
            rintro e w2 ⟨A2, n2, c2, rfl, hl2, hG2, hE2⟩
            have HLs : Hid (imC q' (ts, bd) = imS q' (slkT q' ts - bd) ts) := rfl
            rw [← HLs.out] at hl2 hG2
            obtain ⟨ls, hls⟩ : ∃ ls, imC q' (ts, bd) = ls := ⟨_, rfl⟩
            rw [hls] at hl2 hG2
            have HLL := Lib.hid hls
            have HMEM : Hid (∀ l ∈ ls, litB l = true) := fun l hl => (imC_mem HC.out (by rw [hls]; exact hl)).1
            have hE12 := Lib.hid (hE1.trans hE2)
            have hM2 := Lib.hid (HM'.out.ext hE12.out)
            have hG := Lib.hid hG2
            have hl2' := Lib.hid hl2
            have hn2 : n2 ≤ 12 := by
              have h1 := imS_len q' (slkC q' (ts, bd)) ts
              have h2 := cvB_len HC.out
              have h3 : (imC q' (ts, bd)).length = n2 := by rw [hls]; exact hl2
              unfold imC at h3
              simp only at h2 h3; omega
            have hz1 := hE1.size
            have hz2 := hE2.size
            clear hls HLs hl2 hG2 hE1 hE2 d1 d2
            go_wp2_with fail
            go_loopw [5, 8] (fun ch i wr => ∃ (j : Nat), j ≤ n2 ∧ ch = .bool (cb || decide (0 < j)) ∧ i = .int .i64 j ∧ PM w2 wr lo hi B (asgL q' (ls.take j))) (fun _ i _ => n2 - (intOf i).toNat)
            case atStart => exact ⟨0, Nat.zero_le _, by simp, rfl, ⟨Kept.refl _ _ _, hM2.out.seg, hM2.out.free, hM2.out.lies⟩⟩
            case round =>
              obtain ⟨j, hj, rfl, rfl, hM3⟩ := hrel
              have HM3 := Lib.hid hM3
              clear hM3
              by_cases hjl : j < n2
              · obtain ⟨b2, off2, l, rfl, hx2, e1⟩ := (hG.out.seg.kept hG.out.lies HM3.out.kept (.inr (by omega))).int hjl
                have HT := Lib.hid (take_of_get _ _ _ hx2)
                have HLb := Lib.hid (HMEM.out l (List.mem_of_getElem? hx2))
                clear hx2
                go_wp2_with fail
                refine (l3Assign_any B capb _ l w2 _ lo hi HM3.out HLb.out).mono ?_
                rintro e w3 ⟨rfl, hM4⟩
                go_wp2
                go_roundw
                case rel => exact ⟨j + 1, by omega, by simp, by go_num, by rw [HT.out, asgL_snoc]; exact hM4⟩
                case measure => simp [intOf]; omega
              · obtain rfl : j = n2 := by omega
                have HFull : Hid (ls.take j = ls) := List.take_of_length_le (by rw [hl2'.out]; omega)
                have HEm : Hid (decide (0 < j) = !ls.isEmpty) := by
                  unfold Hid
                  cases ls with
                  | nil => have := hl2'.out; simp at this; subst this; simp
                  | cons a rest => have := hl2'.out; simp at this; subst this; simp
                go_wp2
                go_roundw
                case rel =>
                  refine ⟨k + 1, cb || decide (0 < j), asgL q' ls, by omega, rfl, by go_num, ?_, pvB_asgL ls hq'.out, ?_, ?_⟩
                  · have := HM3.out
                    rw [HFull.out] at this
                    exact ⟨hM2.out.kept.trans this.kept, this.seg, this.free, this.lies⟩
                  · unfold Hid
                    rw [hpass.out, HX.out, passP_cons_ok (by unfold slkC; rw [HSl.out]; omega), HLL.out, HEm.out]
                    rfl
                  · refine ⟨Nat.le_trans (zc_asgL ls q') hzz.out.1, fun hh => ?_⟩
                    rw [HEm.out, Bool.or_eq_true] at hh
                    rcases hh with hh | hh
                    · exact Nat.lt_of_le_of_lt (zc_asgL ls q') (hzz.out.2 hh)
                    · have := zc_imC hq'.out HC.out (by rw [HLL.out]; simpa using hh)
                      rw [HLL.out] at this
                      exact Nat.lt_of_lt_of_le this hzz.out.1
                case measure => simp [intOf]; omega
        · obtain rfl : k = n := by omega
          have HR : Hid (propP cs (f + 1) q = if cb = true then propP cs f q' else (q', -1)) := by
            unfold Hid
            rw [propP, hpass.out, List.drop_of_length_le (by rw [HL.out]; omega)]
            show (if (0 : Int) ≤ -1 then (q', (-1 : Int)) else if cb = true then propP cs f q' else (q', -1)) = _
            rw [if_neg (by decide)]
          go_wp2
          go_roundg f
          case measure => omega
          case rel =>
            refine ⟨cb, q', rfl, HM'.out, hq'.out, ?_⟩
            cases cb
            · exact .inr ⟨rfl, by rw [hD'.out.2, HR.out]; rfl⟩
            · exact .inl ⟨rfl, by have := hzz.out.2 rfl; have := hD'.out.1; omega, by rw [hD'.out.2, HR.out]; rfl⟩

/-- the assignment that propagation leaves, and the conflict -/
def RetPr (cs : List Cn) (p : List Int) (w : World) (e : Ending) (w' : World) : Prop :=
  ∃ A c, e = .returned (.tuple #[.slice A 12 c, .int .i64 (propP cs 13 p).2]) ∧ Got w w' 1 A 12 (encI (propP cs 13 p).1) ∧ Ext w w'

end Go.Proofs.Ytbpkpcfhmglddaa
