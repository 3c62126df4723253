/- ImpliedLiterals, the program's and the reference's: l3Implied, implied. -/
import Derived.Test.YtbpkpcfhmglddaaSlack
import Derived.Test.YtbpkpcfhmglddaaIntS
import Derived.Test.YtbpkpcfhmglddaaApp
import Derived.Test.YtbpkpcfhmglddaaMemE
namespace Go.Proofs.Ytbpkpcfhmglddaa
open Go.RowKit

/-- the literals that a partial assignment leaves open and whose coefficient passes s -/
def imL (p : List Int) (s : Int) (ts : List Tm) : List Int := (ts.filter fun t => decide (stI p t.2 = 0) && decide (s < t.1)).map (·.2)
def imS (p : List Int) (s : Int) (ts : List Tm) : List Int := if 0 ≤ s then imL p s ts else []
def imT (ts : List Tm) (bd : Int) (p : List Int) : List Int := if slB ts bd p = true then imS p (slkT p ts - bd) ts else []
theorem imL_snoc (p : List Int) (s : Int) (ts : List Tm) (t : Tm) : imL p s (ts ++ [t]) = imL p s ts ++ (if stI p t.2 = 0 ∧ s < t.1 then [t.2] else []) := by
  unfold imL
  rw [List.filter_append, List.map_append]
  by_cases h1 : stI p t.2 = 0 <;> by_cases h2 : s < t.1 <;> simp [h1, h2]
theorem imS_yes {p : List Int} {s : Int} {ts : List Tm} {t : Tm} (h0 : 0 ≤ s) (h1 : stI p t.2 = 0) (h2 : s < t.1) : imS p s (ts ++ [t]) = imS p s ts ++ [t.2] := by
  unfold imS; rw [if_pos h0, if_pos h0, imL_snoc, if_pos ⟨h1, h2⟩]
theorem imS_no {p : List Int} {s : Int} {ts : List Tm} {t : Tm} (h : ¬ (stI p t.2 = 0 ∧ s < t.1)) : imS p s (ts ++ [t]) = imS p s ts := by
  unfold imS; split
  · rw [imL_snoc, if_neg h, List.append_nil]
  · rfl
theorem imL_len (p : List Int) (s : Int) (ts : List Tm) : (imL p s ts).length ≤ ts.length := by
  unfold imL; rw [List.length_map]; exact List.length_filter_le _ _
theorem imS_len (p : List Int) (s : Int) (ts : List Tm) : (imS p s ts).length ≤ ts.length := by
  unfold imS; split
  · exact imL_len _ _ _
  · simp
theorem imT_len (ts : List Tm) (bd : Int) (p : List Int) : (imT ts bd p).length ≤ 1048576 := by
  unfold imT; split
  · rename_i h; have := imS_len p (slkT p ts - bd) ts; have := cvB_len (ts := ts) (bd := bd) (by unfold slB at h; rw [Bool.and_eq_true] at h; exact h.1); omega
  · simp

theorem own_keptI {w w' : World} {base lo hi : Nat} {e : TypeId} {sz n : Nat} {v : Value} {xs : List Value} (hown : w.ownsRow base e sz v n xs) (k : Kept lo hi w w') (h : hi ≤ base) : w'.ownsRow base e sz v n xs := by
  refine ⟨hown.1, ?_⟩
  rcases hown.2 with hn | ⟨g, cap, cur, hv, hb, hgg, rest⟩
  · exact .inl hn
  · exact .inr ⟨g, cap, cur, hv, hb, (k.block g (Array.getElem?_eq_some_iff.1 hgg).1 (.inr (by omega))).trans hgg, rest⟩
theorem Try.infoInM : (Try.prog.info? 3).map (fun i => (i.zero, i.size, i.bytes)) = some (some (.int .i64 0), 1, 8) := by kernel_rfl

set_option maxRecDepth 100000 in
set_option maxHeartbeats 2000000 in
theorem l3Implied_any (A : Option Addr) (n cap : Nat) (ts : List Tm) (bd : Int) (B : Option Addr) (capb : Nat) (p : List Int) (w : World) (h : Seg w 2 A n (encT ts)) (hv : cvB ts bd = true) (hb : Seg w 1 B 12 (encI p)) (hp : pvB p = true) :
    Calls Try.prog 96 #[.agg #[.slice A n cap, .int .i64 bd], .slice B 12 capb] w fun e w' => RetInt (imS p (slkT p ts - bd) ts) w e w' := by
  obtain ⟨i0, hi, hz0, hz1, hz2⟩ := info_parts Try.infoInM
  have HI := Lib.hid hi
  have HZ0 := Lib.hid hz0
  have HZ1 := Lib.hid hz1
  have HZ2 := Lib.hid hz2
  clear hi hz0 hz1 hz2
  have HL := Lib.hid h.lenT
  have hn : n ≤ 12 := by have := cvB_len hv; rw [HL.out] at this; exact this
  have HV := Lib.hid hv
  have HP := Lib.hid hp
  have hbd := cvB_bd hv
  have hsl := slkT_bounds hv p n
  rw [List.take_of_length_le (by rw [HL.out]; omega)] at hsl
  have HH := Lib.hid h
  have HB := Lib.hid hb
  obtain ⟨s, hs⟩ : ∃ s, slkT p ts - bd = s := ⟨_, rfl⟩
  have hs1 : s ≤ 12000 := by omega
  have hs2 : -20000 ≤ s := by omega
  rw [hs]
  have HS := Lib.hid hs
  clear hv hp h hb hsl hs
  go_enter Try.func96, Try.ntmps96
  go_wp2_with fail
  refine (l3Slack_any A n cap ts bd B capb p _ ((HH.out.alloc _).alloc _) HV.out ((HB.out.alloc _).alloc _) HP.out).mono ?_
  rintro e w1 ⟨rfl, hE1⟩
  have hC : Ext (w.alloc (.cells #[.slice A n cap, .int .i64 bd] 25)) w1 := (((Ext.refl _).alloc _).trans hE1)
  have HO := Lib.hid (own_keptI (own_empty (w.alloc (.cells #[.slice A n cap, .int .i64 bd] 25)) (w.heap.size + 1) 3 1 (by simp)) (hE1.kept 0 0) (Nat.zero_le _))
  clear hE1
  rw [HS.out]
  have B1 := Blk.of1 hC
  have b0 := B1.cell 0
  have b1 := B1.cell 1
  clear B1
  go_wp2_with fail
  clear b0 b1
  go_loopw [5, 7] (fun q i wr => ∃ (k j : Nat), k ≤ n ∧ i = .int .i64 k ∧ j ≤ k ∧ Ext (w.alloc (.cells #[.slice A n cap, .int .i64 bd] 25)) wr ∧ Hid (wr.ownsRow (w.heap.size + 1) 3 1 q j (encI (imS p s (ts.take k))))) (fun _ i _ => n - (intOf i).toNat)
  case atStart =>
    refine ⟨0, 0, Nat.zero_le _, rfl, Nat.le_refl _, hC, ?_⟩
    have : imS p s (ts.take 0) = [] := by unfold imS; split <;> rfl
    rw [this]; simpa [World.size_alloc, Hid, encI] using HO.out
  case round =>
    obtain ⟨k, j, hk, rfl, hjk, hE, hown⟩ := hrel
    have B0 := Blk.of1 hE
    have b0 := B0.cell 0
    have b1 := B0.cell 1
    have hB := B0.lt
    clear B0 HO hC
    by_cases hlt : k < n ∧ 0 ≤ s
    · obtain ⟨hlt, hs0⟩ := hlt
      obtain ⟨b, off, c, l, rfl, hx, c1, c2⟩ := ((HH.out.alloc _).ext hE).term hlt
      obtain ⟨hl, hc1, hc2⟩ := cvB_get HV.out hx
      have HX := Lib.hid hx
      have HLL := Lib.hid hl
      have hbl := World.block_lt_of_cell? _ _ c1
      simp only at hbl
      have hbv := Lib.hid ((HB.out.alloc (.cells #[.slice (some ⟨b, off, none⟩) n cap, .int .i64 bd] 25)).ext hE)
      have HT := Lib.hid (take_of_get _ _ _ hx)
      clear hx hl
      obtain ⟨x, hxx⟩ : ∃ x, Hid (stI p l = x) := ⟨_, rfl⟩
      by_cases hx0 : x = 0
      · by_cases hcs : s < c
        · go_wp2_with fail
          refine (calls_val (l3State_any B capb p l _ (hbv.out) HP.out HLL.out) (congrArg (Value.int .i64) hxx.out)).mono ?_
          rintro e w2 ⟨rfl, rfl⟩
          subst hx0
          go_wp2_with (first
            | (at_builtin
               refine wpList_append_own _ rfl _ _ 22 rfl (w.heap.size + 1) 3 i0 _ 1 8 Try.underlying22 HI.out HZ0.out HZ1.out HZ2.out rfl (by omega) _ j _ rfl (hown.out.alloc _) ⟨wr.heap.size, 0, none⟩ 1 1 [.int .i64 l] rfl rfl (World.news_of_block (cs := #[.int .i64 l]) (t := 3) (fr := (0, 0)) (heap_alloc_new wr _)) ?_ ?_ ?_ ?_ ?_
               (intro u hu; simp at hu; rcases hu with rfl | rfl <;> rfl)
               (unfold maxLen; omega)
               omega
               (simp; omega)
               (intro v1 w5 hown5 hg5 _)))
          go_roundw
          case rel =>
            refine ⟨k + 1, j + 1, by omega, by go_num, by omega, (hE.alloc _).grown hg5 (fun g' hg' => by have := (hown.out.lt g' hg').1; simp only [World.size_alloc]; omega), ?_⟩
            rw [HT.out, imS_yes hs0 hxx.out hcs, encI_snoc]
            simpa [encI, Hid] using hown5
          case measure => simp [intOf]; omega
        · go_wp2_with fail
          refine (calls_val (l3State_any B capb p l _ (hbv.out) HP.out HLL.out) (congrArg (Value.int .i64) hxx.out)).mono ?_
          rintro e w2 ⟨rfl, rfl⟩
          subst hx0
          go_wp2
          go_roundw
          case rel => exact ⟨k + 1, j, by omega, by go_num, by omega, hE, by rw [HT.out, imS_no (fun e => absurd e.2 (by first | exact hcs | (simp only; omega)))]; exact hown.out⟩
          case measure => simp [intOf]; omega
      · have hb0 : (x == 0) = false := by simpa using hx0
        go_wp2_with fail
        refine (calls_val (l3State_any B capb p l _ (hbv.out) HP.out HLL.out) (congrArg (Value.int .i64) hxx.out)).mono ?_
        rintro e w2 ⟨rfl, rfl⟩
        go_wp2
        go_roundw
        case rel => exact ⟨k + 1, j, by omega, by go_num, by omega, hE, by rw [HT.out, imS_no (fun e => hx0 (hxx.out ▸ e.1))]; exact hown.out⟩
        case measure => simp [intOf]; omega
    · have HF : Hid (imS p s (ts.take k) = imS p s ts) := by
        by_cases hs0 : 0 ≤ s
        · obtain rfl : k = n := by omega
          rw [List.take_of_length_le (by rw [HL.out]; omega)]; rfl
        · unfold imS; rw [if_neg hs0, if_neg hs0]; rfl
      obtain ⟨A1, c1, rfl⟩ := own_slice hown.out
      have hlen := own_len hown.out
      rw [HF.out] at hlen
      have G := own_got (w := w) hown.out (by omega)
      rw [HF.out] at G
      have hor : ¬ k < n ∨ s < 0 := by omega
      clear HH HB
      by_cases hkn : k < n
      · have hs0 : ¬ 0 ≤ s := by omega
        go_wp2
        go_ret
        exact ⟨A1, j, c1, rfl, by simpa [encI] using hlen, G, ((Ext.refl _).alloc _).trans hE⟩
      · go_wp2
        go_ret
        exact ⟨A1, j, c1, rfl, by simpa [encI] using hlen, G, ((Ext.refl _).alloc _).trans hE⟩




end Go.Proofs.Ytbpkpcfhmglddaa
