/- ClauseOf: the program's. -/
import Derived.Test.YtbpkpcfhmglddaaCO
import Derived.Test.YtbpkpcfhmglddaaSoI
import Derived.Test.YtbpkpcfhmglddaaConI
import Derived.Test.YtbpkpcfhmglddaaRdC
namespace Go.Proofs.Ytbpkpcfhmglddaa
open Go.RowKit

theorem coOk_step {zs : List Int} {k : Nat} {z : Int} (h : ∀ l ∈ zs.take k, litB l = true ∧ -l ∉ zs) (hx : zs[k]? = some z) (h1 : litB z = true) (h2 : zs.contains (-z) = false) : ∀ l ∈ zs.take (k + 1), litB l = true ∧ -l ∉ zs := by
  rw [take_of_get _ _ _ hx]
  intro l hl
  rcases List.mem_append.1 hl with hl | hl
  · exact h l hl
  · obtain rfl : l = z := by simpa using hl
    exact ⟨h1, by simpa using h2⟩
theorem coOk_bad {zs : List Int} {k : Nat} {z : Int} (hx : zs[k]? = some z) (h : litB z = false ∨ zs.contains (-z) = true) : coB zs = false := by
  refine coB_no ?_
  cases hc : coOk zs with
  | false => rfl
  | true =>
    have := coOk_lit hc z (List.mem_of_getElem? hx)
    rcases h with h | h
    · rw [h] at this; cases this.1
    · exact absurd (by simpa using h) this.2
def lits1 (L : List Int) : List Tm := L.map fun l => ((1 : Int), l)
theorem lits1_snoc (L : List Int) (l : Int) : lits1 (L ++ [l]) = lits1 L ++ [(1, l)] := by simp [lits1]

set_option maxRecDepth 100000 in
set_option maxHeartbeats 4000000 in
theorem implCO_any (A : Option Addr) (n cap : Nat) (zs : List Int) (w : World) (hn : n ≤ maxLen) (h : Seg w 1 A n (encI zs)) :
    Calls Try.prog 8 #[.slice A n cap] w fun e w' => RetCB (coT zs) (coD zs) (coB zs) w e w' := by
  have hno : Hid (∀ W W' : World, Ext W W' → coB zs = false → RetCB (coT zs) (coD zs) (coB zs) W (.returned (.tuple #[.agg #[.slice none 0 0, .int .i64 0], .bool false])) W') := fun W W' hE hc =>
    (RetCB.zero hE).of_eq (by unfold coT; rw [if_neg (by rw [hc]; simp)]) (by unfold coD; rw [if_neg (by rw [hc]; simp)]) hc.symm
  have HL := Lib.hid h.lenI
  obtain ⟨i0, hi, hz0, hz1, hz2⟩ := info_parts Try.infoTmO
  have HI := Lib.hid hi
  have HZ0 := Lib.hid hz0
  have HZ1 := Lib.hid hz1
  have HZ2 := Lib.hid hz2
  clear hi hz0 hz1 hz2
  unfold maxLen at hn
  by_cases h40 : 40 < n
  · have hc : Hid (coB zs = false) := by unfold coB Hid; rw [decide_eq_false (by rw [HL.out]; omega)]; rfl
    clear h
    go_enter Try.func8, Try.ntmps8
    go_wp2
    refine bodyPost_ret (v := .tuple #[.agg #[.slice none 0 0, .int .i64 0], .bool false]) (by simp [results, Try.results8, go_sem]) rfl ?_
    refine hno.out w _ ?_ hc.out
    repeat (first | exact Ext.refl _ | refine Ext.setNew ?_ (by simp) _ | refine Ext.alloc ?_ _)
  have hN := Lib.hid h
  clear h
  go_enter Try.func8, Try.ntmps8
  go_wp2_with fail
  go_loopw [16] (fun i wr => ∃ (k : Nat), k ≤ n ∧ i = .int .i64 k ∧ Ext w wr ∧ Hid (Blk wr w.heap.size 25 #[.slice none 0 0, .int .i64 0]) ∧ Hid (∀ l ∈ zs.take k, litB l = true ∧ -l ∉ zs)) (fun i _ => n - (intOf i).toNat)
  case atStart => exact ⟨0, by omega, rfl, (Ext.refl _).alloc _, Blk.new _ _ _, by intro l hl; simp at hl⟩
  case round =>
    obtain ⟨k, hk, rfl, hE, hB0, hok⟩ := hrel
    have r0 := hB0.out.cell 0
    have r1 := hB0.out.cell 1
    have q0 := hB0.out.frozen 0
    have q1 := hB0.out.frozen 1
    have hzr := hB0.out.lt
    by_cases hlt : k < n
    · obtain ⟨b, off, z, rfl, hx, c1⟩ := (hN.out.ext hE).int hlt
      have hbl := World.block_lt_of_cell? _ _ c1
      simp only at hbl
      have HX := Lib.hid hx
      by_cases hl : litB z = true
      · have HLt := Lib.hid hl
        have hlb := (litB_iff z).1 hl
        have wn : IntKind.i64.wrap (-z) = -z := IntWalk.i64_in _ (by omega)
        obtain ⟨cb, hcb⟩ : ∃ cb, zs.contains (-z) = cb := ⟨_, rfl⟩
        have HCB := Lib.hid hcb
        clear hx hl hcb
        go_wp2_with fail
        refine (calls_val (isLiteral_any z _) (congrArg Value.bool HLt.out)).mono ?_
        rintro e w1 ⟨rfl, rfl⟩
        go_wp2_with fail
        refine (calls_val (containsI_any _ n cap zs (-z) _ (by unfold maxLen; omega) (hN.out.ext hE)) (congrArg Value.bool HCB.out)).mono ?_
        rintro e w1 ⟨rfl, rfl⟩
        cases cb with
        | true =>
          have hc : Hid (coB zs = false) := coOk_bad HX.out (.inr HCB.out)
          clear wn
          go_wp2
          refine bodyPost_ret (v := .tuple #[.agg #[.slice none 0 0, .int .i64 0], .bool false]) (by simp [results, Try.results8, go_sem, r0, r1]) rfl ?_
          exact hno.out w _ ((hE.setNew (by simp) _).setNew (by simp) _) hc.out
        | false =>
          have hok2 := Lib.hid (coOk_step hok.out HX.out HLt.out HCB.out)
          clear wn
          go_wp2
          go_roundw
          case rel => exact ⟨k + 1, by omega, by go_num, hE, hB0.out, hok2.out⟩
          case measure => simp [intOf]; omega
      · have hl' : litB z = false := by simpa using hl
        have hc : Hid (coB zs = false) := coOk_bad hx (.inl hl')
        have HLf := Lib.hid hl'
        clear hx hl hl'
        go_wp2_with fail
        refine (calls_val (isLiteral_any z _) (congrArg Value.bool HLf.out)).mono ?_
        rintro e w1 ⟨rfl, rfl⟩
        go_wp2
        refine bodyPost_ret (v := .tuple #[.agg #[.slice none 0 0, .int .i64 0], .bool false]) (by simp [results, Try.results8, go_sem, r0, r1]) rfl ?_
        exact hno.out w _ ((hE.setNew (by simp) _).setNew (by simp) _) hc.out
    · obtain rfl : k = n := by omega
      rw [List.take_of_length_le (by rw [HL.out]; omega)] at hok
      have HOK := Lib.hid (coOk_of hok.out)
      have HO : Hid (coB zs = true) := coB_of (by rw [HL.out]; omega) HOK.out
      have HZ : Hid (∀ l ∈ zs, -12 ≤ l ∧ l ≤ 12) := fun l hl => by have := (litB_iff l).1 (hok.out l hl).1; omega
      clear r0 r1 q0 q1 hok
      have hle := hE.size
      go_wp2_with fail
      refine (cloneIo_any A k cap zs _ (by omega) (hN.out.ext hE)).mono ?_
      rintro e w1 ⟨⟨A1, c1, rfl, hown1⟩, hE1⟩
      have hsz1 := hE1.size
      have HO1 := Lib.hid hown1
      clear hown1
      go_wp2_with fail
      refine (sortOwn_any A1 k c1 _ zs _ HZ.out HO1.out (by omega) hsz1).mono ?_
      rintro e w2 ⟨rfl, ys, lo, hi, hm, hs, hS, hlo, hhi, hK2⟩
      have hE2 := Lib.hid ((hE.trans hE1).fresh hK2 (by omega))
      have hB2 := Lib.hid (((hB0.out.ext hE1)).kept hK2 (.inl (by omega)))
      have hsz2 := hK2.size
      have HS2 := Lib.hid hS
      have HC : Hid (lits1 (Lib.compact ys) = coUp (seenL zs) 12) := compact_co zs ys HOK.out hm hs
      clear hm hs hS hE1 hE hB0 HO1 hK2
      go_wp2_with fail
      refine (compOwn_any A1 k c1 _ _ ys _ (HS2.out.ext ((Ext.refl _).alloc _)) (by omega) hsz1).mono ?_
      rintro e w3 ⟨rfl, hG3, hL3, lo3, hi3, hlo3, hhi3, hK3⟩
      generalize hLL : Lib.compact ys = L at *
      generalize hmm : L.length = m at *
      have HM := Lib.hid hmm
      have HG3 := Lib.hid hG3
      have HL3 := Lib.hid hL3
      have hsz3 : w2.heap.size + 1 ≤ w3.heap.size := by have := hK3.size; simpa using this
      have hE3 := Lib.hid ((hE2.out.alloc _).fresh hK3 (by omega))
      have hB3 := Lib.hid ((hB2.out.alloc _).kept hK3 (.inl (by omega)))
      have hC3 := Lib.hid ((Blk.new w2 25 #[.slice none 0 0, .int .i64 1]).kept hK3 (.inr (by omega)))
      have hm12 : m ≤ 12 := by
        have := coUp_len (seenL zs) 12
        rw [← HC.out] at this
        unfold lits1 at this
        rw [List.length_map, hmm] at this
        exact this
      clear hLL hmm hG3 hL3 hK3 hE2 hB2 HS2
      go_wp2_with fail
      go_loopw [39] (fun i wr => ∃ (j : Nat), j ≤ m ∧ i = .int .i64 j ∧ Hid (Kept w2.heap.size (w2.heap.size + 1) w3 wr) ∧ ∃ s : Value, Hid (Blk wr w2.heap.size 25 #[s, .int .i64 1]) ∧ Hid (wr.ownsRow w3.heap.size 38 2 s j (encT (lits1 (L.take j))))) (fun i _ => m - (intOf i).toNat)
      case atStart => exact ⟨0, by omega, rfl, Kept.refl _ _ _, _, hC3.out, World.ownsRow_nil _ _ _ _⟩
      case round =>
        obtain ⟨j, hj, rfl, hK, s, hB1, hown⟩ := hrel
        have hszr := hK.out.size
        by_cases hlt : j < m
        · obtain ⟨b, off, l, rfl, hx, c1⟩ := (HG3.out.kept HL3.out hK.out (.inl hsz2)).int hlt
          have hup := lits1_snoc (L.take j) l
          rw [← take_of_get _ _ _ hx] at hup
          have HUP := Lib.hid hup
          have b1 := hB1.out.cell 0
          have f1 := hB1.out.frozen 0
          clear hx hup
          go_wp2_with (first
            |
              (at_builtin
               refine wpList_append_own _ rfl (.tmp 44) (.tmp 47) 23 rfl (w3.heap.size) 38 i0 _ 2 16 Try.underlying23 HI.out HZ0.out HZ1.out HZ2.out rfl (by omega) s j _ rfl (hown.out.alloc _) ⟨wr.heap.size, 0, none⟩ 1 1 [.int .i64 1, .int .i64 l] rfl rfl (by have := cell_two_new (wr) (.int .i64 1) (.int .i64 l) 38; first | (rw [World.size_setCell] at this; exact this) | (rw [World.size_alloc] at this; exact this) | exact this) ?_ ?_ ?_ ?_ ?_
               (intro u hu; simp at hu; rcases hu with rfl | rfl <;> rfl)
               (unfold maxLen; omega)
               omega
               (simp; omega)
               (intro v1 w5 hown5 hg5 _)
               (obtain ⟨A5, k5, rfl⟩ := own_slice hown5)
               (have BB := own_blk (hB1.out.alloc _) (hown.out.alloc _) (by omega) hg5)
               (have bb := BB.cell 0)
               (have fz := BB.frozen 0)
               (clear BB)))
          have KK : Kept w2.heap.size (w2.heap.size + 1) w3 w5 := (hK.out.alloc _).grown hg5 fun k hk => (hown.out.lt k hk).1
          have KW := KK.setIn (p := ⟨w2.heap.size, 0, none⟩) (by simp) (.slice A5 (j + 1) k5)
          have KB := (own_blk (hB1.out.alloc _) (hown.out.alloc _) (by omega) hg5).set_ 0 (.slice A5 (j + 1) k5)
          have KO := own_far hown5 (p := ⟨w2.heap.size, 0, none⟩) (by simp only; omega) (.slice A5 (j + 1) k5)
          go_roundw
          case rel =>
            refine ⟨j + 1, by omega, by go_num, KW, _, KB, ?_⟩
            rw [HUP.out, encT_append]
            simpa [encT, Hid] using KO
          case measure => simp [intOf]; omega
        · obtain rfl : j = m := by omega
          rw [List.take_of_length_le (by rw [HM.out]; omega), HC.out] at hown
          obtain ⟨A5, c5, rfl⟩ := own_slice hown.out
          have hB0 := hB3.out.kept hK.out (.inl (by omega))
          have b2 := hB1.out.cell 0
          have b3 := hB1.out.cell 1
          have r0 := hB0.cell 0
          have r1 := hB0.cell 1
          have q0 := hB0.frozen 0
          have q1 := hB0.frozen 1
          have hzr2 := hB0.lt
          have hEw := Lib.hid (hE3.out.fresh hK.out (by omega))
          have hcT : Hid (coT zs = coUp (seenL zs) 12) := by unfold coT Hid; rw [if_pos HO.out]
          have hlen : (coUp (seenL zs) 12).length = j := by have := hown.out.1; rw [encT_length] at this; omega
          clear hB0
          go_wp2
          refine bodyPost_ret (v := .tuple #[.agg #[.slice A5 j c5, .int .i64 1], .bool true]) (by simp [results, Try.results8, go_sem, r0, r1]) rfl ?_
          have K : Kept w.heap.size (w.heap.size + 1) wr _ := ((Kept.refl _ _ wr).setIn (p := ⟨w.heap.size, 0, none⟩) (by simp) (.slice A5 j c5)).setIn (p := ⟨w.heap.size, 1, none⟩) (by simp) (.int .i64 1)
          have G := own_got2 (w := w) hown.out K (by omega) (by omega)
          refine ⟨A5, j, c5, by unfold coD; rw [if_pos HO.out, HO.out], by rw [hcT.out]; exact hlen, ?_, (hEw.out.setNew (by simp) _).setNew (by simp) _⟩
          rw [hcT.out]
          exact G
end Go.Proofs.Ytbpkpcfhmglddaa
