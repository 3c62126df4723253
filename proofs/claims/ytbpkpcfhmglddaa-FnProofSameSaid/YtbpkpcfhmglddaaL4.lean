/- L4: merged of L4a L4m L4b L4c L4d L4e L4f L4g L4h. -/
import Derived.Test.YtbpkpcfhmglddaaStep
import Derived.Test.YtbpkpcfhmglddaaL4K
import Derived.Test.YtbpkpcfhmglddaaProbV
import Derived.Test.YtbpkpcfhmglddaaApp
import Derived.Test.YtbpkpcfhmglddaaRdM
import Derived.Test.YtbpkpcfhmglddaaCVs
import Derived.Test.YtbpkpcfhmglddaaRup
import Derived.Deep.RegionHeld3
import Derived.Test.YtbpkpcfhmglddaaLastS
import Derived.Deep.AppendLies
namespace Go.Proofs.Ytbpkpcfhmglddaa
/- Running a proof, the small functions: l4Live, l4Parts, l4Fits, l4Kept. -/
section
open Go.RowKit

/-- SOME answer; of true the call knows P -/
def RetBt (P : Prop) (e : Ending) : Prop := ∃ b, e = .returned (.bool b) ∧ (b = true → P)

set_option maxHeartbeats 1000000 in
theorem l4Live_any (A : Option Addr) (n c : Nat) (B : Option Addr) (d : Nat) (gs : List Bool) (k : Int) (w : World) (hb : Seg w 1 B n (encB gs)) :
    Calls Try.prog 82 #[.agg #[.slice A n c, .slice B n d], .int .i64 k] w fun e w' => RetBt (0 ≤ k ∧ k < n) e ∧ Ext w w' := by
  have hE : Hid (Ext w (w.alloc (.cells #[.slice A n c, .slice B n d] 101))) := (Ext.refl w).alloc _
  have HB := Lib.hid (hb.ext hE.out)
  have B0 := Blk.new w 101 #[.slice A n c, .slice B n d]
  have b0 := B0.cell 0
  have b1 := B0.cell 1
  clear hb B0
  by_cases h0 : 0 ≤ k
  · by_cases h1 : k < n
    · obtain ⟨k, rfl⟩ := Int.eq_ofNat_of_zero_le h0
      have hk : k < n := by omega
      obtain ⟨b, off, z, rfl, hx, c1⟩ : ∃ b off z, B = some ⟨b, off, none⟩ ∧ gs[k]? = some z ∧ (w.alloc (.cells #[.slice A n c, .slice B n d] 101)).cell? ⟨b, off + k, none⟩ = some (.bool z) := by
        obtain ⟨b, off, u, e, hx, hc⟩ := HB.out.at1 hk
        obtain ⟨z, hz, rfl⟩ : ∃ z, gs[k]? = some z ∧ Value.bool z = u := by simpa [encB] using hx
        exact ⟨b, off, z, e, hz, hc⟩
      have hbl := World.block_lt_of_cell? _ _ c1
      clear hx
      go_enter Try.func82, Try.ntmps82
      go_wp2
      go_ret
      exact ⟨⟨_, rfl, fun _ => by first | trivial | exact ⟨by omega, by omega⟩⟩, hE.out⟩
    · go_enter Try.func82, Try.ntmps82
      go_wp2
      go_ret
      exact ⟨⟨false, rfl, fun h => by cases h⟩, hE.out⟩
  · go_enter Try.func82, Try.ntmps82
    go_wp2
    go_ret
    exact ⟨⟨false, rfl, fun h => by cases h⟩, hE.out⟩

set_option maxRecDepth 100000 in
set_option maxHeartbeats 2000000 in
theorem l4Parts_any (x y z : Int) (A : Option Addr) (n c : Nat) (bd : Int) (w : World) :
    Calls Try.prog 81 #[.agg #[.int .i64 x, .int .i64 y, .int .i64 z, .slice A n c, .int .i64 bd]] w fun e w' => RetBt True e ∧ Ext w w' := by
  go_enter Try.func81, Try.ntmps81
  go_wp2
  all_goals go_ret
  all_goals exact ⟨⟨_, rfl, fun _ => trivial⟩, (Ext.refl w).alloc _⟩

set_option maxHeartbeats 1000000 in
theorem l4Fits_any (A : Option Addr) (n cap : Nat) (cs : List Cn) (B : Option Addr) (m capb : Nat) (w : World) (hn : n ≤ maxLen) (h : SegC w A n cs) :
    Calls Try.prog 76 #[.slice A n cap, .slice B m capb] w fun e w' => RetBt (probB cs = true ∧ m ≤ 1000) e ∧ Ext w w' := by
  have HS := Lib.hid h
  clear h
  by_cases hp : probB cs = true
  · have HP := Lib.hid hp
    clear hp
    go_enter Try.func76, Try.ntmps76
    go_wp2_with fail
    refine (calls_val (specProbV_any A n cap cs _ hn HS.out) (congrArg Value.bool HP.out)).mono ?_
    rintro e w1 ⟨rfl, hE⟩
    go_wp2
    go_ret
    exact ⟨⟨_, rfl, fun h => ⟨HP.out, (by have h2 : (m : Int) ≤ 1000 := (by simpa using h); omega)⟩⟩, hE⟩
  · have HP := Lib.hid (show probB cs = false by simpa using hp)
    clear hp
    go_enter Try.func76, Try.ntmps76
    go_wp2_with fail
    refine (calls_val (specProbV_any A n cap cs _ hn HS.out) (congrArg Value.bool HP.out)).mono ?_
    rintro e w1 ⟨rfl, hE⟩
    go_wp2
    go_ret
    exact ⟨⟨_, rfl, fun h => by cases h⟩, hE⟩

/-- SOME of the constraints cs, in a list -/
def RetKp (n : Nat) (cs : List Cn) (w : World) (e : Ending) (w' : World) : Prop :=
  ∃ A' n' c' cs', e = .returned (.slice A' n' c') ∧ n' ≤ n ∧ SegC w' A' n' cs' ∧ (∀ c ∈ cs', c ∈ cs) ∧ Ext w w'
theorem Try.infoCnK : (Try.prog.info? 25).map (fun i => (i.zero, i.size, i.bytes)) = some (some (.agg #[.slice none 0 0, .int .i64 0]), 2, 32) := by kernel_rfl
set_option maxRecDepth 100000 in
set_option maxHeartbeats 4000000 in
theorem l4Kept_any (A : Option Addr) (n c : Nat) (cs : List Cn) (B : Option Addr) (d : Nat) (gs : List Bool) (w : World) (hn : n ≤ 1048576) (h : SegC w A n cs) (hb : Seg w 1 B n (encB gs)) :
    Calls Try.prog 78 #[.agg #[.slice A n c, .slice B n d]] w (RetKp n cs w) := by
  obtain ⟨i0, hi, hz0, hz1, hz2⟩ := info_parts Try.infoCnK
  have HI := Lib.hid hi
  have HZ0 := Lib.hid hz0
  have HZ1 := Lib.hid hz1
  have HZ2 := Lib.hid hz2
  have HS := Lib.hid h
  have HB := Lib.hid hb
  clear hi hz0 hz1 hz2 h hb
  have B0 := Lib.hid ((Blk.new w 101 #[.slice A n c, .slice B n d]).alloc (.cells #[] 25))
  have b0 := B0.out.cell 0
  have OE : Hid (((w.alloc (.cells #[.slice A n c, .slice B n d] 101)).alloc (.cells #[] 25)).ownsRow (w.heap.size + 1) 25 2 (.slice (some ⟨w.heap.size + 1, 0, none⟩) 0 0) 0 []) := by
    have := own_empty (w.alloc (.cells #[.slice A n c, .slice B n d] 101)) (w.heap.size + 1) 25 2 (by simp)
    simpa [Hid] using this
  go_enter Try.func78, Try.ntmps78
  go_wp2_with fail
  go_loopw [3, 4] (fun s i wr => ∃ (k j : Nat) (hs' : List Hd) (cs' : List Cn), k ≤ n ∧ j ≤ k ∧ i = .int .i64 k ∧ hs'.length = cs'.length ∧ Ext w wr ∧ Hid (Blk wr w.heap.size 101 #[.slice A n c, .slice B n d]) ∧ Hid (wr.ownsRow (w.heap.size + 1) 25 2 s j (encH hs' cs')) ∧
    Hid (∀ (i : Nat) (h : Hd) (c : Cn), hs'[i]? = some h → cs'[i]? = some c → h.2.1 ≤ maxLen ∧ Seg w 2 h.1 h.2.1 (encT c.1)) ∧ Hid (∀ c ∈ cs', c ∈ cs)) (fun _ i _ => n - (intOf i).toNat)
  case atStart => exact ⟨0, 0, [], [], by omega, by omega, rfl, rfl, ((Ext.refl _).alloc _).alloc _, B0.out, OE.out, fun i h c h1 _ => by simp at h1, fun c hc => by cases hc⟩
  case round =>
    clear b0
    obtain ⟨k, j, hs', cs', hk, hj, rfl, hl, hE, hB0, hown, hin, hmem⟩ := hrel
    have b0 := hB0.out.cell 0
    have b1 := hB0.out.cell 1
    have hlt0 := hB0.out.lt
    by_cases hlt : k < n
    · obtain ⟨b, off, z, rfl, c1⟩ : ∃ b off z, B = some ⟨b, off, none⟩ ∧ wr.cell? ⟨b, off + k, none⟩ = some (.bool z) := by
        obtain ⟨b, off, u, e, hx, hc⟩ := (HB.out.ext hE).at1 hlt
        obtain ⟨z, hz, rfl⟩ : ∃ z, gs[k]? = some z ∧ Value.bool z = u := by simpa [encB] using hx
        exact ⟨b, off, z, e, hc⟩
      cases z with
      | true =>
        go_wp2
        go_roundw
        case rel => exact ⟨k + 1, j, hs', cs', by omega, by omega, by go_num, hl, hE, hB0.out, hown.out, hin.out, hmem.out⟩
        case measure => simp [intOf]; omega
      | false =>
        obtain ⟨b2, off2, hA, hn', hc', ts, bd, rfl, hx, t1, t2, hm, hS2⟩ := (HS.out).at_ hlt
        have t1' := hE.cell t1
        have t2' := hE.cell t2
        have HX := Lib.hid hx
        have HL := Lib.hid hl
        have HE := Lib.hid hE
        have hin2 : Hid (∀ (i : Nat) (h : Hd) (c : Cn), (hs' ++ [(hA, hn', hc')])[i]? = some h → (cs' ++ [(ts, bd)])[i]? = some c → h.2.1 ≤ maxLen ∧ Seg w 2 h.1 h.2.1 (encT c.1)) := by
          intro i x y e1 e2
          rcases Nat.lt_or_ge i hs'.length with hlt | hge
          · rw [List.getElem?_append_left hlt] at e1
            rw [List.getElem?_append_left (by omega)] at e2
            exact hin.out i x y e1 e2
          · rw [List.getElem?_append_right hge] at e1
            rw [List.getElem?_append_right (by omega), ← hl] at e2
            rcases Nat.eq_zero_or_pos (i - hs'.length) with h0 | h0
            · rw [h0] at e1 e2
              simp at e1 e2
              subst e1; subst e2
              exact ⟨hm, hS2⟩
            · rw [List.getElem?_eq_none (by simp; omega)] at e1; cases e1
        have hmem2 : Hid (∀ c ∈ cs' ++ [(ts, bd)], c ∈ cs) := fun x hx2 => by
          rcases List.mem_append.1 hx2 with h | h
          · exact hmem.out x h
          · obtain rfl : x = (ts, bd) := by simpa using h
            exact List.mem_of_getElem? HX.out
        have hsz := hE.size
        obtain ⟨A5, c5, rfl⟩ := own_slice hown.out
        clear hx hl t1 t2 hm hS2 hin hmem hE
        go_wp2_with (first
          | (at_builtin
             refine wpList_append_own _ rfl (.tmp 19) (.tmp 25) 55 rfl (w.heap.size + 1) 25 i0 _ 2 32 Try.underlying55 HI.out HZ0.out HZ1.out HZ2.out rfl (by omega) (.slice A5 j c5) j _ rfl (hown.out.alloc _) ⟨wr.heap.size, 0, none⟩ 1 1 [.slice hA hn' hc', .int .i64 bd] rfl rfl (cell_two_new wr (.slice hA hn' hc') (.int .i64 bd) 25) ?_ ?_ ?_ ?_ ?_
             (intro u hu; simp at hu; rcases hu with rfl | rfl <;> rfl)
             (unfold maxLen; omega)
             omega
             (simp; omega)
             (intro v1 w5 hown5 hg5 _)))
        go_roundw
        case rel =>
          have EG := own_ext (HE.out.alloc (.cells #[.slice hA hn' hc', .int .i64 bd] 25)) (hown.out.alloc (.cells #[.slice hA hn' hc', .int .i64 bd] 25)) (by omega) hg5
          have EB := own_blk (hB0.out.alloc (.cells #[.slice hA hn' hc', .int .i64 bd] 25)) (hown.out.alloc (.cells #[.slice hA hn' hc', .int .i64 bd] 25)) (by omega) hg5
          refine ⟨k + 1, j + 1, hs' ++ [(hA, hn', hc')], cs' ++ [(ts, bd)], by omega, by omega, by go_num, by simp [HL.out], EG, EB, ?_, hin2.out, hmem2.out⟩
          rw [encH_append hs' cs' _ _ HL.out]
          simpa [encH, Hid] using hown5
        case measure => simp [intOf]; omega
    · obtain rfl : k = n := by omega
      obtain ⟨A1, c1, rfl⟩ := own_slice hown.out
      have hP := own_parts hown.out
      have HF : Hid (SegC wr A1 j cs') := ⟨hs', hl, hP.1, fun i x y e1 e2 => ⟨(hin.out i x y e1 e2).1, (hin.out i x y e1 e2).2.ext hE⟩⟩
      clear hP
      go_wp2
      go_ret
      exact ⟨A1, j, c1, cs', rfl, by omega, HF.out, hmem.out, hE⟩
end

/- Memory of a proof that runs: the list of constraints, the list of marks and the box of both. -/
section
open Go.RowKit

theorem own_type {w : World} {base g : Nat} {e t : TypeId} {sz n : Nat} {v : Value} {xs : List Value} {cs : Array Value} (hown : w.ownsRow base e sz v n xs) (B : Blk w g t cs) (hne : (t == e) = false) : v.ownBlock ≠ some g := by
  rcases hown.2 with ⟨rfl, _⟩ | ⟨b, cap, cur, rfl, _, hg, _⟩
  · intro h; cases h
  · intro h
    have h : b = g := by simpa [Value.ownBlock] using h
    subst h
    unfold Blk at B
    rw [B] at hg
    injection hg with hg
    injection hg with _ hg _
    simp [hg] at hne
theorem own_types {w : World} {base base' : Nat} {e e' : TypeId} {sz sz' n n' : Nat} {v v' : Value} {xs xs' : List Value} (h : w.ownsRow base e sz v n xs) (h' : w.ownsRow base' e' sz' v' n' xs') (hne : (e == e') = false) : ∀ x, v.ownBlock = some x → v'.ownBlock ≠ some x := by
  intro x hx
  rcases h.2 with ⟨rfl, _⟩ | ⟨b, cap, cur, rfl, _, hg, _⟩
  · cases hx
  · have hb : b = x := by simpa [Value.ownBlock] using hx
    subst hb
    exact own_type (cs := cur) h' hg hne
/-- a block that is not the row's, behind an append -/
theorem blk_grown4 {w w' : World} {base g : Nat} {e t : TypeId} {sz n : Nat} {v : Value} {xs : List Value} {cs : Array Value} (B : Blk w g t cs) (hown : w.ownsRow base e sz v n xs) (hne : (t == e) = false) (hg : w.grownBy w' v.ownBlock) : Blk w' g t cs :=
  (hg.block g B.lt (fun h => own_type hown B hne h.symm)).trans B
/-- another row, behind an append -/
theorem own_grown {w w' : World} {base base' : Nat} {e e' : TypeId} {sz sz' n n' : Nat} {v v' : Value} {xs xs' : List Value} (h : w.ownsRow base e sz v n xs) (h' : w.ownsRow base' e' sz' v' n' xs') (hne : (e == e') = false) (hg : w.grownBy w' v'.ownBlock) : w'.ownsRow base e sz v n xs := by
  refine ⟨h.1, ?_⟩
  rcases h.2 with hn | ⟨b, cap, cur, hv, hb, hgg, rest⟩
  · exact .inl hn
  · refine .inr ⟨b, cap, cur, hv, hb, (hg.block b (Array.getElem?_eq_some_iff.1 hgg).1 (fun h2 => ?_)).trans hgg, rest⟩
    exact own_type (cs := cur) h' hgg hne h2.symm
/-- a row, behind a store into another block -/
theorem own_off {w : World} {base : Nat} {e : TypeId} {sz n : Nat} {v : Value} {xs : List Value} (h : w.ownsRow base e sz v n xs) {p : Addr} (hne : v.ownBlock ≠ some p.block) (u : Value) : (w.setCell p u).ownsRow base e sz v n xs := by
  refine ⟨h.1, ?_⟩
  rcases h.2 with hn | ⟨b, cap, cur, rfl, hb, hgg, rest⟩
  · exact .inl hn
  · refine .inr ⟨b, cap, cur, rfl, hb, (Below.heap_setCell w p u b (fun e => hne (by simp [Value.ownBlock, e]))).trans hgg, rest⟩
/-- a store into a row -/
theorem own_set {w : World} {base : Nat} {e : TypeId} {n c g : Nat} {xs : List Value} (h : w.ownsRow base e 1 (.slice (some ⟨g, 0, none⟩) n c) n xs) (j : Nat) (u : Value) : (w.setCell ⟨g, j, none⟩ u).ownsRow base e 1 (.slice (some ⟨g, 0, none⟩) n c) n (xs.set j u) := by
  rcases h.2 with ⟨hv, _⟩ | ⟨b, cap, cur, hv, hb, hgg, hnc, hcm, hcs, htake⟩
  · cases hv
  · injection hv with hA _ hc
    injection hA with hA
    injection hA with hA _ _
    subst hA; subst hc
    refine ⟨by simp [h.1], .inr ⟨g, c, cur.setIfInBounds j u, rfl, hb, ?_, hnc, hcm, by simp [hcs], ?_⟩⟩
    · exact Blk.set_ (show Blk w g e cur from hgg) j u
    · rw [← htake]
      simp [List.take_set]

/-- the proof at work: box gb holds the two slices; rows of k1 constraints and of k2 marks; the inner slices lie in other blocks -/
structure DbOk (lo : Nat) (w : World) (gb : Nat) (s1 s2 : Value) (k1 k2 : Nat) (hs : List Hd) (cs : List Cn) (gs : List Bool) : Prop where
  box : Blk w gb 101 #[s1, s2]
  low : lo ≤ gb
  len : hs.length = cs.length
  row1 : w.ownsRow lo 25 2 s1 k1 (encH hs cs)
  row2 : w.ownsRow lo 4 1 s2 k2 (encB gs)
  inn : ∀ (i : Nat) (h : Hd) (c : Cn), hs[i]? = some h → cs[i]? = some c → h.2.1 ≤ 1048576 ∧ Seg w 2 h.1 h.2.1 (encT c.1) ∧ (0 < h.2.1 → ∀ ad : Addr, h.1 = some ad → ad.block ≠ gb ∧ s1.ownBlock ≠ some ad.block ∧ s2.ownBlock ≠ some ad.block)
  good : cs.all cvC = true
section
variable {lo gb k1 k2 : Nat} {w w' : World} {s1 s2 : Value} {hs : List Hd} {cs : List Cn} {gs : List Bool}
theorem DbOk.ext (h : DbOk lo w gb s1 s2 k1 k2 hs cs gs) (hE : Ext w w') : DbOk lo w' gb s1 s2 k1 k2 hs cs gs :=
  ⟨h.box.ext hE, h.low, h.len, own_ext_keep h.row1 hE, own_ext_keep h.row2 hE, fun i x c e1 e2 => ⟨(h.inn i x c e1 e2).1, (h.inn i x c e1 e2).2.1.ext hE, (h.inn i x c e1 e2).2.2⟩, h.good⟩
theorem DbOk.segC (h : DbOk lo w gb s1 s2 k1 k2 hs cs gs) : ∃ A c, s1 = .slice A k1 c ∧ SegC w A k1 cs := by
  obtain ⟨A, c, rfl⟩ := own_slice h.row1
  exact ⟨A, c, rfl, hs, h.len, (own_parts h.row1).1, fun i x y e1 e2 => ⟨Nat.le_trans (h.inn i x y e1 e2).1 (by unfold maxLen; omega), (h.inn i x y e1 e2).2.1⟩⟩
theorem DbOk.marks (h : DbOk lo w gb s1 s2 k1 k2 hs cs gs) : ∃ B d, s2 = .slice B k2 d ∧ Seg w 1 B k2 (encB gs) := by
  obtain ⟨A, c, rfl⟩ := own_slice h.row2
  exact ⟨A, c, rfl, (own_parts h.row2).1⟩
theorem seg_grown {A : Option Addr} {n sz : Nat} {xs : List Value} {row : Option Nat} (h : Seg w sz A n xs) (hne : 0 < n → ∀ ad : Addr, A = some ad → row ≠ some ad.block) (hg : w.grownBy w' row) : Seg w' sz A n xs :=
  h.keep fun hn b off u e o hc => by
    have hlt := World.block_lt_of_cell? _ _ hc
    rw [World.cell?_of_block (hg.block b hlt fun e2 => hne hn _ e e2.symm)]; exact hc
theorem seg_off {A : Option Addr} {n sz : Nat} {xs : List Value} (h : Seg w sz A n xs) {p : Addr} (hne : 0 < n → ∀ ad : Addr, A = some ad → ad.block ≠ p.block) (u : Value) : Seg (w.setCell p u) sz A n xs :=
  h.keep fun hn b off v e o hc => by
    rw [World.cell?_setCell_other _ _ _ _ (by intro e2; have := hne hn _ e; rw [e2] at this; exact this rfl)]; exact hc

/-- a mark is set -/
theorem DbOk.mark {g c : Nat} (h : DbOk lo w gb s1 (.slice (some ⟨g, 0, none⟩) k2 c) k1 k2 hs cs gs) (j : Nat) : DbOk lo (w.setCell ⟨g, j, none⟩ (.bool true)) gb s1 (.slice (some ⟨g, 0, none⟩) k2 c) k1 k2 hs cs (gs.set j true) := by
  have hb : g ≠ gb := fun e => own_type h.row2 h.box (by decide) (by simp [Value.ownBlock, e])
  have h12 : s1.ownBlock ≠ some g := fun e => own_types h.row1 h.row2 (by decide) g e rfl
  refine ⟨h.box.far (p := ⟨g, j, none⟩) (fun e => hb e.symm) _, h.low, h.len, own_off h.row1 (p := ⟨g, j, none⟩) h12 _, ?_, fun i x y e1 e2 => ?_, h.good⟩
  · have := own_set h.row2 j (.bool true)
    rw [show encB (gs.set j true) = (encB gs).set j (.bool true) from by unfold encB; rw [List.map_set]]
    exact this
  · obtain ⟨q1, q2, q3⟩ := h.inn i x y e1 e2
    refine ⟨q1, seg_off q2 (p := ⟨g, j, none⟩) (fun hn ad e e' => ?_) _, q3⟩
    have := (q3 hn ad e).2.2
    exact this (by simp [Value.ownBlock, e'])

/-- one constraint more -/
theorem DbOk.push {o : Obj} {w1 : World} {gg cp : Nat} {A : Option Addr} {n c : Nat} {ts : List Tm} {bd : Int} (h : DbOk lo w gb s1 s2 k1 k2 hs cs gs) (hg : (w.alloc o).grownBy w1 s1.ownBlock)
    (hown : w1.ownsRow lo 25 2 (.slice (some ⟨gg, 0, none⟩) (k1 + 1) cp) (k1 + 1) (encH hs cs ++ [.slice A n c, .int .i64 bd])) (hat : s1.ownBlock = some gg ∨ gg = w.heap.size + 1)
    (hn : n ≤ 1048576) (hS : Seg w 2 A n (encT ts)) (hd : 0 < n → ∀ ad : Addr, A = some ad → ad.block ≠ gb ∧ s1.ownBlock ≠ some ad.block ∧ s2.ownBlock ≠ some ad.block) (hv : cvB ts bd = true) :
    DbOk lo (w1.setCell ⟨gb, 0, none⟩ (.slice (some ⟨gg, 0, none⟩) (k1 + 1) cp)) gb (.slice (some ⟨gg, 0, none⟩) (k1 + 1) cp) s2 (k1 + 1) k2 (hs ++ [(A, n, c)]) (cs ++ [(ts, bd)]) gs := by
  have hE : Ext w (w.alloc o) := (Ext.refl _).alloc _
  have hbox := h.box.ext hE
  have hr1 := own_ext_keep h.row1 hE
  have hr2 := own_ext_keep h.row2 hE
  have hB1 : Blk w1 gb 101 #[s1, s2] := blk_grown4 hbox hr1 (by decide) hg
  have hR2 : w1.ownsRow lo 4 1 s2 k2 (encB gs) := own_grown hr2 hr1 (by decide) hg
  have hggb : gg ≠ gb := fun e => own_type hown hB1 (by decide) (by simp [Value.ownBlock, e])
  have h2b : s2.ownBlock ≠ some gb := own_type hR2 hB1 (by decide)
  have hin : ∀ (h0 : Option Addr) (m : Nat) (xs : List Value), Seg w 2 h0 m xs → (0 < m → ∀ ad : Addr, h0 = some ad → ad.block ≠ gb ∧ s1.ownBlock ≠ some ad.block ∧ s2.ownBlock ≠ some ad.block) →
      Seg (w1.setCell ⟨gb, 0, none⟩ (.slice (some ⟨gg, 0, none⟩) (k1 + 1) cp)) 2 h0 m xs ∧ (0 < m → ∀ ad : Addr, h0 = some ad → ad.block ≠ gb ∧ (Value.slice (some ⟨gg, 0, none⟩) (k1 + 1) cp).ownBlock ≠ some ad.block ∧ s2.ownBlock ≠ some ad.block) := fun h0 m xs hs0 hd0 => by
    refine ⟨seg_off (seg_grown (hs0.ext hE) (fun hm ad e => (hd0 hm ad e).2.1) hg) (p := ⟨gb, 0, none⟩) (fun hm ad e => (hd0 hm ad e).1) _, fun hm ad e => ⟨(hd0 hm ad e).1, ?_, (hd0 hm ad e).2.2⟩⟩
    intro e2
    have e2 : gg = ad.block := by simpa [Value.ownBlock] using e2
    rcases hat with e3 | e3
    · exact (hd0 hm ad e).2.1 (by rw [e3, e2])
    · rcases Nat.eq_zero_or_pos xs.length with hx | hx
      · have := hs0.1; omega
      · obtain ⟨b, off, e4, hc⟩ := hs0.2 hm
        rw [e] at e4
        injection e4 with e4
        have := World.block_lt_of_cell? _ _ (hc 0 _ (List.getElem?_eq_getElem hx))
        simp only at this
        rw [e4] at e2
        simp only at e2
        omega
  refine ⟨hB1.set_ 0 _, h.low, by simp [h.len], ?_, own_off hR2 (p := ⟨gb, 0, none⟩) h2b _, fun i x y e1 e2 => ?_, ?_⟩
  · have := own_off hown (p := ⟨gb, 0, none⟩) (by simp [Value.ownBlock, hggb]) (.slice (some ⟨gg, 0, none⟩) (k1 + 1) cp)
    rw [encH_append hs cs _ _ h.len]
    exact this
  · rcases Nat.lt_or_ge i hs.length with hlt | hge
    · rw [List.getElem?_append_left hlt] at e1
      rw [List.getElem?_append_left (by have := h.len; omega)] at e2
      obtain ⟨q1, q2, q3⟩ := h.inn i x y e1 e2
      exact ⟨q1, hin _ _ _ q2 q3⟩
    · rw [List.getElem?_append_right hge] at e1
      rw [List.getElem?_append_right (by have := h.len; omega), ← h.len] at e2
      rcases Nat.eq_zero_or_pos (i - hs.length) with h0 | h0
      · rw [h0] at e1 e2
        simp at e1 e2
        subst e1; subst e2
        exact ⟨hn, hin _ _ _ hS hd⟩
      · rw [List.getElem?_eq_none (by simp; omega)] at e1; cases e1
  · rw [List.all_append, h.good]
    simp [cvC, hv]

/-- one mark more -/
theorem DbOk.pushB {o : Obj} {w1 : World} {gg cp : Nat} (h : DbOk lo w gb s1 s2 k1 k2 hs cs gs) (hg : (w.alloc o).grownBy w1 s2.ownBlock)
    (hown : w1.ownsRow lo 4 1 (.slice (some ⟨gg, 0, none⟩) (k2 + 1) cp) (k2 + 1) (encB gs ++ [.bool false])) (hat : s2.ownBlock = some gg ∨ gg = w.heap.size + 1) :
    DbOk lo (w1.setCell ⟨gb, 1, none⟩ (.slice (some ⟨gg, 0, none⟩) (k2 + 1) cp)) gb s1 (.slice (some ⟨gg, 0, none⟩) (k2 + 1) cp) k1 (k2 + 1) hs cs (gs ++ [false]) := by
  have hE : Ext w (w.alloc o) := (Ext.refl _).alloc _
  have hbox := h.box.ext hE
  have hr1 := own_ext_keep h.row1 hE
  have hr2 := own_ext_keep h.row2 hE
  have hB1 : Blk w1 gb 101 #[s1, s2] := blk_grown4 hbox hr2 (by decide) hg
  have hR1 : w1.ownsRow lo 25 2 s1 k1 (encH hs cs) := own_grown hr1 hr2 (by decide) hg
  have hggb : gg ≠ gb := fun e => own_type hown hB1 (by decide) (by simp [Value.ownBlock, e])
  have h1b : s1.ownBlock ≠ some gb := own_type hR1 hB1 (by decide)
  refine ⟨hB1.set_ 1 _, h.low, h.len, own_off hR1 (p := ⟨gb, 1, none⟩) h1b _, ?_, fun i x y e1 e2 => ?_, h.good⟩
  · have := own_off hown (p := ⟨gb, 1, none⟩) (by simp [Value.ownBlock, hggb]) (.slice (some ⟨gg, 0, none⟩) (k2 + 1) cp)
    rw [show encB (gs ++ [false]) = encB gs ++ [.bool false] from by simp [encB]]
    exact this
  · obtain ⟨q1, q2, q3⟩ := h.inn i x y e1 e2
    refine ⟨q1, seg_off (seg_grown (q2.ext hE) (fun hm ad e => (q3 hm ad e).2.2) hg) (p := ⟨gb, 1, none⟩) (fun hm ad e => (q3 hm ad e).1) _, fun hm ad e => ⟨(q3 hm ad e).1, (q3 hm ad e).2.1, ?_⟩⟩
    intro e2
    have e2 : gg = ad.block := by simpa [Value.ownBlock] using e2
    rcases hat with e3 | e3
    · exact (q3 hm ad e).2.2 (by rw [e3, e2])
    · have hx : 0 < (encT y.1).length := by have := q2.1; omega
      obtain ⟨b, off, e4, hc⟩ := q2.2 hm
      rw [e] at e4
      injection e4 with e4
      have := World.block_lt_of_cell? _ _ (hc 0 _ (List.getElem?_eq_getElem hx))
      simp only at this
      rw [e4] at e2
      simp only at e2
      omega

/-- the box is filled for the first time -/
theorem DbOk.init {W X : World} {A : Option Addr} {n c gm : Nat} (E : Ext W X) (hl : hs.length = cs.length) (hv : cs.all cvC = true) (hB : Blk X gb 101 #[.slice none 0 0, .slice none 0 0]) (hlo : lo ≤ gb) (hlo2 : W.heap.size ≤ lo)
    (h1 : X.ownsRow lo 25 2 (.slice A n c) n (encH hs cs)) (h2 : X.ownsRow lo 4 1 (.slice (some ⟨gm, 0, none⟩) n n) n (encB gs))
    (hin : ∀ (i : Nat) (h : Hd) (c : Cn), hs[i]? = some h → cs[i]? = some c → h.2.1 ≤ 1048576 ∧ Seg W 2 h.1 h.2.1 (encT c.1)) :
    DbOk lo ((X.setCell ⟨gb, 0, none⟩ (.slice A n c)).setCell ⟨gb, 1, none⟩ (.slice (some ⟨gm, 0, none⟩) n n)) gb (.slice A n c) (.slice (some ⟨gm, 0, none⟩) n n) n n hs cs gs := by
  have h1b := own_type h1 hB (by decide)
  have h2b := own_type h2 hB (by decide)
  refine ⟨(hB.set_ 0 _).set_ 1 _, hlo, hl, own_off (own_off h1 (p := ⟨gb, 0, none⟩) h1b _) (p := ⟨gb, 1, none⟩) h1b _, own_off (own_off h2 (p := ⟨gb, 0, none⟩) h2b _) (p := ⟨gb, 1, none⟩) h2b _, fun i x y e1 e2 => ?_, hv⟩
  obtain ⟨q1, q2⟩ := hin i x y e1 e2
  have hold : 0 < x.2.1 → ∀ ad : Addr, x.1 = some ad → ad.block < W.heap.size := fun hn ad e => by
    have hx : 0 < (encT y.1).length := by have := q2.1; omega
    obtain ⟨b, off, e4, hc⟩ := q2.2 hn
    rw [e] at e4
    injection e4 with e4
    have := World.block_lt_of_cell? _ _ (hc 0 _ (List.getElem?_eq_getElem hx))
    rw [e4]; exact this
  have hne : 0 < x.2.1 → ∀ ad : Addr, x.1 = some ad → ad.block ≠ gb := fun hn ad e e2 => by have := hold hn ad e; omega
  refine ⟨q1, seg_off (seg_off (q2.ext E) (p := ⟨gb, 0, none⟩) hne _) (p := ⟨gb, 1, none⟩) hne _, fun hn ad e => ⟨hne hn ad e, fun e2 => ?_, fun e2 => ?_⟩⟩
  · have := (h1.lt _ e2).1; have := hold hn ad e; omega
  · have := (h2.lt _ e2).1; have := hold hn ad e; omega
end
/-- a row of marks, just made -/
theorem own_madeB (w : World) (lo n : Nat) (hlo : lo ≤ w.heap.size) (hn : n ≤ 1048576) : (w.alloc (.cells (madeCells #[.bool false] n) 4)).ownsRow lo 4 1 (.slice (some ⟨w.heap.size, 0, none⟩) n n) n (encB (List.replicate n false)) := by
  refine ⟨by simp [encB], .inr ⟨w.heap.size, n, _, rfl, hlo, heap_alloc_new w _, Nat.le_refl _, by unfold maxLen; omega, by rw [size_madeCells]; omega, ?_⟩⟩
  rw [toList_madeCells_one, List.take_of_length_le (by simp)]
  simp [encB]
end

/- Running a proof: l4Derive. -/
section
open Go.RowKit

theorem satM_bounds4 {c bd : Int} (hb : 1 ≤ bd) (hc : 1 ≤ c ∧ c ≤ 1000) : 1 ≤ satM c bd ∧ satM c bd ≤ 1000 ∧ satM c bd ≤ c ∧ satM c bd ≤ bd := by unfold satM; split <;> omega
theorem goodB_sat4 {bd : Int} (hb : 1 ≤ bd) (ts : List Tm) : ∀ v, goodB v ts = true → goodB v (satMap ts bd) = true := by
  induction ts with
  | nil => intro v _; rfl
  | cons t ts ih =>
    intro v h
    obtain ⟨c, l⟩ := t
    rw [goodB_cons, Bool.and_eq_true, decide_eq_true_eq] at h
    have h2 := satM_bounds4 hb h.1.2.2
    show goodB v ((satM c bd, l) :: satMap ts bd) = true
    rw [goodB_cons, Bool.and_eq_true, decide_eq_true_eq]
    exact ⟨⟨h.1.1, h.1.2.1, h2.1, h2.2.1⟩, ih _ h.2⟩
theorem cvB_sat4 {ts : List Tm} {bd : Int} (h : cvB ts bd = true) : cvB (saT ts bd) bd = true := by
  have hb := cvB_bd h
  unfold saT
  split
  · unfold cvB; rw [goodB_sat4 (by omega) ts 0 (cvB_good h)]; simp [inB]; omega
  · unfold cvB; simp [inB, goodB]; omega
theorem goodB_wk4 (v : Int) (ts : List Tm) : ∀ u u', u' ≤ u → goodB u ts = true → goodB u' (wkMap ts v) = true := by
  induction ts with
  | nil => intro u u' _ _; rfl
  | cons t ts ih =>
    intro u u' hu h
    obtain ⟨c, l⟩ := t
    rw [goodB_cons, Bool.and_eq_true, decide_eq_true_eq] at h
    unfold wkMap
    rw [List.filter_cons]
    split
    · show goodB u' ((c, l) :: wkMap ts v) = true
      rw [goodB_cons, Bool.and_eq_true, decide_eq_true_eq]
      exact ⟨⟨h.1.1, by omega, h.1.2.2⟩, ih _ _ (Int.le_refl _) h.2⟩
    · exact ih (absI l) u' (by omega) h.2
theorem wkSum_all4 {ts : List Tm} {bd : Int} (h : cvB ts bd = true) (v : Int) : 0 ≤ wkSum ts v ∧ wkSum ts v ≤ 12000 := by
  have := wkSum_bounds h ts.length v
  rwa [List.take_length] at this
theorem cvB_wk4 {ts : List Tm} {bd : Int} (h : cvB ts bd = true) (v : Int) : cvB (wkMap ts v) (wkD ts bd v) = true := by
  have hb := cvB_bd h
  have hs := wkSum_all4 h v
  unfold cvB
  rw [goodB_wk4 v ts 0 0 (Int.le_refl _) (cvB_good h)]
  have : 0 ≤ wkD ts bd v ∧ wkD ts bd v ≤ 20000 := by unfold wkD; omega
  simp [inB]; omega
theorem cvB_la {l : Int} (h : litB l = true) : cvB (laT l) 0 = true := by
  have := absI_pos h
  unfold laT cvB
  rw [if_pos h, goodB_cons, decide_eq_true ⟨h, by omega, by omega, by omega⟩]
  rfl
theorem muB_cvR {ts : List Tm} {bd k : Int} (h : muB ts bd k = true) : cvB (muT ts bd k) (muD ts bd k) = true := by unfold muT muD; rw [if_pos h, if_pos h]; exact muB_cv2 h
theorem dvB_cvR {ts : List Tm} {bd k : Int} (h : dvB ts bd k = true) : cvB (dvT ts bd k) (dvD ts bd k) = true := by unfold dvT dvD; rw [if_pos h, if_pos h]; exact cvB_div (dvB_cv h) (dvB_k h).1
theorem stB_cvR {ts : List Tm} {bd : Int} (h : cvB ts bd = true) : cvB (stT ts bd) (stD ts bd) = true := by unfold stT stD; rw [if_pos h, if_pos h]; exact cvB_sat4 h
theorem wcB_cvR {ts : List Tm} {bd v : Int} (h : wkB ts bd v = true) : cvB (wcT ts bd v) (wcD ts bd v) = true := by
  unfold wcT wcD; rw [if_pos h, if_pos h]
  unfold wkB at h; rw [Bool.and_eq_true] at h
  exact cvB_wk4 h.1 v
theorem adB_cvR {ts : List Tm} {bd : Int} {us : List Tm} {bd' : Int} (h : adB ts bd us bd' = true) : cvB (adT ts bd us bd') (adD ts bd us bd') = true := by
  unfold adT adD; rw [if_pos h, if_pos h]
  unfold adB noB at h; rw [Bool.and_eq_true] at h
  exact h.2
/-- SOME constraint in memory of the call's own; a valid one if the second result is true -/
def RetDv (w : World) (e : Ending) (w' : World) : Prop :=
  ∃ A n c ts bd b, e = .returned (.tuple #[.agg #[.slice A n c, .int .i64 bd], .bool b]) ∧ (b = true → cvB ts bd = true) ∧ n ≤ 1048576 ∧ Got w w' 2 A n (encT ts) ∧ Ext w w'
theorem dv_ret {w w3 w1 : World} {g n c : Nat} {A : Option Addr} {ts : List Tm} {bd : Int} {b : Bool} (hG : Got w3 w1 2 A n (encT ts)) (hl : ts.length = n) (hn : ts.length ≤ 1048576) (hb : b = true → cvB ts bd = true) (h1 : Ext w w3) (h2 : Ext w3 w1) (hg : w.heap.size ≤ g) (hg3 : g < w3.heap.size) :
    RetDv w (.returned (.tuple #[.agg #[.slice A n c, .int .i64 bd], .bool b])) ((w1.setCell ⟨g, 0, none⟩ (.slice A n c)).setCell ⟨g, 1, none⟩ (.int .i64 bd)) := by
  have K : Kept g (g + 1) w1 ((w1.setCell ⟨g, 0, none⟩ (.slice A n c)).setCell ⟨g, 1, none⟩ (.int .i64 bd)) := ((Kept.refl _ _ w1).setIn (p := ⟨g, 0, none⟩) (by simp) _).setIn (p := ⟨g, 1, none⟩) (by simp) _
  exact ⟨A, n, c, ts, bd, b, rfl, hb, by omega, (hG.kept K (by omega)).from_ h1, (h1.trans h2).fresh K hg⟩
theorem dv_zero {w w1 : World} {g : Nat} (h1 : Ext w w1) (hg : w.heap.size ≤ g) :
    RetDv w (.returned (.tuple #[.agg #[.slice none 0 0, .int .i64 0], .bool false])) ((w1.setCell ⟨g, 0, none⟩ (.slice none 0 0)).setCell ⟨g, 1, none⟩ (.int .i64 0)) :=
  ⟨none, 0, 0, [], 0, false, rfl, (fun h => by cases h), by omega, Got.nil' _ _ _ _, (h1.setNew hg _).setNew hg _⟩

set_option maxRecDepth 100000 in
set_option maxHeartbeats 8000000 in
theorem l4Derive_any (A : Option Addr) (n c : Nat) (cs : List Cn) (B : Option Addr) (d : Nat) (gs : List Bool) (x y z : Int) (G : Option Addr) (m cg : Nat) (us : List Tm) (ub : Int) (w : World)
    (hn : n ≤ 1048576) (h : SegC w A n cs) (hv : cs.all cvC = true) (hb : Seg w 1 B n (encB gs)) (hm : m ≤ 1048576) (hg : Seg w 2 G m (encT us)) :
    Calls Try.prog 83 #[.agg #[.slice A n c, .slice B n d], .agg #[.int .i64 x, .int .i64 y, .int .i64 z, .slice G m cg, .int .i64 ub]] w (RetDv w) := by
  have HS := Lib.hid h
  have HV := Lib.hid hv
  have HB := Lib.hid hb
  have HG := Lib.hid hg
  have hnm : n ≤ maxLen := by unfold maxLen; omega
  have hmm : m ≤ maxLen := by unfold maxLen; omega
  clear h hv hb hg
  have E0 : Hid (Ext w (((w.alloc (.cells #[.slice A n c, .slice B n d] 101)).alloc (.cells #[.int .i64 x, .int .i64 y, .int .i64 z, .slice G m cg, .int .i64 ub] 59)).alloc (.cells #[.slice none 0 0, .int .i64 0] 25))) := (((Ext.refl w).alloc _).alloc _).alloc _
  obtain ⟨D2, D3, D4⟩ := Blk.of3 (Ext.refl (((w.alloc (.cells #[.slice A n c, .slice B n d] 101)).alloc (.cells #[.int .i64 x, .int .i64 y, .int .i64 z, .slice G m cg, .int .i64 ub] 59)).alloc (.cells #[.slice none 0 0, .int .i64 0] 25)))
  have B2 := Lib.hid D2
  have B3 := Lib.hid D3
  have B4 := Lib.hid D4
  clear D2 D3 D4
  by_cases h6 : x = 6
  · subst h6
    go_enter Try.func83, Try.ntmps83
    go_wp2_with fail
    generalize hW : (((w.alloc (.cells #[.slice A n c, .slice B n d] 101)).alloc (.cells #[.int .i64 6, .int .i64 y, .int .i64 z, .slice G m cg, .int .i64 ub] 59)).alloc (.cells #[.slice none 0 0, .int .i64 0] 25)) = W0 at *
    clear hW
    have hz4 := B4.out.lt
    refine (specLA_any y _).mono ?_
    rintro e w1 ⟨A1, n1, c1, rfl, hl1, hG1, hE1⟩
    have r0 := (B4.out.ext hE1).cell 0
    have r1 := (B4.out.ext hE1).cell 1
    have q0 := (B4.out.ext hE1).frozen 0
    have q1 := (B4.out.ext hE1).frozen 1
    have hz1 := (B4.out.ext hE1).lt
    go_wp2
    refine bodyPost_ret (v := .tuple #[.agg #[.slice A1 n1 c1, .int .i64 0], .bool (litB y)]) (by simp [results, Try.results83, go_sem, r0, r1]) rfl ?_
    exact dv_ret hG1 hl1 (laT_len y) cvB_la E0.out hE1 (by omega) hz4
  by_cases h7 : x = 7
  · subst h7
    clear h6
    have KS : Hid (∀ W', Kept (w.heap.size + 2) (w.heap.size + 3) (((w.alloc (.cells #[.slice A n c, .slice B n d] 101)).alloc (.cells #[.int .i64 7, .int .i64 y, .int .i64 z, .slice G m cg, .int .i64 ub] 59)).alloc (.cells #[.slice none 0 0, .int .i64 0] 25)) W' → (W'.cell? ⟨w.heap.size, 0, none⟩ = some (.slice A n c) ∧ W'.cell? ⟨w.heap.size, 1, none⟩ = some (.slice B n d) ∧ W'.cell? ⟨w.heap.size + 1, 3, none⟩ = some (.slice G m cg) ∧ W'.cell? ⟨w.heap.size + 1, 4, none⟩ = some (.int .i64 ub))) := fun W' e => by
      have C2 := B2.out.kept e (.inl (by omega))
      have C3 := B3.out.kept e (.inl (by omega))
      exact ⟨C2.cell 0, C2.cell 1, C3.cell 3, C3.cell 4⟩
    go_enter Try.func83, Try.ntmps83
    go_wp2_with fail
    generalize hW : (((w.alloc (.cells #[.slice A n c, .slice B n d] 101)).alloc (.cells #[.int .i64 7, .int .i64 y, .int .i64 z, .slice G m cg, .int .i64 ub] 59)).alloc (.cells #[.slice none 0 0, .int .i64 0] 25)) = W0 at *
    clear hW
    have hz4 := B4.out.lt
    have e1 : Kept (w.heap.size + 2) (w.heap.size + 3) W0 W0.drew := (Kept.refl _ _ W0).drew
    have ee : Ext W0 W0.drew := (Ext.refl _).drew
    by_cases hc : cvB us ub = true
    · have HC := Lib.hid hc
      clear hc
      go_region_held3 (fun W' => W'.cell? ⟨w.heap.size, 0, none⟩ = some (.slice A n c) ∧ W'.cell? ⟨w.heap.size, 1, none⟩ = some (.slice B n d) ∧ W'.cell? ⟨w.heap.size + 1, 3, none⟩ = some (.slice G m cg) ∧ W'.cell? ⟨w.heap.size + 1, 4, none⟩ = some (.int .i64 ub))
        ((refine KS.out _ ?_; first | exact e1 | exact k1 | exact k2 | exact k3 | exact k4 | exact (k4.setIn (by first | (simp; done) | (simp; omega)) _) | exact (k4.setIn (by first | (simp; done) | (simp; omega)) _).setIn (by first | (simp; done) | (simp; omega)) _))
        ((first
          | (go_at_call 65; refine (l1Copy_any G m cg us ub _ ((HG.out.ext E0.out).ext ee) hm).mono ?_; rintro e w1 ⟨A1, n1, c1, rfl, hl1, hG1, hE1⟩; (have x1 : Ext W0 w1 := ee.trans hE1); (have k1 : Kept (w.heap.size + 2) (w.heap.size + 3) W0 w1 := x1.kept _ _))
          | (go_at_call 35; refine (calls_val (specCV_any G m cg us ub _ hmm ((HG.out.ext E0.out).ext x1)) (congrArg Value.bool HC.out)).mono ?_; rintro e w2 ⟨rfl, hE2⟩; (have x2 : Ext W0 w2 := x1.trans hE2); (have k2 : Kept (w.heap.size + 2) (w.heap.size + 3) W0 w2 := x2.kept _ _))
          | (go_at_call 78; refine (l4Kept_any A n c cs B d gs _ hn ((HS.out.ext E0.out).ext x2) ((HB.out.ext E0.out).ext x2)).mono ?_; rintro e w3 ⟨A3, n3, c3, cs3, rfl, hn3, hS3, hm3, hE3⟩; (have x3 : Ext W0 w3 := x2.trans hE3); (have k3 : Kept (w.heap.size + 2) (w.heap.size + 3) W0 w3 := x3.kept _ _); (have hv3 : cs3.all cvC = true := List.all_eq_true.2 fun q hq => List.all_eq_true.1 HV.out q (hm3 q hq)))
          | (go_at_call 85; refine (l3Rup_any A3 n3 c3 cs3 G m cg us ub _ (by omega) hS3 hv3 hmm ((HG.out.ext E0.out).ext x3) HC.out).mono ?_; rintro e w4 ⟨rfl, hE4⟩; (have x4 : Ext W0 w4 := x3.trans hE4); (have k4 : Kept (w.heap.size + 2) (w.heap.size + 3) W0 w4 := x4.kept _ _); (have BB := B4.out.ext x4); (have r0 := BB.cell 0); (have r1 := BB.cell 1); (have q0 := BB.frozen 0); (have q1 := BB.frozen 1); (have hzb := BB.lt); (clear BB))))
      go_wp2
      refine bodyPost_ret (v := .tuple #[.agg #[.slice A1 n1 c1, .int .i64 ub], .bool (rupP cs3 us ub)]) (by simp [results, Try.results83, go_sem, r0, r1]) rfl ?_
      exact dv_ret (hG1.later ((hE2.trans hE3).trans hE4)) hl1 (by have := HG.out.lenT; omega) (fun _ => HC.out) (E0.out.trans ee) (hE1.trans ((hE2.trans hE3).trans hE4)) (by omega) hz4
    · have HC := Lib.hid (show cvB us ub = false by simpa using hc)
      clear hc
      have hS0 := KS.out _ e1
      refine wp_region_Z (fun W' => W'.cell? ⟨w.heap.size, 0, none⟩ = some (.slice A n c) ∧ W'.cell? ⟨w.heap.size, 1, none⟩ = some (.slice B n d) ∧ W'.cell? ⟨w.heap.size + 1, 3, none⟩ = some (.slice G m cg) ∧ W'.cell? ⟨w.heap.size + 1, 4, none⟩ = some (.int .i64 ub)) 15 (by kernel_rfl) ?_
      refine wpAnyA_take 0 (v := ?_) (by kernel_rfl) rfl (by kernel_rfl) (by kernel_rfl) (by kernel_rfl) (fun _ _ _ h => h) hS0 (Or.inl ⟨by rfl, ?_⟩) ?_
      rotate_left
      · (intro w hSw; (try dsimp only at hSw); go_simp; (try with_reducible rfl))
      try simp only [Act.put, List.setIfInBounds_toArray, List.set_cons_zero, List.set_cons_succ]
      refine wpAnyA_take 1 (v := ?_) (by kernel_rfl) rfl (by kernel_rfl) (by kernel_rfl) (by kernel_rfl) (fun _ _ _ h => h) hS0 (Or.inl ⟨by rfl, ?_⟩) ?_
      rotate_left
      · (intro w hSw; (try dsimp only at hSw); go_simp; (try with_reducible rfl))
      try simp only [Act.put, List.setIfInBounds_toArray, List.set_cons_zero, List.set_cons_succ]
      refine wpAnyA_take 3 (v := ?_) (by kernel_rfl) rfl (by kernel_rfl) (by kernel_rfl) (by kernel_rfl) (fun _ _ _ h => h) hS0 (Or.inl ⟨by rfl, ?_⟩) ?_
      rotate_left
      · (intro w hSw; (try dsimp only at hSw); go_simp; (try with_reducible rfl))
      try simp only [Act.put, List.setIfInBounds_toArray, List.set_cons_zero, List.set_cons_succ]
      refine wpAnyA_take 4 (v := ?_) (by kernel_rfl) rfl (by kernel_rfl) (by kernel_rfl) (by kernel_rfl) (fun _ _ _ h => h) hS0 (Or.inl ⟨by rfl, ?_⟩) ?_
      rotate_left
      · (intro w hSw; (try dsimp only at hSw); go_simp; (try with_reducible rfl))
      try simp only [Act.put, List.setIfInBounds_toArray, List.set_cons_zero, List.set_cons_succ]
      refine wpAnyZ_one 2 (by kernel_rfl) rfl rfl (fun K hK => ?_)
      go_simp
      refine (l1Copy_any G m cg us ub _ ((HG.out.ext E0.out).ext ee) hm).mono ?_
      rintro e w1 ⟨A1, n1, c1, rfl, hl1, hG1, hE1⟩
      have x1 : Ext W0 w1 := ee.trans hE1
      refine hK.out _ _ (KS.out _ (x1.kept _ _)) ?_
      clear hK K
      try simp only [Act.put, List.setIfInBounds_toArray, List.set_cons_zero, List.set_cons_succ]
      refine wpAnyZ_one 5 (by kernel_rfl) rfl rfl (fun K hK => ?_)
      go_simp
      refine (calls_val (specCV_any G m cg us ub _ hmm ((HG.out.ext E0.out).ext x1)) (congrArg Value.bool HC.out)).mono ?_
      rintro e w2 ⟨rfl, hE2⟩
      have x2 : Ext W0 w2 := x1.trans hE2
      have hS2 := KS.out _ (x2.kept _ _)
      have BB := B4.out.ext x2
      have r0 := BB.cell 0
      have r1 := BB.cell 1
      have q0 := BB.frozen 0
      have q1 := BB.frozen 1
      have hzb := BB.lt
      clear BB
      refine hK.out _ _ (hS2) ?_
      clear hK K
      try simp only [Act.put, List.setIfInBounds_toArray, List.set_cons_zero, List.set_cons_succ]
      refine wpAnyA_take 6 (v := ?_) (by kernel_rfl) rfl (by kernel_rfl) (by kernel_rfl) (by kernel_rfl) (fun _ _ _ h => h) hS2 (Or.inl ⟨by rfl, ?_⟩) ?_
      rotate_left
      · (intro w hSw; (try dsimp only at hSw); go_simp; (try with_reducible rfl))
      try simp only [Act.put, List.setIfInBounds_toArray, List.set_cons_zero, List.set_cons_succ]
      refine wpAnyA_take 7 (v := undef) (by kernel_rfl) rfl (by kernel_rfl) (by kernel_rfl) (by kernel_rfl) (fun _ _ _ h => h) hS2 (Or.inr ⟨by rfl, rfl⟩) ?_
      try simp only [Act.put, List.setIfInBounds_toArray, List.set_cons_zero, List.set_cons_succ]
      refine wpAnyA_take 9 (v := undef) (by kernel_rfl) rfl (by kernel_rfl) (by kernel_rfl) (by kernel_rfl) (fun _ _ _ h => h) hS2 (Or.inr ⟨by rfl, rfl⟩) ?_
      try simp only [Act.put, List.setIfInBounds_toArray, List.set_cons_zero, List.set_cons_succ]
      refine wpAnyA_take 10 (v := undef) (by kernel_rfl) rfl (by kernel_rfl) (by kernel_rfl) (by kernel_rfl) (fun _ _ _ h => h) hS2 (Or.inr ⟨by rfl, rfl⟩) ?_
      try simp only [Act.put, List.setIfInBounds_toArray, List.set_cons_zero, List.set_cons_succ]
      refine wpAnyZ_skip 8 (by kernel_rfl) rfl (by rfl) hS2 ?_
      try simp only [Act.put, List.setIfInBounds_toArray, List.set_cons_zero, List.set_cons_succ]
      refine wpAnyZ_skip 11 (by kernel_rfl) rfl (by rfl) hS2 ?_
      try simp only [Act.put, List.setIfInBounds_toArray, List.set_cons_zero, List.set_cons_succ]
      refine wpAnyA_take 12 (v := ?_) (by kernel_rfl) rfl (by kernel_rfl) (by kernel_rfl) (by kernel_rfl) (fun _ _ _ h => h) hS2 (Or.inl ⟨by rfl, ?_⟩) ?_
      rotate_left
      · (intro w hSw; (try dsimp only at hSw); go_simp; (try with_reducible rfl))
      try simp only [Act.put, List.setIfInBounds_toArray, List.set_cons_zero, List.set_cons_succ]
      refine wpAnyZ_one 13 (by kernel_rfl) rfl rfl (fun K hK => ?_)
      go_simp
      have KZ : Kept (w.heap.size + 2) (w.heap.size + 3) W0 ((w2.setCell ⟨w.heap.size + 2, 0, none⟩ (.slice A1 n1 c1)).setCell ⟨w.heap.size + 2, 1, none⟩ (.int .i64 ub)) := ((x2.kept _ _).setIn (by simp) _).setIn (by simp) _
      have hS3 := KS.out _ KZ
      refine hK.out _ _ (hS3) ?_
      clear hK K
      try simp only [Act.put, List.setIfInBounds_toArray, List.set_cons_zero, List.set_cons_succ]
      refine wpAnyA_take 14 (v := ?_) (by kernel_rfl) rfl (by kernel_rfl) (by kernel_rfl) (by kernel_rfl) (fun _ _ _ h => h) hS3 (Or.inl ⟨by rfl, ?_⟩) ?_
      rotate_left
      · (intro w hSw; (try dsimp only at hSw); go_simp; (try with_reducible rfl))
      try simp only [Act.put, List.setIfInBounds_toArray, List.set_cons_zero, List.set_cons_succ]
      refine wpAnyA_end (by kernel_rfl) ?_
      clear hS0 hS2 hS3 KZ
      go_wp2
      refine bodyPost_ret (v := .tuple #[.agg #[.slice A1 n1 c1, .int .i64 ub], .bool false]) (by simp [results, Try.results83, go_sem, r0, r1]) rfl ?_
      exact dv_ret (hG1.later hE2) hl1 (by have := HG.out.lenT; omega) (fun h => by cases h) (E0.out.trans ee) (hE1.trans hE2) (by omega) hz4
  have hk6 : (x == 6) = false := by simpa using h6
  have hk7 : (x == 7) = false := by simpa using h7
  clear h6 h7
  go_enter Try.func83, Try.ntmps83
  have b20 := B2.out.cell 0
  have b21 := B2.out.cell 1
  go_wp2_with fail
  generalize hW : (((w.alloc (.cells #[.slice A n c, .slice B n d] 101)).alloc (.cells #[.int .i64 x, .int .i64 y, .int .i64 z, .slice G m cg, .int .i64 ub] 59)).alloc (.cells #[.slice none 0 0, .int .i64 0] 25)) = W0 at *
  clear hW b20 b21
  have hz4 := B4.out.lt
  refine (l4Live_any A n c B d gs y _ (HB.out.ext E0.out)).mono ?_
  rintro e w1 ⟨⟨b, rfl, hb⟩, hE1⟩
  have HE1 := Lib.hid hE1
  have D2 := Lib.hid (B2.out.ext hE1)
  have D3 := Lib.hid (B3.out.ext hE1)
  have D4 := Lib.hid (B4.out.ext hE1)
  have hz1 := D4.out.lt
  clear hE1 B2 B3 B4
  cases b with
  | false =>
    have r0 := D4.out.cell 0
    have r1 := D4.out.cell 1
    have q0 := D4.out.frozen 0
    have q1 := D4.out.frozen 1
    go_wp2
    refine bodyPost_ret (v := .tuple #[.agg #[.slice none 0 0, .int .i64 0], .bool false]) (by simp [results, Try.results83, go_sem, r0, r1]) rfl ?_
    exact dv_zero (E0.out.trans HE1.out) (by omega)
  | true =>
    obtain ⟨hy0, hy1⟩ := hb rfl
    obtain ⟨k, rfl⟩ := Int.eq_ofNat_of_zero_le hy0
    have hk : k < n := by omega
    obtain ⟨b, off, Ak, nk, ck, tk, bk, rfl, hx, t1, t2, hnk, hSk⟩ := ((HS.out.ext E0.out).ext HE1.out).at_ hk
    have HVk : Hid (cvB tk bk = true) := List.all_eq_true.1 HV.out (tk, bk) (List.mem_of_getElem? hx)
    have HSk := Lib.hid hSk
    have b20 := D2.out.cell 0
    have b31 := D3.out.cell 1
    have b30 := D3.out.cell 0
    clear hx hSk hb hy0 hy1
    have E1 : Hid (Ext w1 (w1.alloc (.cells #[.slice Ak nk ck, .int .i64 bk] 25))) := (Ext.refl w1).alloc _
    have F2 := Lib.hid (D2.out.ext E1.out)
    have F3 := Lib.hid (D3.out.ext E1.out)
    have F4 := Lib.hid (D4.out.ext E1.out)
    have F6 := Lib.hid (Blk.new w1 25 #[.slice Ak nk ck, .int .i64 bk])
    have HS1 := Lib.hid (HSk.out.ext E1.out)
    have EE := Lib.hid (E0.out.trans (HE1.out.trans E1.out))
    have hbl := World.block_lt_of_cell? _ _ t1
    simp only at hbl
    have a30 := F3.out.cell 0
    by_cases h1 : x = 1
    · have g1 : (x == 1) = true := by simpa using h1
      clear h1
      have a0 := F2.out.cell 0
      have a1 := F2.out.cell 1
      have a2 := F3.out.cell 2
      go_wp2_with fail
      refine (l4Live_any (some ⟨b, off, none⟩) n c B d gs z _ ((HB.out.ext E0.out).ext (HE1.out.trans E1.out))).mono ?_
      rintro e w2 ⟨⟨b2, rfl, hb2⟩, hE2⟩
      have HE2 := Lib.hid hE2
      have G2 := Lib.hid (F2.out.ext hE2)
      have G3 := Lib.hid (F3.out.ext hE2)
      have G4 := Lib.hid (F4.out.ext hE2)
      have G6 := Lib.hid (F6.out.ext hE2)
      have hz2 := G4.out.lt
      clear hE2 a0 a1 a2 a30
      cases b2 with
      | false =>
        have r0 := G4.out.cell 0
        have r1 := G4.out.cell 1
        have q0 := G4.out.frozen 0
        have q1 := G4.out.frozen 1
        go_wp2
        refine bodyPost_ret (v := .tuple #[.agg #[.slice none 0 0, .int .i64 0], .bool false]) (by simp [results, Try.results83, go_sem, r0, r1]) rfl ?_
        exact dv_zero (EE.out.trans HE2.out) (by omega)
      | true =>
        obtain ⟨hy0, hy1⟩ := hb2 rfl
        obtain ⟨k2, rfl⟩ := Int.eq_ofNat_of_zero_le hy0
        have hk2 : k2 < n := by omega
        obtain ⟨b', off', Al, nl, cl, tl, bl, hA, hxl, u1, u2, hnl, hSl⟩ := (((HS.out.ext E0.out).ext (HE1.out.trans E1.out)).ext HE2.out).at_ hk2
        injection hA with hA
        injection hA with e1 e2 _
        subst e1; subst e2
        have HSl := Lib.hid hSl
        have hbl2 := World.block_lt_of_cell? _ _ u1
        simp only at hbl2
        have hbw : b < w.heap.size := by
          obtain ⟨b9, off9, _, _, _, _, _, e9, _, c9, _⟩ := HS.out.at_ hk2
          injection e9 with e9
          injection e9 with e3 e4 _
          subst e3
          exact World.block_lt_of_cell? _ _ c9
        have KS : Hid (∀ W', Kept (w.heap.size + 2) (w.heap.size + 3) w2 W' → (W'.cell? ⟨w1.heap.size, 0, none⟩ = some (.slice Ak nk ck) ∧ W'.cell? ⟨w1.heap.size, 1, none⟩ = some (.int .i64 bk) ∧ W'.cell? ⟨w.heap.size, 0, none⟩ = some (.slice (some ⟨b, off, none⟩) n c) ∧ W'.cell? ⟨w.heap.size + 1, 2, none⟩ = some (.int .i64 k2) ∧
            W'.cell? ⟨b, off + k2 * 2, none⟩ = some (.slice Al nl cl) ∧ W'.cell? ⟨b, off + k2 * 2 + 1, none⟩ = some (.int .i64 bl))) := fun W' e => by
          have C2 := G2.out.kept e (.inl (by omega))
          have C3 := G3.out.kept e (.inl (by omega))
          have C6 := G6.out.kept e (.inr (by omega))
          exact ⟨C6.cell 0, C6.cell 1, C2.cell 0, C3.cell 2, (e.cell (p := ⟨b, off + k2 * 2, none⟩) (by simp only; omega) (.inl (by simp only; omega))).trans u1, (e.cell (p := ⟨b, off + k2 * 2 + 1, none⟩) (by simp only; omega) (.inl (by simp only; omega))).trans u2⟩
        clear hxl hSl hb2 hy0 hy1
        have b0 := G2.out.cell 0
        go_wp2_with fail
        have e1 : Kept (w.heap.size + 2) (w.heap.size + 3) w2 w2.drew := (Kept.refl _ _ w2).drew
        have ee : Ext w2 w2.drew := (Ext.refl _).drew
        clear b0
        go_region_held3 (fun W' => W'.cell? ⟨w1.heap.size, 0, none⟩ = some (.slice Ak nk ck) ∧ W'.cell? ⟨w1.heap.size, 1, none⟩ = some (.int .i64 bk) ∧ W'.cell? ⟨w.heap.size, 0, none⟩ = some (.slice (some ⟨b, off, none⟩) n c) ∧ W'.cell? ⟨w.heap.size + 1, 2, none⟩ = some (.int .i64 k2) ∧
            W'.cell? ⟨b, off + k2 * 2, none⟩ = some (.slice Al nl cl) ∧ W'.cell? ⟨b, off + k2 * 2 + 1, none⟩ = some (.int .i64 bl))
          ((refine KS.out _ ?_; first | exact e1 | exact k3 | exact (k3.setIn (by first | (simp; done) | (simp; omega)) _).setIn (by first | (simp; done) | (simp; omega)) _))
          ((first
            | (go_at_call 86; refine (specAdd_any Ak nk ck tk bk Al nl cl tl bl _ hnk (((HS1.out.ext HE2.out).ext ee)) hnl (HSl.out.ext ee)).mono ?_; rintro e w3 ⟨A3, n3, c3, rfl, hl3, hG3, hE3⟩; (have x3 : Ext w2 w3 := ee.trans hE3); (have k3 : Kept (w.heap.size + 2) (w.heap.size + 3) w2 w3 := x3.kept _ _); (have BB := G4.out.ext x3); (have r0 := BB.cell 0); (have r1 := BB.cell 1); (have q0 := BB.frozen 0); (have q1 := BB.frozen 1); (have hzb := BB.lt); (clear BB))))
        go_wp2
        refine bodyPost_ret (v := .tuple #[.agg #[.slice A3 n3 c3, .int .i64 (adD tk bk tl bl)], .bool (adB tk bk tl bl)]) (by simp [results, Try.results83, go_sem, r0, r1]) rfl ?_
        exact dv_ret hG3 hl3 (adT_len tk bk tl bl) adB_cvR (EE.out.trans (HE2.out.trans ee)) hE3 (by omega) (by have : w2.drew.heap.size = w2.heap.size := rfl; omega)
    have g1 : (x == 1) = false := by simpa using h1
    clear h1
    have a2 := F3.out.cell 2
    by_cases h2 : x = 2
    · have g2 : (x == 2) = true := by simpa using h2
      clear h2
      go_wp2_with fail
      refine (specMul_any Ak nk ck tk bk z _ hnk (HSk.out.ext ((Ext.refl _).alloc _))).mono ?_
      rintro e w3 ⟨A3, n3, c3, rfl, hl3, hG3, hE3⟩
      have r0 := (F4.out.ext hE3).cell 0
      have r1 := (F4.out.ext hE3).cell 1
      have q0 := (F4.out.ext hE3).frozen 0
      have q1 := (F4.out.ext hE3).frozen 1
      have hz3 := (F4.out.ext hE3).lt
      have hsz1 := F4.out.lt
      go_wp2
      refine bodyPost_ret (v := .tuple #[.agg #[.slice A3 n3 c3, .int .i64 (muD tk bk z)], .bool (muB tk bk z)]) (by simp [results, Try.results83, go_sem, r0, r1]) rfl ?_
      exact dv_ret hG3 hl3 (muT_len tk bk z) muB_cvR EE.out hE3 (by omega) (by omega)
    have g2 : (x == 2) = false := by simpa using h2
    clear h2
    by_cases h3 : x = 3
    · have g3 : (x == 3) = true := by simpa using h3
      clear h3
      go_wp2_with fail
      refine (specDiv_any Ak nk ck tk bk z _ hnk (HSk.out.ext ((Ext.refl _).alloc _))).mono ?_
      rintro e w3 ⟨A3, n3, c3, rfl, hl3, hG3, hE3⟩
      have r0 := (F4.out.ext hE3).cell 0
      have r1 := (F4.out.ext hE3).cell 1
      have q0 := (F4.out.ext hE3).frozen 0
      have q1 := (F4.out.ext hE3).frozen 1
      have hz3 := (F4.out.ext hE3).lt
      have hsz1 := F4.out.lt
      go_wp2
      refine bodyPost_ret (v := .tuple #[.agg #[.slice A3 n3 c3, .int .i64 (dvD tk bk z)], .bool (dvB tk bk z)]) (by simp [results, Try.results83, go_sem, r0, r1]) rfl ?_
      exact dv_ret hG3 hl3 (dvT_len tk bk z) dvB_cvR EE.out hE3 (by omega) (by omega)
    have g3 : (x == 3) = false := by simpa using h3
    clear h3
    by_cases h4 : x = 4
    · have g4 : (x == 4) = true := by simpa using h4
      clear h4
      go_wp2_with fail
      refine (specSat_any Ak nk ck tk bk _ hnk (HSk.out.ext ((Ext.refl _).alloc _))).mono ?_
      rintro e w3 ⟨A3, n3, c3, rfl, hl3, hG3, hE3⟩
      have r0 := (F4.out.ext hE3).cell 0
      have r1 := (F4.out.ext hE3).cell 1
      have q0 := (F4.out.ext hE3).frozen 0
      have q1 := (F4.out.ext hE3).frozen 1
      have hz3 := (F4.out.ext hE3).lt
      have hsz1 := F4.out.lt
      go_wp2
      refine bodyPost_ret (v := .tuple #[.agg #[.slice A3 n3 c3, .int .i64 (stD tk bk)], .bool (cvB tk bk)]) (by simp [results, Try.results83, go_sem, r0, r1]) rfl ?_
      exact dv_ret hG3 hl3 (stT_len tk bk) stB_cvR EE.out hE3 (by omega) (by omega)
    · have g4 : (x == 4) = false := by simpa using h4
      clear h4
      go_wp2_with fail
      refine (specWk_any Ak nk ck tk bk z _ hnk (HSk.out.ext ((Ext.refl _).alloc _))).mono ?_
      rintro e w3 ⟨A3, n3, c3, rfl, hl3, hG3, hE3⟩
      have r0 := (F4.out.ext hE3).cell 0
      have r1 := (F4.out.ext hE3).cell 1
      have q0 := (F4.out.ext hE3).frozen 0
      have q1 := (F4.out.ext hE3).frozen 1
      have hz3 := (F4.out.ext hE3).lt
      have hsz1 := F4.out.lt
      go_wp2
      refine bodyPost_ret (v := .tuple #[.agg #[.slice A3 n3 c3, .int .i64 (wcD tk bk z)], .bool (wkB tk bk z)]) (by simp [results, Try.results83, go_sem, r0, r1]) rfl ?_
      exact dv_ret hG3 hl3 (wcT_len tk bk z) wcB_cvR EE.out hE3 (by omega) (by omega)
end

/- Running a proof: l4Run. -/
section
open Go.RowKit

/-- i, j or k may come up, none is z -/
theorem wpAnyZ_three {P : Program} {ops : Array Oper} {Q : Exit → Act → World → Prop} {md : Region.Mode} {S : World → Prop} {z : Nat} (i j k : Nat) {oi oj ok : Oper} {fuel : Nat} {listed : Array Bool} {a : Act} {w : World} (hr : Region.ready md ops listed = [i, j, k]) (hi' : ops.toList[i]? = some oi) (hj' : ops.toList[j]? = some oj) (hk' : ops.toList[k]? = some ok) (gi : oi.guard = none) (gj : oj.guard = none) (gk : ok.guard = none)
    (h1 : ∀ K : Act → World → Prop, Hid (∀ a' w', S w' → wpAnyZ P md ops Q S z fuel (listed.setIfInBounds i true) a' w' → K a' w') → oi.wp P a w K Q)
    (h2 : ∀ K : Act → World → Prop, Hid (∀ a' w', S w' → wpAnyZ P md ops Q S z fuel (listed.setIfInBounds j true) a' w' → K a' w') → oj.wp P a w K Q)
    (h3 : ∀ K : Act → World → Prop, Hid (∀ a' w', S w' → wpAnyZ P md ops Q S z fuel (listed.setIfInBounds k true) a' w' → K a' w') → ok.wp P a w K Q) : wpAnyZ P md ops Q S z (fuel + 1) listed a w := by
  have one : ∀ (q : Nat) (o : Oper), ops.toList[q]? = some o → o.guard = none → (∀ K : Act → World → Prop, Hid (∀ a' w', S w' → wpAnyZ P md ops Q S z fuel (listed.setIfInBounds q true) a' w' → K a' w') → o.wp P a w K Q) →
      wpOp P ops Q q (fun a' w' => (q ≠ z → S w') ∧ wpAnyZ P md ops Q S z fuel (listed.setIfInBounds q true) a' w') a w := fun q o hq' gq hh => by
    have hq : ops[q]? = some o := by rw [← hq', Array.getElem?_toList]
    have H := hh (fun a' w' => S w' ∧ wpAnyZ P md ops Q S z fuel (listed.setIfInBounds q true) a' w') fun _ _ h1 h2 => ⟨h1, h2⟩
    have wq : Region.wanted o (yielded ops a.tmps) = true := by simp [Region.wanted, gq]
    unfold wpOp
    simp only [hq, wq, if_true]
    exact .inl (Oper.wp_mono (fun _ _ h' => ⟨fun _ => h'.1, h'.2⟩) H)
  refine ⟨fun h0 => (by rw [hr] at h0; cases h0), fun q hq => ?_⟩
  rw [hr] at hq
  rcases List.mem_cons.1 hq with rfl | hq
  · exact one _ _ hi' gi h1
  · rcases List.mem_cons.1 hq with rfl | hq
    · exact one _ _ hj' gj h2
    · obtain rfl : q = k := by simpa using hq
      exact one _ _ hk' gk h3

/-- what follows a region that draws its order, told once for all orders -/
theorem region_contL {P : Program} {ops : Array Oper} {Q : Exit → Act → World → Prop} {id : Nat} {a : Act} {w : World} (S : World → Prop) (z : Nat) (hm : P.follows .mixedOrders = true) (R : Act → Act → World → Prop)
    (hp : ∀ c a w (d : Nat) v, Q (.panic c) (a.put (some d) v) w → Q (.panic c) a w)
    (h1 : ∀ Q' : Exit → Act → World → Prop, (∀ c a w (d : Nat) v, Q' (.panic c) (a.put (some d) v) w → Q' (.panic c) a w) → Hid (∀ a' X, R a a' X → Q' .normal a' X) → wpAnyZ P .any ops Q' S z ops.size (Array.replicate ops.size false) a w.drew) (h2 : ∀ a' X, R a a' X → Q .normal a' X) : (Code.region id ops true).wp P Q a w :=
  wp_region_Z S z hm (h1 Q hp h2)

/-- SOME list of valid constraints with its marks, and SOME number -/
def RetRun (w : World) (e : Ending) (w' : World) : Prop :=
  ∃ A1 k c1 B1 d1 cs' gs z, e = .returned (.tuple #[.agg #[.slice A1 k c1, .slice B1 k d1], .int .i64 z]) ∧ k ≤ 2000 ∧ SegC w' A1 k cs' ∧ cs'.all cvC = true ∧ Seg w' 1 B1 k (encB gs) ∧ Ext w w'
theorem seg_nobox {w : World} {A : Option Addr} {n g : Nat} {ts : List Tm} {t : TypeId} {a1 a2 : Option Addr} {n1 n2 c1 c2 : Nat} (h : Seg w 2 A n (encT ts)) (B : Blk w g t #[.slice a1 n1 c1, .slice a2 n2 c2]) : 0 < n → ∀ ad : Addr, A = some ad → ad.block ≠ g := by
  intro hn ad e e2
  obtain ⟨b, off, c, l, e3, _, u1, _⟩ := h.term hn
  rw [e] at e3
  injection e3 with e3
  rw [e3] at e2
  simp only at e2
  subst e2
  rw [B.cell] at u1
  rcases off with _ | _ | off <;> simp at u1
theorem run_ret {w wr : World} {lo gb k c1 d1 : Nat} {A1 B1 : Option Addr} {hs : List Hd} {cs : List Cn} {gs : List Bool} (z : Int) (h : DbOk lo wr gb (.slice A1 k c1) (.slice B1 k d1) k k hs cs gs) (hE : Ext w wr) (hk : k ≤ 2000) (hB : Blk wr w.heap.size 101 #[.slice none 0 0, .slice none 0 0]) :
    RetRun w (.returned (.tuple #[.agg #[.slice A1 k c1, .slice B1 k d1], .int .i64 z])) ((wr.setCell ⟨w.heap.size, 0, none⟩ (.slice A1 k c1)).setCell ⟨w.heap.size, 1, none⟩ (.slice B1 k d1)) := by
  have n1 := own_type h.row1 hB (by decide)
  have n2 := own_type h.row2 hB (by decide)
  have r1 := own_off (own_off h.row1 (p := ⟨w.heap.size, 0, none⟩) n1 (.slice A1 k c1)) (p := ⟨w.heap.size, 1, none⟩) n1 (.slice B1 k d1)
  have r2 := own_off (own_off h.row2 (p := ⟨w.heap.size, 0, none⟩) n2 (.slice A1 k c1)) (p := ⟨w.heap.size, 1, none⟩) n2 (.slice B1 k d1)
  refine ⟨A1, k, c1, B1, d1, cs, gs, z, rfl, hk, ⟨hs, h.len, (own_parts r1).1, fun i x y e1 e2 => ?_⟩, h.good, (own_parts r2).1, (hE.setNew (Nat.le_refl _) _).setNew (Nat.le_refl _) _⟩
  obtain ⟨q1, q2, _⟩ := h.inn i x y e1 e2
  have q3 := seg_nobox q2 hB
  exact ⟨Nat.le_trans q1 (by unfold maxLen; omega), seg_off (seg_off q2 (p := ⟨w.heap.size, 0, none⟩) q3 _) (p := ⟨w.heap.size, 1, none⟩) q3 _⟩

theorem Try.infoCnD : (Try.prog.info? 25).map (fun i => (i.zero, i.size, i.bytes)) = some (some (.agg #[.slice none 0 0, .int .i64 0]), 2, 32) := by kernel_rfl
theorem Try.infoBoD : (Try.prog.info? 4).map (fun i => (i.zero, i.size, i.bytes)) = some (some (.bool false), 1, 1) := by kernel_rfl
set_option maxRecDepth 100000 in
set_option maxHeartbeats 16000000 in
theorem l4Run_any (A : Option Addr) (n c : Nat) (cs : List Cn) (B : Option Addr) (m d : Nat) (ss : List St) (w : World) (hn : n ≤ 400) (h : SegC w A n cs) (hv : cs.all cvC = true) (hm : m ≤ 1000) (hb : SegP w B m ss) (hsm : ∀ s ∈ ss, s.2.2.2.1.length ≤ 1048576) :
    Calls Try.prog 77 #[.slice A n c, .slice B m d] w (RetRun w) := by
  obtain ⟨i0, hi, hz0, hz1, hz2⟩ := info_parts Try.infoCnD
  obtain ⟨i1, hi', hz0', hz1', hz2'⟩ := info_parts Try.infoBoD
  have hmk : ∀ X : World, (Instr.makeSlice 99 (.int .i64 n) (.int .i64 n)).run Try.prog X = .ok (.slice (some ⟨X.heap.size, 0, none⟩) n n) (X.alloc (.cells (madeCells #[.bool false] n) 4)) := fun X => by
    have := run_make (P := Try.prog) X 99 4 i1 _ Try.underlying99 hi' hz0' .i64 .i64 (n : Int) (n : Int) (by omega) (by omega) (by rw [hz2']; omega) (by omega)
    rw [hz1', toNat_cast, Nat.mul_one] at this
    exact this
  have HI := Lib.hid hi
  have HZ0 := Lib.hid hz0
  have HZ1 := Lib.hid hz1
  have HZ2 := Lib.hid hz2
  have HI' := Lib.hid hi'
  have HZ0' := Lib.hid hz0'
  have HZ1' := Lib.hid hz1'
  have HZ2' := Lib.hid hz2'
  have HVv := Lib.hid hv
  have HP := Lib.hid hb
  have HSM := Lib.hid hsm
  have HLp := Lib.hid hb.len
  obtain ⟨hs, hl, hSg, hIn⟩ := h
  have HLh := Lib.hid hl
  have HSg := Lib.hid hSg
  have HIN : Hid (∀ (i : Nat) (h : Hd) (c : Cn), hs[i]? = some h → cs[i]? = some c → h.2.1 ≤ 1048576 ∧ Seg w 2 h.1 h.2.1 (encT c.1)) := fun i x y e1 e2 => by
    have q := (hIn i x y e1 e2).2
    have l1 := q.lenT
    have l2 := cvB_len (List.all_eq_true.1 hv y (List.mem_of_getElem? e2))
    exact ⟨by omega, q⟩
  have HW : Hid (Ext w (w.alloc (.cells #[.slice none 0 0, .slice none 0 0] 101))) := (Ext.refl w).alloc _
  have HR0 := Lib.hid (Blk.new w 101 #[.slice none 0 0, .slice none 0 0])
  clear hi hz0 hz1 hz2 hi' hz0' hz1' hz2' hv hb hsm hl hSg hIn
  go_enter Try.func77, Try.ntmps77
  go_wp2_with fail
  refine region_contL (fun _ => True) 8 (by kernel_rfl) (fun a a' X => ∃ (gb : Nat) (A1 : Option Addr) (c1 gm g0 : Nat), a' = (Act.put (Act.put (Act.put (Act.put (Act.put (Act.put (Act.put (Act.put a (some 11) (.slice (some ⟨g0, 0, none⟩) 0 0)) (some 12) (.slice A n c)) (some 13) (.slice A1 n c1)) (some 14) (.slice A n c)) (some 15) (.int .i64 n)) (some 16) (.slice (some ⟨gm, 0, none⟩) n n)) (some 17) (.agg #[.slice A1 n c1, .slice (some ⟨gm, 0, none⟩) n n])) (some 6) (.pointer (some ⟨gb, 0, none⟩))) ∧ Ext (w.alloc (.cells #[.slice none 0 0, .slice none 0 0] 101)) X ∧ DbOk (w.heap.size + 1) X gb (.slice A1 n c1) (.slice (some ⟨gm, 0, none⟩) n n) n n hs cs (List.replicate n false)) (fun _ _ _ _ _ h => h) ?_ ?_
  · intro Q' hP hQ
    obtain ⟨X0, hX0⟩ : ∃ x, (w.alloc (.cells #[.slice none 0 0, .slice none 0 0] 101)).drew = x := ⟨_, rfl⟩
    rw [hX0]
    have E0 : Ext (w.alloc (.cells #[.slice none 0 0, .slice none 0 0] 101)) X0 := hX0 ▸ (Ext.refl _).drew
    have zz0 : w.heap.size + 1 ≤ X0.heap.size := by have := E0.size; simpa using this
    refine wpAnyZ_take 1 (v := ?_) (by kernel_rfl) rfl rfl (by kernel_rfl) (by kernel_rfl) (by kernel_rfl) (fun c a w h => hP c a w _ _ h) trivial (Or.inl ⟨by rfl, ?_⟩) ?_
    rotate_left
    · (intro w hSw; (try dsimp only at hSw); go_simp; (try with_reducible rfl))
    try simp only [Act.put, List.setIfInBounds_toArray, List.set_cons_zero, List.set_cons_succ]
    refine wpAnyZ_take 3 (v := ?_) (by kernel_rfl) rfl rfl (by kernel_rfl) (by kernel_rfl) (by kernel_rfl) (fun c a w h => hP c a w _ _ h) trivial (Or.inl ⟨by rfl, ?_⟩) ?_
    rotate_left
    · (intro w hSw; (try dsimp only at hSw); go_simp; (try with_reducible rfl))
    try simp only [Act.put, List.setIfInBounds_toArray, List.set_cons_zero, List.set_cons_succ]
    refine wpAnyZ_take 4 (v := ?_) (by kernel_rfl) rfl rfl (by kernel_rfl) (by kernel_rfl) (by kernel_rfl) (fun c a w h => hP c a w _ _ h) trivial (Or.inl ⟨by rfl, ?_⟩) ?_
    rotate_left
    · (intro w hSw; (try dsimp only at hSw); go_simp; (try with_reducible rfl))
    try simp only [Act.put, List.setIfInBounds_toArray, List.set_cons_zero, List.set_cons_succ]
    refine wpAnyZ_three 0 5 7 (by kernel_rfl) rfl rfl rfl rfl rfl rfl (fun K hK => ?_) (fun K hK => ?_) (fun K hK => ?_)
    · go_simp
      obtain ⟨X1, hX1⟩ : ∃ x, X0.alloc (.cells #[] 25) = x := ⟨_, rfl⟩
      have E1 : Ext (w.alloc (.cells #[.slice none 0 0, .slice none 0 0] 101)) X1 := hX1 ▸ (E0.alloc (.cells #[] 25))
      have aa1 : Ext X0 X1 := hX1 ▸ ((Ext.refl X0).alloc (.cells #[] 25))
      have e1 : X1.ownsRow (w.heap.size + 1) 25 2 (.slice (some ⟨X0.heap.size, 0, none⟩) 0 0) 0 [] := hX1 ▸ own_empty X0 (w.heap.size + 1) 25 2 (by omega)
      refine hK.out _ _ trivial ?_
      clear hK K
      rw [hX1]
      have zz1 : w.heap.size + 1 ≤ X1.heap.size := by have := E1.size; simpa using this
      try simp only [Act.put, List.setIfInBounds_toArray, List.set_cons_zero, List.set_cons_succ]
      refine wpAnyZ_three 2 5 7 (by kernel_rfl) rfl rfl rfl rfl rfl rfl (fun K hK => ?_) (fun K hK => ?_) (fun K hK => ?_)
      · refine wp_append_seg _ _ _ _ (by rfl) (w.heap.size + 1) 25 i0 _ 2 32 Try.underlying55 HI.out HZ0.out HZ1.out HZ2.out rfl (by omega) (.slice (some ⟨X0.heap.size, 0, none⟩) 0 0) 0 [] (by rfl) e1 A n c (encH hs cs) (by rfl) ((HSg.out.ext HW.out).ext E1) (oneCHl hs cs) (by unfold maxLen; omega) (by omega) (by omega) ?_
        intro A1 c1 X2 hownA hgA
        simp only [Nat.zero_add, List.nil_append] at hownA
        try simp only [Nat.zero_add]
        have E2 : Ext (w.alloc (.cells #[.slice none 0 0, .slice none 0 0] 101)) X2 := E1.grown hgA (fun k hk => by have := (e1.lt k hk).1; simp only [World.size_alloc]; omega)
        refine hK.out _ _ trivial ?_
        clear hK K
        have zz2 : w.heap.size + 1 ≤ X2.heap.size := by have := E2.size; simpa using this
        try simp only [Act.put, List.setIfInBounds_toArray, List.set_cons_zero, List.set_cons_succ]
        refine wpAnyZ_two 5 7 (by kernel_rfl) rfl rfl rfl rfl (fun K hK => ?_) (fun K hK => ?_)
        · go_simp
          obtain ⟨X3, hX3⟩ : ∃ x, X2.alloc (.cells (madeCells #[.bool false] n) 4) = x := ⟨_, rfl⟩
          have E3 : Ext (w.alloc (.cells #[.slice none 0 0, .slice none 0 0] 101)) X3 := hX3 ▸ (E2.alloc (.cells (madeCells #[.bool false] n) 4))
          have aa3 : Ext X2 X3 := hX3 ▸ ((Ext.refl X2).alloc (.cells (madeCells #[.bool false] n) 4))
          have ap3 := own_ext_keep hownA aa3
          have m3 : X3.ownsRow (w.heap.size + 1) 4 1 (.slice (some ⟨X2.heap.size, 0, none⟩) n n) n (encB (List.replicate n false)) := hX3 ▸ own_madeB X2 (w.heap.size + 1) n (by omega) (by omega)
          refine hK.out _ _ trivial ?_
          clear hK K
          rw [hX3]
          have zz3 : w.heap.size + 1 ≤ X3.heap.size := by have := E3.size; simpa using this
          try simp only [Act.put, List.setIfInBounds_toArray, List.set_cons_zero, List.set_cons_succ]
          refine wpAnyZ_take 6 (v := ?_) (by kernel_rfl) rfl rfl (by kernel_rfl) (by kernel_rfl) (by kernel_rfl) (fun c a w h => hP c a w _ _ h) trivial (Or.inl ⟨by rfl, ?_⟩) ?_
          rotate_left
          · (intro w hSw; (try dsimp only at hSw); go_simp; (try with_reducible rfl))
          try simp only [Act.put, List.setIfInBounds_toArray, List.set_cons_zero, List.set_cons_succ]
          refine wpAnyZ_one 7 (by kernel_rfl) rfl rfl (fun K hK => ?_)
          go_simp
          obtain ⟨X4, hX4⟩ : ∃ x, X3.alloc (.cells #[.slice none 0 0, .slice none 0 0] 101) = x := ⟨_, rfl⟩
          have E4 : Ext (w.alloc (.cells #[.slice none 0 0, .slice none 0 0] 101)) X4 := hX4 ▸ (E3.alloc (.cells #[.slice none 0 0, .slice none 0 0] 101))
          have aa4 : Ext X3 X4 := hX4 ▸ ((Ext.refl X3).alloc (.cells #[.slice none 0 0, .slice none 0 0] 101))
          have m4 := own_ext_keep m3 aa4
          have ap4 := own_ext_keep ap3 aa4
          have b4 : Blk X4 X3.heap.size 101 #[.slice none 0 0, .slice none 0 0] := hX4 ▸ Blk.new X3 _ _
          refine hK.out _ _ trivial ?_
          clear hK K
          rw [hX4]
          have zz4 : w.heap.size + 1 ≤ X4.heap.size := by have := E4.size; simpa using this
          try simp only [Act.put, List.setIfInBounds_toArray, List.set_cons_zero, List.set_cons_succ]
          have z0 := b4.cell 0
          have z1 := b4.cell 1
          have y0 := b4.frozen 0
          have y1 := b4.frozen 1
          have yl := b4.lt
          refine wpAnyZ_last (by kernel_rfl) (by kernel_rfl) rfl rfl (fun K hK => ?_)
          go_simp
          refine hK.out _ _ (hQ.out _ _ ⟨X3.heap.size, A1, c1, X2.heap.size, X0.heap.size, (by simp only [Act.put, List.setIfInBounds_toArray, List.set_cons_zero, List.set_cons_succ]), (E4.setNew (by simp only [World.size_alloc]; omega) _).setNew (by simp only [World.size_alloc]; omega) _, DbOk.init E4 HLh.out HVv.out b4 (by omega) (by simp) ap4 m4 (fun i x y e1 e2 => ⟨(HIN.out i x y e1 e2).1, (HIN.out i x y e1 e2).2.ext HW.out⟩)⟩)
        · go_simp
          obtain ⟨X3, hX3⟩ : ∃ x, X2.alloc (.cells #[.slice none 0 0, .slice none 0 0] 101) = x := ⟨_, rfl⟩
          have E3 : Ext (w.alloc (.cells #[.slice none 0 0, .slice none 0 0] 101)) X3 := hX3 ▸ (E2.alloc (.cells #[.slice none 0 0, .slice none 0 0] 101))
          have aa3 : Ext X2 X3 := hX3 ▸ ((Ext.refl X2).alloc (.cells #[.slice none 0 0, .slice none 0 0] 101))
          have ap3 := own_ext_keep hownA aa3
          have b3 : Blk X3 X2.heap.size 101 #[.slice none 0 0, .slice none 0 0] := hX3 ▸ Blk.new X2 _ _
          refine hK.out _ _ trivial ?_
          clear hK K
          rw [hX3]
          have zz3 : w.heap.size + 1 ≤ X3.heap.size := by have := E3.size; simpa using this
          try simp only [Act.put, List.setIfInBounds_toArray, List.set_cons_zero, List.set_cons_succ]
          refine wpAnyZ_one 5 (by kernel_rfl) rfl rfl (fun K hK => ?_)
          go_simp
          obtain ⟨X4, hX4⟩ : ∃ x, X3.alloc (.cells (madeCells #[.bool false] n) 4) = x := ⟨_, rfl⟩
          have E4 : Ext (w.alloc (.cells #[.slice none 0 0, .slice none 0 0] 101)) X4 := hX4 ▸ (E3.alloc (.cells (madeCells #[.bool false] n) 4))
          have aa4 : Ext X3 X4 := hX4 ▸ ((Ext.refl X3).alloc (.cells (madeCells #[.bool false] n) 4))
          have b4 := Blk.ext b3 aa4
          have ap4 := own_ext_keep ap3 aa4
          have m4 : X4.ownsRow (w.heap.size + 1) 4 1 (.slice (some ⟨X3.heap.size, 0, none⟩) n n) n (encB (List.replicate n false)) := hX4 ▸ own_madeB X3 (w.heap.size + 1) n (by omega) (by omega)
          refine hK.out _ _ trivial ?_
          clear hK K
          rw [hX4]
          have zz4 : w.heap.size + 1 ≤ X4.heap.size := by have := E4.size; simpa using this
          try simp only [Act.put, List.setIfInBounds_toArray, List.set_cons_zero, List.set_cons_succ]
          refine wpAnyZ_take 6 (v := ?_) (by kernel_rfl) rfl rfl (by kernel_rfl) (by kernel_rfl) (by kernel_rfl) (fun c a w h => hP c a w _ _ h) trivial (Or.inl ⟨by rfl, ?_⟩) ?_
          rotate_left
          · (intro w hSw; (try dsimp only at hSw); go_simp; (try with_reducible rfl))
          try simp only [Act.put, List.setIfInBounds_toArray, List.set_cons_zero, List.set_cons_succ]
          have z0 := b4.cell 0
          have z1 := b4.cell 1
          have y0 := b4.frozen 0
          have y1 := b4.frozen 1
          have yl := b4.lt
          refine wpAnyZ_last (by kernel_rfl) (by kernel_rfl) rfl rfl (fun K hK => ?_)
          go_simp
          refine hK.out _ _ (hQ.out _ _ ⟨X2.heap.size, A1, c1, X3.heap.size, X0.heap.size, (by simp only [Act.put, List.setIfInBounds_toArray, List.set_cons_zero, List.set_cons_succ]), (E4.setNew (by simp only [World.size_alloc]; omega) _).setNew (by simp only [World.size_alloc]; omega) _, DbOk.init E4 HLh.out HVv.out b4 (by omega) (by simp) ap4 m4 (fun i x y e1 e2 => ⟨(HIN.out i x y e1 e2).1, (HIN.out i x y e1 e2).2.ext HW.out⟩)⟩)
      · go_simp
        obtain ⟨X2, hX2⟩ : ∃ x, X1.alloc (.cells (madeCells #[.bool false] n) 4) = x := ⟨_, rfl⟩
        have E2 : Ext (w.alloc (.cells #[.slice none 0 0, .slice none 0 0] 101)) X2 := hX2 ▸ (E1.alloc (.cells (madeCells #[.bool false] n) 4))
        have aa2 : Ext X1 X2 := hX2 ▸ ((Ext.refl X1).alloc (.cells (madeCells #[.bool false] n) 4))
        have e2 := own_ext_keep e1 aa2
        have m2 : X2.ownsRow (w.heap.size + 1) 4 1 (.slice (some ⟨X1.heap.size, 0, none⟩) n n) n (encB (List.replicate n false)) := hX2 ▸ own_madeB X1 (w.heap.size + 1) n (by omega) (by omega)
        refine hK.out _ _ trivial ?_
        clear hK K
        rw [hX2]
        have zz2 : w.heap.size + 1 ≤ X2.heap.size := by have := E2.size; simpa using this
        try simp only [Act.put, List.setIfInBounds_toArray, List.set_cons_zero, List.set_cons_succ]
        refine wpAnyZ_two 2 7 (by kernel_rfl) rfl rfl rfl rfl (fun K hK => ?_) (fun K hK => ?_)
        · refine wp_append_seg _ _ _ _ (by rfl) (w.heap.size + 1) 25 i0 _ 2 32 Try.underlying55 HI.out HZ0.out HZ1.out HZ2.out rfl (by omega) (.slice (some ⟨X0.heap.size, 0, none⟩) 0 0) 0 [] (by rfl) e2 A n c (encH hs cs) (by rfl) ((HSg.out.ext HW.out).ext E2) (oneCHl hs cs) (by unfold maxLen; omega) (by omega) (by omega) ?_
          intro A1 c1 X3 hownA hgA
          simp only [Nat.zero_add, List.nil_append] at hownA
          try simp only [Nat.zero_add]
          have E3 : Ext (w.alloc (.cells #[.slice none 0 0, .slice none 0 0] 101)) X3 := E2.grown hgA (fun k hk => by have := (e2.lt k hk).1; simp only [World.size_alloc]; omega)
          have m3 := own_grown m2 e2 (by decide) hgA
          refine hK.out _ _ trivial ?_
          clear hK K
          have zz3 : w.heap.size + 1 ≤ X3.heap.size := by have := E3.size; simpa using this
          try simp only [Act.put, List.setIfInBounds_toArray, List.set_cons_zero, List.set_cons_succ]
          refine wpAnyZ_take 6 (v := ?_) (by kernel_rfl) rfl rfl (by kernel_rfl) (by kernel_rfl) (by kernel_rfl) (fun c a w h => hP c a w _ _ h) trivial (Or.inl ⟨by rfl, ?_⟩) ?_
          rotate_left
          · (intro w hSw; (try dsimp only at hSw); go_simp; (try with_reducible rfl))
          try simp only [Act.put, List.setIfInBounds_toArray, List.set_cons_zero, List.set_cons_succ]
          refine wpAnyZ_one 7 (by kernel_rfl) rfl rfl (fun K hK => ?_)
          go_simp
          obtain ⟨X4, hX4⟩ : ∃ x, X3.alloc (.cells #[.slice none 0 0, .slice none 0 0] 101) = x := ⟨_, rfl⟩
          have E4 : Ext (w.alloc (.cells #[.slice none 0 0, .slice none 0 0] 101)) X4 := hX4 ▸ (E3.alloc (.cells #[.slice none 0 0, .slice none 0 0] 101))
          have aa4 : Ext X3 X4 := hX4 ▸ ((Ext.refl X3).alloc (.cells #[.slice none 0 0, .slice none 0 0] 101))
          have m4 := own_ext_keep m3 aa4
          have ap4 := own_ext_keep hownA aa4
          have b4 : Blk X4 X3.heap.size 101 #[.slice none 0 0, .slice none 0 0] := hX4 ▸ Blk.new X3 _ _
          refine hK.out _ _ trivial ?_
          clear hK K
          rw [hX4]
          have zz4 : w.heap.size + 1 ≤ X4.heap.size := by have := E4.size; simpa using this
          try simp only [Act.put, List.setIfInBounds_toArray, List.set_cons_zero, List.set_cons_succ]
          have z0 := b4.cell 0
          have z1 := b4.cell 1
          have y0 := b4.frozen 0
          have y1 := b4.frozen 1
          have yl := b4.lt
          refine wpAnyZ_last (by kernel_rfl) (by kernel_rfl) rfl rfl (fun K hK => ?_)
          go_simp
          refine hK.out _ _ (hQ.out _ _ ⟨X3.heap.size, A1, c1, X1.heap.size, X0.heap.size, (by simp only [Act.put, List.setIfInBounds_toArray, List.set_cons_zero, List.set_cons_succ]), (E4.setNew (by simp only [World.size_alloc]; omega) _).setNew (by simp only [World.size_alloc]; omega) _, DbOk.init E4 HLh.out HVv.out b4 (by omega) (by simp) ap4 m4 (fun i x y e1 e2 => ⟨(HIN.out i x y e1 e2).1, (HIN.out i x y e1 e2).2.ext HW.out⟩)⟩)
        · go_simp
          obtain ⟨X3, hX3⟩ : ∃ x, X2.alloc (.cells #[.slice none 0 0, .slice none 0 0] 101) = x := ⟨_, rfl⟩
          have E3 : Ext (w.alloc (.cells #[.slice none 0 0, .slice none 0 0] 101)) X3 := hX3 ▸ (E2.alloc (.cells #[.slice none 0 0, .slice none 0 0] 101))
          have aa3 : Ext X2 X3 := hX3 ▸ ((Ext.refl X2).alloc (.cells #[.slice none 0 0, .slice none 0 0] 101))
          have e3 := own_ext_keep e2 aa3
          have m3 := own_ext_keep m2 aa3
          have b3 : Blk X3 X2.heap.size 101 #[.slice none 0 0, .slice none 0 0] := hX3 ▸ Blk.new X2 _ _
          refine hK.out _ _ trivial ?_
          clear hK K
          rw [hX3]
          have zz3 : w.heap.size + 1 ≤ X3.heap.size := by have := E3.size; simpa using this
          try simp only [Act.put, List.setIfInBounds_toArray, List.set_cons_zero, List.set_cons_succ]
          refine wpAnyZ_one 2 (by kernel_rfl) rfl rfl (fun K hK => ?_)
          refine wp_append_seg _ _ _ _ (by rfl) (w.heap.size + 1) 25 i0 _ 2 32 Try.underlying55 HI.out HZ0.out HZ1.out HZ2.out rfl (by omega) (.slice (some ⟨X0.heap.size, 0, none⟩) 0 0) 0 [] (by rfl) e3 A n c (encH hs cs) (by rfl) ((HSg.out.ext HW.out).ext E3) (oneCHl hs cs) (by unfold maxLen; omega) (by omega) (by omega) ?_
          intro A1 c1 X4 hownA hgA
          simp only [Nat.zero_add, List.nil_append] at hownA
          try simp only [Nat.zero_add]
          have E4 : Ext (w.alloc (.cells #[.slice none 0 0, .slice none 0 0] 101)) X4 := E3.grown hgA (fun k hk => by have := (e3.lt k hk).1; simp only [World.size_alloc]; omega)
          have m4 := own_grown m3 e3 (by decide) hgA
          have b4 := blk_grown4 b3 e3 (by decide) hgA
          refine hK.out _ _ trivial ?_
          clear hK K
          have zz4 : w.heap.size + 1 ≤ X4.heap.size := by have := E4.size; simpa using this
          try simp only [Act.put, List.setIfInBounds_toArray, List.set_cons_zero, List.set_cons_succ]
          refine wpAnyZ_take 6 (v := ?_) (by kernel_rfl) rfl rfl (by kernel_rfl) (by kernel_rfl) (by kernel_rfl) (fun c a w h => hP c a w _ _ h) trivial (Or.inl ⟨by rfl, ?_⟩) ?_
          rotate_left
          · (intro w hSw; (try dsimp only at hSw); go_simp; (try with_reducible rfl))
          try simp only [Act.put, List.setIfInBounds_toArray, List.set_cons_zero, List.set_cons_succ]
          have z0 := b4.cell 0
          have z1 := b4.cell 1
          have y0 := b4.frozen 0
          have y1 := b4.frozen 1
          have yl := b4.lt
          refine wpAnyZ_last (by kernel_rfl) (by kernel_rfl) rfl rfl (fun K hK => ?_)
          go_simp
          refine hK.out _ _ (hQ.out _ _ ⟨X2.heap.size, A1, c1, X1.heap.size, X0.heap.size, (by simp only [Act.put, List.setIfInBounds_toArray, List.set_cons_zero, List.set_cons_succ]), (E4.setNew (by simp only [World.size_alloc]; omega) _).setNew (by simp only [World.size_alloc]; omega) _, DbOk.init E4 HLh.out HVv.out b4 (by omega) (by simp) hownA m4 (fun i x y e1 e2 => ⟨(HIN.out i x y e1 e2).1, (HIN.out i x y e1 e2).2.ext HW.out⟩)⟩)
      · go_simp
        obtain ⟨X2, hX2⟩ : ∃ x, X1.alloc (.cells #[.slice none 0 0, .slice none 0 0] 101) = x := ⟨_, rfl⟩
        have E2 : Ext (w.alloc (.cells #[.slice none 0 0, .slice none 0 0] 101)) X2 := hX2 ▸ (E1.alloc (.cells #[.slice none 0 0, .slice none 0 0] 101))
        have aa2 : Ext X1 X2 := hX2 ▸ ((Ext.refl X1).alloc (.cells #[.slice none 0 0, .slice none 0 0] 101))
        have e2 := own_ext_keep e1 aa2
        have b2 : Blk X2 X1.heap.size 101 #[.slice none 0 0, .slice none 0 0] := hX2 ▸ Blk.new X1 _ _
        refine hK.out _ _ trivial ?_
        clear hK K
        rw [hX2]
        have zz2 : w.heap.size + 1 ≤ X2.heap.size := by have := E2.size; simpa using this
        try simp only [Act.put, List.setIfInBounds_toArray, List.set_cons_zero, List.set_cons_succ]
        refine wpAnyZ_two 2 5 (by kernel_rfl) rfl rfl rfl rfl (fun K hK => ?_) (fun K hK => ?_)
        · refine wp_append_seg _ _ _ _ (by rfl) (w.heap.size + 1) 25 i0 _ 2 32 Try.underlying55 HI.out HZ0.out HZ1.out HZ2.out rfl (by omega) (.slice (some ⟨X0.heap.size, 0, none⟩) 0 0) 0 [] (by rfl) e2 A n c (encH hs cs) (by rfl) ((HSg.out.ext HW.out).ext E2) (oneCHl hs cs) (by unfold maxLen; omega) (by omega) (by omega) ?_
          intro A1 c1 X3 hownA hgA
          simp only [Nat.zero_add, List.nil_append] at hownA
          try simp only [Nat.zero_add]
          have E3 : Ext (w.alloc (.cells #[.slice none 0 0, .slice none 0 0] 101)) X3 := E2.grown hgA (fun k hk => by have := (e2.lt k hk).1; simp only [World.size_alloc]; omega)
          have b3 := blk_grown4 b2 e2 (by decide) hgA
          refine hK.out _ _ trivial ?_
          clear hK K
          have zz3 : w.heap.size + 1 ≤ X3.heap.size := by have := E3.size; simpa using this
          try simp only [Act.put, List.setIfInBounds_toArray, List.set_cons_zero, List.set_cons_succ]
          refine wpAnyZ_one 5 (by kernel_rfl) rfl rfl (fun K hK => ?_)
          go_simp
          obtain ⟨X4, hX4⟩ : ∃ x, X3.alloc (.cells (madeCells #[.bool false] n) 4) = x := ⟨_, rfl⟩
          have E4 : Ext (w.alloc (.cells #[.slice none 0 0, .slice none 0 0] 101)) X4 := hX4 ▸ (E3.alloc (.cells (madeCells #[.bool false] n) 4))
          have aa4 : Ext X3 X4 := hX4 ▸ ((Ext.refl X3).alloc (.cells (madeCells #[.bool false] n) 4))
          have b4 := Blk.ext b3 aa4
          have ap4 := own_ext_keep hownA aa4
          have m4 : X4.ownsRow (w.heap.size + 1) 4 1 (.slice (some ⟨X3.heap.size, 0, none⟩) n n) n (encB (List.replicate n false)) := hX4 ▸ own_madeB X3 (w.heap.size + 1) n (by omega) (by omega)
          refine hK.out _ _ trivial ?_
          clear hK K
          rw [hX4]
          have zz4 : w.heap.size + 1 ≤ X4.heap.size := by have := E4.size; simpa using this
          try simp only [Act.put, List.setIfInBounds_toArray, List.set_cons_zero, List.set_cons_succ]
          refine wpAnyZ_take 6 (v := ?_) (by kernel_rfl) rfl rfl (by kernel_rfl) (by kernel_rfl) (by kernel_rfl) (fun c a w h => hP c a w _ _ h) trivial (Or.inl ⟨by rfl, ?_⟩) ?_
          rotate_left
          · (intro w hSw; (try dsimp only at hSw); go_simp; (try with_reducible rfl))
          try simp only [Act.put, List.setIfInBounds_toArray, List.set_cons_zero, List.set_cons_succ]
          have z0 := b4.cell 0
          have z1 := b4.cell 1
          have y0 := b4.frozen 0
          have y1 := b4.frozen 1
          have yl := b4.lt
          refine wpAnyZ_last (by kernel_rfl) (by kernel_rfl) rfl rfl (fun K hK => ?_)
          go_simp
          refine hK.out _ _ (hQ.out _ _ ⟨X1.heap.size, A1, c1, X3.heap.size, X0.heap.size, (by simp only [Act.put, List.setIfInBounds_toArray, List.set_cons_zero, List.set_cons_succ]), (E4.setNew (by simp only [World.size_alloc]; omega) _).setNew (by simp only [World.size_alloc]; omega) _, DbOk.init E4 HLh.out HVv.out b4 (by omega) (by simp) ap4 m4 (fun i x y e1 e2 => ⟨(HIN.out i x y e1 e2).1, (HIN.out i x y e1 e2).2.ext HW.out⟩)⟩)
        · go_simp
          obtain ⟨X3, hX3⟩ : ∃ x, X2.alloc (.cells (madeCells #[.bool false] n) 4) = x := ⟨_, rfl⟩
          have E3 : Ext (w.alloc (.cells #[.slice none 0 0, .slice none 0 0] 101)) X3 := hX3 ▸ (E2.alloc (.cells (madeCells #[.bool false] n) 4))
          have aa3 : Ext X2 X3 := hX3 ▸ ((Ext.refl X2).alloc (.cells (madeCells #[.bool false] n) 4))
          have e3 := own_ext_keep e2 aa3
          have b3 := Blk.ext b2 aa3
          have m3 : X3.ownsRow (w.heap.size + 1) 4 1 (.slice (some ⟨X2.heap.size, 0, none⟩) n n) n (encB (List.replicate n false)) := hX3 ▸ own_madeB X2 (w.heap.size + 1) n (by omega) (by omega)
          refine hK.out _ _ trivial ?_
          clear hK K
          rw [hX3]
          have zz3 : w.heap.size + 1 ≤ X3.heap.size := by have := E3.size; simpa using this
          try simp only [Act.put, List.setIfInBounds_toArray, List.set_cons_zero, List.set_cons_succ]
          refine wpAnyZ_one 2 (by kernel_rfl) rfl rfl (fun K hK => ?_)
          refine wp_append_seg _ _ _ _ (by rfl) (w.heap.size + 1) 25 i0 _ 2 32 Try.underlying55 HI.out HZ0.out HZ1.out HZ2.out rfl (by omega) (.slice (some ⟨X0.heap.size, 0, none⟩) 0 0) 0 [] (by rfl) e3 A n c (encH hs cs) (by rfl) ((HSg.out.ext HW.out).ext E3) (oneCHl hs cs) (by unfold maxLen; omega) (by omega) (by omega) ?_
          intro A1 c1 X4 hownA hgA
          simp only [Nat.zero_add, List.nil_append] at hownA
          try simp only [Nat.zero_add]
          have E4 : Ext (w.alloc (.cells #[.slice none 0 0, .slice none 0 0] 101)) X4 := E3.grown hgA (fun k hk => by have := (e3.lt k hk).1; simp only [World.size_alloc]; omega)
          have m4 := own_grown m3 e3 (by decide) hgA
          have b4 := blk_grown4 b3 e3 (by decide) hgA
          refine hK.out _ _ trivial ?_
          clear hK K
          have zz4 : w.heap.size + 1 ≤ X4.heap.size := by have := E4.size; simpa using this
          try simp only [Act.put, List.setIfInBounds_toArray, List.set_cons_zero, List.set_cons_succ]
          refine wpAnyZ_take 6 (v := ?_) (by kernel_rfl) rfl rfl (by kernel_rfl) (by kernel_rfl) (by kernel_rfl) (fun c a w h => hP c a w _ _ h) trivial (Or.inl ⟨by rfl, ?_⟩) ?_
          rotate_left
          · (intro w hSw; (try dsimp only at hSw); go_simp; (try with_reducible rfl))
          try simp only [Act.put, List.setIfInBounds_toArray, List.set_cons_zero, List.set_cons_succ]
          have z0 := b4.cell 0
          have z1 := b4.cell 1
          have y0 := b4.frozen 0
          have y1 := b4.frozen 1
          have yl := b4.lt
          refine wpAnyZ_last (by kernel_rfl) (by kernel_rfl) rfl rfl (fun K hK => ?_)
          go_simp
          refine hK.out _ _ (hQ.out _ _ ⟨X1.heap.size, A1, c1, X2.heap.size, X0.heap.size, (by simp only [Act.put, List.setIfInBounds_toArray, List.set_cons_zero, List.set_cons_succ]), (E4.setNew (by simp only [World.size_alloc]; omega) _).setNew (by simp only [World.size_alloc]; omega) _, DbOk.init E4 HLh.out HVv.out b4 (by omega) (by simp) hownA m4 (fun i x y e1 e2 => ⟨(HIN.out i x y e1 e2).1, (HIN.out i x y e1 e2).2.ext HW.out⟩)⟩)
    · go_simp
      obtain ⟨X1, hX1⟩ : ∃ x, X0.alloc (.cells (madeCells #[.bool false] n) 4) = x := ⟨_, rfl⟩
      have E1 : Ext (w.alloc (.cells #[.slice none 0 0, .slice none 0 0] 101)) X1 := hX1 ▸ (E0.alloc (.cells (madeCells #[.bool false] n) 4))
      have aa1 : Ext X0 X1 := hX1 ▸ ((Ext.refl X0).alloc (.cells (madeCells #[.bool false] n) 4))
      have m1 : X1.ownsRow (w.heap.size + 1) 4 1 (.slice (some ⟨X0.heap.size, 0, none⟩) n n) n (encB (List.replicate n false)) := hX1 ▸ own_madeB X0 (w.heap.size + 1) n (by omega) (by omega)
      refine hK.out _ _ trivial ?_
      clear hK K
      rw [hX1]
      have zz1 : w.heap.size + 1 ≤ X1.heap.size := by have := E1.size; simpa using this
      try simp only [Act.put, List.setIfInBounds_toArray, List.set_cons_zero, List.set_cons_succ]
      refine wpAnyZ_two 0 7 (by kernel_rfl) rfl rfl rfl rfl (fun K hK => ?_) (fun K hK => ?_)
      · go_simp
        obtain ⟨X2, hX2⟩ : ∃ x, X1.alloc (.cells #[] 25) = x := ⟨_, rfl⟩
        have E2 : Ext (w.alloc (.cells #[.slice none 0 0, .slice none 0 0] 101)) X2 := hX2 ▸ (E1.alloc (.cells #[] 25))
        have aa2 : Ext X1 X2 := hX2 ▸ ((Ext.refl X1).alloc (.cells #[] 25))
        have m2 := own_ext_keep m1 aa2
        have e2 : X2.ownsRow (w.heap.size + 1) 25 2 (.slice (some ⟨X1.heap.size, 0, none⟩) 0 0) 0 [] := hX2 ▸ own_empty X1 (w.heap.size + 1) 25 2 (by omega)
        refine hK.out _ _ trivial ?_
        clear hK K
        rw [hX2]
        have zz2 : w.heap.size + 1 ≤ X2.heap.size := by have := E2.size; simpa using this
        try simp only [Act.put, List.setIfInBounds_toArray, List.set_cons_zero, List.set_cons_succ]
        refine wpAnyZ_two 2 7 (by kernel_rfl) rfl rfl rfl rfl (fun K hK => ?_) (fun K hK => ?_)
        · refine wp_append_seg _ _ _ _ (by rfl) (w.heap.size + 1) 25 i0 _ 2 32 Try.underlying55 HI.out HZ0.out HZ1.out HZ2.out rfl (by omega) (.slice (some ⟨X1.heap.size, 0, none⟩) 0 0) 0 [] (by rfl) e2 A n c (encH hs cs) (by rfl) ((HSg.out.ext HW.out).ext E2) (oneCHl hs cs) (by unfold maxLen; omega) (by omega) (by omega) ?_
          intro A1 c1 X3 hownA hgA
          simp only [Nat.zero_add, List.nil_append] at hownA
          try simp only [Nat.zero_add]
          have E3 : Ext (w.alloc (.cells #[.slice none 0 0, .slice none 0 0] 101)) X3 := E2.grown hgA (fun k hk => by have := (e2.lt k hk).1; simp only [World.size_alloc]; omega)
          have m3 := own_grown m2 e2 (by decide) hgA
          refine hK.out _ _ trivial ?_
          clear hK K
          have zz3 : w.heap.size + 1 ≤ X3.heap.size := by have := E3.size; simpa using this
          try simp only [Act.put, List.setIfInBounds_toArray, List.set_cons_zero, List.set_cons_succ]
          refine wpAnyZ_take 6 (v := ?_) (by kernel_rfl) rfl rfl (by kernel_rfl) (by kernel_rfl) (by kernel_rfl) (fun c a w h => hP c a w _ _ h) trivial (Or.inl ⟨by rfl, ?_⟩) ?_
          rotate_left
          · (intro w hSw; (try dsimp only at hSw); go_simp; (try with_reducible rfl))
          try simp only [Act.put, List.setIfInBounds_toArray, List.set_cons_zero, List.set_cons_succ]
          refine wpAnyZ_one 7 (by kernel_rfl) rfl rfl (fun K hK => ?_)
          go_simp
          obtain ⟨X4, hX4⟩ : ∃ x, X3.alloc (.cells #[.slice none 0 0, .slice none 0 0] 101) = x := ⟨_, rfl⟩
          have E4 : Ext (w.alloc (.cells #[.slice none 0 0, .slice none 0 0] 101)) X4 := hX4 ▸ (E3.alloc (.cells #[.slice none 0 0, .slice none 0 0] 101))
          have aa4 : Ext X3 X4 := hX4 ▸ ((Ext.refl X3).alloc (.cells #[.slice none 0 0, .slice none 0 0] 101))
          have m4 := own_ext_keep m3 aa4
          have ap4 := own_ext_keep hownA aa4
          have b4 : Blk X4 X3.heap.size 101 #[.slice none 0 0, .slice none 0 0] := hX4 ▸ Blk.new X3 _ _
          refine hK.out _ _ trivial ?_
          clear hK K
          rw [hX4]
          have zz4 : w.heap.size + 1 ≤ X4.heap.size := by have := E4.size; simpa using this
          try simp only [Act.put, List.setIfInBounds_toArray, List.set_cons_zero, List.set_cons_succ]
          have z0 := b4.cell 0
          have z1 := b4.cell 1
          have y0 := b4.frozen 0
          have y1 := b4.frozen 1
          have yl := b4.lt
          refine wpAnyZ_last (by kernel_rfl) (by kernel_rfl) rfl rfl (fun K hK => ?_)
          go_simp
          refine hK.out _ _ (hQ.out _ _ ⟨X3.heap.size, A1, c1, X0.heap.size, X1.heap.size, (by simp only [Act.put, List.setIfInBounds_toArray, List.set_cons_zero, List.set_cons_succ]), (E4.setNew (by simp only [World.size_alloc]; omega) _).setNew (by simp only [World.size_alloc]; omega) _, DbOk.init E4 HLh.out HVv.out b4 (by omega) (by simp) ap4 m4 (fun i x y e1 e2 => ⟨(HIN.out i x y e1 e2).1, (HIN.out i x y e1 e2).2.ext HW.out⟩)⟩)
        · go_simp
          obtain ⟨X3, hX3⟩ : ∃ x, X2.alloc (.cells #[.slice none 0 0, .slice none 0 0] 101) = x := ⟨_, rfl⟩
          have E3 : Ext (w.alloc (.cells #[.slice none 0 0, .slice none 0 0] 101)) X3 := hX3 ▸ (E2.alloc (.cells #[.slice none 0 0, .slice none 0 0] 101))
          have aa3 : Ext X2 X3 := hX3 ▸ ((Ext.refl X2).alloc (.cells #[.slice none 0 0, .slice none 0 0] 101))
          have e3 := own_ext_keep e2 aa3
          have m3 := own_ext_keep m2 aa3
          have b3 : Blk X3 X2.heap.size 101 #[.slice none 0 0, .slice none 0 0] := hX3 ▸ Blk.new X2 _ _
          refine hK.out _ _ trivial ?_
          clear hK K
          rw [hX3]
          have zz3 : w.heap.size + 1 ≤ X3.heap.size := by have := E3.size; simpa using this
          try simp only [Act.put, List.setIfInBounds_toArray, List.set_cons_zero, List.set_cons_succ]
          refine wpAnyZ_one 2 (by kernel_rfl) rfl rfl (fun K hK => ?_)
          refine wp_append_seg _ _ _ _ (by rfl) (w.heap.size + 1) 25 i0 _ 2 32 Try.underlying55 HI.out HZ0.out HZ1.out HZ2.out rfl (by omega) (.slice (some ⟨X1.heap.size, 0, none⟩) 0 0) 0 [] (by rfl) e3 A n c (encH hs cs) (by rfl) ((HSg.out.ext HW.out).ext E3) (oneCHl hs cs) (by unfold maxLen; omega) (by omega) (by omega) ?_
          intro A1 c1 X4 hownA hgA
          simp only [Nat.zero_add, List.nil_append] at hownA
          try simp only [Nat.zero_add]
          have E4 : Ext (w.alloc (.cells #[.slice none 0 0, .slice none 0 0] 101)) X4 := E3.grown hgA (fun k hk => by have := (e3.lt k hk).1; simp only [World.size_alloc]; omega)
          have m4 := own_grown m3 e3 (by decide) hgA
          have b4 := blk_grown4 b3 e3 (by decide) hgA
          refine hK.out _ _ trivial ?_
          clear hK K
          have zz4 : w.heap.size + 1 ≤ X4.heap.size := by have := E4.size; simpa using this
          try simp only [Act.put, List.setIfInBounds_toArray, List.set_cons_zero, List.set_cons_succ]
          refine wpAnyZ_take 6 (v := ?_) (by kernel_rfl) rfl rfl (by kernel_rfl) (by kernel_rfl) (by kernel_rfl) (fun c a w h => hP c a w _ _ h) trivial (Or.inl ⟨by rfl, ?_⟩) ?_
          rotate_left
          · (intro w hSw; (try dsimp only at hSw); go_simp; (try with_reducible rfl))
          try simp only [Act.put, List.setIfInBounds_toArray, List.set_cons_zero, List.set_cons_succ]
          have z0 := b4.cell 0
          have z1 := b4.cell 1
          have y0 := b4.frozen 0
          have y1 := b4.frozen 1
          have yl := b4.lt
          refine wpAnyZ_last (by kernel_rfl) (by kernel_rfl) rfl rfl (fun K hK => ?_)
          go_simp
          refine hK.out _ _ (hQ.out _ _ ⟨X2.heap.size, A1, c1, X0.heap.size, X1.heap.size, (by simp only [Act.put, List.setIfInBounds_toArray, List.set_cons_zero, List.set_cons_succ]), (E4.setNew (by simp only [World.size_alloc]; omega) _).setNew (by simp only [World.size_alloc]; omega) _, DbOk.init E4 HLh.out HVv.out b4 (by omega) (by simp) hownA m4 (fun i x y e1 e2 => ⟨(HIN.out i x y e1 e2).1, (HIN.out i x y e1 e2).2.ext HW.out⟩)⟩)
      · go_simp
        obtain ⟨X2, hX2⟩ : ∃ x, X1.alloc (.cells #[.slice none 0 0, .slice none 0 0] 101) = x := ⟨_, rfl⟩
        have E2 : Ext (w.alloc (.cells #[.slice none 0 0, .slice none 0 0] 101)) X2 := hX2 ▸ (E1.alloc (.cells #[.slice none 0 0, .slice none 0 0] 101))
        have aa2 : Ext X1 X2 := hX2 ▸ ((Ext.refl X1).alloc (.cells #[.slice none 0 0, .slice none 0 0] 101))
        have m2 := own_ext_keep m1 aa2
        have b2 : Blk X2 X1.heap.size 101 #[.slice none 0 0, .slice none 0 0] := hX2 ▸ Blk.new X1 _ _
        refine hK.out _ _ trivial ?_
        clear hK K
        rw [hX2]
        have zz2 : w.heap.size + 1 ≤ X2.heap.size := by have := E2.size; simpa using this
        try simp only [Act.put, List.setIfInBounds_toArray, List.set_cons_zero, List.set_cons_succ]
        refine wpAnyZ_one 0 (by kernel_rfl) rfl rfl (fun K hK => ?_)
        go_simp
        obtain ⟨X3, hX3⟩ : ∃ x, X2.alloc (.cells #[] 25) = x := ⟨_, rfl⟩
        have E3 : Ext (w.alloc (.cells #[.slice none 0 0, .slice none 0 0] 101)) X3 := hX3 ▸ (E2.alloc (.cells #[] 25))
        have aa3 : Ext X2 X3 := hX3 ▸ ((Ext.refl X2).alloc (.cells #[] 25))
        have m3 := own_ext_keep m2 aa3
        have b3 := Blk.ext b2 aa3
        have e3 : X3.ownsRow (w.heap.size + 1) 25 2 (.slice (some ⟨X2.heap.size, 0, none⟩) 0 0) 0 [] := hX3 ▸ own_empty X2 (w.heap.size + 1) 25 2 (by omega)
        refine hK.out _ _ trivial ?_
        clear hK K
        rw [hX3]
        have zz3 : w.heap.size + 1 ≤ X3.heap.size := by have := E3.size; simpa using this
        try simp only [Act.put, List.setIfInBounds_toArray, List.set_cons_zero, List.set_cons_succ]
        refine wpAnyZ_one 2 (by kernel_rfl) rfl rfl (fun K hK => ?_)
        refine wp_append_seg _ _ _ _ (by rfl) (w.heap.size + 1) 25 i0 _ 2 32 Try.underlying55 HI.out HZ0.out HZ1.out HZ2.out rfl (by omega) (.slice (some ⟨X2.heap.size, 0, none⟩) 0 0) 0 [] (by rfl) e3 A n c (encH hs cs) (by rfl) ((HSg.out.ext HW.out).ext E3) (oneCHl hs cs) (by unfold maxLen; omega) (by omega) (by omega) ?_
        intro A1 c1 X4 hownA hgA
        simp only [Nat.zero_add, List.nil_append] at hownA
        try simp only [Nat.zero_add]
        have E4 : Ext (w.alloc (.cells #[.slice none 0 0, .slice none 0 0] 101)) X4 := E3.grown hgA (fun k hk => by have := (e3.lt k hk).1; simp only [World.size_alloc]; omega)
        have m4 := own_grown m3 e3 (by decide) hgA
        have b4 := blk_grown4 b3 e3 (by decide) hgA
        refine hK.out _ _ trivial ?_
        clear hK K
        have zz4 : w.heap.size + 1 ≤ X4.heap.size := by have := E4.size; simpa using this
        try simp only [Act.put, List.setIfInBounds_toArray, List.set_cons_zero, List.set_cons_succ]
        refine wpAnyZ_take 6 (v := ?_) (by kernel_rfl) rfl rfl (by kernel_rfl) (by kernel_rfl) (by kernel_rfl) (fun c a w h => hP c a w _ _ h) trivial (Or.inl ⟨by rfl, ?_⟩) ?_
        rotate_left
        · (intro w hSw; (try dsimp only at hSw); go_simp; (try with_reducible rfl))
        try simp only [Act.put, List.setIfInBounds_toArray, List.set_cons_zero, List.set_cons_succ]
        have z0 := b4.cell 0
        have z1 := b4.cell 1
        have y0 := b4.frozen 0
        have y1 := b4.frozen 1
        have yl := b4.lt
        refine wpAnyZ_last (by kernel_rfl) (by kernel_rfl) rfl rfl (fun K hK => ?_)
        go_simp
        refine hK.out _ _ (hQ.out _ _ ⟨X1.heap.size, A1, c1, X0.heap.size, X2.heap.size, (by simp only [Act.put, List.setIfInBounds_toArray, List.set_cons_zero, List.set_cons_succ]), (E4.setNew (by simp only [World.size_alloc]; omega) _).setNew (by simp only [World.size_alloc]; omega) _, DbOk.init E4 HLh.out HVv.out b4 (by omega) (by simp) hownA m4 (fun i x y e1 e2 => ⟨(HIN.out i x y e1 e2).1, (HIN.out i x y e1 e2).2.ext HW.out⟩)⟩)
    · go_simp
      obtain ⟨X1, hX1⟩ : ∃ x, X0.alloc (.cells #[.slice none 0 0, .slice none 0 0] 101) = x := ⟨_, rfl⟩
      have E1 : Ext (w.alloc (.cells #[.slice none 0 0, .slice none 0 0] 101)) X1 := hX1 ▸ (E0.alloc (.cells #[.slice none 0 0, .slice none 0 0] 101))
      have aa1 : Ext X0 X1 := hX1 ▸ ((Ext.refl X0).alloc (.cells #[.slice none 0 0, .slice none 0 0] 101))
      have b1 : Blk X1 X0.heap.size 101 #[.slice none 0 0, .slice none 0 0] := hX1 ▸ Blk.new X0 _ _
      refine hK.out _ _ trivial ?_
      clear hK K
      rw [hX1]
      have zz1 : w.heap.size + 1 ≤ X1.heap.size := by have := E1.size; simpa using this
      try simp only [Act.put, List.setIfInBounds_toArray, List.set_cons_zero, List.set_cons_succ]
      refine wpAnyZ_two 0 5 (by kernel_rfl) rfl rfl rfl rfl (fun K hK => ?_) (fun K hK => ?_)
      · go_simp
        obtain ⟨X2, hX2⟩ : ∃ x, X1.alloc (.cells #[] 25) = x := ⟨_, rfl⟩
        have E2 : Ext (w.alloc (.cells #[.slice none 0 0, .slice none 0 0] 101)) X2 := hX2 ▸ (E1.alloc (.cells #[] 25))
        have aa2 : Ext X1 X2 := hX2 ▸ ((Ext.refl X1).alloc (.cells #[] 25))
        have b2 := Blk.ext b1 aa2
        have e2 : X2.ownsRow (w.heap.size + 1) 25 2 (.slice (some ⟨X1.heap.size, 0, none⟩) 0 0) 0 [] := hX2 ▸ own_empty X1 (w.heap.size + 1) 25 2 (by omega)
        refine hK.out _ _ trivial ?_
        clear hK K
        rw [hX2]
        have zz2 : w.heap.size + 1 ≤ X2.heap.size := by have := E2.size; simpa using this
        try simp only [Act.put, List.setIfInBounds_toArray, List.set_cons_zero, List.set_cons_succ]
        refine wpAnyZ_two 2 5 (by kernel_rfl) rfl rfl rfl rfl (fun K hK => ?_) (fun K hK => ?_)
        · refine wp_append_seg _ _ _ _ (by rfl) (w.heap.size + 1) 25 i0 _ 2 32 Try.underlying55 HI.out HZ0.out HZ1.out HZ2.out rfl (by omega) (.slice (some ⟨X1.heap.size, 0, none⟩) 0 0) 0 [] (by rfl) e2 A n c (encH hs cs) (by rfl) ((HSg.out.ext HW.out).ext E2) (oneCHl hs cs) (by unfold maxLen; omega) (by omega) (by omega) ?_
          intro A1 c1 X3 hownA hgA
          simp only [Nat.zero_add, List.nil_append] at hownA
          try simp only [Nat.zero_add]
          have E3 : Ext (w.alloc (.cells #[.slice none 0 0, .slice none 0 0] 101)) X3 := E2.grown hgA (fun k hk => by have := (e2.lt k hk).1; simp only [World.size_alloc]; omega)
          have b3 := blk_grown4 b2 e2 (by decide) hgA
          refine hK.out _ _ trivial ?_
          clear hK K
          have zz3 : w.heap.size + 1 ≤ X3.heap.size := by have := E3.size; simpa using this
          try simp only [Act.put, List.setIfInBounds_toArray, List.set_cons_zero, List.set_cons_succ]
          refine wpAnyZ_one 5 (by kernel_rfl) rfl rfl (fun K hK => ?_)
          go_simp
          obtain ⟨X4, hX4⟩ : ∃ x, X3.alloc (.cells (madeCells #[.bool false] n) 4) = x := ⟨_, rfl⟩
          have E4 : Ext (w.alloc (.cells #[.slice none 0 0, .slice none 0 0] 101)) X4 := hX4 ▸ (E3.alloc (.cells (madeCells #[.bool false] n) 4))
          have aa4 : Ext X3 X4 := hX4 ▸ ((Ext.refl X3).alloc (.cells (madeCells #[.bool false] n) 4))
          have b4 := Blk.ext b3 aa4
          have ap4 := own_ext_keep hownA aa4
          have m4 : X4.ownsRow (w.heap.size + 1) 4 1 (.slice (some ⟨X3.heap.size, 0, none⟩) n n) n (encB (List.replicate n false)) := hX4 ▸ own_madeB X3 (w.heap.size + 1) n (by omega) (by omega)
          refine hK.out _ _ trivial ?_
          clear hK K
          rw [hX4]
          have zz4 : w.heap.size + 1 ≤ X4.heap.size := by have := E4.size; simpa using this
          try simp only [Act.put, List.setIfInBounds_toArray, List.set_cons_zero, List.set_cons_succ]
          refine wpAnyZ_take 6 (v := ?_) (by kernel_rfl) rfl rfl (by kernel_rfl) (by kernel_rfl) (by kernel_rfl) (fun c a w h => hP c a w _ _ h) trivial (Or.inl ⟨by rfl, ?_⟩) ?_
          rotate_left
          · (intro w hSw; (try dsimp only at hSw); go_simp; (try with_reducible rfl))
          try simp only [Act.put, List.setIfInBounds_toArray, List.set_cons_zero, List.set_cons_succ]
          have z0 := b4.cell 0
          have z1 := b4.cell 1
          have y0 := b4.frozen 0
          have y1 := b4.frozen 1
          have yl := b4.lt
          refine wpAnyZ_last (by kernel_rfl) (by kernel_rfl) rfl rfl (fun K hK => ?_)
          go_simp
          refine hK.out _ _ (hQ.out _ _ ⟨X0.heap.size, A1, c1, X3.heap.size, X1.heap.size, (by simp only [Act.put, List.setIfInBounds_toArray, List.set_cons_zero, List.set_cons_succ]), (E4.setNew (by simp only [World.size_alloc]; omega) _).setNew (by simp only [World.size_alloc]; omega) _, DbOk.init E4 HLh.out HVv.out b4 (by omega) (by simp) ap4 m4 (fun i x y e1 e2 => ⟨(HIN.out i x y e1 e2).1, (HIN.out i x y e1 e2).2.ext HW.out⟩)⟩)
        · go_simp
          obtain ⟨X3, hX3⟩ : ∃ x, X2.alloc (.cells (madeCells #[.bool false] n) 4) = x := ⟨_, rfl⟩
          have E3 : Ext (w.alloc (.cells #[.slice none 0 0, .slice none 0 0] 101)) X3 := hX3 ▸ (E2.alloc (.cells (madeCells #[.bool false] n) 4))
          have aa3 : Ext X2 X3 := hX3 ▸ ((Ext.refl X2).alloc (.cells (madeCells #[.bool false] n) 4))
          have e3 := own_ext_keep e2 aa3
          have b3 := Blk.ext b2 aa3
          have m3 : X3.ownsRow (w.heap.size + 1) 4 1 (.slice (some ⟨X2.heap.size, 0, none⟩) n n) n (encB (List.replicate n false)) := hX3 ▸ own_madeB X2 (w.heap.size + 1) n (by omega) (by omega)
          refine hK.out _ _ trivial ?_
          clear hK K
          rw [hX3]
          have zz3 : w.heap.size + 1 ≤ X3.heap.size := by have := E3.size; simpa using this
          try simp only [Act.put, List.setIfInBounds_toArray, List.set_cons_zero, List.set_cons_succ]
          refine wpAnyZ_one 2 (by kernel_rfl) rfl rfl (fun K hK => ?_)
          refine wp_append_seg _ _ _ _ (by rfl) (w.heap.size + 1) 25 i0 _ 2 32 Try.underlying55 HI.out HZ0.out HZ1.out HZ2.out rfl (by omega) (.slice (some ⟨X1.heap.size, 0, none⟩) 0 0) 0 [] (by rfl) e3 A n c (encH hs cs) (by rfl) ((HSg.out.ext HW.out).ext E3) (oneCHl hs cs) (by unfold maxLen; omega) (by omega) (by omega) ?_
          intro A1 c1 X4 hownA hgA
          simp only [Nat.zero_add, List.nil_append] at hownA
          try simp only [Nat.zero_add]
          have E4 : Ext (w.alloc (.cells #[.slice none 0 0, .slice none 0 0] 101)) X4 := E3.grown hgA (fun k hk => by have := (e3.lt k hk).1; simp only [World.size_alloc]; omega)
          have m4 := own_grown m3 e3 (by decide) hgA
          have b4 := blk_grown4 b3 e3 (by decide) hgA
          refine hK.out _ _ trivial ?_
          clear hK K
          have zz4 : w.heap.size + 1 ≤ X4.heap.size := by have := E4.size; simpa using this
          try simp only [Act.put, List.setIfInBounds_toArray, List.set_cons_zero, List.set_cons_succ]
          refine wpAnyZ_take 6 (v := ?_) (by kernel_rfl) rfl rfl (by kernel_rfl) (by kernel_rfl) (by kernel_rfl) (fun c a w h => hP c a w _ _ h) trivial (Or.inl ⟨by rfl, ?_⟩) ?_
          rotate_left
          · (intro w hSw; (try dsimp only at hSw); go_simp; (try with_reducible rfl))
          try simp only [Act.put, List.setIfInBounds_toArray, List.set_cons_zero, List.set_cons_succ]
          have z0 := b4.cell 0
          have z1 := b4.cell 1
          have y0 := b4.frozen 0
          have y1 := b4.frozen 1
          have yl := b4.lt
          refine wpAnyZ_last (by kernel_rfl) (by kernel_rfl) rfl rfl (fun K hK => ?_)
          go_simp
          refine hK.out _ _ (hQ.out _ _ ⟨X0.heap.size, A1, c1, X2.heap.size, X1.heap.size, (by simp only [Act.put, List.setIfInBounds_toArray, List.set_cons_zero, List.set_cons_succ]), (E4.setNew (by simp only [World.size_alloc]; omega) _).setNew (by simp only [World.size_alloc]; omega) _, DbOk.init E4 HLh.out HVv.out b4 (by omega) (by simp) hownA m4 (fun i x y e1 e2 => ⟨(HIN.out i x y e1 e2).1, (HIN.out i x y e1 e2).2.ext HW.out⟩)⟩)
      · go_simp
        obtain ⟨X2, hX2⟩ : ∃ x, X1.alloc (.cells (madeCells #[.bool false] n) 4) = x := ⟨_, rfl⟩
        have E2 : Ext (w.alloc (.cells #[.slice none 0 0, .slice none 0 0] 101)) X2 := hX2 ▸ (E1.alloc (.cells (madeCells #[.bool false] n) 4))
        have aa2 : Ext X1 X2 := hX2 ▸ ((Ext.refl X1).alloc (.cells (madeCells #[.bool false] n) 4))
        have b2 := Blk.ext b1 aa2
        have m2 : X2.ownsRow (w.heap.size + 1) 4 1 (.slice (some ⟨X1.heap.size, 0, none⟩) n n) n (encB (List.replicate n false)) := hX2 ▸ own_madeB X1 (w.heap.size + 1) n (by omega) (by omega)
        refine hK.out _ _ trivial ?_
        clear hK K
        rw [hX2]
        have zz2 : w.heap.size + 1 ≤ X2.heap.size := by have := E2.size; simpa using this
        try simp only [Act.put, List.setIfInBounds_toArray, List.set_cons_zero, List.set_cons_succ]
        refine wpAnyZ_one 0 (by kernel_rfl) rfl rfl (fun K hK => ?_)
        go_simp
        obtain ⟨X3, hX3⟩ : ∃ x, X2.alloc (.cells #[] 25) = x := ⟨_, rfl⟩
        have E3 : Ext (w.alloc (.cells #[.slice none 0 0, .slice none 0 0] 101)) X3 := hX3 ▸ (E2.alloc (.cells #[] 25))
        have aa3 : Ext X2 X3 := hX3 ▸ ((Ext.refl X2).alloc (.cells #[] 25))
        have m3 := own_ext_keep m2 aa3
        have b3 := Blk.ext b2 aa3
        have e3 : X3.ownsRow (w.heap.size + 1) 25 2 (.slice (some ⟨X2.heap.size, 0, none⟩) 0 0) 0 [] := hX3 ▸ own_empty X2 (w.heap.size + 1) 25 2 (by omega)
        refine hK.out _ _ trivial ?_
        clear hK K
        rw [hX3]
        have zz3 : w.heap.size + 1 ≤ X3.heap.size := by have := E3.size; simpa using this
        try simp only [Act.put, List.setIfInBounds_toArray, List.set_cons_zero, List.set_cons_succ]
        refine wpAnyZ_one 2 (by kernel_rfl) rfl rfl (fun K hK => ?_)
        refine wp_append_seg _ _ _ _ (by rfl) (w.heap.size + 1) 25 i0 _ 2 32 Try.underlying55 HI.out HZ0.out HZ1.out HZ2.out rfl (by omega) (.slice (some ⟨X2.heap.size, 0, none⟩) 0 0) 0 [] (by rfl) e3 A n c (encH hs cs) (by rfl) ((HSg.out.ext HW.out).ext E3) (oneCHl hs cs) (by unfold maxLen; omega) (by omega) (by omega) ?_
        intro A1 c1 X4 hownA hgA
        simp only [Nat.zero_add, List.nil_append] at hownA
        try simp only [Nat.zero_add]
        have E4 : Ext (w.alloc (.cells #[.slice none 0 0, .slice none 0 0] 101)) X4 := E3.grown hgA (fun k hk => by have := (e3.lt k hk).1; simp only [World.size_alloc]; omega)
        have m4 := own_grown m3 e3 (by decide) hgA
        have b4 := blk_grown4 b3 e3 (by decide) hgA
        refine hK.out _ _ trivial ?_
        clear hK K
        have zz4 : w.heap.size + 1 ≤ X4.heap.size := by have := E4.size; simpa using this
        try simp only [Act.put, List.setIfInBounds_toArray, List.set_cons_zero, List.set_cons_succ]
        refine wpAnyZ_take 6 (v := ?_) (by kernel_rfl) rfl rfl (by kernel_rfl) (by kernel_rfl) (by kernel_rfl) (fun c a w h => hP c a w _ _ h) trivial (Or.inl ⟨by rfl, ?_⟩) ?_
        rotate_left
        · (intro w hSw; (try dsimp only at hSw); go_simp; (try with_reducible rfl))
        try simp only [Act.put, List.setIfInBounds_toArray, List.set_cons_zero, List.set_cons_succ]
        have z0 := b4.cell 0
        have z1 := b4.cell 1
        have y0 := b4.frozen 0
        have y1 := b4.frozen 1
        have yl := b4.lt
        refine wpAnyZ_last (by kernel_rfl) (by kernel_rfl) rfl rfl (fun K hK => ?_)
        go_simp
        refine hK.out _ _ (hQ.out _ _ ⟨X0.heap.size, A1, c1, X1.heap.size, X2.heap.size, (by simp only [Act.put, List.setIfInBounds_toArray, List.set_cons_zero, List.set_cons_succ]), (E4.setNew (by simp only [World.size_alloc]; omega) _).setNew (by simp only [World.size_alloc]; omega) _, DbOk.init E4 HLh.out HVv.out b4 (by omega) (by simp) hownA m4 (fun i x y e1 e2 => ⟨(HIN.out i x y e1 e2).1, (HIN.out i x y e1 e2).2.ext HW.out⟩)⟩)
  rintro a' W1 ⟨gb, A1, c1, gm, g0, rfl, hE1, hD1⟩
  have hEw := Lib.hid (HW.out.trans hE1)
  have hR1 := Lib.hid (HR0.out.ext hE1)
  have HD := Lib.hid hD1
  clear hE1 hD1 hmk
  simp only [Act.put, List.setIfInBounds_toArray, List.set_cons_zero, List.set_cons_succ]
  go_wp2_with fail
  go_loopw [7] (fun i wr => ∃ (k j : Nat) (s1 s2 : Value) (hs' : List Hd) (cs' : List Cn) (gs' : List Bool), j ≤ m ∧ k ≤ n + j ∧ i = .int .i64 j ∧ Ext w wr ∧ Hid (Blk wr w.heap.size 101 #[.slice none 0 0, .slice none 0 0]) ∧ Hid (DbOk (w.heap.size + 1) wr gb s1 s2 k k hs' cs' gs')) (fun i _ => m - (intOf i).toNat)
  case atStart => exact ⟨n, 0, _, _, hs, cs, _, by omega, by omega, rfl, hEw.out, hR1.out, HD.out⟩
  case round =>
    obtain ⟨k, j, s1, s2, hs', cs', gs', hj, hk, rfl, hE, hB0, hD⟩ := hrel
    obtain ⟨Ad, cd, rfl⟩ := own_slice hD.out.row1
    obtain ⟨Bd, dd, rfl⟩ := own_slice hD.out.row2
    have hlow := hD.out.low
    by_cases hlt : j < m
    · obtain ⟨b, off, x, y, z, Ag, ng, cg, tg, ug, rfl, hx, t1, t2, t3, t4, t5, hng, hSg2⟩ := (HP.out.ext hE).at_ hlt
      have hgsz : ng ≤ 1048576 := by
        have h1 := HSM.out _ (List.mem_of_getElem? hx)
        have h2 := hSg2.lenT
        simp only at h1
        omega
      have E2 : Hid (Ext wr (wr.alloc (.cells #[.int .i64 x, .int .i64 y, .int .i64 z, .slice Ag ng cg, .int .i64 ug] 59))) := (Ext.refl _).alloc _
      have hB8 := Lib.hid (Blk.new wr 59 #[.int .i64 x, .int .i64 y, .int .i64 z, .slice Ag ng cg, .int .i64 ug])
      have HSg2 := Lib.hid hSg2
      have HE := Lib.hid hE
      have c0 := hB8.out.cell 0
      have c1' := hB8.out.cell 1
      have c2 := hB8.out.cell 2
      have c3 := hB8.out.cell 3
      have c4 := hB8.out.cell 4
      clear hx hSg2 hE
      go_wp2_with fail
      refine (l4Parts_any x y z Ag ng cg ug _).mono ?_
      rintro e w1 ⟨⟨bp, rfl, _⟩, hE1⟩
      have hD1 := Lib.hid (hD.out.ext (E2.out.trans hE1))
      have hB01 := Lib.hid (hB0.out.ext (E2.out.trans hE1))
      have hB81 := Lib.hid (hB8.out.ext hE1)
      have hE01 := Lib.hid (HE.out.trans (E2.out.trans hE1))
      have HSg1 := Lib.hid (HSg2.out.ext (E2.out.trans hE1))
      clear c0 c1' c2 c3 c4 hB8 hB0 hD hE1 t1 t2 t3 t4 t5
      cases bp with
      | false =>
        have b0 := hD1.out.box.cell 0
        have b1 := hD1.out.box.cell 1
        have r0 := hB01.out.cell 0
        have r1 := hB01.out.cell 1
        have q0 := hB01.out.frozen 0
        have q1 := hB01.out.frozen 1
        have hzr := hB01.out.lt
        go_wp2
        refine bodyPost_ret (v := .tuple #[.agg #[.slice Ad k cd, .slice Bd k dd], .int .i64 ((j : Int))]) (by simp [results, Try.results77, go_sem, r0, r1]) rfl ?_
        exact run_ret ((j : Int)) hD1.out hE01.out (by omega) hB01.out
      | true =>
        have c0 := hB81.out.cell 0
        have c1' := hB81.out.cell 1
        have c2 := hB81.out.cell 2
        have c3 := hB81.out.cell 3
        have c4 := hB81.out.cell 4
        have b0 := hD1.out.box.cell 0
        have b1 := hD1.out.box.cell 1
        by_cases h8 : x = 8
        · have k8 : (x == 8) = true := by simpa using h8
          clear h8
          go_wp2_with fail
          refine (l4Live_any Ad k cd Bd dd gs' y _ (own_parts hD1.out.row2).1).mono ?_
          rintro e w2 ⟨⟨bl, rfl, hbl⟩, hE2⟩
          have hD2 := Lib.hid (hD1.out.ext hE2)
          have hB02 := Lib.hid (hB01.out.ext hE2)
          have hE02 := Lib.hid (hE01.out.trans hE2)
          have hB82 := Lib.hid (hB81.out.ext hE2)
          clear c0 c1' c2 c3 c4 b0 b1 hD1 hB01 hE01 hE2 hB81
          cases bl with
          | false =>
            have b0 := hD2.out.box.cell 0
            have b1 := hD2.out.box.cell 1
            have r0 := hB02.out.cell 0
            have r1 := hB02.out.cell 1
            have q0 := hB02.out.frozen 0
            have q1 := hB02.out.frozen 1
            have hzr := hB02.out.lt
            go_wp2
            refine bodyPost_ret (v := .tuple #[.agg #[.slice Ad k cd, .slice Bd k dd], .int .i64 ((j : Int))]) (by simp [results, Try.results77, go_sem, r0, r1]) rfl ?_
            exact run_ret ((j : Int)) hD2.out hE02.out (by omega) hB02.out
          | true =>
            obtain ⟨hy0, hy1⟩ := hbl rfl
            obtain ⟨q, rfl⟩ := Int.eq_ofNat_of_zero_le hy0
            have hq : q < k := by omega
            obtain ⟨g2, rfl⟩ : ∃ g2, Bd = some ⟨g2, 0, none⟩ := by
              rcases hD2.out.row2.2 with ⟨_, h0⟩ | ⟨g, cap, cur, hv, _⟩
              · omega
              · injection hv with hA _ _; exact ⟨g, hA⟩
            have hP2 := own_parts hD2.out.row2
            obtain ⟨b', off', u, e1, _, u1⟩ := hP2.1.at1 hq
            injection e1 with e1
            injection e1 with e1 e3 _
            subst e1; subst e3
            have f1 := hP2.2.1 _ _ rfl q (by omega)
            have hbl' := World.block_lt_of_cell? _ _ u1
            simp only at hbl'
            rw [Nat.zero_add] at u1 f1
            have hg2lo := (hD2.out.row2.lt g2 rfl).1
            have DM := Lib.hid (hD2.out.mark q)
            have b1 := hD2.out.box.cell 1
            have c1' := hB82.out.cell 1
            clear hP2 hbl hy0 hy1
            go_wp2
            go_roundw
            case rel => exact ⟨k, j + 1, _, _, hs', cs', _, by omega, by omega, by go_num, hE02.out.setNew (p := ⟨g2, q, none⟩) (by simp only; omega) _, hB02.out.far (p := ⟨g2, q, none⟩) (by simp only; omega) _, DM.out⟩
            case measure => simp [intOf]; omega
        · have k8 : (x == 8) = false := by simpa using h8
          clear h8
          obtain ⟨Ad', cd', hAA, hSC⟩ := hD1.out.segC
          injection hAA with hA1 _ hA3
          subst hA1; subst hA3
          have HSC := Lib.hid hSC
          have hrow1 := Lib.hid hD1.out.row1
          have hrow2 := Lib.hid hD1.out.row2
          have hgbl := hD1.out.box.lt
          clear hSC
          go_wp2_with fail
          refine (l4Derive_any Ad k cd cs' Bd dd gs' x y z Ag ng cg tg ug _ (by omega) HSC.out hD1.out.good (own_parts hD1.out.row2).1 hgsz HSg1.out).mono ?_
          rintro e w2 ⟨A2, n2, c2', ts2, bd2, ok, rfl, hok, hn2, hG2, hE2⟩
          have hdis : Hid (0 < n2 → ∀ ad : Addr, A2 = some ad → ad.block ≠ gb ∧ (Value.slice Ad k cd).ownBlock ≠ some ad.block ∧ (Value.slice Bd k dd).ownBlock ≠ some ad.block) := fun hp ad e => by
            have h0 := (hG2.lies hp ad e).1
            refine ⟨by omega, fun e2 => ?_, fun e2 => ?_⟩
            · have := (hrow1.out.lt _ e2).2; omega
            · have := (hrow2.out.lt _ e2).2; omega
          have hS2 := Lib.hid hG2.seg
          have hX2 := Lib.hid (hE2.alloc (.cells #[.slice A2 n2 c2', .int .i64 bd2] 25))
          have hD3 := Lib.hid (hD1.out.ext hX2.out)
          have hB03 := Lib.hid (hB01.out.ext hX2.out)
          have hE03 := Lib.hid (hE01.out.trans hX2.out)
          have hS3 := Lib.hid (hS2.out.alloc (.cells #[.slice A2 n2 c2', .int .i64 bd2] 25))
          have hB9 := Lib.hid (Blk.new w2 25 #[.slice A2 n2 c2', .int .i64 bd2])
          clear c0 c1' c2 c3 c4 b0 b1 hD1 hB01 hE01 hB81 hG2 hS2 hrow1 hrow2 HSC HSg1
          cases ok with
          | false =>
            have b0 := hD3.out.box.cell 0
            have b1 := hD3.out.box.cell 1
            have r0 := hB03.out.cell 0
            have r1 := hB03.out.cell 1
            have q0 := hB03.out.frozen 0
            have q1 := hB03.out.frozen 1
            have hzr := hB03.out.lt
            go_wp2
            refine bodyPost_ret (v := .tuple #[.agg #[.slice Ad k cd, .slice Bd k dd], .int .i64 ((j : Int))]) (by simp [results, Try.results77, go_sem, r0, r1]) rfl ?_
            exact run_ret ((j : Int)) hD3.out hE03.out (by omega) hB03.out
          | true =>
            have b0 := hD3.out.box.cell 0
            have b1 := hD3.out.box.cell 1
            have d0 := hB9.out.cell 0
            have d1 := hB9.out.cell 1
            have hcv := hok rfl
            have hal : Hid (Ext (w2.alloc (.cells #[.slice A2 n2 c2', .int .i64 bd2] 25)) ((w2.alloc (.cells #[.slice A2 n2 c2', .int .i64 bd2] 25)).alloc (.cells #[.slice A2 n2 c2', .int .i64 bd2] 25))) := (Ext.refl _).alloc _
            have hzr := hB03.out.lt
            clear hok
            go_wp2_with (first
              | (at_builtin
                 refine wpList_append_lies _ rfl (.tmp 59) (.tmp 61) 55 rfl (w.heap.size + 1) 25 i0 _ 2 32 Try.underlying55 HI.out HZ0.out HZ1.out HZ2.out rfl (by omega) (.slice Ad k cd) k _ rfl (own_ext_keep hD3.out.row1 hal.out) ⟨w2.heap.size + 1, 0, none⟩ 1 1 [.slice A2 n2 c2', .int .i64 bd2] rfl rfl (by have := cell_two_new (w2.alloc (.cells #[.slice A2 n2 c2', .int .i64 bd2] 25)) (.slice A2 n2 c2') (.int .i64 bd2) 25; rw [World.size_alloc] at this; exact this) ?_ (by omega) ?_ ?_ ?_ (w2.heap.size + 1 + 1) (by simp) ?_
                 (intro u hu; simp at hu; rcases hu with rfl | rfl <;> rfl)
                 (unfold maxLen; omega)
                 omega
                 (simp at hzr ⊢; omega)
                 (intro gg cp w5 hown5 hg5 hat5 hlt5)
                 (have D5 := Lib.hid (hD3.out.push hg5 hown5 (by simpa using hat5) hn2 hS3.out hdis.out hcv))
                 (have BB := blk_grown4 (hD3.out.box.ext hal.out) (own_ext_keep hD3.out.row1 hal.out) (by decide) hg5)
                 (have bb0 := BB.cell 0)
                 (have fz0 := BB.frozen 0)
                 (have hzb := BB.lt)
                 (clear BB b0 b1 d0 d1)
                 (have e1 := D5.out.box.cell 1))
              | (at_builtin
                 refine wpList_append_lies _ rfl (.tmp 65) (.tmp 66) 99 rfl (w.heap.size + 1) 4 i1 _ 1 1 Try.underlying99 HI'.out HZ0'.out HZ1'.out HZ2'.out rfl (by omega) (.slice Bd k dd) k _ rfl (D5.out.row2.alloc _) ⟨w5.heap.size, 0, none⟩ 1 1 [.bool false] rfl rfl (World.news_of_block (cs := #[.bool false]) (t := 4) (fr := (0, 0)) (by have := heap_alloc_new (w5.setCell ⟨gb, 0, none⟩ (.slice (some ⟨gg, 0, none⟩) (k + 1) cp)) (.cells #[.bool false] 4); simpa using this)) ?_ (by omega) ?_ ?_ ?_ (w5.heap.size + 1) (by simp) ?_
                 (intro u hu; simp at hu; subst hu; rfl)
                 (unfold maxLen; omega)
                 omega
                 (simp; omega)
                 (intro gg2 cp2 w6 hown6 hg6 hat6 hlt6)
                 (have D6 := Lib.hid (D5.out.pushB hg6 hown6 (by simpa using hat6)))
                 (have BB := blk_grown4 (D5.out.box.ext ((Ext.refl _).alloc (.cells #[.bool false] 4))) (own_ext_keep D5.out.row2 ((Ext.refl _).alloc (.cells #[.bool false] 4))) (by decide) hg6)
                 (have bb1 := BB.cell 1)
                 (have fz1 := BB.frozen 1)
                 (have hzb2 := BB.lt)
                 (clear BB)))
            go_roundw
            case rel =>
              have X5 : Ext w w5 := (hE03.out.trans hal.out).grown hg5 (fun q hq => by have := (hD3.out.row1.lt q hq).1; omega)
              have X5' := X5.setNew (p := ⟨gb, 0, none⟩) (by simp only; omega) (.slice (some ⟨gg, 0, none⟩) (k + 1) cp)
              have X6 : Ext w w6 := (X5'.alloc (.cells #[.bool false] 4)).grown hg6 (fun q hq => by have := (D5.out.row2.lt q hq).1; omega)
              have Y5 := (blk_grown4 (hB03.out.ext hal.out) (own_ext_keep hD3.out.row1 hal.out) (by decide) hg5).far (p := ⟨gb, 0, none⟩) (by simp only; omega) (.slice (some ⟨gg, 0, none⟩) (k + 1) cp)
              have Y6 := (blk_grown4 (Y5.alloc (.cells #[.bool false] 4)) (D5.out.row2.alloc (.cells #[.bool false] 4)) (by decide) hg6).far (p := ⟨gb, 1, none⟩) (by simp only; omega) (.slice (some ⟨gg2, 0, none⟩) (k + 1) cp2)
              exact ⟨k + 1, j + 1, _, _, _, _, _, by omega, by omega, by go_num, X6.setNew (p := ⟨gb, 1, none⟩) (by simp only; omega) _, Y6, D6.out⟩
            case measure => simp [intOf]; omega
    · obtain rfl : j = m := by omega
      have b0 := hD.out.box.cell 0
      have b1 := hD.out.box.cell 1
      have r0 := hB0.out.cell 0
      have r1 := hB0.out.cell 1
      have q0 := hB0.out.frozen 0
      have q1 := hB0.out.frozen 1
      have hzr := hB0.out.lt
      go_wp2
      refine bodyPost_ret (v := .tuple #[.agg #[.slice Ad k cd, .slice Bd k dd], .int .i64 (-1)]) (by simp [results, Try.results77, go_sem, r0, r1]) rfl ?_
      exact run_ret (-1) hD.out hE (by omega) hB0.out
end

/- Running a proof: RunProof; a drawn step: l4Step. -/
section
open Go.RowKit

/-- a list of constraints, none of whose blocks is the row's -/
def LiR (w : World) (row : Option Nat) (A : Option Addr) (n : Nat) (cs : List Cn) : Prop :=
  ∃ hs : List Hd, hs.length = cs.length ∧ Seg w 2 A n (encH hs cs) ∧ (0 < n → ∀ ad : Addr, A = some ad → row ≠ some ad.block) ∧
    ∀ (i : Nat) (h : Hd) (c : Cn), hs[i]? = some h → cs[i]? = some c → h.2.1 ≤ maxLen ∧ Seg w 2 h.1 h.2.1 (encT c.1) ∧ (0 < h.2.1 → ∀ ad : Addr, h.1 = some ad → row ≠ some ad.block)
theorem seg_read {w : World} {sz n : Nat} {A : Option Addr} {xs : List Value} (h : Seg w sz A n xs) (hsz : 0 < sz) (hn : 0 < n) (ad : Addr) (e : A = some ad) : ∃ off u, w.cell? ⟨ad.block, off, none⟩ = some u := by
  obtain ⟨b, off, e2, hc⟩ := h.2 hn
  rw [e] at e2
  injection e2 with e2
  have hx : 0 < xs.length := by rw [h.1]; exact Nat.mul_pos hn hsz
  exact ⟨off + 0, xs[0], by rw [e2]; exact hc 0 _ (List.getElem?_eq_getElem hx)⟩
section
variable {w w' : World} {row : Option Nat} {n g : Nat} {A : Option Addr} {cs : List Cn}
theorem LiR.segC (h : LiR w row A n cs) : SegC w A n cs := by
  obtain ⟨hs, h1, h2, _, h4⟩ := h
  exact ⟨hs, h1, h2, fun i x c e1 e2 => ⟨(h4 i x c e1 e2).1, (h4 i x c e1 e2).2.1⟩⟩
theorem LiR.start {t : TypeId} (h : SegC w A n cs) (B : Blk w g t #[]) : LiR w (some g) A n cs := by
  have no : ∀ ad : Addr, (∃ off u, w.cell? ⟨ad.block, off, none⟩ = some u) → some g ≠ some ad.block := fun ad ⟨off, u, hu⟩ e => by
    injection e with e
    rw [← e, B.cell] at hu
    simp at hu
  obtain ⟨hs, h1, h2, h4⟩ := h
  exact ⟨hs, h1, h2, fun hn ad e => no ad (seg_read h2 (by omega) hn ad e), fun i x c e1 e2 => ⟨(h4 i x c e1 e2).1, (h4 i x c e1 e2).2, fun hn ad e => no ad (seg_read (h4 i x c e1 e2).2 (by omega) hn ad e)⟩⟩
theorem LiR.ext (h : LiR w row A n cs) (hE : Ext w w') : LiR w' row A n cs := by
  obtain ⟨hs, h1, h2, h3, h4⟩ := h
  exact ⟨hs, h1, h2.ext hE, h3, fun i x c e1 e2 => ⟨(h4 i x c e1 e2).1, (h4 i x c e1 e2).2.1.ext hE, (h4 i x c e1 e2).2.2⟩⟩
theorem LiR.grownTo {gg H : Nat} (h : LiR w row A n cs) (hg : w.grownBy w' row) (hat : row = some gg ∨ gg = H) (hH : w.heap.size = H) : LiR w' (some gg) A n cs := by
  have no : ∀ ad : Addr, row ≠ some ad.block → (∃ off u, w.cell? ⟨ad.block, off, none⟩ = some u) → some gg ≠ some ad.block := fun ad hne ⟨off, u, hu⟩ e => by
    have hlt := World.block_lt_of_cell? _ _ hu
    simp only at hlt
    rcases hat with h2 | h2
    · rw [h2] at hne; exact hne e
    · injection e with e; omega
  obtain ⟨hs, h1, h2, h3, h4⟩ := h
  exact ⟨hs, h1, seg_grown h2 h3 hg, fun hn ad e => no ad (h3 hn ad e) (seg_read h2 (by omega) hn ad e), fun i x c e1 e2 => ⟨(h4 i x c e1 e2).1, seg_grown (h4 i x c e1 e2).2.1 (h4 i x c e1 e2).2.2 hg, fun hn ad e => no ad ((h4 i x c e1 e2).2.2 hn ad e) (seg_read (h4 i x c e1 e2).2.1 (by omega) hn ad e)⟩⟩
end

/-- SOME list and SOME number -/
def RetRP (w : World) (e : Ending) (w' : World) : Prop := ∃ A n c z, e = .returned (.tuple #[.slice A n c, .int .i64 z]) ∧ Ext w w'
set_option maxRecDepth 100000 in
set_option maxHeartbeats 4000000 in
theorem runProof_any (A : Option Addr) (n c : Nat) (cs : List Cn) (B : Option Addr) (m d : Nat) (ss : List St) (w : World) (hn : n ≤ maxLen) (h : SegC w A n cs) (hb : SegP w B m ss) (hsm : ∀ s ∈ ss, s.2.2.2.1.length ≤ 1048576) :
    Calls Try.prog 68 #[.slice A n c, .slice B m d] w (RetRP w) := by
  obtain ⟨i0, hi, hz0, hz1, hz2⟩ := info_parts Try.infoCnD
  have HI := Lib.hid hi
  have HZ0 := Lib.hid hz0
  have HZ1 := Lib.hid hz1
  have HZ2 := Lib.hid hz2
  have HS := Lib.hid h
  have HP := Lib.hid hb
  have HSM := Lib.hid hsm
  have HLn := Lib.hid h.len
  clear hi hz0 hz1 hz2 h hb hsm
  go_enter Try.func68, Try.ntmps68
  go_wp2_with fail
  refine (l4Fits_any A n c cs B m d _ hn HS.out).mono ?_
  rintro e w1 ⟨⟨b, rfl, hbt⟩, hE1⟩
  have HE1 := Lib.hid hE1
  clear hE1
  cases b with
  | false =>
    go_wp2
    refine bodyPost_ret (v := .tuple #[.slice (some ⟨w1.heap.size, 0, none⟩) 0 0, .int .i64 0]) (by simp [results, Try.results68, go_sem]) rfl ?_
    exact ⟨_, _, _, _, rfl, HE1.out.alloc _⟩
  | true =>
    obtain ⟨hp, hm⟩ := hbt rfl
    have hp2 : n ≤ 400 ∧ cs.all cvC = true := by
      unfold probB at hp
      rw [Bool.and_eq_true, decide_eq_true_eq, HLn.out] at hp
      exact hp
    have HV := Lib.hid hp2.2
    have hn4 := hp2.1
    clear hp hp2 hbt
    go_wp2_with fail
    refine (l4Run_any A n c cs B m d ss _ hn4 (HS.out.ext HE1.out) HV.out hm (HP.out.ext HE1.out) HSM.out).mono ?_
    rintro e w2 ⟨A1, k, c1, B1, d1, cs1, gs1, z, rfl, hk, hS1, hv1, hG1, hE2⟩
    have HE2 := Lib.hid (HE1.out.trans hE2)
    have HS1 := Lib.hid hS1
    have HG1 := Lib.hid hG1
    have HB := Lib.hid (Blk.new w2 101 #[.slice A1 k c1, .slice B1 k d1])
    clear hE2 hS1 hG1
    by_cases hz : 0 ≤ z
    · have hb0 : decide (0 ≤ z) = true := decide_eq_true hz
      go_wp2
      refine bodyPost_ret (v := .tuple #[.slice (some ⟨w2.heap.size + 1, 0, none⟩) 0 0, .int .i64 z]) (by simp [results, Try.results68, go_sem]) rfl ?_
      exact ⟨_, _, _, _, rfl, (HE2.out.alloc _).alloc _⟩
    · have hb0 : decide (0 ≤ z) = false := decide_eq_false hz
      have b0 := (HB.out.alloc (.cells #[] 25)).cell 0
      have b1 := (HB.out.alloc (.cells #[] 25)).cell 1
      have E2 : Hid (Ext w2 ((w2.alloc (.cells #[.slice A1 k c1, .slice B1 k d1] 101)).alloc (.cells #[] 25))) := ((Ext.refl _).alloc _).alloc _
      have OE : Hid (((w2.alloc (.cells #[.slice A1 k c1, .slice B1 k d1] 101)).alloc (.cells #[] 25)).ownsRow (w2.heap.size + 1) 25 2 (.slice (some ⟨w2.heap.size + 1, 0, none⟩) 0 0) 0 []) := by
        have := own_empty (w2.alloc (.cells #[.slice A1 k c1, .slice B1 k d1] 101)) (w2.heap.size + 1) 25 2 (by simp)
        simpa [Hid] using this
      go_wp2_with fail
      refine (l4Kept_any A1 k c1 cs1 B1 d1 gs1 _ (by omega) (HS1.out.ext E2.out) (HG1.out.ext E2.out)).mono ?_
      rintro e w3 ⟨A3, n3, c3, cs3, rfl, hn3, hS3, hm3, hE3⟩
      have HS3 := Lib.hid hS3
      have HE3 := Lib.hid (HE2.out.trans (E2.out.trans hE3))
      have OE3 := Lib.hid (own_ext_keep OE.out hE3)
      have HLR := Lib.hid (LiR.start hS3 ((show Blk ((w2.alloc (.cells #[.slice A1 k c1, .slice B1 k d1] 101)).alloc (.cells #[] 25)) (w2.heap.size + 1) 25 #[] from by have := Blk.new (w2.alloc (.cells #[.slice A1 k c1, .slice B1 k d1] 101)) 25 #[]; simpa using this).ext hE3))
      have HLs : Hid (∀ x ∈ cs3, x.1.length ≤ 1048576) := fun x hx => by
        have := List.all_eq_true.1 hv1 x (hm3 x hx)
        have := cvB_len this
        omega
      have hz3 : w2.heap.size + 1 ≤ w3.heap.size := by have := hE3.size; simp at this; omega
      have hlo := HE2.out.size
      clear hS3 hm3 hE3 OE b0 b1
      go_wp2_with fail
      go_loopw [8, 10] (fun s i wr => ∃ (j : Nat) (xs : List Value), j ≤ n3 ∧ i = .int .i64 j ∧ w2.heap.size + 1 ≤ wr.heap.size ∧ Ext w wr ∧ Hid (LiR wr s.ownBlock A3 n3 cs3) ∧ Hid (wr.ownsRow (w2.heap.size + 1) 25 2 s j xs)) (fun _ i _ => n3 - (intOf i).toNat)
      case atStart => exact ⟨0, [], by omega, rfl, hz3, HE3.out, HLR.out, OE3.out⟩
      case round =>
        obtain ⟨j, xs, hj, rfl, hzr, hE, hS, hown⟩ := hrel
        obtain ⟨A5, c5, rfl⟩ := own_slice hown.out
        by_cases hlt : j < n3
        · obtain ⟨b, off, Ak, nk, ck, tk, bk, rfl, hx, t1, t2, hnk, hSk⟩ := hS.out.segC.at_ hlt
          have hlk : nk ≤ 1048576 := by
            have h1 := HLs.out _ (List.mem_of_getElem? hx)
            have h2 := hSk.lenT
            simp only at h1
            omega
          have HSk := Lib.hid hSk
          clear hx hSk
          go_wp2_with fail
          refine (l1Copy_any Ak nk ck tk bk _ HSk.out hlk).mono ?_
          rintro e w4 ⟨A4, n4, c4, rfl, hl4, hG4, hE4⟩
          have hO4 := Lib.hid (own_ext_keep hown.out hE4)
          have hS4 := Lib.hid (hS.out.ext hE4)
          have HE4 := Lib.hid (hE.trans hE4)
          have hzw := hE.size
          have hz4 := hE4.size
          have hrow := (hown.out.lt)
          clear hE4 hG4 hS hown hE
          go_wp2_with (first
            | (at_builtin
               refine wpList_append_lies _ rfl (.tmp 35) (.tmp 41) 55 rfl (w2.heap.size + 1) 25 i0 _ 2 32 Try.underlying55 HI.out HZ0.out HZ1.out HZ2.out rfl (by omega) (.slice A5 j c5) j _ rfl (hO4.out.alloc _) ⟨w4.heap.size, 0, none⟩ 1 1 [.slice A4 n4 c4, .int .i64 bk] rfl rfl (cell_two_new w4 (.slice A4 n4 c4) (.int .i64 bk) 25) ?_ (by omega) ?_ ?_ ?_ (w4.heap.size + 1) (by simp) ?_
               (intro u hu; simp at hu; rcases hu with rfl | rfl <;> rfl)
               (unfold maxLen; omega)
               omega
               (simp; omega)
               (intro gg cp w5 hown5 hg5 hat5 hlt5)))
          go_roundw
          case rel =>
            have hz5 := hg5.size
            rw [World.size_alloc] at hz5
            have X5 := own_ext (HE4.out.alloc (.cells #[.slice A4 n4 c4, .int .i64 bk] 25)) (hO4.out.alloc (.cells #[.slice A4 n4 c4, .int .i64 bk] 25)) (by omega) hg5
            exact ⟨j + 1, _, by omega, by go_num, by omega, X5, (hS4.out.ext ((Ext.refl _).alloc (.cells #[.slice A4 n4 c4, .int .i64 bk] 25))).grownTo hg5 hat5 (by simp), hown5⟩
          case measure => simp [intOf]; omega
        · obtain rfl : j = n3 := by omega
          go_wp2
          refine bodyPost_ret (v := .tuple #[.slice A5 j c5, .int .i64 (-1)]) (by simp [results, Try.results68, go_sem]) rfl ?_
          exact ⟨_, _, _, _, rfl, hE⟩
end

/- A drawn step: l4Step. -/
section
open Go.RowKit

/-- SOME step -/
def RdSt (g L : Nat) (w : World) (e : Ending) (w' : World) : Prop :=
  ∃ x y z A n c ts bd, e = .returned (.agg #[.int .i64 x, .int .i64 y, .int .i64 z, .slice A n c, .int .i64 bd]) ∧ ts.length = n ∧ n ≤ 12 ∧ Got w w' 2 A n (encT ts) ∧ Kept g (g + 1) w w' ∧ Rd w' g L
theorem st_ret {w W : World} {g L L' n c : Nat} {x y z bd : Int} {A : Option Addr} {ts : List Tm} (hK : Kept g (g + 1) w W) (hR : Rd W g L) (hLL : L ≤ L') (hg : g < w.heap.size) (hS : Seg W 2 A n (encT ts)) (hF : Free W 2 A n) (hL : Lies (w.heap.size + 1) W.heap.size A n) (hn : n ≤ 12) :
    RdSt g L' w (.returned (.agg #[.int .i64 x, .int .i64 y, .int .i64 z, .slice A n c, .int .i64 bd]))
      (((((W.setCell ⟨w.heap.size, 0, none⟩ (.int .i64 x)).setCell ⟨w.heap.size, 1, none⟩ (.int .i64 y)).setCell ⟨w.heap.size, 2, none⟩ (.int .i64 z)).setCell ⟨w.heap.size, 3, none⟩ (.slice A n c)).setCell ⟨w.heap.size, 4, none⟩ (.int .i64 bd)) := by
  have K : Kept w.heap.size (w.heap.size + 1) W (((((W.setCell ⟨w.heap.size, 0, none⟩ (.int .i64 x)).setCell ⟨w.heap.size, 1, none⟩ (.int .i64 y)).setCell ⟨w.heap.size, 2, none⟩ (.int .i64 z)).setCell ⟨w.heap.size, 3, none⟩ (.slice A n c)).setCell ⟨w.heap.size, 4, none⟩ (.int .i64 bd)) :=
    (((((Kept.refl _ _ W).setIn (by simp) _).setIn (by simp) _).setIn (by simp) _).setIn (by simp) _).setIn (by simp) _
  exact ⟨x, y, z, A, n, c, ts, bd, rfl, hS.lenT, hn, ⟨hS.kept hL K (.inr (by omega)), hF.kept hS hL K (.inr (by omega)), hL.wide (by omega) K.size⟩, hK.fresh K (Nat.le_refl _), (hR.kept K (by omega)).mono hLL⟩

set_option maxRecDepth 100000 in
set_option maxHeartbeats 8000000 in
theorem l4Step_any (g L : Nat) (n : Int) (w : World) (h : Rd w g L) (hL : L ≤ 700000000) (hn0 : 0 ≤ n) (hn1 : n ≤ 1000000) :
    Calls Try.prog 69 #[.pointer (some ⟨g, 0, none⟩), .int .i64 n] w (RdSt g (L + 60) w) := by
  have hgw := h.lt
  have HR := Lib.hid h
  have hw1 : IntKind.i64.wrap (n + 1) = n + 1 := IntWalk.i64_in _ (by omega)
  clear h
  go_enter Try.func69, Try.ntmps69
  go_wp2_with fail
  refine (num_lit [1, 1, 5, 4, 3, 2, 6, 7, 8] g _ 9 _ _ _ _ (by first | rfl | simp) rfl rfl (by omega) (by omega) (HR.out.alloc _) (by omega)).mono ?_
  rintro e w1 ⟨i, rfl, hi, hK1, hR1⟩
  have HK1 := Lib.hid (((Kept.refl g (g + 1) w).alloc (.cells #[.int .i64 0, .int .i64 0, .int .i64 0, .slice none 0 0, .int .i64 0] 59)).trans hK1)
  have HB4 := Lib.hid ((Blk.new w 59 #[.int .i64 0, .int .i64 0, .int .i64 0, .slice none 0 0, .int .i64 0]).kept hK1 (.inr (by omega)))
  have HR1 := Lib.hid hR1
  have hz1 := HB4.out.lt
  clear hK1 hR1 HR
  have hi : i = 1 ∨ i = 5 ∨ i = 4 ∨ i = 3 ∨ i = 2 ∨ i = 6 ∨ i = 7 ∨ i = 8 := by simpa using hi
  rcases hi with rfl | rfl | rfl | rfl | rfl | rfl | rfl | rfl
  · have R1 := Lib.hid (HR1.out.alloc (.cells #[.int .i64 1, .int .i64 0, .int .i64 0, .slice none 0 0, .int .i64 0] 59))
    have K1 := Lib.hid (HK1.out.alloc (.cells #[.int .i64 1, .int .i64 0, .int .i64 0, .slice none 0 0, .int .i64 0] 59))
    have P4 := Lib.hid (HB4.out.alloc (.cells #[.int .i64 1, .int .i64 0, .int .i64 0, .slice none 0 0, .int .i64 0] 59))
    have P5 := Lib.hid (Blk.new w1 59 #[.int .i64 1, .int .i64 0, .int .i64 0, .slice none 0 0, .int .i64 0])
    have z5 := P5.out.lt
    clear HK1 HB4 HR1
    have c0 := P5.out.cell 0
    go_wp2_with fail
    refine (pick_any _ _ (n + 1) _ R1.out (by omega) (by omega)).mono ?_
    rintro e w3 ⟨v3, rfl, hv3, hK3, hR3⟩
    have R3 := Lib.hid hR3
    have K3 := Lib.hid (K1.out.trans hK3)
    have P43 := Lib.hid (P4.out.kept hK3 (.inr (by omega)))
    have P53 := Lib.hid (P5.out.kept hK3 (.inr (by omega)))
    have z3 := P53.out.lt
    clear hK3 hR3
    clear c0
    have c0 := P53.out.cell 0
    have f0 := P53.out.frozen 0
    have c1 := P53.out.cell 1
    have f1 := P53.out.frozen 1
    have c2 := P53.out.cell 2
    have f2 := P53.out.frozen 2
    have c3 := P53.out.cell 3
    have f3 := P53.out.frozen 3
    have c4 := P53.out.cell 4
    have f4 := P53.out.frozen 4
    have R3s := Lib.hid (R3.out.far (p := ⟨w1.heap.size, 1, none⟩) (by simp only; omega) (.int .i64 v3))
    have K3s := Lib.hid (K3.out.setNew (p := ⟨w1.heap.size, 1, none⟩) (by simp only; omega) (.int .i64 v3))
    have P43s := Lib.hid (P43.out.far (p := ⟨w1.heap.size, 1, none⟩) (by simp only; omega) (.int .i64 v3))
    have P53s := Lib.hid (P53.out.set_ 1 (.int .i64 v3))
    go_wp2_with fail
    refine (pick_any _ _ (n + 1) _ R3s.out (by omega) (by omega)).mono ?_
    rintro e w4 ⟨v4, rfl, hv4, hK4, hR4⟩
    have R4 := Lib.hid hR4
    have K4 := Lib.hid (K3s.out.trans hK4)
    have P44 := Lib.hid (P43s.out.kept hK4 (.inr (by omega)))
    have P54 := Lib.hid (P53s.out.kept hK4 (.inr (by omega)))
    have z4 := P54.out.lt
    clear hK4 hR4
    clear c0 f0 c1 f1 c2 f2 c3 f3 c4 f4
    have c0 := P54.out.cell 0
    have f0 := P54.out.frozen 0
    have c1 := P54.out.cell 1
    have f1 := P54.out.frozen 1
    have c2 := P54.out.cell 2
    have f2 := P54.out.frozen 2
    have c3 := P54.out.cell 3
    have f3 := P54.out.frozen 3
    have c4 := P54.out.cell 4
    have f4 := P54.out.frozen 4
    have R4s := Lib.hid (R4.out.far (p := ⟨w1.heap.size, 2, none⟩) (by simp only; omega) (.int .i64 v4))
    have K4s := Lib.hid (K4.out.setNew (p := ⟨w1.heap.size, 2, none⟩) (by simp only; omega) (.int .i64 v4))
    have P44s := Lib.hid (P44.out.far (p := ⟨w1.heap.size, 2, none⟩) (by simp only; omega) (.int .i64 v4))
    have P54s := Lib.hid (P54.out.set_ 2 (.int .i64 v4))
    have r0 := P44s.out.cell 0
    have r1 := P44s.out.cell 1
    have r2 := P44s.out.cell 2
    have r3 := P44s.out.cell 3
    have r4 := P44s.out.cell 4
    have q0 := P44s.out.frozen 0
    have q1 := P44s.out.frozen 1
    have q2 := P44s.out.frozen 2
    have q3 := P44s.out.frozen 3
    have q4 := P44s.out.frozen 4
    have zr := P44s.out.lt
    go_wp2
    refine bodyPost_ret (v := .agg #[.int .i64 1, .int .i64 v3, .int .i64 v4, .slice none 0 0, .int .i64 0]) (by simp [results, Try.results69, go_sem, r0, r1, r2, r3, r4]) rfl ?_
    exact st_ret K4s.out R4s.out (by omega) hgw (show Seg _ 2 none 0 (encT []) from Seg.nil _ _ _) (fun _ _ e => by cases e) (fun h0 => absurd h0 (by omega)) (by omega)
  · have R1 := Lib.hid (HR1.out.alloc (.cells #[.int .i64 5, .int .i64 0, .int .i64 0, .slice none 0 0, .int .i64 0] 59))
    have K1 := Lib.hid (HK1.out.alloc (.cells #[.int .i64 5, .int .i64 0, .int .i64 0, .slice none 0 0, .int .i64 0] 59))
    have P4 := Lib.hid (HB4.out.alloc (.cells #[.int .i64 5, .int .i64 0, .int .i64 0, .slice none 0 0, .int .i64 0] 59))
    have P5 := Lib.hid (Blk.new w1 59 #[.int .i64 5, .int .i64 0, .int .i64 0, .slice none 0 0, .int .i64 0])
    have z5 := P5.out.lt
    clear HK1 HB4 HR1
    have c0 := P5.out.cell 0
    go_wp2_with fail
    refine (pick_any _ _ (n + 1) _ R1.out (by omega) (by omega)).mono ?_
    rintro e w3 ⟨v3, rfl, hv3, hK3, hR3⟩
    have R3 := Lib.hid hR3
    have K3 := Lib.hid (K1.out.trans hK3)
    have P43 := Lib.hid (P4.out.kept hK3 (.inr (by omega)))
    have P53 := Lib.hid (P5.out.kept hK3 (.inr (by omega)))
    have z3 := P53.out.lt
    clear hK3 hR3
    clear c0
    have c0 := P53.out.cell 0
    have f0 := P53.out.frozen 0
    have c1 := P53.out.cell 1
    have f1 := P53.out.frozen 1
    have c2 := P53.out.cell 2
    have f2 := P53.out.frozen 2
    have c3 := P53.out.cell 3
    have f3 := P53.out.frozen 3
    have c4 := P53.out.cell 4
    have f4 := P53.out.frozen 4
    have R3s := Lib.hid (R3.out.far (p := ⟨w1.heap.size, 1, none⟩) (by simp only; omega) (.int .i64 v3))
    have K3s := Lib.hid (K3.out.setNew (p := ⟨w1.heap.size, 1, none⟩) (by simp only; omega) (.int .i64 v3))
    have P43s := Lib.hid (P43.out.far (p := ⟨w1.heap.size, 1, none⟩) (by simp only; omega) (.int .i64 v3))
    have P53s := Lib.hid (P53.out.set_ 1 (.int .i64 v3))
    go_wp2_with fail
    refine (pick_any _ _ 5 _ R3s.out (by omega) (by omega)).mono ?_
    rintro e w4 ⟨v4, rfl, hv4, hK4, hR4⟩
    have R4 := Lib.hid hR4
    have K4 := Lib.hid (K3s.out.trans hK4)
    have P44 := Lib.hid (P43s.out.kept hK4 (.inr (by omega)))
    have P54 := Lib.hid (P53s.out.kept hK4 (.inr (by omega)))
    have z4 := P54.out.lt
    clear hK4 hR4
    clear c0 f0 c1 f1 c2 f2 c3 f3 c4 f4
    have c0 := P54.out.cell 0
    have f0 := P54.out.frozen 0
    have c1 := P54.out.cell 1
    have f1 := P54.out.frozen 1
    have c2 := P54.out.cell 2
    have f2 := P54.out.frozen 2
    have c3 := P54.out.cell 3
    have f3 := P54.out.frozen 3
    have c4 := P54.out.cell 4
    have f4 := P54.out.frozen 4
    have hv5 : 0 ≤ v4 ∧ v4 < 5 := by unfold PickB at hv4; omega
    have w5 : IntKind.i64.wrap (1 + v4) = 1 + v4 := IntWalk.i64_in _ (by omega)
    have R4s := Lib.hid (R4.out.far (p := ⟨w1.heap.size, 2, none⟩) (by simp only; omega) (.int .i64 (1 + v4)))
    have K4s := Lib.hid (K4.out.setNew (p := ⟨w1.heap.size, 2, none⟩) (by simp only; omega) (.int .i64 (1 + v4)))
    have P44s := Lib.hid (P44.out.far (p := ⟨w1.heap.size, 2, none⟩) (by simp only; omega) (.int .i64 (1 + v4)))
    have P54s := Lib.hid (P54.out.set_ 2 (.int .i64 (1 + v4)))
    have r0 := P44s.out.cell 0
    have r1 := P44s.out.cell 1
    have r2 := P44s.out.cell 2
    have r3 := P44s.out.cell 3
    have r4 := P44s.out.cell 4
    have q0 := P44s.out.frozen 0
    have q1 := P44s.out.frozen 1
    have q2 := P44s.out.frozen 2
    have q3 := P44s.out.frozen 3
    have q4 := P44s.out.frozen 4
    have zr := P44s.out.lt
    go_wp2
    refine bodyPost_ret (v := .agg #[.int .i64 5, .int .i64 v3, .int .i64 (1 + v4), .slice none 0 0, .int .i64 0]) (by simp [results, Try.results69, go_sem, r0, r1, r2, r3, r4]) rfl ?_
    exact st_ret K4s.out R4s.out (by omega) hgw (show Seg _ 2 none 0 (encT []) from Seg.nil _ _ _) (fun _ _ e => by cases e) (fun h0 => absurd h0 (by omega)) (by omega)
  · have R1 := Lib.hid (HR1.out.alloc (.cells #[.int .i64 4, .int .i64 0, .int .i64 0, .slice none 0 0, .int .i64 0] 59))
    have K1 := Lib.hid (HK1.out.alloc (.cells #[.int .i64 4, .int .i64 0, .int .i64 0, .slice none 0 0, .int .i64 0] 59))
    have P4 := Lib.hid (HB4.out.alloc (.cells #[.int .i64 4, .int .i64 0, .int .i64 0, .slice none 0 0, .int .i64 0] 59))
    have P5 := Lib.hid (Blk.new w1 59 #[.int .i64 4, .int .i64 0, .int .i64 0, .slice none 0 0, .int .i64 0])
    have z5 := P5.out.lt
    clear HK1 HB4 HR1
    have c0 := P5.out.cell 0
    go_wp2_with fail
    refine (pick_any _ _ (n + 1) _ R1.out (by omega) (by omega)).mono ?_
    rintro e w3 ⟨v3, rfl, hv3, hK3, hR3⟩
    have R3 := Lib.hid hR3
    have K3 := Lib.hid (K1.out.trans hK3)
    have P43 := Lib.hid (P4.out.kept hK3 (.inr (by omega)))
    have P53 := Lib.hid (P5.out.kept hK3 (.inr (by omega)))
    have z3 := P53.out.lt
    clear hK3 hR3
    clear c0
    have c0 := P53.out.cell 0
    have f0 := P53.out.frozen 0
    have c1 := P53.out.cell 1
    have f1 := P53.out.frozen 1
    have c2 := P53.out.cell 2
    have f2 := P53.out.frozen 2
    have c3 := P53.out.cell 3
    have f3 := P53.out.frozen 3
    have c4 := P53.out.cell 4
    have f4 := P53.out.frozen 4
    have R3s := Lib.hid (R3.out.far (p := ⟨w1.heap.size, 1, none⟩) (by simp only; omega) (.int .i64 v3))
    have K3s := Lib.hid (K3.out.setNew (p := ⟨w1.heap.size, 1, none⟩) (by simp only; omega) (.int .i64 v3))
    have P43s := Lib.hid (P43.out.far (p := ⟨w1.heap.size, 1, none⟩) (by simp only; omega) (.int .i64 v3))
    have P53s := Lib.hid (P53.out.set_ 1 (.int .i64 v3))
    have r0 := P43s.out.cell 0
    have r1 := P43s.out.cell 1
    have r2 := P43s.out.cell 2
    have r3 := P43s.out.cell 3
    have r4 := P43s.out.cell 4
    have q0 := P43s.out.frozen 0
    have q1 := P43s.out.frozen 1
    have q2 := P43s.out.frozen 2
    have q3 := P43s.out.frozen 3
    have q4 := P43s.out.frozen 4
    have zr := P43s.out.lt
    go_wp2
    refine bodyPost_ret (v := .agg #[.int .i64 4, .int .i64 v3, .int .i64 0, .slice none 0 0, .int .i64 0]) (by simp [results, Try.results69, go_sem, r0, r1, r2, r3, r4]) rfl ?_
    exact st_ret K3s.out R3s.out (by omega) hgw (show Seg _ 2 none 0 (encT []) from Seg.nil _ _ _) (fun _ _ e => by cases e) (fun h0 => absurd h0 (by omega)) (by omega)
  · have R1 := Lib.hid (HR1.out.alloc (.cells #[.int .i64 3, .int .i64 0, .int .i64 0, .slice none 0 0, .int .i64 0] 59))
    have K1 := Lib.hid (HK1.out.alloc (.cells #[.int .i64 3, .int .i64 0, .int .i64 0, .slice none 0 0, .int .i64 0] 59))
    have P4 := Lib.hid (HB4.out.alloc (.cells #[.int .i64 3, .int .i64 0, .int .i64 0, .slice none 0 0, .int .i64 0] 59))
    have P5 := Lib.hid (Blk.new w1 59 #[.int .i64 3, .int .i64 0, .int .i64 0, .slice none 0 0, .int .i64 0])
    have z5 := P5.out.lt
    clear HK1 HB4 HR1
    have c0 := P5.out.cell 0
    go_wp2_with fail
    refine (pick_any _ _ (n + 1) _ R1.out (by omega) (by omega)).mono ?_
    rintro e w3 ⟨v3, rfl, hv3, hK3, hR3⟩
    have R3 := Lib.hid hR3
    have K3 := Lib.hid (K1.out.trans hK3)
    have P43 := Lib.hid (P4.out.kept hK3 (.inr (by omega)))
    have P53 := Lib.hid (P5.out.kept hK3 (.inr (by omega)))
    have z3 := P53.out.lt
    clear hK3 hR3
    clear c0
    have c0 := P53.out.cell 0
    have f0 := P53.out.frozen 0
    have c1 := P53.out.cell 1
    have f1 := P53.out.frozen 1
    have c2 := P53.out.cell 2
    have f2 := P53.out.frozen 2
    have c3 := P53.out.cell 3
    have f3 := P53.out.frozen 3
    have c4 := P53.out.cell 4
    have f4 := P53.out.frozen 4
    have R3s := Lib.hid (R3.out.far (p := ⟨w1.heap.size, 1, none⟩) (by simp only; omega) (.int .i64 v3))
    have K3s := Lib.hid (K3.out.setNew (p := ⟨w1.heap.size, 1, none⟩) (by simp only; omega) (.int .i64 v3))
    have P43s := Lib.hid (P43.out.far (p := ⟨w1.heap.size, 1, none⟩) (by simp only; omega) (.int .i64 v3))
    have P53s := Lib.hid (P53.out.set_ 1 (.int .i64 v3))
    go_wp2_with fail
    refine (num_lit [2, 3, 1] g _ 3 _ _ _ _ (by first | rfl | simp) rfl rfl (by omega) (by omega) R3s.out (by omega)).mono ?_
    rintro e w4 ⟨v4, rfl, hv4, hK4, hR4⟩
    have R4 := Lib.hid hR4
    have K4 := Lib.hid (K3s.out.trans hK4)
    have P44 := Lib.hid (P43s.out.kept hK4 (.inr (by omega)))
    have P54 := Lib.hid (P53s.out.kept hK4 (.inr (by omega)))
    have z4 := P54.out.lt
    clear hK4 hR4
    clear c0 f0 c1 f1 c2 f2 c3 f3 c4 f4
    have c0 := P54.out.cell 0
    have f0 := P54.out.frozen 0
    have c1 := P54.out.cell 1
    have f1 := P54.out.frozen 1
    have c2 := P54.out.cell 2
    have f2 := P54.out.frozen 2
    have c3 := P54.out.cell 3
    have f3 := P54.out.frozen 3
    have c4 := P54.out.cell 4
    have f4 := P54.out.frozen 4
    have R4s := Lib.hid (R4.out.far (p := ⟨w1.heap.size, 2, none⟩) (by simp only; omega) (.int .i64 v4))
    have K4s := Lib.hid (K4.out.setNew (p := ⟨w1.heap.size, 2, none⟩) (by simp only; omega) (.int .i64 v4))
    have P44s := Lib.hid (P44.out.far (p := ⟨w1.heap.size, 2, none⟩) (by simp only; omega) (.int .i64 v4))
    have P54s := Lib.hid (P54.out.set_ 2 (.int .i64 v4))
    have r0 := P44s.out.cell 0
    have r1 := P44s.out.cell 1
    have r2 := P44s.out.cell 2
    have r3 := P44s.out.cell 3
    have r4 := P44s.out.cell 4
    have q0 := P44s.out.frozen 0
    have q1 := P44s.out.frozen 1
    have q2 := P44s.out.frozen 2
    have q3 := P44s.out.frozen 3
    have q4 := P44s.out.frozen 4
    have zr := P44s.out.lt
    go_wp2
    refine bodyPost_ret (v := .agg #[.int .i64 3, .int .i64 v3, .int .i64 v4, .slice none 0 0, .int .i64 0]) (by simp [results, Try.results69, go_sem, r0, r1, r2, r3, r4]) rfl ?_
    exact st_ret K4s.out R4s.out (by omega) hgw (show Seg _ 2 none 0 (encT []) from Seg.nil _ _ _) (fun _ _ e => by cases e) (fun h0 => absurd h0 (by omega)) (by omega)
  · have R1 := Lib.hid (HR1.out.alloc (.cells #[.int .i64 2, .int .i64 0, .int .i64 0, .slice none 0 0, .int .i64 0] 59))
    have K1 := Lib.hid (HK1.out.alloc (.cells #[.int .i64 2, .int .i64 0, .int .i64 0, .slice none 0 0, .int .i64 0] 59))
    have P4 := Lib.hid (HB4.out.alloc (.cells #[.int .i64 2, .int .i64 0, .int .i64 0, .slice none 0 0, .int .i64 0] 59))
    have P5 := Lib.hid (Blk.new w1 59 #[.int .i64 2, .int .i64 0, .int .i64 0, .slice none 0 0, .int .i64 0])
    have z5 := P5.out.lt
    clear HK1 HB4 HR1
    have c0 := P5.out.cell 0
    go_wp2_with fail
    refine (pick_any _ _ (n + 1) _ R1.out (by omega) (by omega)).mono ?_
    rintro e w3 ⟨v3, rfl, hv3, hK3, hR3⟩
    have R3 := Lib.hid hR3
    have K3 := Lib.hid (K1.out.trans hK3)
    have P43 := Lib.hid (P4.out.kept hK3 (.inr (by omega)))
    have P53 := Lib.hid (P5.out.kept hK3 (.inr (by omega)))
    have z3 := P53.out.lt
    clear hK3 hR3
    clear c0
    have c0 := P53.out.cell 0
    have f0 := P53.out.frozen 0
    have c1 := P53.out.cell 1
    have f1 := P53.out.frozen 1
    have c2 := P53.out.cell 2
    have f2 := P53.out.frozen 2
    have c3 := P53.out.cell 3
    have f3 := P53.out.frozen 3
    have c4 := P53.out.cell 4
    have f4 := P53.out.frozen 4
    have R3s := Lib.hid (R3.out.far (p := ⟨w1.heap.size, 1, none⟩) (by simp only; omega) (.int .i64 v3))
    have K3s := Lib.hid (K3.out.setNew (p := ⟨w1.heap.size, 1, none⟩) (by simp only; omega) (.int .i64 v3))
    have P43s := Lib.hid (P43.out.far (p := ⟨w1.heap.size, 1, none⟩) (by simp only; omega) (.int .i64 v3))
    have P53s := Lib.hid (P53.out.set_ 1 (.int .i64 v3))
    go_wp2_with fail
    refine (num_lit [2, 3, 1] g _ 3 _ _ _ _ (by first | rfl | simp) rfl rfl (by omega) (by omega) R3s.out (by omega)).mono ?_
    rintro e w4 ⟨v4, rfl, hv4, hK4, hR4⟩
    have R4 := Lib.hid hR4
    have K4 := Lib.hid (K3s.out.trans hK4)
    have P44 := Lib.hid (P43s.out.kept hK4 (.inr (by omega)))
    have P54 := Lib.hid (P53s.out.kept hK4 (.inr (by omega)))
    have z4 := P54.out.lt
    clear hK4 hR4
    clear c0 f0 c1 f1 c2 f2 c3 f3 c4 f4
    have c0 := P54.out.cell 0
    have f0 := P54.out.frozen 0
    have c1 := P54.out.cell 1
    have f1 := P54.out.frozen 1
    have c2 := P54.out.cell 2
    have f2 := P54.out.frozen 2
    have c3 := P54.out.cell 3
    have f3 := P54.out.frozen 3
    have c4 := P54.out.cell 4
    have f4 := P54.out.frozen 4
    have R4s := Lib.hid (R4.out.far (p := ⟨w1.heap.size, 2, none⟩) (by simp only; omega) (.int .i64 v4))
    have K4s := Lib.hid (K4.out.setNew (p := ⟨w1.heap.size, 2, none⟩) (by simp only; omega) (.int .i64 v4))
    have P44s := Lib.hid (P44.out.far (p := ⟨w1.heap.size, 2, none⟩) (by simp only; omega) (.int .i64 v4))
    have P54s := Lib.hid (P54.out.set_ 2 (.int .i64 v4))
    have r0 := P44s.out.cell 0
    have r1 := P44s.out.cell 1
    have r2 := P44s.out.cell 2
    have r3 := P44s.out.cell 3
    have r4 := P44s.out.cell 4
    have q0 := P44s.out.frozen 0
    have q1 := P44s.out.frozen 1
    have q2 := P44s.out.frozen 2
    have q3 := P44s.out.frozen 3
    have q4 := P44s.out.frozen 4
    have zr := P44s.out.lt
    go_wp2
    refine bodyPost_ret (v := .agg #[.int .i64 2, .int .i64 v3, .int .i64 v4, .slice none 0 0, .int .i64 0]) (by simp [results, Try.results69, go_sem, r0, r1, r2, r3, r4]) rfl ?_
    exact st_ret K4s.out R4s.out (by omega) hgw (show Seg _ 2 none 0 (encT []) from Seg.nil _ _ _) (fun _ _ e => by cases e) (fun h0 => absurd h0 (by omega)) (by omega)
  · have R1 := Lib.hid (HR1.out.alloc (.cells #[.int .i64 6, .int .i64 0, .int .i64 0, .slice none 0 0, .int .i64 0] 59))
    have K1 := Lib.hid (HK1.out.alloc (.cells #[.int .i64 6, .int .i64 0, .int .i64 0, .slice none 0 0, .int .i64 0] 59))
    have P4 := Lib.hid (HB4.out.alloc (.cells #[.int .i64 6, .int .i64 0, .int .i64 0, .slice none 0 0, .int .i64 0] 59))
    have P5 := Lib.hid (Blk.new w1 59 #[.int .i64 6, .int .i64 0, .int .i64 0, .slice none 0 0, .int .i64 0])
    have z5 := P5.out.lt
    clear HK1 HB4 HR1
    go_wp2_with fail
    refine (num_lit [1, -1, 2, -3, 4] g _ 5 _ _ _ _ (by first | rfl | simp) rfl rfl (by omega) (by omega) R1.out (by omega)).mono ?_
    rintro e w3 ⟨v3, rfl, hv3, hK3, hR3⟩
    have R3 := Lib.hid hR3
    have K3 := Lib.hid (K1.out.trans hK3)
    have P43 := Lib.hid (P4.out.kept hK3 (.inr (by omega)))
    have P53 := Lib.hid (P5.out.kept hK3 (.inr (by omega)))
    have z3 := P53.out.lt
    clear hK3 hR3
    have c0 := P53.out.cell 0
    have f0 := P53.out.frozen 0
    have c1 := P53.out.cell 1
    have f1 := P53.out.frozen 1
    have c2 := P53.out.cell 2
    have f2 := P53.out.frozen 2
    have c3 := P53.out.cell 3
    have f3 := P53.out.frozen 3
    have c4 := P53.out.cell 4
    have f4 := P53.out.frozen 4
    have R3s := Lib.hid (R3.out.far (p := ⟨w1.heap.size, 1, none⟩) (by simp only; omega) (.int .i64 v3))
    have K3s := Lib.hid (K3.out.setNew (p := ⟨w1.heap.size, 1, none⟩) (by simp only; omega) (.int .i64 v3))
    have P43s := Lib.hid (P43.out.far (p := ⟨w1.heap.size, 1, none⟩) (by simp only; omega) (.int .i64 v3))
    have P53s := Lib.hid (P53.out.set_ 1 (.int .i64 v3))
    have r0 := P43s.out.cell 0
    have r1 := P43s.out.cell 1
    have r2 := P43s.out.cell 2
    have r3 := P43s.out.cell 3
    have r4 := P43s.out.cell 4
    have q0 := P43s.out.frozen 0
    have q1 := P43s.out.frozen 1
    have q2 := P43s.out.frozen 2
    have q3 := P43s.out.frozen 3
    have q4 := P43s.out.frozen 4
    have zr := P43s.out.lt
    go_wp2
    refine bodyPost_ret (v := .agg #[.int .i64 6, .int .i64 v3, .int .i64 0, .slice none 0 0, .int .i64 0]) (by simp [results, Try.results69, go_sem, r0, r1, r2, r3, r4]) rfl ?_
    exact st_ret K3s.out R3s.out (by omega) hgw (show Seg _ 2 none 0 (encT []) from Seg.nil _ _ _) (fun _ _ e => by cases e) (fun h0 => absurd h0 (by omega)) (by omega)
  · have R1 := Lib.hid (HR1.out.alloc (.cells #[.int .i64 7, .int .i64 0, .int .i64 0, .slice none 0 0, .int .i64 0] 59))
    have K1 := Lib.hid (HK1.out.alloc (.cells #[.int .i64 7, .int .i64 0, .int .i64 0, .slice none 0 0, .int .i64 0] 59))
    have P4 := Lib.hid (HB4.out.alloc (.cells #[.int .i64 7, .int .i64 0, .int .i64 0, .slice none 0 0, .int .i64 0] 59))
    have P5 := Lib.hid (Blk.new w1 59 #[.int .i64 7, .int .i64 0, .int .i64 0, .slice none 0 0, .int .i64 0])
    have z5 := P5.out.lt
    clear HK1 HB4 HR1
    go_wp2_with fail
    refine (l1Draw_any g _ 4 _ R1.out (by omega) (by omega)).mono ?_
    rintro e w3 ⟨A3, n3, k3, ts3, bd3, rfl, hl3, hn3, hG3, hK3, hR3⟩
    have R3 := Lib.hid hR3
    have K3 := Lib.hid (K1.out.trans hK3)
    have P43 := Lib.hid (P4.out.kept hK3 (.inr (by omega)))
    have P53 := Lib.hid (P5.out.kept hK3 (.inr (by omega)))
    have z3 := P53.out.lt
    have HG := Lib.hid hG3
    have hzz := hK3.size
    clear hG3
    clear hK3 hR3
    have c0 := P53.out.cell 0
    have f0 := P53.out.frozen 0
    have c1 := P53.out.cell 1
    have f1 := P53.out.frozen 1
    have c2 := P53.out.cell 2
    have f2 := P53.out.frozen 2
    have c3 := P53.out.cell 3
    have f3 := P53.out.frozen 3
    have c4 := P53.out.cell 4
    have f4 := P53.out.frozen 4
    have R3s := Lib.hid ((R3.out.far (p := ⟨w1.heap.size, 3, none⟩) (by simp only; omega) (.slice A3 n3 k3)).far (p := ⟨w1.heap.size, 4, none⟩) (by simp only; omega) (.int .i64 bd3))
    have K3s := Lib.hid ((K3.out.setNew (p := ⟨w1.heap.size, 3, none⟩) (by simp only; omega) (.slice A3 n3 k3)).setNew (p := ⟨w1.heap.size, 4, none⟩) (by simp only; omega) (.int .i64 bd3))
    have P43s := Lib.hid ((P43.out.far (p := ⟨w1.heap.size, 3, none⟩) (by simp only; omega) (.slice A3 n3 k3)).far (p := ⟨w1.heap.size, 4, none⟩) (by simp only; omega) (.int .i64 bd3))
    have P53s := Lib.hid ((P53.out.set_ 3 (.slice A3 n3 k3)).set_ 4 (.int .i64 bd3))
    have KG : Kept w1.heap.size (w1.heap.size + 1) w3 ((w3.setCell ⟨w1.heap.size, 3, none⟩ (.slice A3 n3 k3)).setCell ⟨w1.heap.size, 4, none⟩ (.int .i64 bd3)) := ((Kept.refl _ _ w3).setIn (p := ⟨w1.heap.size, 3, none⟩) (by simp) _).setIn (p := ⟨w1.heap.size, 4, none⟩) (by simp) _
    rw [World.size_alloc] at hzz
    have HL1 : Lies (w1.heap.size + 1) w3.heap.size A3 n3 := by have := HG.out.lies; rw [World.size_alloc] at this; exact this
    have r0 := P43s.out.cell 0
    have r1 := P43s.out.cell 1
    have r2 := P43s.out.cell 2
    have r3 := P43s.out.cell 3
    have r4 := P43s.out.cell 4
    have q0 := P43s.out.frozen 0
    have q1 := P43s.out.frozen 1
    have q2 := P43s.out.frozen 2
    have q3 := P43s.out.frozen 3
    have q4 := P43s.out.frozen 4
    have zr := P43s.out.lt
    go_wp2
    refine bodyPost_ret (v := .agg #[.int .i64 7, .int .i64 0, .int .i64 0, .slice A3 n3 k3, .int .i64 bd3]) (by simp [results, Try.results69, go_sem, r0, r1, r2, r3, r4]) rfl ?_
    exact st_ret K3s.out R3s.out (by omega) hgw (HG.out.seg.kept HL1 KG (.inr (Nat.le_refl _))) (HG.out.free.kept HG.out.seg HL1 KG (.inr (Nat.le_refl _))) (HL1.wide (by omega) KG.size) hn3
  · have R1 := Lib.hid (HR1.out.alloc (.cells #[.int .i64 8, .int .i64 0, .int .i64 0, .slice none 0 0, .int .i64 0] 59))
    have K1 := Lib.hid (HK1.out.alloc (.cells #[.int .i64 8, .int .i64 0, .int .i64 0, .slice none 0 0, .int .i64 0] 59))
    have P4 := Lib.hid (HB4.out.alloc (.cells #[.int .i64 8, .int .i64 0, .int .i64 0, .slice none 0 0, .int .i64 0] 59))
    have P5 := Lib.hid (Blk.new w1 59 #[.int .i64 8, .int .i64 0, .int .i64 0, .slice none 0 0, .int .i64 0])
    have z5 := P5.out.lt
    clear HK1 HB4 HR1
    have c0 := P5.out.cell 0
    go_wp2_with fail
    refine (pick_any _ _ (n + 1) _ R1.out (by omega) (by omega)).mono ?_
    rintro e w3 ⟨v3, rfl, hv3, hK3, hR3⟩
    have R3 := Lib.hid hR3
    have K3 := Lib.hid (K1.out.trans hK3)
    have P43 := Lib.hid (P4.out.kept hK3 (.inr (by omega)))
    have P53 := Lib.hid (P5.out.kept hK3 (.inr (by omega)))
    have z3 := P53.out.lt
    clear hK3 hR3
    clear c0
    have c0 := P53.out.cell 0
    have f0 := P53.out.frozen 0
    have c1 := P53.out.cell 1
    have f1 := P53.out.frozen 1
    have c2 := P53.out.cell 2
    have f2 := P53.out.frozen 2
    have c3 := P53.out.cell 3
    have f3 := P53.out.frozen 3
    have c4 := P53.out.cell 4
    have f4 := P53.out.frozen 4
    have R3s := Lib.hid (R3.out.far (p := ⟨w1.heap.size, 1, none⟩) (by simp only; omega) (.int .i64 v3))
    have K3s := Lib.hid (K3.out.setNew (p := ⟨w1.heap.size, 1, none⟩) (by simp only; omega) (.int .i64 v3))
    have P43s := Lib.hid (P43.out.far (p := ⟨w1.heap.size, 1, none⟩) (by simp only; omega) (.int .i64 v3))
    have P53s := Lib.hid (P53.out.set_ 1 (.int .i64 v3))
    have r0 := P43s.out.cell 0
    have r1 := P43s.out.cell 1
    have r2 := P43s.out.cell 2
    have r3 := P43s.out.cell 3
    have r4 := P43s.out.cell 4
    have q0 := P43s.out.frozen 0
    have q1 := P43s.out.frozen 1
    have q2 := P43s.out.frozen 2
    have q3 := P43s.out.frozen 3
    have q4 := P43s.out.frozen 4
    have zr := P43s.out.lt
    go_wp2
    refine bodyPost_ret (v := .agg #[.int .i64 8, .int .i64 v3, .int .i64 0, .slice none 0 0, .int .i64 0]) (by simp [results, Try.results69, go_sem, r0, r1, r2, r3, r4]) rfl ?_
    exact st_ret K3s.out R3s.out (by omega) hgw (show Seg _ 2 none 0 (encT []) from Seg.nil _ _ _) (fun _ _ e => by cases e) (fun h0 => absurd h0 (by omega)) (by omega)
end

/- Drawn proofs: l4Random. -/
section
open Go.RowKit

theorem oneP : ∀ (hs : List Hd) (ss : List St), ∀ u ∈ encP hs ss, u.oneCell' = true
  | [], _, u, h => by simp [encP] at h
  | _ :: _, [], u, h => by simp [encP] at h
  | h :: hs, s :: ss, u, hu => by
    simp only [encP, List.mem_cons] at hu
    rcases hu with rfl | rfl | rfl | rfl | rfl | hu
    · rfl
    · rfl
    · rfl
    · rfl
    · rfl
    · exact oneP hs ss u hu
theorem cnS_snoc (ss : List St) (s : St) : cnS (ss ++ [s]) = cnS ss ++ [s.2.2.2] := by simp [cnS]
theorem cnS_len (ss : List St) : (cnS ss).length = ss.length := by simp [cnS]
theorem InL.newRow {w : World} {lo m : Nat} {row row' : Option Nat} {hs : List Hd} {cs : List Cn} (h : InL w lo m row hs cs) (hr : ∀ b, row' = some b → w.heap.size ≤ b) : InL w lo m row' hs cs := by
  intro i x c h1 h2
  obtain ⟨q1, q2, q3, q4⟩ := h i x c h1 h2
  exact ⟨q1, q2, q3, fun hn ad e e2 => by have := (q3 hn ad e).2; have := hr _ e2; omega⟩
/-- a row of steps of the call's own, as a list to read -/
theorem segP_own {w : World} {base lo m n c : Nat} {A : Option Addr} {row : Option Nat} {hs : List Hd} {ss : List St} (hm : m ≤ 1048576) (h : w.ownsRow base 59 5 (.slice A n c) n (encP hs ss)) (hl : hs.length = ss.length) (hI : InL w lo m row hs (cnS ss)) : SegP w A n ss ∧ ∀ s ∈ ss, s.2.2.2.1.length ≤ m := by
  have key : ∀ (i : Nat) (h : Hd) (s : St), hs[i]? = some h → ss[i]? = some s → h.2.1 ≤ m ∧ Seg w 2 h.1 h.2.1 (encT s.2.2.2.1) := fun i x s e1 e2 => by
    have e3 : (cnS ss)[i]? = some s.2.2.2 := by simp [cnS, e2]
    have := hI i x _ e1 e3
    exact ⟨this.1, this.2.1⟩
  refine ⟨⟨hs, hl, (own_parts h).1, fun i x s e1 e2 => ⟨Nat.le_trans (key i x s e1 e2).1 (Nat.le_trans hm (by unfold maxLen; omega)), (key i x s e1 e2).2⟩⟩, fun s hs2 => ?_⟩
  obtain ⟨i, hi⟩ := List.getElem?_of_mem hs2
  have hlt : i < hs.length := by rw [hl]; exact (List.getElem?_eq_some_iff.1 hi).1
  have := key i _ s (List.getElem?_eq_getElem hlt) hi
  rw [this.2.lenT]; exact this.1

theorem own_base4 {w : World} {base base' : Nat} {e : TypeId} {sz n : Nat} {v : Value} {xs : List Value} (h : w.ownsRow base e sz v n xs) (hb : base' ≤ base) : w.ownsRow base' e sz v n xs := by
  refine ⟨h.1, ?_⟩
  rcases h.2 with hn | ⟨g, cap, cur, hv, hg, rest⟩
  · exact .inl hn
  · exact .inr ⟨g, cap, cur, hv, Nat.le_trans hb hg, rest⟩

/-- SOME steps, in a row of the call's own -/
def RdPO (N m g L : Nat) (w : World) (e : Ending) (w' : World) : Prop :=
  ∃ A n c hs ss, e = .returned (.slice A n c) ∧ n ≤ N ∧ hs.length = ss.length ∧ w'.ownsRow w.heap.size 59 5 (.slice A n c) n (encP hs ss) ∧ InL w' w.heap.size m (Value.slice A n c).ownBlock hs (cnS ss) ∧ Kept g (g + 1) w w' ∧ Rd w' g L

theorem Try.infoStF : (Try.prog.info? 59).map (fun i => (i.zero, i.size, i.bytes)) = some (some (.agg #[.int .i64 0, .int .i64 0, .int .i64 0, .slice none 0 0, .int .i64 0]), 5, 56) := by kernel_rfl
set_option maxRecDepth 100000 in
set_option maxHeartbeats 8000000 in
theorem l4Random_any (g L m : Nat) (A : Option Addr) (n c : Nat) (cs : List Cn) (w : World) (h : Rd w g L) (hL : L ≤ 600000000) (hn : n ≤ 1000) (hm : m ≤ 1000) (hs0 : LiC w (g + 1) m A n cs) :
    Calls Try.prog 54 #[.pointer (some ⟨g, 0, none⟩), .slice A n c] w (RdPO 8 12 g (L + 600) w) := by
  obtain ⟨i0, hi, hz0, hz1, hz2⟩ := info_parts Try.infoStF
  have HI := Lib.hid hi
  have HZ0 := Lib.hid hz0
  have HZ1 := Lib.hid hz1
  have HZ2 := Lib.hid hz2
  have hgw := h.lt
  have HR := Lib.hid h
  have HLC := Lib.hid hs0
  have OE0 := own_empty w w.heap.size 59 5 (Nat.le_refl _)
  clear hi hz0 hz1 hz2 h hs0
  go_enter Try.func54, Try.ntmps54
  go_wp2_with fail
  refine (num_lit [4, 6, 3, 8, 1, 0] g _ 6 _ _ _ _ (by first | rfl | simp) rfl rfl (by omega) (by omega) (HR.out.alloc _) (by omega)).mono ?_
  rintro e w1 ⟨q, rfl, hq, hK1, hR1⟩
  have hqb : 0 ≤ q ∧ q ≤ 8 := by simp at hq; omega
  obtain ⟨q, rfl⟩ := Int.eq_ofNat_of_zero_le hqb.1
  have HK1 := Lib.hid (((Kept.refl g (g + 1) w).alloc (.cells #[] 59)).trans hK1)
  have HR1 := Lib.hid hR1
  have HO1 := Lib.hid (own_kept OE0 hK1 (by omega))
  clear hq hK1 hR1 HR OE0
  go_wp2_with fail
  go_loopw [5, 6] (fun s0 i wr => ∃ (s : Value) (p j k : Nat) (hs : List Hd) (ss : List St), s = s0 ∧ p + j ≤ 8 ∧ k ≤ p ∧ i = .int .i64 j ∧ hs.length = ss.length ∧ Kept g (g + 1) w wr ∧ Hid (Rd wr g (L + 2 + 70 * p)) ∧ Hid (wr.ownsRow w.heap.size 59 5 s k (encP hs ss)) ∧ Hid (InL wr w.heap.size 12 s.ownBlock hs (cnS ss))) (fun _ i _ => (intOf i).toNat)
  case atStart => exact ⟨_, 0, q, 0, [], [], rfl, by omega, by omega, rfl, rfl, HK1.out, HR1.out.mono (by omega), HO1.out, InL.nil _ _ _ _⟩
  case round =>
    clear HK1 HR1 HO1
    obtain ⟨s, p, j, k, hs, ss, hs0, hp, hk, rfl, hl, hE, hR, hown, hin⟩ := hrel
    subst hs0
    obtain ⟨A5, c5, rfl⟩ := own_slice hown.out
    have HL := Lib.hid hl
    have HKw := Lib.hid hE
    have hzw := hE.size
    clear hl hE
    by_cases hlt : 0 < j
    · have hwj : IntKind.i64.wrap ((j : Int) - 1) = (j : Int) - 1 := IntWalk.i64_in _ (by omega)
      have OE := Lib.hid (own_empty wr wr.heap.size 59 5 (Nat.le_refl _))
      have S1 := Lib.hid ((own_parts hown.out).1.alloc (.cells #[] 59))
      go_wp2_with (first
        | (at_builtin
           refine wpList_append_seg _ rfl (.tmp 18) (.tmp 19) 40 rfl wr.heap.size 59 i0 _ 5 56 Try.underlying40 HI.out HZ0.out HZ1.out HZ2.out rfl (by decide) (.slice (some ⟨wr.heap.size, 0, none⟩) 0 0) 0 [] rfl OE.out A5 k c5 (encP hs ss) rfl S1.out (oneP hs ss) (by unfold maxLen; omega) (by omega) (by simp) ?_
           (intro A2 c2 w2 hown2 hg2)))
      rw [Nat.zero_add, List.nil_append] at hown2
      have X2 := Lib.hid (own_ext ((Ext.refl wr).alloc (.cells #[] 59)) OE.out (Nat.le_refl _) hg2)
      have HO2 := Lib.hid hown2
      have HI2 := Lib.hid ((hin.out.newRow (row' := (Value.slice A2 k c2).ownBlock) (fun b hb => (hown2.lt b hb).1)).ext X2.out)
      have HR2 := Lib.hid (hR.out.ext X2.out)
      have hz2 := X2.out.size
      clear hown2 hg2 OE S1 hR
      refine (l4Step_any g _ ((n : Int) + k) _ HR2.out (by omega) (by omega) (by omega)).mono ?_
      rintro e w3 ⟨x, y, z, As, ns, csn, ts, bd, rfl, hlS, hnS, hGS, hK3, hR3⟩
      have hz3 := hK3.size
      have HKr3 := Lib.hid ((X2.out.kept g (g + 1)).trans hK3)
      have HR3 := Lib.hid hR3
      have HO3 := Lib.hid (own_kept HO2.out hK3 (by omega))
      have HI3 := Lib.hid (HI2.out.kept hK3 (by omega))
      have HGS := Lib.hid hGS
      have hob : Hid (∀ b, (Value.slice A2 k c2).ownBlock = some b → b < w2.heap.size) := fun b hb => (HO2.out.lt b hb).2
      clear hK3 hR3 hGS HR2 HO2 HI2
      have HN : Hid (∀ j u, [Value.int .i64 x, .int .i64 y, .int .i64 z, .slice As ns csn, .int .i64 bd][j]? = some u → (w3.alloc (.cells #[.int .i64 x, .int .i64 y, .int .i64 z, .slice As ns csn, .int .i64 bd] 59)).cell? ((⟨w3.heap.size, 0, none⟩ : Addr).add j) = some u) := World.news_of_block (cs := #[.int .i64 x, .int .i64 y, .int .i64 z, .slice As ns csn, .int .i64 bd]) (t := 59) (fr := (0, 0)) (heap_alloc_new w3 _)
      go_wp2_with (first
        | (at_builtin
           refine wpList_append_lies _ rfl (.tmp 20) (.tmp 28) 40 rfl wr.heap.size 59 i0 _ 5 56 Try.underlying40 HI.out HZ0.out HZ1.out HZ2.out rfl (by decide) (.slice A2 k c2) k _ rfl (HO3.out.alloc _) ⟨w3.heap.size, 0, none⟩ 1 1 [.int .i64 x, .int .i64 y, .int .i64 z, .slice As ns csn, .int .i64 bd] rfl rfl HN.out (by intro u hu; simp at hu; rcases hu with rfl | rfl | rfl | rfl | rfl <;> rfl) (by omega) (by unfold maxLen; omega) (by omega) (by simp; omega) (w3.heap.size + 1) (by simp) ?_
           (intro gg cp w5 hown5 hg5 hat5 hlt5)))
      have KG : Kept wr.heap.size (w3.alloc (.cells #[.int .i64 x, .int .i64 y, .int .i64 z, .slice As ns csn, .int .i64 bd] 59)).heap.size (w3.alloc (.cells #[.int .i64 x, .int .i64 y, .int .i64 z, .slice As ns csn, .int .i64 bd] 59)) w5 := kept_of_grown hg5 fun b hb => ((HO3.out.alloc (.cells #[.int .i64 x, .int .i64 y, .int .i64 z, .slice As ns csn, .int .i64 bd] 59)).lt b hb).1
      have HKr5 := Lib.hid ((HKr3.out.alloc (.cells #[.int .i64 x, .int .i64 y, .int .i64 z, .slice As ns csn, .int .i64 bd] 59)).fresh KG (Nat.le_refl _))
      have HR5 := Lib.hid ((HR3.out.alloc (.cells #[.int .i64 x, .int .i64 y, .int .i64 z, .slice As ns csn, .int .i64 bd] 59)).kept KG (by omega))
      have HI5 : Hid (InL w5 w.heap.size 12 (Value.slice (some ⟨gg, 0, none⟩) (k + 1) cp).ownBlock (hs ++ [(As, ns, csn)]) (cnS (ss ++ [(x, y, z, ts, bd)]))) := by
        have I2 := ((HI3.out.ext ((Ext.refl _).alloc (.cells #[.int .i64 x, .int .i64 y, .int .i64 z, .slice As ns csn, .int .i64 bd] 59))).snoc (cap := csn) (by rw [cnS_len]; exact HL.out) (bd := bd) hnS (HGS.out.seg.alloc _) ((HGS.out.lies.wide (lo' := w.heap.size) (by omega) (by simp))) (fun h0 ad e e2 => by
          have := HGS.out.lies h0 ad e
          have := hob.out _ e2
          omega)).grownTo hg5 hat5 (by simp)
        rw [cnS_snoc]
        exact I2
      have HO5 : Hid (w5.ownsRow wr.heap.size 59 5 (.slice (some ⟨gg, 0, none⟩) (k + 1) cp) (k + 1) (encP (hs ++ [(As, ns, csn)]) (ss ++ [(x, y, z, ts, bd)]))) := by
        rw [encP_snoc hs ss _ _ HL.out]
        simpa [Hid] using hown5
      have HL5 : Hid ((hs ++ [(As, ns, csn)]).length = (ss ++ [(x, y, z, ts, bd)]).length) := by
        unfold Hid; rw [List.length_append, List.length_append, HL.out]; rfl
      have hP5 := segP_own (by omega) HO5.out HL5.out HI5.out
      have HP5 := Lib.hid hP5.1
      have HM5 : Hid (∀ s ∈ ss ++ [(x, y, z, ts, bd)], s.2.2.2.1.length ≤ 1048576) := fun s hs => Nat.le_trans (hP5.2 s hs) (by omega)
      have HS5 := Lib.hid ((HLC.out.kept (HKw.out.trans HKr5.out) (Nat.le_refl _)).segC (by omega))
      have HOs := Lib.hid (own_kept hown.out HKr5.out (by omega))
      have HIs := Lib.hid (hin.out.kept HKr5.out (by omega))
      have hz5 := HKr5.out.size
      clear hown5 hg5 hat5 KG HR3 HO3 HI3 HGS hob hP5 HKr3 HN
      refine (runProof_any A n c cs (some ⟨gg, 0, none⟩) (k + 1) cp (ss ++ [(x, y, z, ts, bd)]) _ (by unfold maxLen; omega) HS5.out HP5.out HM5.out).mono ?_
      rintro e w6 ⟨A6, n6, c6, z6, rfl, hE6⟩
      have HK6 := Lib.hid (HKw.out.trans (HKr5.out.trans (hE6.kept _ _)))
      have HR6 := Lib.hid (HR5.out.ext hE6)
      have HO6 := Lib.hid (own_base4 (own_ext_keep HO5.out hE6) hzw)
      have HI6 := Lib.hid (HI5.out.ext hE6)
      have HOs6 := Lib.hid (own_ext_keep HOs.out hE6)
      have HIs6 := Lib.hid (HIs.out.ext hE6)
      clear hE6 HS5 HP5 HM5 HO5 HI5 HOs HIs HR5 hown hin
      by_cases hz6 : z6 < 0
      · have hb6 : decide (z6 < 0) = true := decide_eq_true hz6
        go_wp2
        go_roundw
        case rel => exact ⟨_, p + 1, j - 1, k + 1, hs ++ [(As, ns, csn)], ss ++ [(x, y, z, ts, bd)], rfl, by omega, by omega, by go_num, HL5.out, HK6.out, HR6.out.mono (by omega), HO6.out, HI6.out⟩
        case measure => simp [intOf]; omega
      · have hb6 : decide (z6 < 0) = false := decide_eq_false hz6
        go_wp2_with fail
        refine (pick_any _ _ 30 _ HR6.out (by omega) (by omega)).mono ?_
        rintro e w7 ⟨i7, rfl, hi7, hK7, hR7⟩
        have HK7 := Lib.hid (HK6.out.trans hK7)
        have HR7 := Lib.hid hR7
        have HO7 := Lib.hid (own_kept HO6.out hK7 (by omega))
        have HI7 := Lib.hid (HI6.out.kept hK7 (by omega))
        have HOs7 := Lib.hid (own_kept HOs6.out hK7 (by omega))
        have HIs7 := Lib.hid (HIs6.out.kept hK7 (by omega))
        clear hi7 hK7 hR7 HK6 HR6 HO6 HI6 HOs6 HIs6
        by_cases h7 : i7 = 0
        · have hb7 : (i7 == 0) = true := by simpa using h7
          go_wp2
          go_roundw
          case rel => exact ⟨_, p + 1, j - 1, k + 1, hs ++ [(As, ns, csn)], ss ++ [(x, y, z, ts, bd)], rfl, by omega, by omega, by go_num, HL5.out, HK7.out, HR7.out.mono (by omega), HO7.out, HI7.out⟩
          case measure => simp [intOf]; omega
        · have hb7 : (i7 == 0) = false := by simpa using h7
          go_wp2
          go_roundw
          case rel => exact ⟨_, p + 1, j - 1, k, hs, ss, rfl, by omega, by omega, by go_num, HL.out, HK7.out, HR7.out.mono (by omega), HOs7.out, HIs7.out⟩
          case measure => simp [intOf]; omega
    · obtain rfl : j = 0 := by omega
      go_wp2
      go_ret
      exact ⟨A5, k, c5, hs, ss, rfl, by omega, HL.out, hown.out, hin.out, HKw.out, hR.out.mono (by omega)⟩
end

/- Drawn proofs: l4Refuted, l4Pair. -/
section
open Go.RowKit

/-- a list of steps, all its blocks from lo on -/
def LiP (w : World) (lo m : Nat) (A : Option Addr) (n : Nat) (ss : List St) : Prop :=
  ∃ hs : List Hd, hs.length = ss.length ∧ Seg w 5 A n (encP hs ss) ∧ Lies lo w.heap.size A n ∧ InL w lo m none hs (cnS ss)
section
variable {w w' : World} {lo m n : Nat} {A : Option Addr} {ss : List St}
theorem LiP.kept {lo' hi' : Nat} (h : LiP w lo m A n ss) (K : Kept lo' hi' w w') (hd : hi' ≤ lo) : LiP w' lo m A n ss := by
  obtain ⟨hs, h1, h2, h3, h4⟩ := h
  exact ⟨hs, h1, h2.kept h3 K (.inr hd), h3.wide (Nat.le_refl _) K.size, h4.kept K hd⟩
theorem LiP.ext (h : LiP w lo m A n ss) (E : Ext w w') : LiP w' lo m A n ss := h.kept E (Nat.zero_le _)
theorem LiP.segP (h : LiP w lo m A n ss) (hm : m ≤ 1048576) : SegP w A n ss ∧ ∀ s ∈ ss, s.2.2.2.1.length ≤ m := by
  obtain ⟨hs, h1, h2, h3, h4⟩ := h
  have key : ∀ (i : Nat) (h : Hd) (s : St), hs[i]? = some h → ss[i]? = some s → h.2.1 ≤ m ∧ Seg w 2 h.1 h.2.1 (encT s.2.2.2.1) := fun i x s e1 e2 => by
    have e3 : (cnS ss)[i]? = some s.2.2.2 := by simp [cnS, e2]
    have := h4 i x _ e1 e3
    exact ⟨this.1, this.2.1⟩
  refine ⟨⟨hs, h1, h2, fun i x s e1 e2 => ⟨Nat.le_trans (key i x s e1 e2).1 (Nat.le_trans hm (by unfold maxLen; omega)), (key i x s e1 e2).2⟩⟩, fun s hs2 => ?_⟩
  obtain ⟨i, hi⟩ := List.getElem?_of_mem hs2
  have hlt : i < hs.length := by rw [h1]; exact (List.getElem?_eq_some_iff.1 hi).1
  have := key i _ s (List.getElem?_eq_getElem hlt) hi
  rw [this.2.lenT]; exact this.1
theorem LiP.own {base lo' c : Nat} {row : Option Nat} {hs : List Hd} (h : w.ownsRow base 59 5 (.slice A n c) n (encP hs ss)) (hl : hs.length = ss.length) (hI : InL w lo' m row hs (cnS ss)) (h1 : lo ≤ base) (h2 : lo ≤ lo') : LiP w lo m A n ss :=
  ⟨hs, hl, (own_parts h).1, (own_parts h).2.2.wide h1 (Nat.le_refl _), (hI.wide h2 (Nat.le_refl _)).norow⟩
theorem LiC.own {base lo' c : Nat} {row : Option Nat} {hs : List Hd} {cs : List Cn} (h : w.ownsRow base 25 2 (.slice A n c) n (encH hs cs)) (hl : hs.length = cs.length) (hI : InL w lo' m row hs cs) (h1 : lo ≤ base) (h2 : lo ≤ lo') : LiC w lo m A n cs :=
  ⟨hs, hl, (own_parts h).1, (own_parts h).2.2.wide h1 (Nat.le_refl _), (hI.wide h2 (Nat.le_refl _)).norow⟩
/-- the head of a list -/
theorem LiC.head {k : Nat} {hs hs' : List Hd} {cs cs' : List Cn} (hl : hs.length = n) (hl2 : cs.length = n) (h : Seg w 2 A (n + k) (encH (hs ++ hs') (cs ++ cs'))) (h3 : Lies lo w.heap.size A (n + k)) (h4 : InL w lo m none (hs ++ hs') (cs ++ cs')) : LiC w lo m A n cs := by
  rw [encH_append hs cs hs' cs' (by rw [hl, hl2])] at h
  have hlen := encH_len hs cs (by rw [hl, hl2])
  refine ⟨hs, by rw [hl, hl2], ⟨by rw [hlen, hl2], fun hn => ?_⟩, fun hn ad e => h3 (by omega) ad e, fun i x c e1 e2 => ?_⟩
  · obtain ⟨b, off, e, hc⟩ := h.2 (by omega)
    exact ⟨b, off, e, fun j u hu => hc j u (by rw [List.getElem?_append_left (List.getElem?_eq_some_iff.1 hu).1]; exact hu)⟩
  · exact h4 i x c (by rw [List.getElem?_append_left (List.getElem?_eq_some_iff.1 e1).1]; exact e1) (by rw [List.getElem?_append_left (List.getElem?_eq_some_iff.1 e2).1]; exact e2)
end

theorem own_cap {w : World} {base g n c sz : Nat} {e : TypeId} {xs : List Value} (h : w.ownsRow base e sz (.slice (some ⟨g, 0, none⟩) n c) n xs) : n ≤ c := by
  rcases h.2 with ⟨hv, _⟩ | ⟨b, cap, cur, hv, _, _, hnc, _⟩
  · cases hv
  · injection hv with _ _ hc; omega

/-- a constraint of two terms, written out, is put behind a row of the call's own -/
theorem lit_push {w2 w3 : World} {lo m n gg cp : Nat} {s : Value} {hs : List Hd} {cs : List Cn} {x a y b bd : Int} (HO : w2.ownsRow lo 25 2 s n (encH hs cs)) (HI : InL w2 lo m s.ownBlock hs cs) (hl : hs.length = cs.length) (hm : 2 ≤ m) (hlo : lo ≤ w2.heap.size)
    (hg : ((w2.alloc (.cells #[.int .i64 x, .int .i64 a, .int .i64 y, .int .i64 b] 38)).alloc (.cells #[.slice (some ⟨w2.heap.size, 0, none⟩) 2 2, .int .i64 bd] 25)).grownBy w3 s.ownBlock)
    (hown : w3.ownsRow lo 25 2 (.slice (some ⟨gg, 0, none⟩) (n + 1) cp) (n + 1) (encH hs cs ++ [.slice (some ⟨w2.heap.size, 0, none⟩) 2 2, .int .i64 bd])) (hat : s.ownBlock = some gg ∨ gg = w2.heap.size + 1 + 1) :
    w3.ownsRow lo 25 2 (.slice (some ⟨gg, 0, none⟩) (n + 1) cp) (n + 1) (encH (hs ++ [(some ⟨w2.heap.size, 0, none⟩, 2, 2)]) (cs ++ [([(x, a), (y, b)], bd)])) ∧ InL w3 lo m (some gg) (hs ++ [(some ⟨w2.heap.size, 0, none⟩, 2, 2)]) (cs ++ [([(x, a), (y, b)], bd)]) ∧
      (hs ++ [((some ⟨w2.heap.size, 0, none⟩, 2, 2) : Hd)]).length = (cs ++ [(([(x, a), (y, b)], bd) : Cn)]).length ∧ (∀ (W0 : World) (g : Nat), Kept g (g + 1) W0 w2 → W0.heap.size ≤ lo → Kept g (g + 1) W0 w3) ∧ (∀ g L : Nat, Rd w2 g L → g < lo → Rd w3 g L) ∧ w2.heap.size ≤ w3.heap.size := by
  have hE : Ext w2 ((w2.alloc (.cells #[.int .i64 x, .int .i64 a, .int .i64 y, .int .i64 b] 38)).alloc (.cells #[.slice (some ⟨w2.heap.size, 0, none⟩) 2 2, .int .i64 bd] 25)) := ((Ext.refl _).alloc _).alloc _
  have hS : Seg ((w2.alloc (.cells #[.int .i64 x, .int .i64 a, .int .i64 y, .int .i64 b] 38)).alloc (.cells #[.slice (some ⟨w2.heap.size, 0, none⟩) 2 2, .int .i64 bd] 25)) 2 (some ⟨w2.heap.size, 0, none⟩) 2 (encT [(x, a), (y, b)]) :=
    (((Blk.new w2 38 #[.int .i64 x, .int .i64 a, .int .i64 y, .int .i64 b]).alloc (.cells #[.slice (some ⟨w2.heap.size, 0, none⟩) 2 2, .int .i64 bd] 25)).got (w := w2) (sz := 2) (n := 2) rfl (Nat.le_refl _)).seg
  have hob : ∀ q, s.ownBlock = some q → q < w2.heap.size := fun q hq => (HO.lt q hq).2
  have I2 := ((HI.ext hE).snoc (cap := 2) hl (bd := bd) hm hS (fun _ ad e => by injection e with e; subst e; exact ⟨hlo, by simp; omega⟩) (fun _ ad e e2 => by injection e with e; subst e; have := hob _ e2; simp only at this; omega)).grownTo hg hat (by simp)
  have KG : Kept lo ((w2.alloc (.cells #[.int .i64 x, .int .i64 a, .int .i64 y, .int .i64 b] 38)).alloc (.cells #[.slice (some ⟨w2.heap.size, 0, none⟩) 2 2, .int .i64 bd] 25)).heap.size ((w2.alloc (.cells #[.int .i64 x, .int .i64 a, .int .i64 y, .int .i64 b] 38)).alloc (.cells #[.slice (some ⟨w2.heap.size, 0, none⟩) 2 2, .int .i64 bd] 25)) w3 := kept_of_grown hg fun q hq => (HO.lt q hq).1
  refine ⟨?_, I2, by rw [List.length_append, List.length_append, hl]; rfl, fun W0 g K hW => (K.trans (hE.kept g (g + 1))).fresh KG hW, fun g L R hgl => (R.ext hE).kept KG hgl, Nat.le_trans hE.size KG.size⟩
  rw [encH_append hs cs _ _ hl]
  simpa [encH] using hown

/-- a step with no constraint given, written out, is put behind a row of the call's own -/
theorem step_push {w7 w8 : World} {base lo lo' m n gg cp : Nat} {s : Value} {hs : List Hd} {ss : List St} {x y z bd : Int} (HO : w7.ownsRow base 59 5 s n (encP hs ss)) (HI : InL w7 lo' m s.ownBlock hs (cnS ss)) (hl : hs.length = ss.length) (h1 : lo ≤ base) (h2 : lo ≤ lo')
    (hg : (w7.alloc (.cells #[.int .i64 x, .int .i64 y, .int .i64 z, .slice none 0 0, .int .i64 bd] 59)).grownBy w8 s.ownBlock)
    (hown : w8.ownsRow base 59 5 (.slice (some ⟨gg, 0, none⟩) (n + 1) cp) (n + 1) (encP hs ss ++ [.int .i64 x, .int .i64 y, .int .i64 z, .slice none 0 0, .int .i64 bd])) (hat : s.ownBlock = some gg ∨ gg = w7.heap.size + 1) :
    LiP w8 lo m (some ⟨gg, 0, none⟩) (n + 1) (ss ++ [(x, y, z, [], bd)]) ∧ (∀ (W0 : World) (g : Nat), Kept g (g + 1) W0 w7 → W0.heap.size ≤ base → Kept g (g + 1) W0 w8) ∧ (∀ g L : Nat, Rd w7 g L → g < base → Rd w8 g L) := by
  have hE : Ext w7 (w7.alloc (.cells #[.int .i64 x, .int .i64 y, .int .i64 z, .slice none 0 0, .int .i64 bd] 59)) := (Ext.refl _).alloc _
  have I2 := ((HI.ext hE).snoc (cap := 0) (A := none) (n := 0) (ts := []) (by rw [cnS_len]; exact hl) (bd := bd) (Nat.zero_le _) (Seg.nil _ _ _) (fun h0 => absurd h0 (by omega)) (fun h0 => absurd h0 (by omega))).grownTo hg hat (by simp)
  have KG : Kept base (w7.alloc (.cells #[.int .i64 x, .int .i64 y, .int .i64 z, .slice none 0 0, .int .i64 bd] 59)).heap.size (w7.alloc (.cells #[.int .i64 x, .int .i64 y, .int .i64 z, .slice none 0 0, .int .i64 bd] 59)) w8 := kept_of_grown hg fun q hq => (HO.lt q hq).1
  have hO : w8.ownsRow base 59 5 (.slice (some ⟨gg, 0, none⟩) (n + 1) cp) (n + 1) (encP (hs ++ [((none, 0, 0) : Hd)]) (ss ++ [(x, y, z, [], bd)])) := by
    rw [encP_snoc hs ss _ _ hl]
    simpa using hown
  rw [← cnS_snoc ss (x, y, z, [], bd)] at I2
  exact ⟨LiP.own hO (by rw [List.length_append, List.length_append, hl]; rfl) I2 h1 h2, fun W0 g K hW => (K.trans (hE.kept g (g + 1))).fresh KG hW, fun g L R hgl => (R.ext hE).kept KG hgl⟩

/-- SOME list, and SOME steps -/
def RdLS (N m g L : Nat) (w : World) (e : Ending) (w' : World) : Prop :=
  ∃ Al nl cl A n c ss, e = .returned (.tuple #[.slice Al nl cl, .slice A n c]) ∧ n ≤ N ∧ LiP w' (g + 1) m A n ss ∧ Kept g (g + 1) w w' ∧ Rd w' g L
theorem RdLS.mono {N m g L L' : Nat} {w : World} {e : Ending} {w' : World} (h : RdLS N m g L w e w') (hl : L ≤ L') : RdLS N m g L' w e w' := by
  obtain ⟨Al, nl, cl, A, n, c, ss, h1, h2, h3, h4, h5⟩ := h
  exact ⟨Al, nl, cl, A, n, c, ss, h1, h2, h3, h4, h5.mono hl⟩

theorem Try.infoCnG : (Try.prog.info? 25).map (fun i => (i.zero, i.size, i.bytes)) = some (some (.agg #[.slice none 0 0, .int .i64 0]), 2, 32) := by kernel_rfl
set_option maxRecDepth 100000 in
set_option maxHeartbeats 8000000 in
theorem l4Refuted_any (g L : Nat) (w : World) (h : Rd w g L) (hL : L ≤ 500000000) :
    Calls Try.prog 51 #[.pointer (some ⟨g, 0, none⟩)] w (RdLS 9 12 g (L + 1200) w) := by
  obtain ⟨i0, hi, hz0, hz1, hz2⟩ := info_parts Try.infoCnG
  have HI := Lib.hid hi
  have HZ0 := Lib.hid hz0
  have HZ1 := Lib.hid hz1
  have HZ2 := Lib.hid hz2
  obtain ⟨i1, hi', hz0', hz1', hz2'⟩ := info_parts Try.infoStF
  have HI' := Lib.hid hi'
  have HZ0' := Lib.hid hz0'
  have HZ1' := Lib.hid hz1'
  have HZ2' := Lib.hid hz2'
  have hgw := h.lt
  have HR := Lib.hid h
  clear hi hz0 hz1 hz2 hi' hz0' hz1' hz2' h
  go_enter Try.func51, Try.ntmps51
  go_wp2_with fail
  refine (l3ProblemO_any g L w HR.out (by omega)).mono ?_
  rintro e w1 ⟨A1, n1, c1, hs1, cs1, rfl, hn1, hl1, hown1, hin1, hK1, hR1⟩
  have hz1 := hK1.size
  have HR1 := Lib.hid hR1
  have HK1 := Lib.hid hK1
  have HO1 := Lib.hid hown1
  have HI1 := Lib.hid hin1
  have HL1 := Lib.hid hl1
  clear hown1 hin1 hK1 hR1 HR hl1
  go_wp2_with fail
  refine (pick_any _ _ 3 _ HR1.out (by omega) (by omega)).mono ?_
  rintro e w2 ⟨a, rfl, ha, hK2, hR2⟩
  have hab : 0 ≤ a ∧ a < 3 := by unfold PickB at ha; omega
  have hwa : IntKind.i64.wrap (1 + a) = 1 + a := IntWalk.i64_in _ (by omega)
  have hwn : IntKind.i64.wrap (-(1 + a)) = -(1 + a) := IntWalk.i64_in _ (by omega)
  have HK2 := Lib.hid (HK1.out.trans hK2)
  have HR2 := Lib.hid hR2
  have HO2 := Lib.hid (own_kept HO1.out hK2 (by omega))
  have HI2 := Lib.hid (HI1.out.kept hK2 (by omega))
  have hz2 := hK2.size
  clear ha hK2 hR2 HR1 HK1 HO1 HI1
  have HN2 : Hid (∀ j u, [Value.slice (some ⟨w2.heap.size, 0, none⟩) 2 2, .int .i64 2][j]? = some u → ((w2.alloc (.cells #[.int .i64 1, .int .i64 (1 + a), .int .i64 1, .int .i64 5] 38)).alloc (.cells #[.slice (some ⟨w2.heap.size, 0, none⟩) 2 2, .int .i64 2] 25)).cell? ((⟨w2.heap.size + 1, 0, none⟩ : Addr).add j) = some u) := World.news_of_block (cs := #[.slice (some ⟨w2.heap.size, 0, none⟩) 2 2, .int .i64 2]) (t := 25) (fr := (0, 0)) (by have := heap_alloc_new (w2.alloc (.cells #[.int .i64 1, .int .i64 (1 + a), .int .i64 1, .int .i64 5] 38)) (.cells #[.slice (some ⟨w2.heap.size, 0, none⟩) 2 2, .int .i64 2] 25); rw [World.size_alloc] at this; exact this)
  go_wp2_with (first
    | (at_builtin
       refine wpList_append_lies _ rfl (.tmp 15) (.tmp 21) 55 rfl w.heap.size 25 i0 _ 2 32 Try.underlying55 HI.out HZ0.out HZ1.out HZ2.out rfl (by decide) (.slice A1 n1 c1) (n1) _ rfl ((HO2.out.alloc _).alloc _) ⟨w2.heap.size + 1, 0, none⟩ 1 1 [.slice (some ⟨w2.heap.size, 0, none⟩) 2 2, .int .i64 2] rfl rfl HN2.out (by intro u hu; simp at hu; rcases hu with rfl | rfl <;> rfl) (by omega) (by unfold maxLen; omega) (by omega) (by simp; omega) (w2.heap.size + 1 + 1) (by simp) ?_
       (intro g3 c3 w3 hownw3 hgw3 hatw3 hltw3)
       (have P3 := Lib.hid (lit_push HO2.out HI2.out HL1.out (by omega) (by omega) hgw3 hownw3 hatw3))
       (have z3 := P3.out.2.2.2.2.2)
       (have HN3 : Hid (∀ j u, [Value.slice (some ⟨w3.heap.size, 0, none⟩) 2 2, .int .i64 1][j]? = some u → ((w3.alloc (.cells #[.int .i64 1, .int .i64 (-(1 + a)), .int .i64 1, .int .i64 (-5)] 38)).alloc (.cells #[.slice (some ⟨w3.heap.size, 0, none⟩) 2 2, .int .i64 1] 25)).cell? ((⟨w3.heap.size + 1, 0, none⟩ : Addr).add j) = some u) := World.news_of_block (cs := #[.slice (some ⟨w3.heap.size, 0, none⟩) 2 2, .int .i64 1]) (t := 25) (fr := (0, 0)) (by have := heap_alloc_new (w3.alloc (.cells #[.int .i64 1, .int .i64 (-(1 + a)), .int .i64 1, .int .i64 (-5)] 38)) (.cells #[.slice (some ⟨w3.heap.size, 0, none⟩) 2 2, .int .i64 1] 25); rw [World.size_alloc] at this; exact this)))
    | (at_builtin
       refine wpList_append_lies _ rfl (.tmp 23) (.tmp 30) 55 rfl w.heap.size 25 i0 _ 2 32 Try.underlying55 HI.out HZ0.out HZ1.out HZ2.out rfl (by decide) (.slice (some ⟨g3, 0, none⟩) (n1 + 1) c3) (n1 + 1) _ rfl ((P3.out.1.alloc _).alloc _) ⟨w3.heap.size + 1, 0, none⟩ 1 1 [.slice (some ⟨w3.heap.size, 0, none⟩) 2 2, .int .i64 1] rfl rfl HN3.out (by intro u hu; simp at hu; rcases hu with rfl | rfl <;> rfl) (by omega) (by unfold maxLen; omega) (by omega) (by simp; omega) (w3.heap.size + 1 + 1) (by simp) ?_
       (intro g4 c4 w4 hownw4 hgw4 hatw4 hltw4)
       (have P4 := Lib.hid (lit_push P3.out.1 P3.out.2.1 P3.out.2.2.1 (by omega) (by omega) hgw4 hownw4 hatw4))
       (have z4 := P4.out.2.2.2.2.2)
       (have hcap4 := own_cap P4.out.1)
       (have hb1 : (2 : Int) ≤ (n1 : Int) + 1 + 1 := by omega)
       (have hb2 : (n1 : Int) + 1 + 1 - 2 ≤ (c4 : Int) := by omega)
       (have hb3 : ¬ c4 = 0 := by omega)))
  have hnn : n1 + 1 + 1 - 2 = n1 := by omega
  simp only [hnn]
  have K3 := P3.out.2.2.2.1 w g HK2.out (Nat.le_refl _)
  have K4 := Lib.hid (P4.out.2.2.2.1 w g K3 (Nat.le_refl _))
  have R4 := Lib.hid (P4.out.2.2.2.2.1 g _ (P3.out.2.2.2.2.1 g _ HR2.out hgw) hgw)
  have P4' := P4.out
  have hl1' : hs1.length = n1 := by
    have := HO2.out.1
    rw [encH_len hs1 cs1 HL1.out] at this
    have := HL1.out
    omega
  have HA4 : Hid (LiC w4 (g + 1) 12 (some ⟨g4, 0, none⟩) (n1 + 1 + 1) (cs1 ++ [([(1, 1 + a), (1, 5)], 2)] ++ [([(1, -(1 + a)), (1, -5)], 1)])) := LiC.own P4'.1 P4'.2.2.1 P4'.2.1 (by omega) (by omega)
  have HC4 : Hid (LiC w4 (g + 1) 12 (some ⟨g4, 0, none⟩) n1 cs1) := by
    have hP := own_parts P4'.1
    have hS := hP.1
    have hI := (P4'.2.1.wide (lo' := g + 1) (m' := 12) (by omega) (Nat.le_refl _)).norow
    rw [List.append_assoc, List.append_assoc] at hS hI
    exact LiC.head (k := 2) hl1' (by have := HL1.out; omega) hS (hP.2.2.wide (by omega) (Nat.le_refl _)) hI
  clear K3 P4' P3 P4 HK2 HR2 HO2 HI2 HN2 HN3 hownw3 hgw3 hatw3 hownw4 hgw4 hatw4
  refine (l4Random_any g _ 12 (some ⟨g4, 0, none⟩) n1 c4 cs1 _ R4.out (by omega) (by omega) (by omega) HC4.out).mono ?_
  rintro e w5 ⟨A5, n5, c5, hs5, ss5, rfl, hn5, hl5, hO5, hI5, hK5, hR5⟩
  have HA5 := Lib.hid (HA4.out.kept hK5 (Nat.le_refl _))
  have HK5 := Lib.hid (K4.out.trans hK5)
  have HR5 := Lib.hid hR5
  have HO5 := Lib.hid hO5
  have HI5 := Lib.hid hI5
  have HL5 := Lib.hid hl5
  have hP5 := segP_own (by omega) hO5 hl5 hI5
  have HP5 := Lib.hid hP5.1
  have HM5 : Hid (∀ s ∈ ss5, s.2.2.2.1.length ≤ 1048576) := fun s hs => Nat.le_trans (hP5.2 s hs) (by omega)
  have hz5 := hK5.size
  have hz4w := K4.out.size
  clear hK5 hR5 hO5 hI5 hl5 hP5 K4 R4 HA4 HC4
  go_wp2_with fail
  refine (runProof_any (some ⟨g4, 0, none⟩) (n1 + 1 + 1) c4 _ A5 n5 c5 ss5 _ (by unfold maxLen; omega) (HA5.out.segC (by omega)) HP5.out HM5.out).mono ?_
  rintro e w6 ⟨A6, n6, c6, z6, rfl, hE6⟩
  by_cases hz6 : 0 ≤ z6
  · have hb6 : decide (0 ≤ z6) = true := decide_eq_true hz6
    have HE6 := Lib.hid (hE6.alloc (.cells #[] 59))
    have HK6 := Lib.hid (HK5.out.trans (HE6.out.kept _ _))
    have HR6 := Lib.hid (HR5.out.ext HE6.out)
    have HO6 := Lib.hid (own_empty w6 w6.heap.size 59 5 (Nat.le_refl _))
    have HI6 : Hid (InL (w6.alloc (.cells #[] 59)) w.heap.size 12 (Value.slice (some ⟨w6.heap.size, 0, none⟩) 0 0).ownBlock [] (cnS [])) := InL.nil _ _ _ _
    have hz6' := hE6.size
    have hza : (w6.alloc (.cells #[] 59)).heap.size = w6.heap.size + 1 := by simp
    clear hE6 HK5 HR5 HO5 HI5 HA5 HP5 HM5
    go_wp2_with fail
    refine (pick_any _ _ 2 _ HR6.out (by omega) (by omega)).mono ?_
    rintro e w7 ⟨j7, rfl, hj7, hK7, hR7⟩
    have HK7 := Lib.hid (HK6.out.trans hK7)
    have HR7 := Lib.hid hR7
    have HO7 := Lib.hid (own_kept HO6.out hK7 (by omega))
    have HI7 := Lib.hid (HI6.out.kept hK7 (by omega))
    have hz7 := hK7.size
    clear hj7 hK7 hR7
    by_cases h7 : j7 = 0
    · have hb7 : (j7 == 0) = true := by simpa using h7
      have HN : Hid (∀ j u, [.int .i64 7, .int .i64 0, .int .i64 0, .slice none 0 0, .int .i64 1][j]? = some u → (w7.alloc (.cells #[.int .i64 7, .int .i64 0, .int .i64 0, .slice none 0 0, .int .i64 1] 59)).cell? ((⟨w7.heap.size, 0, none⟩ : Addr).add j) = some u) := World.news_of_block (cs := #[.int .i64 7, .int .i64 0, .int .i64 0, .slice none 0 0, .int .i64 1]) (t := 59) (fr := (0, 0)) (heap_alloc_new w7 _)
      go_wp2_with (first
        | (at_builtin
           refine wpList_append_lies _ rfl (.tmp 59) (.tmp 62) 40 rfl w6.heap.size 59 i1 _ 5 56 Try.underlying40 HI'.out HZ0'.out HZ1'.out HZ2'.out rfl (by decide) (.slice (some ⟨w6.heap.size, 0, none⟩) 0 0) (0) _ rfl (HO7.out.alloc _) ⟨w7.heap.size, 0, none⟩ 1 1 [.int .i64 7, .int .i64 0, .int .i64 0, .slice none 0 0, .int .i64 1] rfl rfl HN.out (by intro u hu; simp at hu; rcases hu with rfl | rfl | rfl | rfl | rfl <;> rfl) (by omega) (by unfold maxLen; omega) (by omega) (by simp; omega) (w7.heap.size + 1) (by simp) ?_
           (intro g8 c8 w8 hown8 hg8 hat8 hlt8)))
      have P8 := step_push HO7.out HI7.out rfl (lo := g + 1) (by omega) (by omega) hg8 hown8 hat8
      go_wp2
      refine bodyPost_ret (v := .tuple #[.slice (some ⟨g4, 0, none⟩) (n1 + 1 + 1) c4, .slice (some ⟨g8, 0, none⟩) (0 + 1) c8]) (by simp [results, Try.results51, go_sem]) rfl ?_
      exact ⟨_, _, _, _, _, _, _, rfl, by omega, P8.1, P8.2.1 _ _ HK7.out (by omega), (P8.2.2 _ _ HR7.out (by omega)).mono (by omega)⟩
    · have hb7 : (j7 == 0) = false := by simpa using h7
      have HN : Hid (∀ j u, [.int .i64 1, .int .i64 ((n1 : Int) + 1 + 1 - 2), .int .i64 ((n1 : Int) + 1), .slice none 0 0, .int .i64 0][j]? = some u → (w7.alloc (.cells #[.int .i64 1, .int .i64 ((n1 : Int) + 1 + 1 - 2), .int .i64 ((n1 : Int) + 1), .slice none 0 0, .int .i64 0] 59)).cell? ((⟨w7.heap.size, 0, none⟩ : Addr).add j) = some u) := World.news_of_block (cs := #[.int .i64 1, .int .i64 ((n1 : Int) + 1 + 1 - 2), .int .i64 ((n1 : Int) + 1), .slice none 0 0, .int .i64 0]) (t := 59) (fr := (0, 0)) (heap_alloc_new w7 _)
      go_wp2_with (first
        | (at_builtin
           refine wpList_append_lies _ rfl (.tmp 65) (.tmp 71) 40 rfl w6.heap.size 59 i1 _ 5 56 Try.underlying40 HI'.out HZ0'.out HZ1'.out HZ2'.out rfl (by decide) (.slice (some ⟨w6.heap.size, 0, none⟩) 0 0) (0) _ rfl (HO7.out.alloc _) ⟨w7.heap.size, 0, none⟩ 1 1 [.int .i64 1, .int .i64 ((n1 : Int) + 1 + 1 - 2), .int .i64 ((n1 : Int) + 1), .slice none 0 0, .int .i64 0] rfl rfl HN.out (by intro u hu; simp at hu; rcases hu with rfl | rfl | rfl | rfl | rfl <;> rfl) (by omega) (by unfold maxLen; omega) (by omega) (by simp; omega) (w7.heap.size + 1) (by simp) ?_
           (intro g8 c8 w8 hown8 hg8 hat8 hlt8)))
      have P8 := step_push HO7.out HI7.out rfl (lo := g + 1) (by omega) (by omega) hg8 hown8 hat8
      go_wp2
      refine bodyPost_ret (v := .tuple #[.slice (some ⟨g4, 0, none⟩) (n1 + 1 + 1) c4, .slice (some ⟨g8, 0, none⟩) (0 + 1) c8]) (by simp [results, Try.results51, go_sem]) rfl ?_
      exact ⟨_, _, _, _, _, _, _, rfl, by omega, P8.1, P8.2.1 _ _ HK7.out (by omega), (P8.2.2 _ _ HR7.out (by omega)).mono (by omega)⟩
  · have hb6 : decide (0 ≤ z6) = false := decide_eq_false hz6
    have HK6 := Lib.hid (HK5.out.trans (hE6.kept _ _))
    have HR6 := Lib.hid (HR5.out.ext hE6)
    have HO6 := Lib.hid (own_ext_keep HO5.out hE6)
    have HI6 := Lib.hid (HI5.out.ext hE6)
    have hz6' := hE6.size
    clear hE6 HK5 HR5 HO5 HI5 HA5 HP5 HM5
    go_wp2_with fail
    refine (pick_any _ _ 2 _ HR6.out (by omega) (by omega)).mono ?_
    rintro e w7 ⟨j7, rfl, hj7, hK7, hR7⟩
    have HK7 := Lib.hid (HK6.out.trans hK7)
    have HR7 := Lib.hid hR7
    have HO7 := Lib.hid (own_kept HO6.out hK7 (by omega))
    have HI7 := Lib.hid (HI6.out.kept hK7 (by omega))
    have hz7 := hK7.size
    clear hj7 hK7 hR7
    by_cases h7 : j7 = 0
    · have hb7 : (j7 == 0) = true := by simpa using h7
      have HN : Hid (∀ j u, [.int .i64 7, .int .i64 0, .int .i64 0, .slice none 0 0, .int .i64 1][j]? = some u → (w7.alloc (.cells #[.int .i64 7, .int .i64 0, .int .i64 0, .slice none 0 0, .int .i64 1] 59)).cell? ((⟨w7.heap.size, 0, none⟩ : Addr).add j) = some u) := World.news_of_block (cs := #[.int .i64 7, .int .i64 0, .int .i64 0, .slice none 0 0, .int .i64 1]) (t := 59) (fr := (0, 0)) (heap_alloc_new w7 _)
      go_wp2_with (first
        | (at_builtin
           refine wpList_append_lies _ rfl (.tmp 59) (.tmp 62) 40 rfl w4.heap.size 59 i1 _ 5 56 Try.underlying40 HI'.out HZ0'.out HZ1'.out HZ2'.out rfl (by decide) (.slice A5 n5 c5) (n5) _ rfl (HO7.out.alloc _) ⟨w7.heap.size, 0, none⟩ 1 1 [.int .i64 7, .int .i64 0, .int .i64 0, .slice none 0 0, .int .i64 1] rfl rfl HN.out (by intro u hu; simp at hu; rcases hu with rfl | rfl | rfl | rfl | rfl <;> rfl) (by omega) (by unfold maxLen; omega) (by omega) (by simp; omega) (w7.heap.size + 1) (by simp) ?_
           (intro g8 c8 w8 hown8 hg8 hat8 hlt8)))
      have P8 := step_push HO7.out HI7.out HL5.out (lo := g + 1) (by omega) (by omega) hg8 hown8 hat8
      go_wp2
      refine bodyPost_ret (v := .tuple #[.slice (some ⟨g4, 0, none⟩) (n1 + 1 + 1) c4, .slice (some ⟨g8, 0, none⟩) (n5 + 1) c8]) (by simp [results, Try.results51, go_sem]) rfl ?_
      exact ⟨_, _, _, _, _, _, _, rfl, by omega, P8.1, P8.2.1 _ _ HK7.out (by omega), (P8.2.2 _ _ HR7.out (by omega)).mono (by omega)⟩
    · have hb7 : (j7 == 0) = false := by simpa using h7
      have HN : Hid (∀ j u, [.int .i64 1, .int .i64 ((n1 : Int) + 1 + 1 - 2), .int .i64 ((n1 : Int) + 1), .slice none 0 0, .int .i64 0][j]? = some u → (w7.alloc (.cells #[.int .i64 1, .int .i64 ((n1 : Int) + 1 + 1 - 2), .int .i64 ((n1 : Int) + 1), .slice none 0 0, .int .i64 0] 59)).cell? ((⟨w7.heap.size, 0, none⟩ : Addr).add j) = some u) := World.news_of_block (cs := #[.int .i64 1, .int .i64 ((n1 : Int) + 1 + 1 - 2), .int .i64 ((n1 : Int) + 1), .slice none 0 0, .int .i64 0]) (t := 59) (fr := (0, 0)) (heap_alloc_new w7 _)
      go_wp2_with (first
        | (at_builtin
           refine wpList_append_lies _ rfl (.tmp 65) (.tmp 71) 40 rfl w4.heap.size 59 i1 _ 5 56 Try.underlying40 HI'.out HZ0'.out HZ1'.out HZ2'.out rfl (by decide) (.slice A5 n5 c5) (n5) _ rfl (HO7.out.alloc _) ⟨w7.heap.size, 0, none⟩ 1 1 [.int .i64 1, .int .i64 ((n1 : Int) + 1 + 1 - 2), .int .i64 ((n1 : Int) + 1), .slice none 0 0, .int .i64 0] rfl rfl HN.out (by intro u hu; simp at hu; rcases hu with rfl | rfl | rfl | rfl | rfl <;> rfl) (by omega) (by unfold maxLen; omega) (by omega) (by simp; omega) (w7.heap.size + 1) (by simp) ?_
           (intro g8 c8 w8 hown8 hg8 hat8 hlt8)))
      have P8 := step_push HO7.out HI7.out HL5.out (lo := g + 1) (by omega) (by omega) hg8 hown8 hat8
      go_wp2
      refine bodyPost_ret (v := .tuple #[.slice (some ⟨g4, 0, none⟩) (n1 + 1 + 1) c4, .slice (some ⟨g8, 0, none⟩) (n5 + 1) c8]) (by simp [results, Try.results51, go_sem]) rfl ?_
      exact ⟨_, _, _, _, _, _, _, rfl, by omega, P8.1, P8.2.1 _ _ HK7.out (by omega), (P8.2.2 _ _ HR7.out (by omega)).mono (by omega)⟩
end

/- Drawn proofs: l4Pair, DrawProofSame. -/
section
open Go.RowKit

theorem LiP.wide {w : World} {lo lo' m m' n : Nat} {A : Option Addr} {ss : List St} (h : LiP w lo m A n ss) (h1 : lo' ≤ lo) (h2 : m ≤ m') : LiP w lo' m' A n ss := by
  obtain ⟨hs, q1, q2, q3, q4⟩ := h
  exact ⟨hs, q1, q2, q3.wide h1 (Nat.le_refl _), q4.wide h1 h2⟩

set_option maxRecDepth 100000 in
set_option maxHeartbeats 4000000 in
theorem l4Pair_any (g L : Nat) (w : World) (h : Rd w g L) (hL : L ≤ 400000000) :
    Calls Try.prog 39 #[.pointer (some ⟨g, 0, none⟩)] w (RdLS 9 15 g (L + 2000) w) := by
  have hgw := h.lt
  have HR := Lib.hid h
  clear h
  go_enter Try.func39, Try.ntmps39
  go_wp2_with fail
  refine (pick_any _ _ 2 _ HR.out (by omega) (by omega)).mono ?_
  rintro e w1 ⟨j, rfl, hj, hK1, hR1⟩
  have hz1 := hK1.size
  have HK1 := Lib.hid hK1
  have HR1 := Lib.hid hR1
  clear hj hK1 hR1 HR
  by_cases h0 : j = 0
  · have hb : (j == 0) = true := by simpa using h0
    go_wp2_with fail
    refine (l4Refuted_any g _ _ HR1.out (by omega)).mono ?_
    rintro e w2 ⟨Al, nl, cl, A, n, c, ss, rfl, hn, hP, hK2, hR2⟩
    go_wp2
    refine bodyPost_ret (v := .tuple #[.slice Al nl cl, .slice A n c]) (by simp [results, Try.results39, go_sem]) rfl ?_
    exact ⟨Al, nl, cl, A, n, c, ss, rfl, hn, hP.wide (Nat.le_refl _) (by omega), HK1.out.trans hK2, hR2.mono (by omega)⟩
  · have hb : (j == 0) = false := by simpa using h0
    go_wp2_with fail
    refine (l3Problem_any g _ _ HR1.out (by omega)).mono ?_
    rintro e w2 ⟨A2, n2, c2, cs2, rfl, hn2, hC2, hK2, hR2⟩
    have HK2 := Lib.hid (HK1.out.trans hK2)
    have HR2 := Lib.hid hR2
    have HC2 := Lib.hid hC2
    have hz2 := hK2.size
    clear hK2 hR2 hC2 HR1 HK1
    go_wp2_with fail
    refine (l3Mutate_any g _ 12 A2 n2 c2 cs2 _ HR2.out (by omega) (by omega) (by omega) HC2.out).mono ?_
    rintro e w3 ⟨A3, n3, c3, cs3, rfl, hn3, hC3, hK3, hR3⟩
    have HK3 := Lib.hid (HK2.out.trans hK3)
    have HR3 := Lib.hid hR3
    have HC3 := Lib.hid hC3
    have hz3 := hK3.size
    clear hK3 hR3 hC3 HR2 HK2 HC2
    go_wp2_with fail
    refine (l4Random_any g _ 15 A3 n3 c3 cs3 _ HR3.out (by omega) (by omega) (by omega) HC3.out).mono ?_
    rintro e w4 ⟨A, n, c, hs, ss, rfl, hn, hl, hO, hI, hK4, hR4⟩
    go_wp2
    refine bodyPost_ret (v := .tuple #[.slice A3 n3 c3, .slice A n c]) (by simp [results, Try.results39, go_sem]) rfl ?_
    exact ⟨A3, n3, c3, A, n, c, ss, rfl, by omega, LiP.own hO hl (hI.wide (Nat.le_refl _) (by omega)) (by omega) (by omega), HK3.out.trans hK4, hR4.mono (by omega)⟩

theorem own_setN {w : World} {base : Nat} {e : TypeId} {n c g sz : Nat} {xs : List Value} (h : w.ownsRow base e sz (.slice (some ⟨g, 0, none⟩) n c) n xs) (j : Nat) (u : Value) : (w.setCell ⟨g, j, none⟩ u).ownsRow base e sz (.slice (some ⟨g, 0, none⟩) n c) n (xs.set j u) := by
  rcases h.2 with ⟨hv, _⟩ | ⟨b, cap, cur, hv, hb, hgg, hnc, hcm, hcs, htake⟩
  · cases hv
  · injection hv with hA _ hc
    injection hA with hA
    injection hA with hA _ _
    subst hA; subst hc
    refine ⟨by simp [h.1], .inr ⟨g, c, cur.setIfInBounds j u, rfl, hb, ?_, hnc, hcm, by simp [hcs], ?_⟩⟩
    · exact Blk.set_ (show Blk w g e cur from hgg) j u
    · rw [← htake]
      simp [List.take_set]
/-- SOME two lists of steps -/
def RetPP (w : World) (e : Ending) (w' : World) : Prop :=
  ∃ A n c ss B m d us, e = .returned (.tuple #[.slice A n c, .slice B m d]) ∧ n ≤ 9 ∧ m ≤ 9 ∧ SegP w' A n ss ∧ SegP w' B m us ∧ Ext w w'
set_option maxRecDepth 100000 in
set_option maxHeartbeats 4000000 in
theorem drawPS_any (A : Option Addr) (n c : Nat) (bs : List Int) (w : World) (hn : n ≤ maxLen) (hc : n ≤ c) (hs : Seg w 1 A n (encY bs)) (hb : bytesB bs) :
    Calls Try.prog 18 #[.slice A n c] w (RetPP w) := by
  obtain ⟨i0, hi, hz0, hz1, hz2⟩ := info_parts Try.infoStF
  have HI := Lib.hid hi
  have HZ0 := Lib.hid hz0
  have HZ1 := Lib.hid hz1
  have HZ2 := Lib.hid hz2
  clear hi hz0 hz1 hz2
  go_enter Try.func18, Try.ntmps18
  go_wp2_with fail
  refine (open_any A n c bs _ hn hc hs hb).mono ?_
  rintro e w1 ⟨rfl, hE1, hR1⟩
  have HE1 := Lib.hid hE1
  have HR1 := Lib.hid hR1
  have hg := hR1.lt
  clear hs hb hE1 hR1
  go_wp2_with fail
  refine (l4Pair_any w.heap.size _ _ HR1.out (by omega)).mono ?_
  rintro e w2 ⟨Al, nl, cl, A2, n2, c2, ss, rfl, hn2, hP2, hK2, hR2⟩
  have HE2 := Lib.hid (HE1.out.fresh hK2 (Nat.le_refl _))
  have HR2 := Lib.hid hR2
  have HP2 := Lib.hid hP2
  have hz2 := hK2.size
  clear hK2 hR2 hP2 HR1 HE1
  go_wp2_with fail
  refine (pick_any _ _ 2 _ HR2.out (by omega) (by omega)).mono ?_
  rintro e w3 ⟨j, rfl, hj, hK3, hR3⟩
  have HE3 := Lib.hid (HE2.out.fresh hK3 (Nat.le_refl _))
  have HR3 := Lib.hid hR3
  have HP3 := Lib.hid (HP2.out.kept hK3 (Nat.le_refl _))
  have hz3 := hK3.size
  clear hj hK3 hR3 HR2 HP2 HE2
  by_cases h0 : j = 0
  · have hb : (j == 0) = true := by simpa using h0
    go_wp2_with fail
    refine (l4Pair_any w.heap.size _ _ HR3.out (by omega)).mono ?_
    rintro e w4 ⟨Bl, ml, dl, B, m, d, us, rfl, hm, hP4, hK4, hR4⟩
    go_wp2
    refine bodyPost_ret (v := .tuple #[.slice A2 n2 c2, .slice B m d]) (by simp [results, Try.results18, go_sem]) rfl ?_
    exact ⟨A2, n2, c2, ss, B, m, d, us, rfl, hn2, hm, ((HP3.out.kept hK4 (Nat.le_refl _)).segP (by omega)).1, (hP4.segP (by omega)).1, HE3.out.fresh hK4 (Nat.le_refl _)⟩
  · have hb : (j == 0) = false := by simpa using h0
    obtain ⟨hs, hl, hS, hLi, hIn⟩ := HP3.out
    have HS := Lib.hid (hS.alloc (.cells #[] 59))
    have HL := Lib.hid hl
    have HIn := Lib.hid hIn
    have HS3 := Lib.hid hS
    have HLi3 := Lib.hid hLi
    have OE := Lib.hid (own_empty w3 w3.heap.size 59 5 (Nat.le_refl _))
    have HLn : Hid (ss.length = n2) := by have := hS.1; rw [encP_len hs ss hl] at this; unfold Hid; omega
    clear hl hS hLi hIn
    by_cases hn0 : 0 < n2
    · have hb0 : decide ((0 : Int) < (n2 : Int)) = true := decide_eq_true (by omega)
      go_wp2_with (first
        | (at_builtin
           refine wpList_append_seg _ rfl (.tmp 27) (.tmp 28) 40 rfl w3.heap.size 59 i0 _ 5 56 Try.underlying40 HI.out HZ0.out HZ1.out HZ2.out rfl (by decide) (.slice (some ⟨w3.heap.size, 0, none⟩) 0 0) 0 [] rfl OE.out A2 n2 c2 (encP hs ss) rfl HS.out (oneP hs ss) (by unfold maxLen; omega) (by omega) (by simp) ?_
           (intro B4 d4 w4 hown4 hg4)
           (simp only [Nat.zero_add, List.nil_append] at hown4)
           (have HO4 := Lib.hid hown4)
           (have X4 := Lib.hid (own_ext ((Ext.refl w3).alloc (.cells #[] 59)) OE.out (Nat.le_refl _) hg4))
           (simp only [Nat.zero_add])
           (clear hown4 hg4)))
      have HI4 := Lib.hid (HIn.out.ext X4.out)
      have HR4 := Lib.hid (HR3.out.ext X4.out)
      have hz4 := X4.out.size
      clear HR3 HS OE HI HZ0 HZ1 HZ2
      refine (pick_any _ _ 2 _ HR4.out (by omega) (by omega)).mono ?_
      rintro e w5 ⟨i5, rfl, hi5, hK5, hR5⟩
      have hg3 : w.heap.size + 1 ≤ w3.heap.size := by omega
      have HO5 := Lib.hid (own_kept HO4.out hK5 hg3)
      have HI5 := Lib.hid (HI4.out.kept hK5 (Nat.le_refl _))
      have HP5 := Lib.hid ((HP3.out.ext X4.out).kept hK5 (Nat.le_refl _))
      have HE5 := Lib.hid ((HE3.out.trans X4.out).fresh hK5 (Nat.le_refl _))
      have HS5s := Lib.hid ((HS3.out.ext X4.out).kept (HLi3.out.wide (Nat.le_refl _) X4.out.size) hK5 (.inr (Nat.le_refl _)))
      have hz5 := hK5.size
      have hS5 := segP_own (m := 15) (by omega) HO5.out HL.out HI5.out
      have HS5 := Lib.hid hS5.1
      clear hi5 hK5 hR5 HO4 HI4 HR4 hS5
      by_cases h5 : i5 = 0
      · have hb5 : (i5 == 0) = true := by simpa using h5
        obtain ⟨b, off, x, y, z, Ag, ng, cg, tg, ug, rfl, hx, t1, t2, t3, t4, t5, hng, hSg⟩ := HS5.out.at_ hn0
        obtain ⟨hb0', hoff⟩ : w3.heap.size ≤ b ∧ off = 0 := by
          rcases HO5.out.2 with ⟨hv, _⟩ | ⟨g, cap, cur, hv, hgb, _⟩
          · cases hv
          · injection hv with hA _ _
            injection hA with hA
            injection hA with e1 e2 _
            subst e1; exact ⟨hgb, e2⟩
        subst hoff
        have f2 := (own_parts HO5.out).2.1 _ _ rfl 1 (by omega)
        rw [Nat.zero_mul, Nat.zero_add] at t2
        rw [Nat.zero_add] at f2
        have hbl := World.block_lt_of_cell? _ _ t2
        simp only at hbl
        obtain ⟨v, hv⟩ : ∃ v, IntKind.i64.wrap (y + 1) = v := ⟨_, rfl⟩
        have HOs := Lib.hid (own_setN HO5.out 1 (.int .i64 v))
        have hss : Hid (∃ us, us.length = ss.length ∧ (encP hs ss).set 1 (.int .i64 v) = encP hs us ∧ cnS us = cnS ss) := by
          have h1 := HL.out
          have h2 := HLn.out
          match hs, ss, h1, h2 with
          | _, [], _, h2 => simp at h2; omega
          | [], _ :: _, h1, _ => simp at h1
          | h :: hs, s :: ss, _, _ => exact ⟨(s.1, v, s.2.2.1, s.2.2.2) :: ss, rfl, rfl, rfl⟩
        obtain ⟨us, hu1, hu2, hu3⟩ := hss.out
        have HOu := Lib.hid HOs.out
        rw [hu2] at HOu
        have HIu : Hid (InL (w5.setCell ⟨b, 1, none⟩ (.int .i64 v)) (w.heap.size + 1) 15 none hs (cnS us)) := by
          rw [hu3]
          intro i q cc e1 e2
          obtain ⟨q1, q2, q3, q4⟩ := HI5.out i q cc e1 e2
          obtain ⟨_, _, o3, _⟩ := HIn.out i q cc e1 e2
          exact ⟨q1, seg_off q2 (p := ⟨b, 1, none⟩) (fun hn ad e => by have := (o3 hn ad e).2; simp only; omega) _, q3.wide (Nat.le_refl _) (by simp), q4⟩
        have HPs : Hid (SegP (w5.setCell ⟨b, 1, none⟩ (.int .i64 v)) A2 n2 ss) := by
          refine ⟨hs, HL.out, seg_off HS5s.out (p := ⟨b, 1, none⟩) (fun hn ad e => by have := (HLi3.out hn ad e).2; simp only; omega) _, fun i q cc e1 e2 => ?_⟩
          have e3 : (cnS ss)[i]? = some cc.2.2.2 := by simp [cnS, e2]
          obtain ⟨q1, q2, q3, q4⟩ := HI5.out i q _ e1 e3
          obtain ⟨_, _, o3, _⟩ := HIn.out i q _ e1 e3
          exact ⟨Nat.le_trans q1 (by unfold maxLen; omega), seg_off q2 (p := ⟨b, 1, none⟩) (fun hn ad e => by have := (o3 hn ad e).2; simp only; omega) _⟩
        clear t1 t3 t4 t5 hSg hx hss HOs
        go_wp2
        refine bodyPost_ret (v := .tuple #[.slice A2 n2 c2, .slice (some ⟨b, 0, none⟩) n2 d4]) (by simp [results, Try.results18, go_sem]) rfl ?_
        exact ⟨A2, n2, c2, ss, _, n2, d4, us, rfl, hn2, hn2, HPs.out, (segP_own (m := 15) (by omega) HOu.out (by rw [HL.out, hu1]) HIu.out).1, HE5.out.setNew (p := ⟨b, 1, none⟩) (by simp only; omega) _⟩
      · have hb5 : (i5 == 0) = false := by simpa using h5
        go_wp2
        refine bodyPost_ret (v := .tuple #[.slice A2 n2 c2, .slice B4 n2 d4]) (by simp [results, Try.results18, go_sem]) rfl ?_
        exact ⟨A2, n2, c2, ss, B4, n2, d4, ss, rfl, hn2, hn2, (HP5.out.segP (by omega)).1, HS5.out, HE5.out⟩
    · have hb0 : decide ((0 : Int) < (n2 : Int)) = false := decide_eq_false (by omega)
      go_wp2_with (first
        | (at_builtin
           refine wpList_append_seg _ rfl (.tmp 27) (.tmp 28) 40 rfl w3.heap.size 59 i0 _ 5 56 Try.underlying40 HI.out HZ0.out HZ1.out HZ2.out rfl (by decide) (.slice (some ⟨w3.heap.size, 0, none⟩) 0 0) 0 [] rfl OE.out A2 n2 c2 (encP hs ss) rfl HS.out (oneP hs ss) (by unfold maxLen; omega) (by omega) (by simp) ?_
           (intro B4 d4 w4 hown4 hg4)
           (simp only [Nat.zero_add, List.nil_append] at hown4)
           (have HO4 := Lib.hid hown4)
           (have X4 := Lib.hid (own_ext ((Ext.refl w3).alloc (.cells #[] 59)) OE.out (Nat.le_refl _) hg4))
           (simp only [Nat.zero_add])
           (clear hown4 hg4)))
      go_wp2
      refine bodyPost_ret (v := .tuple #[.slice A2 n2 c2, .slice B4 n2 d4]) (by simp [results, Try.results18, go_sem]) rfl ?_
      exact ⟨A2, n2, c2, ss, B4, n2, d4, ss, rfl, hn2, hn2, ((HP3.out.ext X4.out).segP (by omega)).1, (segP_own (m := 15) (by omega) HO4.out HL.out (HIn.out.ext X4.out)).1, HE3.out.trans X4.out⟩
/-- .. in the form of the laws' scripts -/
def RetPP2 (w : World) (e : Ending) (w' : World) : Prop :=
  ∃ A n c ss B m d us, e = .returned (.tuple #[.slice A n c, .slice B m d]) ∧ ss.length = n ∧ n ≤ 20 ∧ us.length = m ∧ m ≤ 20 ∧ SegP w' A n ss ∧ SegP w' B m us ∧ Ext w w'
theorem drawPS2_any (A : Option Addr) (n c : Nat) (bs : List Int) (w : World) (hn : n ≤ maxLen) (hc : n ≤ c) (hs : Seg w 1 A n (encY bs)) (hb : bytesB bs) :
    Calls Try.prog 18 #[.slice A n c] w (RetPP2 w) :=
  (drawPS_any A n c bs w hn hc hs hb).mono fun _ _ ⟨A, n, c, ss, B, m, d, us, he, h1, h2, h3, h4, h5⟩ => ⟨A, n, c, ss, B, m, d, us, he, h3.len, by omega, h4.len, by omega, h3, h4, h5⟩
theorem spEq_comm (xs ys : List St) : spEq ys xs = spEq xs ys := by unfold spEq; rw [decide_eq_decide]; exact ⟨fun h => h.symm, fun h => h.symm⟩
end
end Go.Proofs.Ytbpkpcfhmglddaa
