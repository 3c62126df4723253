/- BlockingClause, the program's and the reference's. -/
import Derived.Test.YtmbdfnimmjomfaaMemE
namespace Go.Proofs.Ytmbdfnimmjomfaa
open Go.RowKit

/-- one term for each value, from variable i on -/
def bcFrom (i : Int) : List Bool → List Tm
  | [] => []
  | b :: bs => (1, if b = true then -i else i) :: bcFrom (i + 1) bs
theorem bcFrom_snoc (bs : List Bool) (b : Bool) : ∀ i : Int, bcFrom i (bs ++ [b]) = bcFrom i bs ++ [(1, if b = true then -(i + bs.length) else i + bs.length)] := by
  induction bs with
  | nil => intro i; simp [bcFrom]
  | cons x bs ih =>
    intro i
    simp only [List.cons_append, bcFrom, ih, List.length_cons]
    rw [show i + 1 + (bs.length : Int) = i + ((bs.length + 1 : Nat) : Int) from by omega]
theorem bcFrom_len (bs : List Bool) : ∀ i : Int, (bcFrom i bs).length = bs.length := by
  induction bs with
  | nil => intro i; rfl
  | cons x bs ih => intro i; simp [bcFrom, ih]
def bcOk (vs : List Bool) : Bool := decide (vs.length = 12)
def bcT (vs : List Bool) : List Tm := if vs.length = 12 then bcFrom 1 vs else []
def bcD (vs : List Bool) : Int := if vs.length = 12 then 1 else 0
theorem bcT_len (vs : List Bool) : (bcT vs).length ≤ 1048576 := by
  unfold bcT; split
  · rename_i h; rw [bcFrom_len, h]; omega
  · simp

theorem Try.infoTmE : (Try.prog.info? 47).map (fun i => (i.zero, i.size, i.bytes)) = some (some (.agg #[.int .i64 0, .int .i64 0]), 2, 16) := by kernel_rfl

set_option maxRecDepth 100000 in
set_option maxHeartbeats 2000000 in
theorem implBC_any (A : Option Addr) (n cap : Nat) (vs : List Bool) (w : World) (hn : n ≤ maxLen) (h : Seg w 1 A n (encB vs)) :
    Calls Try.prog 27 #[.slice A n cap] w fun e w' => RetCB (bcT vs) (bcD vs) (bcOk vs) w e w' := by
  have HL := Lib.hid h.lenB
  by_cases h12 : n = 12
  · subst h12
    obtain ⟨i0, hi, hz0, hz1, hz2⟩ := info_parts Try.infoTmE
    have HI := Lib.hid hi
    have HZ0 := Lib.hid hz0
    have HZ1 := Lib.hid hz1
    have HZ2 := Lib.hid hz2
    clear hi hz0 hz1 hz2
    go_enter Try.func27, Try.ntmps27
    go_wp2_with fail
    go_loopw [15] (fun i wr => ∃ (j : Nat), j ≤ 12 ∧ i = .int .i64 j ∧ Ext w wr ∧ Hid (Blk wr w.heap.size 26 #[.slice none 0 0, .int .i64 0]) ∧ ∃ v, Hid (Blk wr (w.heap.size + 1) 26 #[v, .int .i64 1]) ∧ Hid (wr.ownsRow (w.heap.size + 2) 47 2 v j (encT (bcFrom 1 (vs.take j))))) (fun i _ => 12 - (intOf i).toNat)
    case atStart =>
      exact ⟨0, by omega, rfl, ((Ext.refl _).alloc _).alloc _, (Blk.new _ _ _).alloc _, .slice none 0 0, by
        have := Blk.new (w.alloc (.cells #[.slice none 0 0, .int .i64 0] 26)) 26 #[.slice none 0 0, .int .i64 1]
        rw [World.size_alloc] at this; exact this, World.ownsRow_nil _ _ _ _⟩
    case round =>
      obtain ⟨j, hj, rfl, hE, hB0, v, hB1, hown⟩ := hrel
      have b1 := hB1.out.cell 0
      have hsz := hB1.out.lt
      by_cases hlt : j < 12
      · obtain ⟨b, off, x, rfl, hx, c1⟩ := (h.ext hE).bool hlt
        have hbl := World.block_lt_of_cell? _ _ c1
        simp only at hbl
        have HX := Lib.hid hx
        clear hx h
        cases x
        all_goals
          go_wp2_with (first
            | (at_builtin
               first
               | refine wpList_append_own _ rfl (.tmp 26) (.tmp 29) 24 rfl (w.heap.size + 2) 47 i0 _ 2 16 Try.underlying24 HI.out HZ0.out HZ1.out HZ2.out rfl (by omega) v j _ rfl (hown.out.alloc _) ⟨wr.heap.size, 0, none⟩ 1 1 [.int .i64 1, .int .i64 ((j : Int) + 1)] rfl rfl (cell_two_new _ _ _ _) ?_ ?_ ?_ ?_ ?_
               | refine wpList_append_own _ rfl (.tmp 26) (.tmp 29) 24 rfl (w.heap.size + 2) 47 i0 _ 2 16 Try.underlying24 HI.out HZ0.out HZ1.out HZ2.out rfl (by omega) v j _ rfl (hown.out.alloc _) ⟨wr.heap.size, 0, none⟩ 1 1 [.int .i64 1, .int .i64 (-((j : Int) + 1))] rfl rfl (cell_two_new _ _ _ _) ?_ ?_ ?_ ?_ ?_
               (intro u hu; simp at hu; rcases hu with rfl | rfl <;> rfl)
               (unfold maxLen; omega)
               omega
               (simp; omega)
               intro v1 w1 hown1 hg1 _
               obtain ⟨A1, k1, rfl⟩ := own_slice hown1
               have BB := push_pre hB1.out hown.out (by omega) hg1
               have bb := BB.cell 0
               have fz := BB.frozen 0
               clear BB))
        all_goals
          obtain ⟨E1, K1, O1⟩ := push_box hE hB1.out hown.out (by omega) (by omega) (by omega) hg1 hown1
          have K0 := push_blk (gc := w.heap.size + 1) (v1 := .slice A1 (j + 1) k1) hB0.out hown.out (by omega) (by omega) hg1
          go_roundw
          case rel =>
            refine ⟨j + 1, by omega, by go_num, E1, K0, _, K1, ?_⟩
            rw [take_of_get _ _ _ HX.out, bcFrom_snoc, encT_append, List.length_take, HL.out, show min j 12 = j from by omega]
            have e : (1 : Int) + (j : Int) = (j : Int) + 1 := by omega
            simpa [encT, e, Hid] using O1
          case measure => simp [intOf]; omega
      · obtain rfl : j = 12 := by omega
        have b2 := hB1.out.cell 1
        have r0 := hB0.out.cell 0
        have r1 := hB0.out.cell 1
        have q0 := hB0.out.frozen 0
        have q1 := hB0.out.frozen 1
        clear h
        obtain ⟨A1, c1, rfl⟩ := own_slice hown.out
        go_wp2
        refine bodyPost_ret (v := .tuple #[.agg #[.slice A1 12 c1, .int .i64 1], .bool true]) (by simp [results, Try.results27, go_sem, r0, r1]) rfl ?_
        have hvs : vs.length = 12 := HL.out
        have K : Kept w.heap.size (w.heap.size + 1) wr _ := ((Kept.refl _ _ wr).setIn (p := ⟨w.heap.size, 0, none⟩) (by simp) (.slice A1 12 c1)).setIn (p := ⟨w.heap.size, 1, none⟩) (by simp) (.int .i64 1)
        have G := own_got2 (w := w) hown.out K (by omega) (by omega)
        rw [List.take_of_length_le (by omega)] at G
        refine ⟨A1, 12, c1, by simp [bcD, bcOk, hvs], by unfold bcT; rw [if_pos hvs, bcFrom_len, hvs], ?_, (hE.setNew (Nat.le_refl _) _).setNew (Nat.le_refl _) _⟩
        unfold bcT
        rw [if_pos hvs]
        exact G
  · have hb : ((n : Int) == 12) = false := by simp; omega
    have hne : vs.length ≠ 12 := by rw [HL.out]; exact h12
    clear h
    go_enter Try.func27, Try.ntmps27
    go_wp2
    refine bodyPost_ret (v := .tuple #[.agg #[.slice none 0 0, .int .i64 0], .bool false]) (by simp [results, Try.results27, go_sem]) rfl ?_
    exact (RetCB.zero ((Ext.refl _).alloc _)).of_eq (by unfold bcT; rw [if_neg hne]) (by unfold bcD; rw [if_neg hne]) (by unfold bcOk; rw [decide_eq_false hne])

end Go.Proofs.Ytmbdfnimmjomfaa
