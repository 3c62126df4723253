/- Contracts of the law's own copies: toTerm, toTermS, toConstraint. -/
import Derived.Test.YtgoaggojbcdgeaaMemC
namespace Go.Proofs.Ytgoaggojbcdgeaa
open Go.RowKit

theorem Try.infoTm : (Try.prog.info? 38).map (fun i => (i.zero, i.size, i.bytes)) = some (some (.agg #[.int .i64 0, .int .i64 0]), 2, 16) := by kernel_rfl

set_option maxHeartbeats 400000 in
theorem toTerm_any (c l : Int) (w : World) :
    Calls Try.prog 131 #[.agg #[.int .i64 c, .int .i64 l]] w fun e w' => e = .returned (.agg #[.int .i64 c, .int .i64 l]) ∧ Ext w w' := by
  go_enter Try.func131, Try.ntmps131
  go_wp2
  exact bodyPost_ret (v := .agg #[.int .i64 c, .int .i64 l]) (by simp [results, Try.results131, go_sem]) rfl ⟨rfl, (((Ext.refl _).alloc _).alloc _).alloc _⟩

def RetT (ts : List Tm) (w : World) (e : Ending) (w' : World) : Prop :=
  ∃ A n cap, e = .returned (.slice A n cap) ∧ ts.length = n ∧ Got w w' 2 A n (encT ts) ∧ Ext w w'

set_option maxHeartbeats 1000000 in
theorem toTermS_any (A : Option Addr) (n cap : Nat) (ts : List Tm) (w : World) (hn : n ≤ 1048576) (h : Seg w 2 A n (encT ts)) :
    Calls Try.prog 117 #[.slice A n cap] w fun e w' => RetT ts w e w' := by
  obtain ⟨i0, hi, hz0, hz1, hz2⟩ := info_parts Try.infoTm
  have hmk := run_make (P := Try.prog) w 23 38 i0 _ Try.underlying23 hi hz0 .i64 .i64 (n : Int) (n : Int) (by omega) (by omega) (by rw [hz2]; omega) (by omega)
  rw [hz1, toNat_cast] at hmk
  have hsz := size_madeCells (Value.agg #[.int .i64 0, .int .i64 0]).cells (n * 2)
  generalize madeCells (Value.agg #[.int .i64 0, .int .i64 0]).cells (n * 2) = made at hmk hsz
  have hl := h.lenT
  have HR0 := Row.new w 38 made
  rw [hsz] at HR0
  clear hi hz0 hz1 hz2 hsz
  have HL := Lib.hid hl; clear hl
  go_enter Try.func117, Try.ntmps117
  go_wp2
  clear hmk
  go_loopw [4] (fun i wr => ∃ k : Nat, k ≤ n ∧ i = .int .i64 k ∧ Ext w wr ∧ Hid (∃ cur, Row wr w.heap.size 38 (n * 2) (encT (ts.take k)) cur)) (fun i _ => n - (intOf i).toNat)
  case atStart => exact ⟨0, Nat.zero_le _, rfl, (Ext.refl _).alloc _, ⟨made, HR0⟩⟩
  case round =>
    obtain ⟨k, hk, rfl, hE, hR⟩ := hrel
    by_cases hlt : k < n
    · obtain ⟨b, off, c, l, rfl, hx, c1, c2⟩ := (h.ext hE).term hlt
      have HX := Lib.hid hx
      obtain ⟨cur, hR'⟩ := hR.out
      clear hx hR h HR0
      have HRR := Lib.hid hR'
      clear hR'
      go_wp2_with fail
      refine (toTerm_any _ _ _).mono ?_
      rintro e w1 ⟨rfl, hE1⟩
      have R1 := HRR.out.ext hE1
      have hle : (encT (ts.take k)).length = k * 2 := by rw [encT_length, List.length_take, HL.out]; omega
      obtain ⟨o1, d1⟩ := R1.cell (i := k * 2) (by omega)
      obtain ⟨o2, d2⟩ := R1.cell (i := k * 2 + 1) (by omega)
      have f1 := R1.frozen (k * 2)
      have f2 := R1.frozen (k * 2 + 1)
      have R2 := (R1.push (i := k * 2) (by omega) (by omega) (.int .i64 c)).push (i := k * 2 + 1) (by simp; omega) (by omega) (.int .i64 l)
      have HR2 := Lib.hid R2
      clear R2 R1 HRR hle
      go_wp2
      go_roundw
      case rel =>
        refine ⟨k + 1, by omega, by go_num, ((hE.trans hE1).setNew (Nat.le_refl _) _).setNew (Nat.le_refl _) _, ?_⟩
        rw [take_of_get _ _ _ HX.out, encT_append]
        have := HR2.out
        rw [List.append_assoc] at this
        exact ⟨_, this⟩
      case measure => simp [intOf]; omega
    · obtain rfl : k = n := by omega
      have HS := Lib.hid hR.out
      clear hR h HR0
      go_wp2
      go_ret
      obtain ⟨cur, R⟩ := HS.out
      rw [List.take_of_length_le (by rw [HL.out]; omega)] at R
      exact ⟨_, _, _, rfl, HL.out, R.got (by rw [encT_length, HL.out]) (Nat.le_refl _), hE⟩

/-- a constraint of the laws' own type, as a value, copied to one of the program's -/
def RetC (ts : List Tm) (bd : Int) (w : World) (e : Ending) (w' : World) : Prop :=
  ∃ A n cap, e = .returned (.agg #[.slice A n cap, .int .i64 bd]) ∧ ts.length = n ∧ Got w w' 2 A n (encT ts) ∧ Ext w w'

set_option maxHeartbeats 1000000 in
theorem toConstraint_any (A : Option Addr) (n cap : Nat) (ts : List Tm) (bd : Int) (w : World) (hn : n ≤ 1048576) (h : Seg w 2 A n (encT ts)) :
    Calls Try.prog 85 #[.agg #[.slice A n cap, .int .i64 bd]] w fun e w' => RetC ts bd w e w' := by
  go_enter Try.func85, Try.ntmps85
  go_wp2_with fail
  refine (toTermS_any A n cap ts _ hn (((h.alloc _).alloc _).alloc _)).mono ?_
  rintro e w1 ⟨A1, n1, cap1, rfl, hl1, hG, hE⟩
  have hE0 := (((((Ext.refl w).alloc _).alloc _).alloc _).trans hE)
  obtain ⟨B0, B1, B2⟩ := Blk.of3 hE
  have c0 := B0.cell 1
  have c1 := B1.cell 0
  have c2 := B1.cell 1
  have c3 := B2.cell 0
  have c4 := B2.cell 1
  have f1 := B1.frozen 0
  have f2 := B1.frozen 1
  have f3 := B2.frozen 0
  have f4 := B2.frozen 1
  have HG := Lib.hid hG
  have HL := Lib.hid hl1
  clear B0 B1 B2 hE hG hl1 h
  go_wp2
  refine bodyPost_ret (v := .agg #[.slice A1 n1 cap1, .int .i64 bd]) (by simp [results, Try.results85, go_sem, c1, c2]) rfl ?_
  have K : Kept (w.heap.size + 1) (w.heap.size + 1 + 1 + 1) w1 _ := (((((Kept.refl _ _ w1).setIn (p := ⟨w.heap.size + 1 + 1, 0, none⟩) (by simp) (.slice A1 n1 cap1)).setIn (p := ⟨w.heap.size + 1 + 1, 1, none⟩) (by simp) (.int .i64 bd)).setIn (p := ⟨w.heap.size + 1, 0, none⟩) (by simp) (.slice A1 n1 cap1)).setIn (p := ⟨w.heap.size + 1, 1, none⟩) (by simp) (.int .i64 bd))
  exact ⟨A1, n1, cap1, rfl, HL.out, (HG.out.kept K (by simp)).from_ ((((Ext.refl w).alloc _).alloc _).alloc _), hE0.fresh K (Nat.le_succ _)⟩

end Go.Proofs.Ytgoaggojbcdgeaa
