/- LiteralAxiom, the program's and the reference's. -/
import Derived.Test.YtihbgajlnbchlaaMemE
import Derived.Test.YtihbgajlnbchlaaInts
namespace Go.Proofs.Ytihbgajlnbchlaa
open Go.RowKit

/-- the terms, and whether there is one -/
def laT (l : Int) : List Tm := if litB l = true then [(1, l)] else []

set_option maxHeartbeats 1000000 in
theorem specLA_any (l : Int) (w : World) : Calls Try.prog 35 #[.int .i64 l] w fun e w' => RetCB (laT l) 0 (litB l) w e w' := by
  by_cases hl : litB l = true
  · have HL := Lib.hid hl
    go_enter Try.func35, Try.ntmps35
    go_wp2_with fail
    refine (l1Lit_any _ _).mono ?_
    rintro e w1 ⟨rfl, rfl⟩
    go_wp2
    have B := Blk.new (w.alloc (.cells #[.slice (some ⟨w.heap.size + 1, 0, none⟩) 1 1, .int .i64 0] 25)) 40 #[.int .i64 1, .int .i64 l]
    rw [World.size_alloc] at B
    refine bodyPost_ret (v := .tuple #[.agg #[.slice (some ⟨w.heap.size + 1, 0, none⟩) 1 1, .int .i64 0], .bool true]) (by simp [results, Try.results35, go_sem]) rfl ?_
    refine ⟨_, 1, 1, by rw [HL.out], by unfold laT; rw [if_pos HL.out]; rfl, ?_, ((Ext.refl _).alloc _).alloc _⟩
    have := B.got (w := w) (sz := 2) (n := 1) rfl (by omega)
    unfold laT
    rw [if_pos HL.out]
    exact this
  · have hf : litB l = false := by simpa using hl
    have HL := Lib.hid hf
    clear hl
    go_enter Try.func35, Try.ntmps35
    go_wp2_with fail
    refine (l1Lit_any _ _).mono ?_
    rintro e w1 ⟨rfl, rfl⟩
    go_wp2
    refine bodyPost_ret (v := .tuple #[.agg #[.slice none 0 0, .int .i64 0], .bool false]) (by simp [results, Try.results35, go_sem]) rfl ?_
    exact (RetCB.zero ((Ext.refl _).alloc _)).of_eq (by unfold laT; rw [if_neg (by rw [HL.out]; decide)]) rfl HL.out.symm

set_option maxHeartbeats 1000000 in
theorem implLA_any (l : Int) (w : World) : Calls Try.prog 34 #[.int .i64 l] w fun e w' => RetCB (laT l) 0 (litB l) w e w' := by
  by_cases hl : litB l = true
  · have HL := Lib.hid hl
    go_enter Try.func34, Try.ntmps34
    go_wp2_with fail
    refine (isLiteral_any _ _).mono ?_
    rintro e w1 ⟨rfl, rfl⟩
    go_wp2
    have B := Blk.new (w.alloc (.cells #[.slice (some ⟨w.heap.size + 1, 0, none⟩) 1 1, .int .i64 0] 25)) 40 #[.int .i64 1, .int .i64 l]
    rw [World.size_alloc] at B
    refine bodyPost_ret (v := .tuple #[.agg #[.slice (some ⟨w.heap.size + 1, 0, none⟩) 1 1, .int .i64 0], .bool true]) (by simp [results, Try.results34, go_sem]) rfl ?_
    refine ⟨_, 1, 1, by rw [HL.out], by unfold laT; rw [if_pos HL.out]; rfl, ?_, ((Ext.refl _).alloc _).alloc _⟩
    have := B.got (w := w) (sz := 2) (n := 1) rfl (by omega)
    unfold laT
    rw [if_pos HL.out]
    exact this
  · have hf : litB l = false := by simpa using hl
    have HL := Lib.hid hf
    clear hl
    go_enter Try.func34, Try.ntmps34
    go_wp2_with fail
    refine (isLiteral_any _ _).mono ?_
    rintro e w1 ⟨rfl, rfl⟩
    go_wp2
    refine bodyPost_ret (v := .tuple #[.agg #[.slice none 0 0, .int .i64 0], .bool false]) (by simp [results, Try.results34, go_sem]) rfl ?_
    exact (RetCB.zero ((Ext.refl _).alloc _)).of_eq (by unfold laT; rw [if_neg (by rw [HL.out]; decide)]) rfl HL.out.symm

theorem laT_len (l : Int) : (laT l).length ≤ 1048576 := by unfold laT; split <;> simp
end Go.Proofs.Ytihbgajlnbchlaa
