/- TotalCoef and ConstraintFalse, the program's and the reference's. -/
import Derived.Test.YtpkglggomiklcaaTot
namespace Go.Proofs.Ytpkglggomiklcaa
open Go.RowKit

def tcI (ts : List Tm) (bd : Int) : Int := if cvB ts bd = true then sumT ts else 0
def cfB (ts : List Tm) (bd : Int) : Bool := cvB ts bd && decide (sumT ts < bd)

set_option maxHeartbeats 1000000 in
theorem specTC_any (A : Option Addr) (n cap : Nat) (ts : List Tm) (bd : Int) (w : World) (hn : n ≤ maxLen) (h : Seg w 2 A n (encT ts)) :
    Calls Try.prog 40 #[.agg #[.slice A n cap, .int .i64 bd]] w fun e w' => e = .returned (.int .i64 (tcI ts bd)) ∧ Ext w w' := by
  by_cases hv : cvB ts bd = true
  · have HV := Lib.hid hv
    go_enter Try.func40, Try.ntmps40
    go_wp2_with fail
    refine (specCV_any A n cap ts bd _ hn (h.alloc _)).mono ?_
    rintro e w1 ⟨rfl, hE1⟩
    have B := Blk.of1 hE1
    have c0 := B.cell 0
    have c1 := B.cell 1
    clear B
    go_wp2_with fail
    refine (l1Total_any A n cap ts bd _ ((h.alloc _).ext hE1) HV.out).mono ?_
    rintro e w2 ⟨rfl, hE2⟩
    clear h c0 c1
    go_wp2
    go_ret
    exact ⟨ret_i (by unfold tcI; rw [if_pos HV.out]), (((Ext.refl _).alloc _).trans hE1).trans hE2⟩
  · have hf : cvB ts bd = false := by simpa using hv
    have HV := Lib.hid hv
    clear hv
    go_enter Try.func40, Try.ntmps40
    go_wp2_with fail
    refine (specCV_any A n cap ts bd _ hn (h.alloc _)).mono ?_
    rintro e w1 ⟨rfl, hE1⟩
    clear h
    go_wp2
    go_ret
    exact ⟨ret_i (by unfold tcI; rw [if_neg HV.out]), ((Ext.refl _).alloc _).trans hE1⟩

set_option maxHeartbeats 1000000 in
theorem implTC_any (A : Option Addr) (n cap : Nat) (ts : List Tm) (bd : Int) (w : World) (hn : n ≤ maxLen) (h : Seg w 2 A n (encT ts)) :
    Calls Try.prog 39 #[.agg #[.slice A n cap, .int .i64 bd]] w fun e w' => e = .returned (.int .i64 (tcI ts bd)) ∧ Ext w w' := by
  by_cases hv : cvB ts bd = true
  · have HV := Lib.hid hv
    go_enter Try.func39, Try.ntmps39
    go_wp2_with fail
    refine (implCV_any A n cap ts bd _ hn (h.alloc _)).mono ?_
    rintro e w1 ⟨rfl, hE1⟩
    have B := Blk.of1 hE1
    have c0 := B.cell 0
    have c1 := B.cell 1
    clear B
    go_wp2_with fail
    refine (total_any A n cap ts bd _ ((h.alloc _).ext hE1) HV.out).mono ?_
    rintro e w2 ⟨rfl, hE2⟩
    clear h c0 c1
    go_wp2
    go_ret
    exact ⟨ret_i (by unfold tcI; rw [if_pos HV.out]), (((Ext.refl _).alloc _).trans hE1).trans hE2⟩
  · have hf : cvB ts bd = false := by simpa using hv
    have HV := Lib.hid hv
    clear hv
    go_enter Try.func39, Try.ntmps39
    go_wp2_with fail
    refine (implCV_any A n cap ts bd _ hn (h.alloc _)).mono ?_
    rintro e w1 ⟨rfl, hE1⟩
    clear h
    go_wp2
    go_ret
    exact ⟨ret_i (by unfold tcI; rw [if_neg HV.out]), ((Ext.refl _).alloc _).trans hE1⟩

set_option maxRecDepth 100000 in
set_option maxHeartbeats 2000000 in
theorem specCF_any (A : Option Addr) (n cap : Nat) (ts : List Tm) (bd : Int) (w : World) (hn : n ≤ maxLen) (h : Seg w 2 A n (encT ts)) :
    Calls Try.prog 38 #[.agg #[.slice A n cap, .int .i64 bd]] w fun e w' => e = .returned (.bool (cfB ts bd)) ∧ Ext w w' := by
  have hB : Blk (w.alloc (.cells #[.slice A n cap, .int .i64 bd] 29)) w.heap.size 29 #[.slice A n cap, .int .i64 bd] := Blk.new _ _ _
  have c0 : ∀ p : ExtBy (w.alloc (.cells #[.slice A n cap, .int .i64 bd] 29)), p.to.cell? ⟨w.heap.size, 0, none⟩ = some (.slice A n cap) := fun p => p.cell (hB.cell 0)
  have c1 : ∀ p : ExtBy (w.alloc (.cells #[.slice A n cap, .int .i64 bd] 29)), p.to.cell? ⟨w.heap.size, 1, none⟩ = some (.int .i64 bd) := fun p => p.cell (hB.cell 1)
  have h1 := h.alloc (.cells #[.slice A n cap, .int .i64 bd] 29)
  clear hB
  by_cases hv : cvB ts bd = true
  · have HV := Lib.hid hv
    go_enter Try.func38, Try.ntmps38
    go_wp2_with fail
    refine wp_region_ext_lit (by kernel_rfl) (by kernel_rfl) ?_
    repeat (go_big_quiet_step (first
      | (go_at_call 55; exact ext_call (calls_val (specCV_any A n cap ts bd _ hn (h1.ext (ExtBy.ext _))) (congrArg Value.bool HV.out)))
      | (go_at_call 76; exact ext_call (l1Total_any A n cap ts bd _ (h1.ext (ExtBy.ext _)) HV.out))))
    refine wpQuiet_nil ?_
    intro _ hw'
    obtain ⟨⟨wq, hq⟩, hw''⟩ := hw'
    subst hw''
    clear c0 c1 h h1
    go_wp2
    go_ret
    exact ⟨ret_b (by unfold cfB; rw [HV.out]; rfl), ((Ext.refl _).alloc _).trans hq⟩
  · have hf : cvB ts bd = false := by simpa using hv
    have HV := Lib.hid hf
    clear hv
    go_enter Try.func38, Try.ntmps38
    go_wp2_with fail
    refine wp_region_ext_lit (by kernel_rfl) (by kernel_rfl) ?_
    repeat (go_big_quiet_step (first
      | (go_at_call 55; exact ext_call (calls_val (specCV_any A n cap ts bd _ hn (h1.ext (ExtBy.ext _))) (congrArg Value.bool HV.out)))))
    refine wpQuiet_nil ?_
    intro _ hw'
    obtain ⟨⟨wq, hq⟩, hw''⟩ := hw'
    subst hw''
    clear c0 c1 h h1
    go_wp2
    go_ret
    exact ⟨ret_b (by unfold cfB; rw [HV.out]; rfl), ((Ext.refl _).alloc _).trans hq⟩

set_option maxRecDepth 100000 in
set_option maxHeartbeats 2000000 in
theorem implCF_any (A : Option Addr) (n cap : Nat) (ts : List Tm) (bd : Int) (w : World) (hn : n ≤ maxLen) (h : Seg w 2 A n (encT ts)) :
    Calls Try.prog 37 #[.agg #[.slice A n cap, .int .i64 bd]] w fun e w' => e = .returned (.bool (cfB ts bd)) ∧ Ext w w' := by
  have hB : Blk (w.alloc (.cells #[.slice A n cap, .int .i64 bd] 29)) w.heap.size 29 #[.slice A n cap, .int .i64 bd] := Blk.new _ _ _
  have c0 : ∀ p : ExtBy (w.alloc (.cells #[.slice A n cap, .int .i64 bd] 29)), p.to.cell? ⟨w.heap.size, 0, none⟩ = some (.slice A n cap) := fun p => p.cell (hB.cell 0)
  have c1 : ∀ p : ExtBy (w.alloc (.cells #[.slice A n cap, .int .i64 bd] 29)), p.to.cell? ⟨w.heap.size, 1, none⟩ = some (.int .i64 bd) := fun p => p.cell (hB.cell 1)
  have h1 := h.alloc (.cells #[.slice A n cap, .int .i64 bd] 29)
  clear hB
  by_cases hv : cvB ts bd = true
  · have HV := Lib.hid hv
    go_enter Try.func37, Try.ntmps37
    go_wp2_with fail
    refine wp_region_ext_lit (by kernel_rfl) (by kernel_rfl) ?_
    repeat (go_big_quiet_step (first
      | (go_at_call 41; exact ext_call (calls_val (implCV_any A n cap ts bd _ hn (h1.ext (ExtBy.ext _))) (congrArg Value.bool HV.out)))
      | (go_at_call 75; exact ext_call (total_any A n cap ts bd _ (h1.ext (ExtBy.ext _)) HV.out))))
    refine wpQuiet_nil ?_
    intro _ hw'
    obtain ⟨⟨wq, hq⟩, hw''⟩ := hw'
    subst hw''
    clear c0 c1 h h1
    go_wp2
    go_ret
    exact ⟨ret_b (by unfold cfB; rw [HV.out]; rfl), ((Ext.refl _).alloc _).trans hq⟩
  · have hf : cvB ts bd = false := by simpa using hv
    have HV := Lib.hid hf
    clear hv
    go_enter Try.func37, Try.ntmps37
    go_wp2_with fail
    refine wp_region_ext_lit (by kernel_rfl) (by kernel_rfl) ?_
    repeat (go_big_quiet_step (first
      | (go_at_call 41; exact ext_call (calls_val (implCV_any A n cap ts bd _ hn (h1.ext (ExtBy.ext _))) (congrArg Value.bool HV.out)))))
    refine wpQuiet_nil ?_
    intro _ hw'
    obtain ⟨⟨wq, hq⟩, hw''⟩ := hw'
    subst hw''
    clear c0 c1 h h1
    go_wp2
    go_ret
    exact ⟨ret_b (by unfold cfB; rw [HV.out]; rfl), ((Ext.refl _).alloc _).trans hq⟩

end Go.Proofs.Ytpkglggomiklcaa
