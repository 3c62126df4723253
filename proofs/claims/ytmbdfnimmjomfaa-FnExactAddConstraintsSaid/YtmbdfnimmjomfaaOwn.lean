/- (impl.Constraint).own and .valid. -/
import Derived.Test.YtmbdfnimmjomfaaClone
import Derived.Test.YtmbdfnimmjomfaaCV
namespace Go.Proofs.Ytmbdfnimmjomfaa
open Go.RowKit


/-- the constraint itself, if it is valid -/
def RetV (A : Option Addr) (n cap : Nat) (ts : List Tm) (bd : Int) (e : Ending) : Prop :=
  (cvB ts bd = true ∧ e = .returned (.tuple #[.agg #[.slice A n cap, .int .i64 bd], .bool true])) ∨ (cvB ts bd = false ∧ e = .returned (.tuple #[.agg #[.slice none 0 0, .int .i64 0], .bool false]))
set_option maxRecDepth 100000 in
set_option maxHeartbeats 2000000 in
theorem valid_any (A : Option Addr) (n cap : Nat) (ts : List Tm) (bd : Int) (w : World) (hn : n ≤ maxLen) (h : Seg w 2 A n (encT ts)) :
    Calls Try.prog 58 #[.agg #[.slice A n cap, .int .i64 bd]] w fun e w' => RetV A n cap ts bd e ∧ Ext w w' := by
  have HC := Lib.hid fun W (hE : Ext w W) => implCV_any A n cap ts bd W hn (h.ext hE)
  clear h
  by_cases hv : cvB ts bd = true
  · have HV := Lib.hid hv
    go_enter Try.func58, Try.ntmps58
    go_wp2_with fail
    refine (HC.out _ (((Ext.refl _).alloc _).alloc _)).mono ?_
    rintro e w1 ⟨rfl, hE1⟩
    rw [hv]
    obtain ⟨B0, B1⟩ := Blk.of2 hE1
    have b0 := B0.cell 0
    have b1 := B0.cell 1
    have r0 := B1.cell 0
    have r1 := B1.cell 1
    have q0 := B1.frozen 0
    have q1 := B1.frozen 1
    clear B0 B1 HC hv
    go_wp2
    refine bodyPost_ret (v := .tuple #[.agg #[.slice A n cap, .int .i64 bd], .bool true]) (by simp [results, Try.results58, go_sem, r0, r1]) rfl ?_
    have E1 : Ext w w1 := (((Ext.refl w).alloc _).alloc _).trans hE1
    exact ⟨.inl ⟨HV.out, rfl⟩, (E1.setNew (by simp) _).setNew (by simp) _⟩
  · have hf : cvB ts bd = false := by simpa using hv
    have HV := Lib.hid hf
    clear hv
    go_enter Try.func58, Try.ntmps58
    go_wp2_with fail
    refine (HC.out _ (((Ext.refl _).alloc _).alloc _)).mono ?_
    rintro e w1 ⟨rfl, hE1⟩
    rw [hf]
    obtain ⟨B0, B1⟩ := Blk.of2 hE1
    have r0 := B1.cell 0
    have r1 := B1.cell 1
    have q0 := B1.frozen 0
    have q1 := B1.frozen 1
    clear B0 B1 HC hf
    go_wp2
    refine bodyPost_ret (v := .tuple #[.agg #[.slice none 0 0, .int .i64 0], .bool false]) (by simp [results, Try.results58, go_sem, r0, r1]) rfl ?_
    have E1 : Ext w w1 := (((Ext.refl w).alloc _).alloc _).trans hE1
    exact ⟨.inr ⟨HV.out, rfl⟩, (E1.setNew (by simp) _).setNew (by simp) _⟩
end Go.Proofs.Ytmbdfnimmjomfaa
