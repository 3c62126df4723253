/- slices.Clone over terms, integers, bools: the same elements in memory of the call's own. -/
import Derived.Test.YtbpkpcfhmglddaaMemE
import Derived.Test.YtbpkpcfhmglddaaToT
import Derived.Lib.SliceRun
namespace Go.Proofs.Ytbpkpcfhmglddaa
open Go.RowKit

theorem oneT (ts : List Tm) : ∀ u ∈ encT ts, u.oneCell' = true := by
  induction ts with
  | nil => intro u hu; cases hu
  | cons t ts ih =>
    intro u hu
    simp only [encT, List.mem_cons] at hu
    rcases hu with rfl | rfl | hu
    · rfl
    · rfl
    · exact ih u hu
theorem oneI (zs : List Int) : ∀ u ∈ encI zs, u.oneCell' = true := by
  intro u hu
  unfold encI at hu
  obtain ⟨z, _, rfl⟩ := List.mem_map.1 hu
  rfl
theorem oneB (zs : List Bool) : ∀ u ∈ encB zs, u.oneCell' = true := by
  intro u hu
  unfold encB at hu
  obtain ⟨z, _, rfl⟩ := List.mem_map.1 hu
  rfl
/-- a slice in memory of the call's own that reads as xs -/
def RetS (sz : Nat) (xs : List Value) (w : World) (e : Ending) (w' : World) : Prop :=
  ∃ A n cap, e = .returned (.slice A n cap) ∧ xs.length = n * sz ∧ Got w w' sz A n xs ∧ Ext w w'


theorem Try.infoClI : (Try.prog.info? 3).map (fun i => (i.zero, i.size, i.bytes)) = some (some (.int .i64 0), 1, 8) := by kernel_rfl
set_option maxRecDepth 100000 in
set_option maxHeartbeats 2000000 in
theorem cloneI_any (A : Option Addr) (n cap : Nat) (xs : List Int) (w : World) (hn : n ≤ 1048576) (h : Seg w 1 A n (encI xs)) :
    Calls Try.prog 25 #[.slice A n cap] w fun e w' => RetS 1 (encI xs) w e w' := by
  obtain ⟨i0, hi, hz0, hz1, hz2⟩ := info_parts Try.infoClI
  have q22 : ∀ (w : World) (a : Option Addr) (n c n' c' : Nat), (binOp .eql 22 (.slice a n c) (.slice none n' c')).run Try.prog w = .ok (.bool a.isNone) w := fun w a n c n' c' => Lib.run_eql_slice_nil w _ _ a n c n' c' Try.underlying22
  have hl := h.1
  have hone := Lib.hid (oneI xs)
  cases A with
  | none =>
    have h0 : n = 0 := by
      rcases Nat.eq_zero_or_pos n with h0 | h0
      · exact h0
      · obtain ⟨b, off, e, _⟩ := h.2 h0; cases e
    subst h0
    have hx := h.zero
    rw [hx]
    clear h hl hx hone hi hz0 hz1 hz2
    go_enter Try.func25, Try.ntmps25
    go_wp2
    go_ret
    exact ⟨none, 0, 0, rfl, rfl, Got.nil' _ _ _ _, Ext.refl _⟩
  | some ad =>
    have hc : Hid (∀ j u, (encI xs)[j]? = some u → w.cell? (ad.add j) = some u) := fun j u hu => by
      have hj : j < n * 1 := by rw [← hl]; exact (List.getElem?_eq_some_iff.1 hu).1
      obtain ⟨b, off, e, hcc⟩ := h.2 (by omega)
      injection e with e; subst e
      have e2 : (⟨b, off, none⟩ : Addr).add j = ⟨b, off + j, none⟩ := by unfold Addr.add; split <;> simp_all
      rw [e2]; exact hcc j u hu
    have HL := Lib.hid hl
    clear h hl
    go_enter Try.func25, Try.ntmps25
    go_wp2_with (at_builtin; refine wpList_append_own _ rfl _ _ 22 rfl w.heap.size 3 i0 _ 1 8 Try.underlying22 hi hz0 hz1 hz2 rfl (by omega) _ _ _ rfl (World.ownsRow_made w #[] 0 (Nat.le_refl _) (Nat.zero_le _) (by simp)) ad n cap (encI xs) rfl HL.out ?_ hone.out ?_ ?_ ?_ ?_)
    · intro j u hj
      exact Lib.cell?_alloc_some _ (hc.out j u hj)
    · unfold maxLen; omega
    · omega
    · simp
    intro v' w1 hown hgrow _
    go_wp2
    go_ret
    have hown' : w1.ownsRow w.heap.size 3 1 v' n (encI xs) := by simpa using hown
    obtain ⟨A1, c1, rfl⟩ := own_slice hown'
    exact ⟨A1, n, c1, rfl, HL.out, own_got hown' (Nat.le_refl _), ((Ext.refl w).alloc _).grown hgrow (by intro k hk; simp [Value.ownBlock] at hk; omega)⟩

end Go.Proofs.Ytbpkpcfhmglddaa
