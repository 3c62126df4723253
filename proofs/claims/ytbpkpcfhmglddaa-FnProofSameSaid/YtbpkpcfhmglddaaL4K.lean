/- L4K: merged of LastA LA RdP RdL RdH PlE Own Div PlD Mul Div2 Ad Sat Weak. -/
import Derived.Test.YtbpkpcfhmglddaaLastS
import Derived.Test.YtbpkpcfhmglddaaMemE
import Derived.Test.YtbpkpcfhmglddaaInts
import Derived.Test.YtbpkpcfhmglddaaRdV
import Derived.Test.YtbpkpcfhmglddaaSetAt
import Derived.Test.YtbpkpcfhmglddaaProb
import Derived.Test.YtbpkpcfhmglddaaPlC
import Derived.Test.YtbpkpcfhmglddaaClone
import Derived.Test.YtbpkpcfhmglddaaCV
import Derived.Test.YtbpkpcfhmglddaaTot
import Derived.Deep.AppendLies
import Derived.Test.YtbpkpcfhmglddaaEqT
import Derived.Test.YtbpkpcfhmglddaaCVs
import Derived.Shelf.Abstract
import Derived.Test.YtbpkpcfhmglddaaNFs
import Derived.Test.YtbpkpcfhmglddaaToT
namespace Go.Proofs.Ytbpkpcfhmglddaa
/- Regions that draw their order: a condition on the world that holds behind every operation (z is no operation's number). No program is named here. -/
section
open Go.RowKit

section
variable {P : Program} {ops : Array Oper} {Q : Exit → Act → World → Prop} {md : Region.Mode} {S : World → Prop} {z : Nat}

theorem wpAnyA_first {i : Nat} {oi : Oper} {v : Value} (hlast : ops.size ≤ z) (hi : ops[i]? = some oi) (hsel : ∀ (j : Nat) (o : Oper) cs b, ops[j]? = some o → o.op ≠ .select cs b)
    (hQ : ∀ c a w, Q (.panic c) (a.put oi.dst v) w → Q (.panic c) a w) :
    ∀ (fuel : Nat) (listed : Array Bool) (a : Act) (w : World),
      (∀ j oj, ops[j]? = some oj → j ≠ i → listed.getD j true = false → (∀ e ∈ oj.after, Region.binds md e = true → e.on ≠ i) → oi.apart ops oj = true) →
      i ∈ Region.ready md ops listed → YieldsIf P ops S oi v a → S w →
      wpAnyZ P md ops Q S z fuel (listed.setIfInBounds i true) (a.put oi.dst v) w → wpAnyZ P md ops Q S z (fuel + 1) listed a w := by
  have hilt : i < ops.size := (Array.getElem?_eq_some_iff.1 hi).1
  intro fuel
  induction fuel with
  | zero =>
    intro listed a w _ hr hy hS H
    refine ⟨fun h => (by rw [h] at hr; cases hr), fun j hj => ?_⟩
    by_cases hji : j = i
    · subst hji; exact hy.wpOp hi hS ⟨fun _ => hS, H⟩
    · have := ready_mono hj hji
      rw [H.1] at this
      cases this
  | succ fuel ih =>
    intro listed a w hfree hr hy hS H
    refine ⟨fun h => (by rw [h] at hr; cases hr), fun j hj => ?_⟩
    by_cases hji : j = i
    · subst hji; exact hy.wpOp hi hS ⟨fun _ => hS, H⟩
    · have hun := (mem_ready.1 hr).1
      have hjz : j ≠ z := fun e => by
        subst e
        obtain ⟨_, oj, hoj, _⟩ := mem_ready.1 hj
        have := (Array.getElem?_eq_some_iff.1 hoj).1
        omega
      have h1 := H.2 j (ready_mono hj hji)
      obtain ⟨hjun, oj, hoj, hall⟩ := mem_ready.1 hj
      have hnot : ∀ e ∈ oj.after, Region.binds md e = true → e.on ≠ i := fun e he hb heq => by
        have h1 := hall e he hb
        rw [heq, unlisted_false hun] at h1
        cases h1
      have h2 := wpOp_putIf hoj (hfree j oj hoj hji hjun hnot) (fun cs b => hsel i oi cs b hi) (fun cs b => hsel j oj cs b hoj) hQ hy h1
      have hfree' : ∀ k ok, ops[k]? = some ok → k ≠ i → (listed.setIfInBounds j true).getD k true = false →
          (∀ e ∈ ok.after, Region.binds md e = true → e.on ≠ i) → oi.apart ops ok = true := fun k ok hk hki hun hno => by
        refine hfree k ok hk hki ?_ hno
        by_cases hjk : j = k
        · subst hjk; exact hjun
        · rw [getD_set_ne true hjk] at hun; exact hun
      refine wpOp_mono (fun a' w' h3 => ⟨h3.2.1, ih (listed.setIfInBounds j true) a' w' hfree' (ready_mono hr (Ne.symm hji)) h3.1 (h3.2.1 hjz) ?_⟩) h2
      rw [Array.setIfInBounds_comm _ _ hji]
      exact h3.2.2

/-- take number i first -/
theorem wpAnyA_take (i : Nat) {oi : Oper} {v : Value} {fuel : Nat} {listed : Array Bool} {a : Act} {w : World} (hlast : decide (ops.size ≤ z) = true) (hi' : ops.toList[i]? = some oi)
    (hs : Region.noSelect ops = true) (hf : Region.free md ops listed i = true) (hr : (Region.ready md ops listed).contains i = true)
    (hQ : ∀ c a w, Q (.panic c) (a.put oi.dst v) w → Q (.panic c) a w) (hS : S w) (hy : YieldsIf P ops S oi v a)
    (h : wpAnyZ P md ops Q S z fuel (listed.setIfInBounds i true) (a.put oi.dst v) w) : wpAnyZ P md ops Q S z (fuel + 1) listed a w :=
  have hi : ops[i]? = some oi := by rw [← hi', Array.getElem?_toList]
  wpAnyA_first (of_decide_eq_true hlast) hi (Region.noSelect_spec hs) hQ fuel listed a w (Region.free_spec hi hf) (by simpa using hr) hy hS h

/-- number i alone may come up, and its guard does not want it -/
theorem wpAnyZ_skip (i : Nat) {o : Oper} {fuel : Nat} {listed : Array Bool} {a : Act} {w : World} (hr : Region.ready md ops listed = [i]) (hi' : ops.toList[i]? = some o) (hw : Region.wanted o (yielded ops a.tmps) = false)
    (hS : S w) (h : wpAnyZ P md ops Q S z fuel (listed.setIfInBounds i true) (a.put o.dst undef) w) : wpAnyZ P md ops Q S z (fuel + 1) listed a w := by
  have hi : ops[i]? = some o := by rw [← hi', Array.getElem?_toList]
  refine ⟨fun h0 => (by rw [hr] at h0; cases h0), fun j hj => ?_⟩
  rw [hr] at hj
  have hji : j = i := by simpa using hj
  subst hji
  unfold wpOp
  simp only [hi, hw]
  exact ⟨fun _ => hS, h⟩

theorem wpAnyA_end {fuel : Nat} {listed : Array Bool} {a : Act} {w : World} (hr : Region.ready md ops listed = []) (h : Q .normal a w) : wpAnyZ P md ops Q S z fuel listed a w := by
  cases fuel with
  | zero => exact ⟨hr, h⟩
  | succ n => exact ⟨fun _ => h, by rw [hr]; simp⟩
end
end

/- LiteralAxiom, the program's and the reference's. -/
section
open Go.RowKit

/-- the terms, and whether there is one -/
def laT (l : Int) : List Tm := if litB l = true then [(1, l)] else []

set_option maxHeartbeats 1000000 in
theorem specLA_any (l : Int) (w : World) : Calls Try.prog 84 #[.int .i64 l] w fun e w' => RetCB (laT l) 0 (litB l) w e w' := by
  by_cases hl : litB l = true
  · have HL := Lib.hid hl
    go_enter Try.func84, Try.ntmps84
    go_wp2_with fail
    refine (l1Lit_any _ _).mono ?_
    rintro e w1 ⟨rfl, rfl⟩
    go_wp2
    have B := Blk.new (w.alloc (.cells #[.slice (some ⟨w.heap.size + 1, 0, none⟩) 1 1, .int .i64 0] 25)) 38 #[.int .i64 1, .int .i64 l]
    rw [World.size_alloc] at B
    refine bodyPost_ret (v := .tuple #[.agg #[.slice (some ⟨w.heap.size + 1, 0, none⟩) 1 1, .int .i64 0], .bool true]) (by simp [results, Try.results84, go_sem]) rfl ?_
    refine ⟨_, 1, 1, by rw [HL.out], by unfold laT; rw [if_pos HL.out]; rfl, ?_, ((Ext.refl _).alloc _).alloc _⟩
    have := B.got (w := w) (sz := 2) (n := 1) rfl (by omega)
    unfold laT
    rw [if_pos HL.out]
    exact this
  · have hf : litB l = false := by simpa using hl
    have HL := Lib.hid hf
    clear hl
    go_enter Try.func84, Try.ntmps84
    go_wp2_with fail
    refine (l1Lit_any _ _).mono ?_
    rintro e w1 ⟨rfl, rfl⟩
    go_wp2
    refine bodyPost_ret (v := .tuple #[.agg #[.slice none 0 0, .int .i64 0], .bool false]) (by simp [results, Try.results84, go_sem]) rfl ?_
    exact (RetCB.zero ((Ext.refl _).alloc _)).of_eq (by unfold laT; rw [if_neg (by rw [HL.out]; decide)]) rfl HL.out.symm

theorem laT_len (l : Int) : (laT l).length ≤ 1048576 := by unfold laT; split <;> simp
end

/- Drawn partial assignments; DrawExtendsPartial. -/
section
open Go.RowKit


end

/- Drawn problems: l3Problem, l3Mutate; DrawSatisfiesAll, DrawPropagate, DrawRupConstraint. -/
section
open Go.RowKit

/-- the inner slices of a list of constraints: of at most m terms, in blocks from lo on that are not the row's -/
def InL (w : World) (lo m : Nat) (row : Option Nat) (hs : List Hd) (cs : List Cn) : Prop :=
  ∀ (i : Nat) (h : Hd) (c : Cn), hs[i]? = some h → cs[i]? = some c → h.2.1 ≤ m ∧ Seg w 2 h.1 h.2.1 (encT c.1) ∧ Lies lo w.heap.size h.1 h.2.1 ∧ (0 < h.2.1 → ∀ ad : Addr, h.1 = some ad → row ≠ some ad.block)
theorem InL.nil (w : World) (lo m : Nat) (row : Option Nat) : InL w lo m row [] [] := fun i h c h1 _ => by simp at h1
theorem InL.kept {w w' : World} {lo m lo' hi' : Nat} {row : Option Nat} {hs : List Hd} {cs : List Cn} (h : InL w lo m row hs cs) (K : Kept lo' hi' w w') (hd : hi' ≤ lo) : InL w' lo m row hs cs := by
  intro i x c h1 h2
  obtain ⟨q1, q2, q3, q4⟩ := h i x c h1 h2
  exact ⟨q1, q2.kept q3 K (.inr hd), q3.wide (Nat.le_refl _) K.size, q4⟩
theorem InL.ext {w w' : World} {lo m : Nat} {row : Option Nat} {hs : List Hd} {cs : List Cn} (h : InL w lo m row hs cs) (E : Ext w w') : InL w' lo m row hs cs :=
  h.kept E (Nat.zero_le _)
theorem InL.wide {w : World} {lo lo' m m' : Nat} {row : Option Nat} {hs : List Hd} {cs : List Cn} (h : InL w lo m row hs cs) (h1 : lo' ≤ lo) (h2 : m ≤ m') : InL w lo' m' row hs cs := by
  intro i x c e1 e2
  obtain ⟨q1, q2, q3, q4⟩ := h i x c e1 e2
  exact ⟨Nat.le_trans q1 h2, q2, q3.wide h1 (Nat.le_refl _), q4⟩
theorem InL.new {w : World} {lo m : Nat} {row : Option Nat} {hs : List Hd} {cs : List Cn} (h : InL w lo m row hs cs) {g : Nat} (hg : w.heap.size ≤ g) : InL w lo m (some g) hs cs := by
  intro i x c h1 h2
  obtain ⟨q1, q2, q3, q4⟩ := h i x c h1 h2
  exact ⟨q1, q2, q3, fun hn ad e e2 => by have := (q3 hn ad e).2; injection e2 with e2; omega⟩
/-- nothing but the row's block was written -/
theorem InL.grown {w w' : World} {lo m : Nat} {row : Option Nat} {hs : List Hd} {cs : List Cn} (h : InL w lo m row hs cs) (hg : w.grownBy w' row) : InL w' lo m row hs cs := by
  intro i x c h1 h2
  obtain ⟨q1, q2, q3, q4⟩ := h i x c h1 h2
  refine ⟨q1, q2.keep fun hn b off u e o hc => ?_, q3.wide (Nat.le_refl _) hg.size, q4⟩
  have hlt := World.block_lt_of_cell? _ _ hc
  have hne := q4 hn _ e
  rw [World.cell?_of_block (hg.block b hlt fun e2 => hne e2.symm)]; exact hc
/-- .. and the row may have moved to a new block -/
theorem InL.grownTo {w w' : World} {lo m gg H : Nat} {row : Option Nat} {hs : List Hd} {cs : List Cn} (h : InL w lo m row hs cs) (hg : w.grownBy w' row) (hat : row = some gg ∨ gg = H) (hH : w.heap.size = H) : InL w' lo m (some gg) hs cs := by
  intro i x c h1 h2
  obtain ⟨q1, q2, q3, q4⟩ := (h.grown hg) i x c h1 h2
  refine ⟨q1, q2, q3, fun hn ad e => ?_⟩
  rcases hat with e2 | e2
  · rw [← e2]; exact q4 hn ad e
  · have := ((h i x c h1 h2).2.2.1 hn ad e).2
    intro e3; injection e3 with e3; omega
/-- one constraint more -/
theorem InL.snoc {w : World} {lo m : Nat} {row : Option Nat} {hs : List Hd} {cs : List Cn} (h : InL w lo m row hs cs) (hl : hs.length = cs.length) {A : Option Addr} {n cap : Nat} {ts : List Tm} {bd : Int} (hn : n ≤ m)
    (hS : Seg w 2 A n (encT ts)) (hL : Lies lo w.heap.size A n) (hr : 0 < n → ∀ ad : Addr, A = some ad → row ≠ some ad.block) : InL w lo m row (hs ++ [(A, n, cap)]) (cs ++ [(ts, bd)]) := by
  intro i x c e1 e2
  rcases Nat.lt_or_ge i hs.length with hlt | hge
  · rw [List.getElem?_append_left hlt] at e1
    rw [List.getElem?_append_left (by omega)] at e2
    exact h i x c e1 e2
  · rw [List.getElem?_append_right hge] at e1
    rw [List.getElem?_append_right (by omega), ← hl] at e2
    rcases Nat.eq_zero_or_pos (i - hs.length) with h0 | h0
    · rw [h0] at e1 e2
      simp at e1 e2
      subst e1; subst e2
      exact ⟨hn, hS, hL, hr⟩
    · rw [List.getElem?_eq_none (by simp; omega)] at e1; cases e1
/-- the k-th constraint replaced -/
theorem InL.set {w : World} {lo m : Nat} {row : Option Nat} {hs : List Hd} {cs : List Cn} (h : InL w lo m row hs cs) (k : Nat) {A : Option Addr} {n cap : Nat} {ts : List Tm} {bd : Int} (hn : n ≤ m)
    (hS : Seg w 2 A n (encT ts)) (hL : Lies lo w.heap.size A n) (hr : 0 < n → ∀ ad : Addr, A = some ad → row ≠ some ad.block) : InL w lo m row (hs.set k (A, n, cap)) (cs.set k (ts, bd)) := by
  intro i x c e1 e2
  by_cases hi : k = i
  · subst hi
    rw [List.getElem?_set] at e1 e2
    simp only [if_true] at e1 e2
    split at e1
    · split at e2
      · injection e1 with e1; injection e2 with e2; subst e1; subst e2
        exact ⟨hn, hS, hL, hr⟩
      · cases e2
    · cases e1
  · rw [List.getElem?_set_ne hi] at e1 e2
    exact h i x c e1 e2

theorem InL.cellRow {w : World} {lo m b o : Nat} {hs : List Hd} {cs : List Cn} (h : InL w lo m (some b) hs cs) (u : Value) : InL (w.setCell ⟨b, o, none⟩ u) lo m (some b) hs cs := by
  intro i x c h1 h2
  obtain ⟨q1, q2, q3, q4⟩ := h i x c h1 h2
  refine ⟨q1, q2.keep fun hn b' off v e o' hc => ?_, q3.wide (Nat.le_refl _) (by simp), q4⟩
  have hne := q4 hn _ e
  rw [World.cell?_setCell_other _ _ _ _ (by intro e2; injection e2 with e2; subst e2; exact hne rfl)]
  exact hc
theorem InL.norow {w : World} {lo m : Nat} {row : Option Nat} {hs : List Hd} {cs : List Cn} (h : InL w lo m row hs cs) : InL w lo m none hs cs := fun i x c h1 h2 => by
  obtain ⟨q1, q2, q3, _⟩ := h i x c h1 h2
  exact ⟨q1, q2, q3, fun _ _ _ => by simp⟩
theorem encH_setL : ∀ (hs : List Hd) (cs : List Cn) (k : Nat) (h : Hd) (c : Cn), hs.length = cs.length → ((encH hs cs).set (k * 2) (.slice h.1 h.2.1 h.2.2)).set (k * 2 + 1) (.int .i64 c.2) = encH (hs.set k h) (cs.set k c)
  | [], [], _, _, _, _ => rfl
  | [], _ :: _, _, _, _, e => by simp at e
  | _ :: _, [], _, _, _, e => by simp at e
  | x :: hs, y :: cs, 0, h, c, _ => rfl
  | x :: hs, y :: cs, k + 1, h, c, e => by
    have := encH_setL hs cs k h c (by simpa using e)
    rw [show (k + 1) * 2 = k * 2 + 1 + 1 from by omega]
    simp only [encH, List.set_cons_succ, this]
theorem oneCHl : ∀ (hs : List Hd) (cs : List Cn), ∀ u ∈ encH hs cs, u.oneCell' = true
  | [], _, u, h => by simp [encH] at h
  | _ :: _, [], u, h => by simp [encH] at h
  | h :: hs, c :: cs, u, hu => by
    simp only [encH, List.mem_cons] at hu
    rcases hu with rfl | rfl | hu
    · rfl
    · rfl
    · exact oneCHl hs cs u hu
/-- a list of constraints, all its blocks from lo on -/
def LiC (w : World) (lo m : Nat) (A : Option Addr) (n : Nat) (cs : List Cn) : Prop :=
  ∃ hs : List Hd, hs.length = cs.length ∧ Seg w 2 A n (encH hs cs) ∧ Lies lo w.heap.size A n ∧ InL w lo m none hs cs
section
variable {w w' : World} {lo m n : Nat} {A : Option Addr} {cs : List Cn}
theorem LiC.kept {lo' hi' : Nat} (h : LiC w lo m A n cs) (K : Kept lo' hi' w w') (hd : hi' ≤ lo) : LiC w' lo m A n cs := by
  obtain ⟨hs, h1, h2, h3, h4⟩ := h
  exact ⟨hs, h1, h2.kept h3 K (.inr hd), h3.wide (Nat.le_refl _) K.size, h4.kept K hd⟩
theorem LiC.ext (h : LiC w lo m A n cs) (E : Ext w w') : LiC w' lo m A n cs := h.kept E (Nat.zero_le _)
theorem LiC.wide {lo' m' : Nat} (h : LiC w lo m A n cs) (h1 : lo' ≤ lo) (h2 : m ≤ m') : LiC w lo' m' A n cs := by
  obtain ⟨hs, q1, q2, q3, q4⟩ := h
  exact ⟨hs, q1, q2, q3.wide h1 (Nat.le_refl _), q4.wide h1 h2⟩
theorem LiC.segC (h : LiC w lo m A n cs) (hm : m ≤ 1048576) : SegC w A n cs := by
  obtain ⟨hs, h1, h2, h3, h4⟩ := h
  exact ⟨hs, h1, h2, fun i x c e1 e2 => ⟨Nat.le_trans (h4 i x c e1 e2).1 (Nat.le_trans hm (by unfold maxLen; omega)), (h4 i x c e1 e2).2.1⟩⟩
theorem LiC.len (h : LiC w lo m A n cs) : cs.length = n := by
  obtain ⟨hs, h1, h2, _⟩ := h
  have := h2.1
  rw [encH_len hs cs h1] at this; omega
theorem LiC.small (h : LiC w lo m A n cs) : ∀ c ∈ cs, c.1.length ≤ m := by
  obtain ⟨hs, h1, h2, h3, h4⟩ := h
  intro c hc
  obtain ⟨i, hi⟩ := List.getElem?_of_mem hc
  have hlt : i < hs.length := by rw [h1]; exact (List.getElem?_eq_some_iff.1 hi).1
  obtain ⟨q1, q2, _⟩ := h4 i _ c (List.getElem?_eq_getElem hlt) hi
  rw [q2.lenT]; exact q1
end
/-- SOME constraints: at most N of at most m terms, in memory from lo on -/
def RdL (N m lo g L : Nat) (w : World) (e : Ending) (w' : World) : Prop :=
  ∃ A n c cs, e = .returned (.slice A n c) ∧ n ≤ N ∧ LiC w' lo m A n cs ∧ Kept g (g + 1) w w' ∧ Rd w' g L
theorem Try.infoCnL : (Try.prog.info? 25).map (fun i => (i.zero, i.size, i.bytes)) = some (some (.agg #[.slice none 0 0, .int .i64 0]), 2, 32) := by kernel_rfl

set_option maxRecDepth 100000 in
set_option maxHeartbeats 2000000 in
theorem l3Problem_any (g L : Nat) (w : World) (h : Rd w g L) (hL : L ≤ 800000000) :
    Calls Try.prog 53 #[.pointer (some ⟨g, 0, none⟩)] w (RdL 8 12 (g + 1) g (L + 500) w) := by
  obtain ⟨i0, hi, hz0, hz1, hz2⟩ := info_parts Try.infoCnL
  have HI := Lib.hid hi
  have HZ0 := Lib.hid hz0
  have HZ1 := Lib.hid hz1
  have HZ2 := Lib.hid hz2
  have hgw := h.lt
  have HR := Lib.hid h
  clear hi hz0 hz1 hz2 h
  go_enter Try.func53, Try.ntmps53
  go_wp2_with fail
  refine (num_lit [4, 5, 3, 6] g _ 4 _ _ _ _ (by simp) rfl rfl (by omega) (by omega) (HR.out.alloc _) (by omega)).mono ?_
  rintro e w1 ⟨m, rfl, hm, hK1, hR1⟩
  have hmb : 0 ≤ m ∧ m ≤ 6 := by simp at hm; omega
  obtain ⟨m, rfl⟩ := Int.eq_ofNat_of_zero_le hmb.1
  have HK1 := Lib.hid (((Kept.refl g (g + 1) w).alloc (.cells #[] 25)).trans hK1)
  have HR1 := Lib.hid hR1
  have hown1 := Lib.hid (own_kept (own_empty w w.heap.size 25 2 (Nat.le_refl _)) hK1 (by omega))
  have hz1 := hK1.size
  clear hm hK1 hR1 HR
  go_wp2_with fail
  refine (num_lit [4, 6, 3, 8, 2, 1, 0] g _ 7 _ _ _ _ (by simp) rfl rfl (by omega) (by omega) HR1.out (by omega)).mono ?_
  rintro e w2 ⟨q, rfl, hq, hK2, hR2⟩
  have hqb : 0 ≤ q ∧ q ≤ 8 := by simp at hq; omega
  obtain ⟨q, rfl⟩ := Int.eq_ofNat_of_zero_le hqb.1
  have HK2 := Lib.hid (HK1.out.trans hK2)
  have HR2 := Lib.hid hR2
  have hown2 := Lib.hid (own_kept hown1.out hK2 (by omega))
  have hz2 := hK2.size
  clear hq hK2 hR2 HR1 HK1 hown1
  go_wp2_with fail
  go_loopw [3, 5] (fun s0 i wr => ∃ (s : Value) (j k : Nat) (hs : List Hd) (cs : List Cn), s = s0 ∧ k + j ≤ 8 ∧ i = .int .i64 j ∧ hs.length = cs.length ∧ Kept g (g + 1) w wr ∧ Hid (Rd wr g (L + 2 + 60 * k)) ∧ Hid (wr.ownsRow w.heap.size 25 2 s k (encH hs cs)) ∧ Hid (InL wr w.heap.size 12 s.ownBlock hs cs)) (fun _ i _ => (intOf i).toNat)
  case atStart => exact ⟨_, q, 0, [], [], rfl, by omega, rfl, rfl, HK2.out, HR2.out.mono (by omega), hown2.out, InL.nil _ _ _ _⟩
  case round =>
    clear HK2 HR2 hown2
    obtain ⟨s, j, k, hs, cs, hs0, hk, rfl, hl, hE, hR, hown, hin⟩ := hrel
    subst hs0
    have HL := Lib.hid hl
    have hzw := hE.size
    clear hl
    by_cases hlt : 0 < j
    · go_wp2_with fail
      refine (l1Draw_any g _ m _ hR.out (by omega) (by omega)).mono ?_
      rintro e w3 ⟨A, n, c, ts, bd, rfl, hlt3, hn, hG, hK3, hR3⟩
      have hz3 := hK3.size
      have HK3 := Lib.hid (hE.trans hK3)
      have HR3 := Lib.hid hR3
      have hown3 := Lib.hid (own_kept hown.out hK3 (by omega))
      have hin3 := Lib.hid (hin.out.kept hK3 (by omega))
      have HG := Lib.hid hG
      have hob : Hid (∀ b, s.ownBlock = some b → b < wr.heap.size) := fun b hb => (hown.out.lt b hb).2
      clear hE hR hown hin hK3 hR3 hG
      go_wp2_with (first
        | (at_builtin
           refine wpList_append_lies _ rfl _ _ 55 rfl w.heap.size 25 i0 _ 2 32 Try.underlying55 HI.out HZ0.out HZ1.out HZ2.out rfl (by omega) s k _ rfl (hown3.out.alloc _) ⟨w3.heap.size, 0, none⟩ 1 1 [.slice A n c, .int .i64 bd] rfl rfl (cell_two_new w3 (.slice A n c) (.int .i64 bd) 25) ?_ (by omega) ?_ ?_ ?_ (w3.heap.size + 1) (by simp) ?_
           (intro u hu; simp at hu; rcases hu with rfl | rfl <;> rfl)
           (unfold maxLen; omega)
           omega
           (simp; omega)
           (intro gg cp w5 hown5 hg5 hat5 hlt5)))
      go_roundw
      case rel =>
        have KG : Kept w.heap.size (w3.alloc (.cells #[.slice A n c, .int .i64 bd] 25)).heap.size (w3.alloc (.cells #[.slice A n c, .int .i64 bd] 25)) w5 := kept_of_grown hg5 fun k hk => ((hown3.out.alloc (.cells #[.slice A n c, .int .i64 bd] 25)).lt k hk).1
        have I2 : InL w5 w.heap.size 12 (Value.slice (some ⟨gg, 0, none⟩) (k + 1) cp).ownBlock (hs ++ [(A, n, c)]) (cs ++ [(ts, bd)]) := ((hin3.out.ext ((Ext.refl _).alloc (.cells #[.slice A n c, .int .i64 bd] 25))).snoc (cap := c) HL.out (bd := bd) hn (HG.out.seg.alloc _) ((HG.out.lies.wide (lo' := w.heap.size) (by omega) (by simp))) (fun h0 ad e e2 => by
          have := HG.out.lies h0 ad e
          have := hob.out _ e2
          omega)).grownTo hg5 hat5 (by simp)
        refine ⟨_, j - 1, k + 1, hs ++ [(A, n, c)], cs ++ [(ts, bd)], rfl, by omega, by go_num, by simp [HL.out], (HK3.out.alloc _).fresh KG (Nat.le_refl _), ((HR3.out.alloc (.cells #[.slice A n c, .int .i64 bd] 25)).kept KG hgw).mono (by omega), ?_, I2⟩
        rw [encH_append hs cs _ _ HL.out]
        simpa [encH, Hid] using hown5
      case measure => simp [intOf]; omega
    · obtain rfl : j = 0 := by omega
      obtain ⟨A1, c1, rfl⟩ := own_slice hown.out
      have hP := own_parts hown.out
      have HF : Hid (LiC wr (g + 1) 12 A1 k cs) := by
        refine ⟨hs, HL.out, hP.1, hP.2.2.wide (by omega) (Nat.le_refl _), fun i x c e1 e2 => ?_⟩
        obtain ⟨q1, q2, q3, _⟩ := hin.out i x c e1 e2
        exact ⟨q1, q2, q3.wide (by omega) (Nat.le_refl _), fun _ _ _ => by simp⟩
      clear hP
      go_wp2
      go_ret
      exact ⟨_, k, c1, cs, rfl, by omega, HF.out, hE, hR.out.mono (by omega)⟩
set_option maxRecDepth 100000 in
set_option maxHeartbeats 2000000 in
theorem l3Mutate_any (g L m : Nat) (A : Option Addr) (n c : Nat) (cs : List Cn) (w : World) (h : Rd w g L) (hL : L ≤ 700000000) (hn : n ≤ 1000) (hm : m ≤ 100) (hs0 : LiC w (g + 1) m A n cs) :
    Calls Try.prog 52 #[.pointer (some ⟨g, 0, none⟩), .slice A n c] w (RdL n (m + 3) (g + 1) g (L + 20) w) := by
  obtain ⟨i0, hi, hz0, hz1, hz2⟩ := info_parts Try.infoCnL
  have HI := Lib.hid hi
  have HZ0 := Lib.hid hz0
  have HZ1 := Lib.hid hz1
  have HZ2 := Lib.hid hz2
  have hgw := h.lt
  have HR := Lib.hid h
  obtain ⟨hs, hl, hS, hLi, hIn⟩ := hs0
  have HLh := Lib.hid hl
  have HIN := Lib.hid hIn
  have OE := own_empty w w.heap.size 25 2 (Nat.le_refl _)
  have SV := Lib.hid (hS.alloc (.cells #[] 25))
  clear hi hz0 hz1 hz2 h hl hS hLi hIn
  rcases Nat.eq_zero_or_pos n with h0 | hpos
  · have hb : decide ((0 : Int) < (n : Int)) = false := decide_eq_false (by omega)
    go_enter Try.func52, Try.ntmps52
    go_wp2_with (first
      | (at_builtin
         refine wpList_append_seg _ rfl _ _ 55 rfl w.heap.size 25 i0 _ 2 32 Try.underlying55 HI.out HZ0.out HZ1.out HZ2.out rfl (by omega) (.slice (some ⟨w.heap.size, 0, none⟩) 0 0) 0 [] rfl OE A n c (encH hs cs) rfl SV.out (oneCHl _ _) ?_ ?_ ?_ ?_
         (unfold maxLen; omega)
         omega
         (first | exact Nat.le_refl _ | simp)
         (intro A9 c9 w9 hown9 hg9)
         (have P9 := own_parts (show w9.ownsRow w.heap.size 25 2 (.slice A9 n c9) n (encH hs cs) from (by simpa using hown9)))
         (have HS9 := Lib.hid P9.1)
         (have HF9 := Lib.hid P9.2.1)
         (have HL9 := Lib.hid P9.2.2)
         (have HE9 : Hid (Ext w w9) := ((Ext.refl w).alloc _).grown hg9 (fun k hk => Nat.le_of_eq (Option.some.inj hk)))
         (clear P9 hown9 hg9 OE SV)))
    have hz9 := HE9.out.size
    have HR9 := Lib.hid (HR.out.ext HE9.out)
    clear HR
    -- the answer where nothing is changed
    have same : Hid (∀ W, Kept g (g + 1) w9 W → LiC W (g + 1) (m + 3) A9 n cs) := fun W K => by
      have := K.size
      exact ⟨hs, HLh.out, HS9.out.kept HL9.out K (.inr (by omega)), HL9.out.wide (by omega) K.size, ((HIN.out.ext HE9.out).kept K (Nat.le_refl _)).wide (Nat.le_refl _) (by omega)⟩
    go_ret
    exact ⟨_, n, c9, cs, by simp [h0], Nat.le_refl _, same.out _ (Kept.refl _ _ _), HE9.out.kept _ _, HR9.out.mono (by omega)⟩
  · have hb : decide ((0 : Int) < (n : Int)) = true := decide_eq_true (by omega)
    go_enter Try.func52, Try.ntmps52
    go_wp2_with (first
      | (at_builtin
         refine wpList_append_seg _ rfl _ _ 55 rfl w.heap.size 25 i0 _ 2 32 Try.underlying55 HI.out HZ0.out HZ1.out HZ2.out rfl (by omega) (.slice (some ⟨w.heap.size, 0, none⟩) 0 0) 0 [] rfl OE A n c (encH hs cs) rfl SV.out (oneCHl _ _) ?_ ?_ ?_ ?_
         (unfold maxLen; omega)
         omega
         (first | exact Nat.le_refl _ | simp)
         (intro A9 c9 w9 hown9 hg9)
         (have P9 := own_parts (show w9.ownsRow w.heap.size 25 2 (.slice A9 n c9) n (encH hs cs) from (by simpa using hown9)))
         (have HS9 := Lib.hid P9.1)
         (have HF9 := Lib.hid P9.2.1)
         (have HL9 := Lib.hid P9.2.2)
         (have HE9 : Hid (Ext w w9) := ((Ext.refl w).alloc _).grown hg9 (fun k hk => Nat.le_of_eq (Option.some.inj hk)))
         (clear P9 hown9 hg9 OE SV)))
    have hz9 := HE9.out.size
    have HR9 := Lib.hid (HR.out.ext HE9.out)
    clear HR
    -- the answer where nothing is changed
    have same : Hid (∀ W, Kept g (g + 1) w9 W → LiC W (g + 1) (m + 3) A9 n cs) := fun W K => by
      have := K.size
      exact ⟨hs, HLh.out, HS9.out.kept HL9.out K (.inr (by omega)), HL9.out.wide (by omega) K.size, ((HIN.out.ext HE9.out).kept K (Nat.le_refl _)).wide (Nat.le_refl _) (by omega)⟩
    refine (pick_any g _ 20 _ HR9.out (by omega) (by omega)).mono ?_
    rintro e w1 ⟨i, rfl, hi, hK1, hR1⟩
    have hz1 := hK1.size
    have HK1 := Lib.hid hK1
    have HR1 := Lib.hid hR1
    clear hi hK1 hR1 HR9
    by_cases hi0 : i = 0
    · subst hi0
      go_wp2_with fail
      refine (pick_any g _ (n : Int) _ HR1.out (by omega) (by omega)).mono ?_
      rintro e w2 ⟨i, rfl, hi, hK2, hR2⟩
      obtain ⟨i, rfl⟩ := Int.eq_ofNat_of_zero_le hi.1
      have hin : i < n := by have := hi; unfold PickB at this; omega
      have hz2 := hK2.size
      have HK2 := Lib.hid (HK1.out.trans hK2)
      have HR2 := Lib.hid hR2
      clear hi hK2 hR2 HR1 HK1 same
      have hS2 := HS9.out.kept HL9.out HK2.out (.inr (by omega))
      obtain ⟨b, off, rfl⟩ := hS2.addr hpos
      have hbl := HL9.out hpos _ rfl
      simp only at hbl
      have IB := Lib.hid (((HIN.out.new (g := b) hbl.1).ext HE9.out).kept HK2.out (Nat.le_refl _))
      have hlh := HLh.out
      have hcl : cs.length = n := by have := hS2.1; rw [encH_len hs cs hlh] at this; omega
      have e1 : hs[i]? = some (hs[i]'(by omega)) := List.getElem?_eq_getElem _
      have e2 : cs[i]? = some (cs[i]'(by omega)) := List.getElem?_eq_getElem _
      generalize hs[i]'(by omega) = h1 at e1
      generalize cs[i]'(by omega) = k1 at e2
      obtain ⟨A1, n1, c1⟩ := h1
      obtain ⟨ts1, bd1⟩ := k1
      obtain ⟨b', off', e', hcc⟩ := hS2.2 hpos
      injection e' with e'; injection e' with e3 e4
      subst e3; subst e4
      have gg := encH_get hs cs i _ _ e1 e2
      have t1 : w2.cell? ⟨b, off + i * 2, none⟩ = some (.slice A1 n1 c1) := hcc _ _ gg.1
      have t2 : w2.cell? ⟨b, off + i * 2 + 1, none⟩ = some (.int .i64 bd1) := hcc _ _ gg.2
      obtain ⟨q1, q2, q3, q4⟩ := IB.out i _ _ e1 e2
      simp only at q1 q2 t1 t2
      have HS1 := Lib.hid q2
      have hCL := Lib.hid hcl
      clear hS2 e1 e2 hcc gg q2 q3 q4 hlh
      go_wp2_with fail
      refine (l1Mutate_any g _ A1 n1 c1 ts1 bd1 _ HR2.out (by omega) HS1.out (by omega)).mono ?_
      rintro e w3 ⟨A3, n3, c3, ts3, bd3, rfl, hl3, hn3, hG3, hK3, hR3⟩
      have hz3 := hK3.size
      go_wp2_with fail
      refine (l1Mutate_any g _ A3 n3 c3 ts3 bd3 _ hR3 (by omega) hG3.seg (by omega)).mono ?_
      rintro e w4 ⟨A4, n4, c4, ts4, bd4, rfl, hl4, hn4, hG4, hK4, hR4⟩
      have hz4 := hK4.size
      go_wp2_with fail
      refine (l1Mutate_any g _ A4 n4 c4 ts4 bd4 _ hR4 (by omega) hG4.seg (by omega)).mono ?_
      rintro e w5 ⟨A5, n5, c5, ts5, bd5, rfl, hl5, hn5, hG5, hK5, hR5⟩
      have hz5 := hK5.size
      have K5 := Lib.hid ((hK3.trans hK4).trans hK5)
      have HK5 := Lib.hid (HK2.out.trans K5.out)
      have S5 := Lib.hid (HS9.out.kept HL9.out HK5.out (.inr (by omega)))
      have F5 := Lib.hid (HF9.out.kept HS9.out HL9.out HK5.out (.inr (by omega)))
      have I5 := Lib.hid (IB.out.kept K5.out (Nat.le_refl _))
      have G5 := Lib.hid hG5
      have R5 := Lib.hid hR5
      have d1 := K5.out.cell (p := ⟨b, off + i * 2, none⟩) (by simp only; omega) (.inr (by simp only; omega))
      have d2 := K5.out.cell (p := ⟨b, off + i * 2 + 1, none⟩) (by simp only; omega) (.inr (by simp only; omega))
      rw [t1] at d1
      rw [t2] at d2
      have f1 := F5.out b off rfl (i * 2) (by omega)
      have f2 := F5.out b off rfl (i * 2 + 1) (by omega)
      rw [← Nat.add_assoc] at f2
      clear hl3 hG3 hK3 hR3 hl4 hG4 hK4 hR4 hG5 hK5 hR5 t1 t2 HS1 HS9 HF9
      go_wp2
      go_ret
      have s1 := S5.out.setAt (i := i * 2) (by rw [S5.out.1]; omega) (.slice A5 n5 c5)
      have s2 := s1.setAt (i := i * 2 + 1) (by rw [s1.1]; omega) (.int .i64 bd5)
      rw [encH_setL hs cs i (A5, n5, c5) (ts5, bd5) HLh.out, ← Nat.add_assoc] at s2
      have hgl := G5.out.lies
      refine ⟨_, n, c9, cs.set i (ts5, bd5), rfl, Nat.le_refl _, ⟨hs.set i (A5, n5, c5), by simp [HLh.out], s2, fun _ ad e => ?_, ?_⟩, ?_, ?_⟩
      · injection e with e; subst e; simp only [World.size_setCell]; omega
      · have I6 := (I5.out.wide (Nat.le_refl _) (Nat.le_add_right m 3)).set i (cap := c5) (bd := bd5) (by omega) G5.out.seg (hgl.wide (by omega) (Nat.le_refl _)) (fun h0 ad e e2 => by
          have := hgl h0 ad e
          injection e2 with e2; omega)
        exact ((I6.cellRow _).cellRow _).norow
      · exact ((HE9.out.kept g (g + 1)).trans HK5.out |>.setNew (p := ⟨b, off + i * 2, none⟩) hbl.1 _).setNew (p := ⟨b, off + i * 2 + 1, none⟩) hbl.1 _
      · exact ((R5.out.mono (by omega)).far (p := ⟨b, off + i * 2, none⟩) (by simp only; omega) _).far (p := ⟨b, off + i * 2 + 1, none⟩) (by simp only; omega) _
    · have hb0 : (i == 0) = false := by simpa using hi0
      clear hi0
      go_wp2
      go_ret
      exact ⟨_, n, c9, cs, by simp, Nat.le_refl _, same.out _ HK1.out, (HE9.out.kept _ _).trans HK1.out, HR1.out.mono (by omega)⟩


end

/- Hard problems: l5Hard; DrawCountSolutions, DrawNextSolution. -/
section
open Go.RowKit

/-- SOME constraints, in a row of the call's own -/
def RdLO (N m g L : Nat) (w : World) (e : Ending) (w' : World) : Prop :=
  ∃ A n c hs cs, e = .returned (.slice A n c) ∧ n ≤ N ∧ hs.length = cs.length ∧ w'.ownsRow w.heap.size 25 2 (.slice A n c) n (encH hs cs) ∧ InL w' w.heap.size m (Value.slice A n c).ownBlock hs cs ∧ Kept g (g + 1) w w' ∧ Rd w' g L

set_option maxRecDepth 100000 in
set_option maxHeartbeats 2000000 in
theorem l3ProblemO_any (g L : Nat) (w : World) (h : Rd w g L) (hL : L ≤ 800000000) :
    Calls Try.prog 53 #[.pointer (some ⟨g, 0, none⟩)] w (RdLO 8 12 g (L + 500) w) := by
  obtain ⟨i0, hi, hz0, hz1, hz2⟩ := info_parts Try.infoCnL
  have HI := Lib.hid hi
  have HZ0 := Lib.hid hz0
  have HZ1 := Lib.hid hz1
  have HZ2 := Lib.hid hz2
  have hgw := h.lt
  have HR := Lib.hid h
  clear hi hz0 hz1 hz2 h
  go_enter Try.func53, Try.ntmps53
  go_wp2_with fail
  refine (num_lit [4, 5, 3, 6] g _ 4 _ _ _ _ (by simp) rfl rfl (by omega) (by omega) (HR.out.alloc _) (by omega)).mono ?_
  rintro e w1 ⟨m, rfl, hm, hK1, hR1⟩
  have hmb : 0 ≤ m ∧ m ≤ 6 := by simp at hm; omega
  obtain ⟨m, rfl⟩ := Int.eq_ofNat_of_zero_le hmb.1
  have HK1 := Lib.hid (((Kept.refl g (g + 1) w).alloc (.cells #[] 25)).trans hK1)
  have HR1 := Lib.hid hR1
  have hown1 := Lib.hid (own_kept (own_empty w w.heap.size 25 2 (Nat.le_refl _)) hK1 (by omega))
  have hz1 := hK1.size
  clear hm hK1 hR1 HR
  go_wp2_with fail
  refine (num_lit [4, 6, 3, 8, 2, 1, 0] g _ 7 _ _ _ _ (by simp) rfl rfl (by omega) (by omega) HR1.out (by omega)).mono ?_
  rintro e w2 ⟨q, rfl, hq, hK2, hR2⟩
  have hqb : 0 ≤ q ∧ q ≤ 8 := by simp at hq; omega
  obtain ⟨q, rfl⟩ := Int.eq_ofNat_of_zero_le hqb.1
  have HK2 := Lib.hid (HK1.out.trans hK2)
  have HR2 := Lib.hid hR2
  have hown2 := Lib.hid (own_kept hown1.out hK2 (by omega))
  have hz2 := hK2.size
  clear hq hK2 hR2 HR1 HK1 hown1
  go_wp2_with fail
  go_loopw [3, 5] (fun s0 i wr => ∃ (s : Value) (j k : Nat) (hs : List Hd) (cs : List Cn), s = s0 ∧ k + j ≤ 8 ∧ i = .int .i64 j ∧ hs.length = cs.length ∧ Kept g (g + 1) w wr ∧ Hid (Rd wr g (L + 2 + 60 * k)) ∧ Hid (wr.ownsRow w.heap.size 25 2 s k (encH hs cs)) ∧ Hid (InL wr w.heap.size 12 s.ownBlock hs cs)) (fun _ i _ => (intOf i).toNat)
  case atStart => exact ⟨_, q, 0, [], [], rfl, by omega, rfl, rfl, HK2.out, HR2.out.mono (by omega), hown2.out, InL.nil _ _ _ _⟩
  case round =>
    clear HK2 HR2 hown2
    obtain ⟨s, j, k, hs, cs, hs0, hk, rfl, hl, hE, hR, hown, hin⟩ := hrel
    subst hs0
    have HL := Lib.hid hl
    have hzw := hE.size
    clear hl
    by_cases hlt : 0 < j
    · go_wp2_with fail
      refine (l1Draw_any g _ m _ hR.out (by omega) (by omega)).mono ?_
      rintro e w3 ⟨A, n, c, ts, bd, rfl, hlt3, hn, hG, hK3, hR3⟩
      have hz3 := hK3.size
      have HK3 := Lib.hid (hE.trans hK3)
      have HR3 := Lib.hid hR3
      have hown3 := Lib.hid (own_kept hown.out hK3 (by omega))
      have hin3 := Lib.hid (hin.out.kept hK3 (by omega))
      have HG := Lib.hid hG
      have hob : Hid (∀ b, s.ownBlock = some b → b < wr.heap.size) := fun b hb => (hown.out.lt b hb).2
      clear hE hR hown hin hK3 hR3 hG
      go_wp2_with (first
        | (at_builtin
           refine wpList_append_lies _ rfl _ _ 55 rfl w.heap.size 25 i0 _ 2 32 Try.underlying55 HI.out HZ0.out HZ1.out HZ2.out rfl (by omega) s k _ rfl (hown3.out.alloc _) ⟨w3.heap.size, 0, none⟩ 1 1 [.slice A n c, .int .i64 bd] rfl rfl (cell_two_new w3 (.slice A n c) (.int .i64 bd) 25) ?_ (by omega) ?_ ?_ ?_ (w3.heap.size + 1) (by simp) ?_
           (intro u hu; simp at hu; rcases hu with rfl | rfl <;> rfl)
           (unfold maxLen; omega)
           omega
           (simp; omega)
           (intro gg cp w5 hown5 hg5 hat5 hlt5)))
      go_roundw
      case rel =>
        have KG : Kept w.heap.size (w3.alloc (.cells #[.slice A n c, .int .i64 bd] 25)).heap.size (w3.alloc (.cells #[.slice A n c, .int .i64 bd] 25)) w5 := kept_of_grown hg5 fun k hk => ((hown3.out.alloc (.cells #[.slice A n c, .int .i64 bd] 25)).lt k hk).1
        have I2 : InL w5 w.heap.size 12 (Value.slice (some ⟨gg, 0, none⟩) (k + 1) cp).ownBlock (hs ++ [(A, n, c)]) (cs ++ [(ts, bd)]) := ((hin3.out.ext ((Ext.refl _).alloc (.cells #[.slice A n c, .int .i64 bd] 25))).snoc (cap := c) HL.out (bd := bd) hn (HG.out.seg.alloc _) ((HG.out.lies.wide (lo' := w.heap.size) (by omega) (by simp))) (fun h0 ad e e2 => by
          have := HG.out.lies h0 ad e
          have := hob.out _ e2
          omega)).grownTo hg5 hat5 (by simp)
        refine ⟨_, j - 1, k + 1, hs ++ [(A, n, c)], cs ++ [(ts, bd)], rfl, by omega, by go_num, by simp [HL.out], (HK3.out.alloc _).fresh KG (Nat.le_refl _), ((HR3.out.alloc (.cells #[.slice A n c, .int .i64 bd] 25)).kept KG hgw).mono (by omega), ?_, I2⟩
        rw [encH_append hs cs _ _ HL.out]
        simpa [encH, Hid] using hown5
      case measure => simp [intOf]; omega
    · obtain rfl : j = 0 := by omega
      obtain ⟨A1, c1, rfl⟩ := own_slice hown.out
      go_wp2
      go_ret
      exact ⟨A1, k, c1, hs, cs, rfl, by omega, HL.out, hown.out, hin.out, hE, hR.out.mono (by omega)⟩



end

/- Plain laws of evaluation: a literal made false. -/
section
def worseV (vs : List Bool) (l : Int) : List Bool := vs.set (absI l - 1).toNat (decide (l < 0))
theorem worseV_len (vs : List Bool) (l : Int) : (worseV vs l).length = vs.length := by simp [worseV]
theorem worseV_pos (vs : List Bool) (m : Nat) : worseV vs ((m : Int) + 1) = vs.set m false := by
  unfold worseV absI
  rw [if_neg (by omega), show ((m : Int) + 1 - 1).toNat = m from by omega, decide_eq_false (by omega)]
theorem worseV_neg (vs : List Bool) (m : Nat) : worseV vs (-((m : Int) + 1)) = vs.set m true := by
  unfold worseV absI
  rw [if_pos (by omega), show (- -((m : Int) + 1) - 1).toNat = m from by omega, decide_eq_true (by omega)]
theorem worse_lit {vs : List Bool} (h12 : vs.length = 12) {l : Int} (hl : litB l = true) : litV (worseV vs l) l = false := by
  obtain ⟨m, hm, rfl | rfl⟩ := lit_cases hl
  · rw [worseV_pos]; exact litV_pos _ m false (by rw [List.getElem?_set_self (by omega)])
  · rw [worseV_neg]; rw [litV_neg _ m true (by rw [List.getElem?_set_self (by omega)])]; rfl
theorem worse_other {vs : List Bool} {l l' : Int} (hl : litB l = true) (hl' : litB l' = true) (h : absI l' ≠ absI l) : litV (worseV vs l) l' = litV vs l' := by
  have := absI_pos hl; have := absI_pos hl'
  unfold litV worseV
  rw [List.getD_eq_getElem?_getD, List.getD_eq_getElem?_getD, List.getElem?_set_ne (by omega)]
theorem sumV_mono {vs vs' : List Bool} (ts : List Tm) (hc : ∀ t ∈ ts, 0 ≤ t.1) (h : ∀ t ∈ ts, litV vs' t.2 = true → litV vs t.2 = true) : sumV vs' ts ≤ sumV vs ts := by
  induction ts with
  | nil => simp [sumV]
  | cons t ts ih =>
    have h1 := ih (fun s hs => hc s (by simp [hs])) fun s hs => h s (by simp [hs])
    have h2 := h t (by simp)
    have h3 := hc t (by simp)
    simp only [sumV, List.map_cons, List.sum_cons] at h1 ⊢
    by_cases e : litV vs' t.2 = true
    · rw [if_pos e, if_pos (h2 e)]; omega
    · rw [if_neg e]; split <;> omega
theorem cvB_coef {ts : List Tm} {bd : Int} (h : cvB ts bd = true) : ∀ t ∈ ts, 1 ≤ t.1 ∧ t.1 ≤ 1000 := fun t ht => (goodB_mem ts 0 (cvB_good h) t ht).2
/-- FnEvalConstraint -/
theorem worse_ev {ts : List Tm} {bd : Int} {vs : List Bool} (h : cvB ts bd = true) (h12 : vs.length = 12) (he : evB ts bd vs = false) (t : Tm) (ht : t ∈ ts) : evB ts bd (worseV vs t.2) = false := by
  have hm := sumV_mono (vs := vs) (vs' := worseV vs t.2) ts (fun s hs => by have := cvB_coef h s hs; omega) fun s hs hv => by
    by_cases e : absI s.2 = absI t.2
    · have := goodB_inj ts 0 (cvB_good h) s hs t ht e
      subst this
      rw [worse_lit h12 (cvB_lit h s hs)] at hv
      cases hv
    · rw [worse_other (cvB_lit h t ht) (cvB_lit h s hs) e] at hv; exact hv
  unfold evB at he ⊢
  rw [h, h12] at he
  rw [h, worseV_len, h12]
  simp only [Bool.true_and, decide_true, decide_eq_false_iff_not] at he ⊢
  omega
end

/- (impl.Constraint).own and .valid. -/
section
open Go.RowKit


end

/- DivideConstraint, the program's and the reference's: all coefficients and the bound divided, rounded up. -/
section
open Go.RowKit

/-- the coefficients turned by f -/
def chMap (f : Int → Int) (ts : List Tm) : List Tm := ts.map fun t => (f t.1, t.2)
theorem chMap_len (f : Int → Int) (ts : List Tm) : (chMap f ts).length = ts.length := by simp [chMap]
theorem chMap_snoc (f : Int → Int) (ts : List Tm) (t : Tm) : chMap f (ts ++ [t]) = chMap f ts ++ [(f t.1, t.2)] := by simp [chMap]
/-- what 'changed' hands back -/
def chT (f : Int → Int) (ts : List Tm) (bd : Int) : List Tm := if cvB (chMap f ts) (f bd) = true then chMap f ts else []
def chD (f : Int → Int) (ts : List Tm) (bd : Int) : Int := if cvB (chMap f ts) (f bd) = true then f bd else 0

/-- divided and rounded up -/
def upM (k c : Int) : Int := (c + k - 1) / k
theorem upM_pos {k c : Int} (hk : 1 ≤ k) (hc : 1 ≤ c) : 1 ≤ upM k c ∧ upM k c ≤ c := by
  unfold upM
  refine ⟨Int.le_ediv_of_mul_le (by omega) (by omega), ?_⟩
  have h : (c - 1) * 1 ≤ (c - 1) * k := Int.mul_le_mul_of_nonneg_left hk (by omega)
  have : c + k - 1 < (c + 1) * k := by rw [Int.add_mul]; have e : c * k = (c - 1) * k + k := by rw [Int.sub_mul]; omega
                                       omega
  have := Int.ediv_lt_of_lt_mul (show (0 : Int) < k by omega) this
  omega
theorem upM_zero {k : Int} (hk : 1 ≤ k) : upM k 0 = 0 := by
  unfold upM
  exact Int.ediv_eq_zero_of_lt (by omega) (by omega)
theorem upM_nonneg {k c : Int} (hk : 1 ≤ k) (hc : 0 ≤ c) : 0 ≤ upM k c ∧ upM k c ≤ c := by
  rcases Int.lt_or_eq_of_le hc with h | rfl
  · have := upM_pos hk (show 1 ≤ c by omega); omega
  · rw [upM_zero hk]; omega
theorem goodB_chMap {f : Int → Int} (hf : ∀ c, 1 ≤ c → c ≤ 1000 → 1 ≤ f c ∧ f c ≤ 1000) (ts : List Tm) : ∀ v, goodB v ts = true → goodB v (chMap f ts) = true := by
  induction ts with
  | nil => intro v _; rfl
  | cons t ts ih =>
    intro v h
    obtain ⟨c, l⟩ := t
    rw [goodB_cons, Bool.and_eq_true, decide_eq_true_eq] at h
    have h2 := hf c h.1.2.2.1 h.1.2.2.2
    show goodB v ((f c, l) :: chMap f ts) = true
    rw [goodB_cons, Bool.and_eq_true, decide_eq_true_eq]
    exact ⟨⟨h.1.1, h.1.2.1, h2⟩, ih _ h.2⟩
theorem cvB_div {ts : List Tm} {bd k : Int} (h : cvB ts bd = true) (hk : 1 ≤ k) : cvB (chMap (upM k) ts) (upM k bd) = true := by
  have hb := cvB_bd h
  unfold cvB at h ⊢
  rw [Bool.and_eq_true] at h ⊢
  refine ⟨goodB_chMap (fun c h1 h2 => ?_) ts 0 h.1, ?_⟩
  · have := upM_pos hk h1; omega
  · have := upM_nonneg hk hb.1
    simp [inB]; omega
def dvB (ts : List Tm) (bd k : Int) : Bool := cvB ts bd && inB k 1 1000
def dvT (ts : List Tm) (bd k : Int) : List Tm := if dvB ts bd k = true then chMap (upM k) ts else []
def dvD (ts : List Tm) (bd k : Int) : Int := if dvB ts bd k = true then upM k bd else 0
theorem dvB_cv {ts : List Tm} {bd k : Int} (h : dvB ts bd k = true) : cvB ts bd = true := by unfold dvB at h; rw [Bool.and_eq_true] at h; exact h.1
theorem dvB_k {ts : List Tm} {bd k : Int} (h : dvB ts bd k = true) : 1 ≤ k ∧ k ≤ 1000 := by unfold dvB at h; rw [Bool.and_eq_true] at h; simpa [inB] using h.2
theorem dvT_len (ts : List Tm) (bd k : Int) : (dvT ts bd k).length ≤ 1048576 := by
  unfold dvT; split
  · rename_i h; have := cvB_len (dvB_cv h); rw [chMap_len]; omega
  · simp

/-- one element's coefficient turned -/
theorem encT_set1 (ts : List Tm) : ∀ (j : Nat) (c l c' : Int), ts[j]? = some (c, l) → (encT ts).set (j * 2) (.int .i64 c') = encT (ts.set j (c', l)) := by
  induction ts with
  | nil => intro j c l c' h; simp at h
  | cons t ts ih =>
    intro j c l c' h
    cases j with
    | zero =>
      simp only [List.getElem?_cons_zero, Option.some.injEq] at h
      subst h
      rfl
    | succ j =>
      rw [List.getElem?_cons_succ] at h
      rw [show (j + 1) * 2 = j * 2 + 1 + 1 from by omega]
      simp only [encT, List.set_cons_succ, ih j c l c' h]
theorem chMap_step (f : Int → Int) (ts : List Tm) (j : Nat) (c l : Int) (h : ts[j]? = some (c, l)) :
    ((chMap f (ts.take j) ++ ts.drop j).set j (f c, l)) = chMap f (ts.take (j + 1)) ++ ts.drop (j + 1) := by
  have hj : j < ts.length := (List.getElem?_eq_some_iff.1 h).1
  have hl : (chMap f (ts.take j)).length = j := by rw [chMap_len, List.length_take]; omega
  rw [drop_of_get _ _ _ h, take_of_get _ _ _ h, chMap_snoc, List.set_append_right _ _ (by omega), hl, Nat.sub_self, List.set_cons_zero, List.append_assoc]
  rfl
theorem chMap_at (f : Int → Int) (ts : List Tm) (j : Nat) (x : Tm) (h : ts[j]? = some x) : (chMap f (ts.take j) ++ ts.drop j)[j]? = some x := by
  have hj : j < ts.length := (List.getElem?_eq_some_iff.1 h).1
  have hl : (chMap f (ts.take j)).length = j := by rw [chMap_len, List.length_take]; omega
  rw [List.getElem?_append_right (by omega), hl, Nat.sub_self, drop_of_get _ _ _ h]
  rfl

end

/- Plain laws of division and multiplication. -/
section
theorem upM_eq {k : Int} (hk : 1 ≤ k) (c : Int) : upM k c = (c - 1) / k + 1 := by
  unfold upM
  have e : c + k - 1 = (c - 1) + 1 * k := by omega
  rw [e, Int.add_mul_ediv_right _ _ (by omega)]
theorem upM_upM {k n : Int} (hk : 1 ≤ k) (hn : 1 ≤ n) (hkn : 1 ≤ k * n) (c : Int) : upM n (upM k c) = upM (k * n) c := by
  rw [upM_eq hn, upM_eq hk, upM_eq hkn, Int.add_sub_cancel, Int.ediv_ediv_of_nonneg (by omega)]
theorem chMap_chMap (f g : Int → Int) (ts : List Tm) : chMap f (chMap g ts) = chMap (fun c => f (g c)) ts := by simp [chMap, Function.comp_def]
theorem chMap_congr (f g : Int → Int) (ts : List Tm) (h : ∀ c, f c = g c) : chMap f ts = chMap g ts := by
  have : f = g := funext h
  rw [this]
theorem upM_le {k : Int} (hk : 1 ≤ k) (c : Int) : c ≤ k * upM k c := by
  rw [upM_eq hk]
  have h1 := Int.mul_ediv_add_emod (c - 1) k
  have h2 := Int.emod_lt_of_pos (c - 1) (show 0 < k by omega)
  rw [Int.mul_add, Int.mul_one]
  omega
theorem upM_of_le {k bd S : Int} (hk : 1 ≤ k) (h : bd ≤ k * S) : upM k bd ≤ S := by
  rw [upM_eq hk]
  have : (bd - 1) / k < S := Int.ediv_lt_of_lt_mul (by omega) (by rw [Int.mul_comm]; omega)
  omega
theorem sumV_div {k : Int} (hk : 1 ≤ k) (vs : List Bool) (ts : List Tm) : sumV vs ts ≤ k * sumV vs (chMap (upM k) ts) := by
  induction ts with
  | nil => simp [sumV, chMap]
  | cons t ts ih =>
    have h1 := upM_le hk t.1
    simp only [sumV, chMap, List.map_cons, List.sum_cons] at ih ⊢
    rw [Int.mul_add]
    split <;> omega
/-- FnDivideConstraint -/
theorem div_sound {ts : List Tm} {bd k : Int} {vs : List Bool} (h : cvB ts bd = true) (hk : 1 ≤ k) (he : evB ts bd vs = true) : evB (chMap (upM k) ts) (upM k bd) vs = true := by
  unfold evB at he ⊢
  rw [h, Bool.true_and, Bool.and_eq_true, decide_eq_true_eq, decide_eq_true_eq] at he
  rw [cvB_div h hk, Bool.true_and, Bool.and_eq_true, decide_eq_true_eq, decide_eq_true_eq]
  exact ⟨he.1, upM_of_le hk (Int.le_trans he.2 (sumV_div hk vs ts))⟩

/-- multiplied -/
def muF (k c : Int) : Int := c * k
def muB (ts : List Tm) (bd k : Int) : Bool := (cvB ts bd && inB k 1 1000) && cvB (chMap (muF k) ts) (muF k bd)
def muT (ts : List Tm) (bd k : Int) : List Tm := if muB ts bd k = true then chMap (muF k) ts else []
def muD (ts : List Tm) (bd k : Int) : Int := if muB ts bd k = true then muF k bd else 0
theorem muB_cv {ts : List Tm} {bd k : Int} (h : muB ts bd k = true) : cvB ts bd = true := by unfold muB at h; rw [Bool.and_eq_true, Bool.and_eq_true] at h; exact h.1.1
theorem muB_k {ts : List Tm} {bd k : Int} (h : muB ts bd k = true) : 1 ≤ k ∧ k ≤ 1000 := by unfold muB at h; rw [Bool.and_eq_true, Bool.and_eq_true] at h; simpa [inB] using h.1.2
theorem muB_cv2 {ts : List Tm} {bd k : Int} (h : muB ts bd k = true) : cvB (chMap (muF k) ts) (muF k bd) = true := by unfold muB at h; rw [Bool.and_eq_true] at h; exact h.2
theorem muT_len (ts : List Tm) (bd k : Int) : (muT ts bd k).length ≤ 1048576 := by
  unfold muT; split
  · rename_i h; have := cvB_len (muB_cv h); rw [chMap_len]; omega
  · simp
theorem up_mul {k : Int} (hk : 1 ≤ k) (c : Int) : upM k (muF k c) = c := by
  rw [upM_eq hk]
  unfold muF
  have e : c * k - 1 = -1 + c * k := by omega
  rw [e, Int.add_mul_ediv_right _ _ (by omega)]
  have : (-1 : Int) / k = -1 := by
    have h1 := Int.mul_ediv_add_emod (-1) k
    have h2 := Int.emod_lt_of_pos (-1) (show 0 < k by omega)
    have h3 := Int.emod_nonneg (-1) (show k ≠ 0 by omega)
    have h4 : (-1 : Int) / k < 0 := Int.ediv_neg_of_neg_of_pos (by omega) (by omega)
    have h5 : -1 ≤ (-1 : Int) / k := by
      rcases Int.lt_or_le ((-1 : Int) / k) (-1) with h | h
      · have : k * ((-1 : Int) / k) ≤ k * (-2) := Int.mul_le_mul_of_nonneg_left (by omega) (by omega)
        omega
      · exact h
    omega
  rw [this]; omega
theorem chMap_up_mul {k : Int} (hk : 1 ≤ k) (ts : List Tm) : chMap (upM k) (chMap (muF k) ts) = ts := by
  rw [chMap_chMap, chMap_congr _ id ts (fun c => up_mul hk c)]
  simp [chMap]
theorem sumV_mul (k : Int) (vs : List Bool) (ts : List Tm) : sumV vs (chMap (muF k) ts) = sumV vs ts * k := by
  induction ts with
  | nil => simp [sumV, chMap]
  | cons t ts ih =>
    simp only [sumV, chMap, muF, List.map_cons, List.sum_cons] at ih ⊢
    rw [ih, Int.add_mul]
    split <;> omega
/-- FnMultiplyConstraint -/
theorem mul_eval {ts : List Tm} {bd k : Int} (h : muB ts bd k = true) (vs : List Bool) : evB (chMap (muF k) ts) (muF k bd) vs = evB ts bd vs := by
  have hk := (muB_k h).1
  unfold evB
  rw [muB_cv h, muB_cv2 h, sumV_mul]
  have e : decide (muF k bd ≤ sumV vs ts * k) = decide (bd ≤ sumV vs ts) := by
    unfold muF
    rw [Bool.eq_iff_iff, decide_eq_true_eq, decide_eq_true_eq]
    exact ⟨fun h => Int.le_of_mul_le_mul_right h (by omega), fun h => Int.mul_le_mul_of_nonneg_right h (by omega)⟩
  rw [e]
theorem dvT_of {ts : List Tm} {bd k : Int} (h : dvB ts bd k = true) : dvT ts bd k = chMap (upM k) ts := by unfold dvT; rw [if_pos h]
theorem dvD_of {ts : List Tm} {bd k : Int} (h : dvB ts bd k = true) : dvD ts bd k = upM k bd := by unfold dvD; rw [if_pos h]
theorem dvT_no {ts : List Tm} {bd k : Int} (h : dvB ts bd k = false) : dvT ts bd k = [] := by unfold dvT; rw [if_neg (by rw [h]; simp)]
theorem dvD_no {ts : List Tm} {bd k : Int} (h : dvB ts bd k = false) : dvD ts bd k = 0 := by unfold dvD; rw [if_neg (by rw [h]; simp)]
theorem muT_of {ts : List Tm} {bd k : Int} (h : muB ts bd k = true) : muT ts bd k = chMap (muF k) ts := by unfold muT; rw [if_pos h]
theorem muD_of {ts : List Tm} {bd k : Int} (h : muB ts bd k = true) : muD ts bd k = muF k bd := by unfold muD; rw [if_pos h]
theorem muT_no {ts : List Tm} {bd k : Int} (h : muB ts bd k = false) : muT ts bd k = [] := by unfold muT; rw [if_neg (by rw [h]; simp)]
theorem muD_no {ts : List Tm} {bd k : Int} (h : muB ts bd k = false) : muD ts bd k = 0 := by unfold muD; rw [if_neg (by rw [h]; simp)]
theorem dvB_of {ts : List Tm} {bd k : Int} (h : cvB ts bd = true) (h1 : 1 ≤ k) (h2 : k ≤ 1000) : dvB ts bd k = true := by unfold dvB; rw [h]; simp [inB]; omega
/-- FnDivideTwice -/
theorem div_twice {ts : List Tm} {bd k n : Int} (hk : 1 ≤ k) (hn : 1 ≤ n) (hkn : 1 ≤ k * n) : cEq (chMap (upM n) (chMap (upM k) ts)) (chMap (upM (k * n)) ts) (upM n (upM k bd)) (upM (k * n) bd) = true := by
  rw [chMap_chMap, chMap_congr _ (upM (k * n)) ts (fun c => upM_upM hk hn hkn c), upM_upM hk hn hkn]
  simp [cEq]
end

/- MultiplyConstraint: the contracts of the program's and the reference's. -/
section
open Go.RowKit

theorem Try.infoTmU : (Try.prog.info? 38).map (fun i => (i.zero, i.size, i.bytes)) = some (some (.agg #[.int .i64 0, .int .i64 0]), 2, 16) := by kernel_rfl



set_option maxRecDepth 100000 in
set_option maxHeartbeats 4000000 in
theorem specMul_any (A : Option Addr) (n cap : Nat) (ts : List Tm) (bd k : Int) (w : World) (hn : n ≤ maxLen) (h : Seg w 2 A n (encT ts)) :
    Calls Try.prog 87 #[.agg #[.slice A n cap, .int .i64 bd], .int .i64 k] w fun e w' => RetCB (muT ts bd k) (muD ts bd k) (muB ts bd k) w e w' := by
  by_cases hv : cvB ts bd = true
  · have HV := Lib.hid hv
    by_cases hk : inB k 1 1000 = true
    · have HL := Lib.hid h.lenT
      have hn12 : n ≤ 12 := by have := cvB_len hv; rw [HL.out] at this; exact this
      have hb := cvB_bd hv
      have hmt : muT ts bd k = chT (muF k) ts bd := by unfold muT chT muB; rw [hv, hk]; rfl
      have hmd : muD ts bd k = chD (muF k) ts bd := by unfold muD chD muB; rw [hv, hk]; rfl
      have hmb : muB ts bd k = cvB (chMap (muF k) ts) (muF k bd) := by unfold muB; rw [hv, hk]; rfl
      rw [hmt, hmd, hmb]
      clear hmt hmd hmb
      obtain ⟨kk1, kk2⟩ : 1 ≤ k ∧ k ≤ 1000 := by simpa [inB] using hk
      obtain ⟨i0, hi, hz0, hz1, hz2⟩ := info_parts Try.infoTmU
      have HI := Lib.hid hi
      have HZ0 := Lib.hid hz0
      have HZ1 := Lib.hid hz1
      have HZ2 := Lib.hid hz2
      clear hi hz0 hz1 hz2 hk hv
      go_enter Try.func87, Try.ntmps87
      go_wp2_with fail
      refine (specCV_any A n cap ts bd _ hn ((h.alloc _).alloc _)).mono ?_
      rintro e wc ⟨rfl, hEc⟩
      have hv := HV.out
      rw [hv]
      clear hv
      obtain ⟨Bc0, Bc1⟩ := Blk.of2 hEc
      have hzc := Bc1.lt
      have b0 := Bc0.cell 0
      have b1 := Bc0.cell 1
      have EC : Ext w wc := (((Ext.refl w).alloc _).alloc _).trans hEc
      have hB0' := Lib.hid Bc0
      have hR := Lib.hid Bc1
      have hN := Lib.hid h
      have hold := Lib.hid h.old
      clear Bc0 Bc1 h hEc
      have pb1 := Int.mul_le_mul hb.2 kk2 (by omega) (by omega)
      have pb0 := Int.mul_nonneg hb.1 (show 0 ≤ k by omega)
      obtain ⟨z, hz, hz0, hz1⟩ : ∃ z, Hid (muF k bd = z) ∧ 0 ≤ z ∧ z ≤ 20000000 := ⟨_, rfl, pb0, pb1⟩
      have ez : IntKind.i64.wrap (bd * k) = z := by rw [← hz.out]; exact IntWalk.i64_in _ (by omega)
      have HZ := hz
      clear hz pb0 pb1
      go_wp2_with fail
      go_loopw [7] (fun i wr => ∃ (j : Nat), j ≤ n ∧ i = .int .i64 j ∧ Ext w wr ∧ Hid (Blk wr w.heap.size 25 #[.slice A n cap, .int .i64 bd]) ∧ Hid (Blk wr (w.heap.size + 1) 25 #[.slice none 0 0, .int .i64 0]) ∧ ∃ v, Hid (Blk wr wc.heap.size 25 #[v, .int .i64 z]) ∧ Hid (wr.ownsRow (wc.heap.size + 1) 38 2 v j (encT (chMap (muF k) (ts.take j))))) (fun i _ => n - (intOf i).toNat)
      case atStart => exact ⟨0, by omega, rfl, EC.alloc _, hB0'.out.alloc _, hR.out.alloc _, .slice none 0 0, Blk.new _ _ _, World.ownsRow_nil _ _ _ _⟩
      case round =>
        clear hB0' hR EC
        clear ez
        obtain ⟨j, hj, rfl, hE, hBx, hB0, v, hB1, hown⟩ := hrel
        have b0 := hBx.out.cell 0
        have hsz := hB1.out.lt
        by_cases hlt : j < n
        · obtain ⟨b, off, c, l, rfl, hx, c1, c2⟩ := (hN.out.ext hE).term hlt
          have hbl : b < w.heap.size := (hold.out (by omega) _ rfl).2
          have hc := (cvB_get HV.out hx).2
          have HX := Lib.hid hx
          have b1 := hB1.out.cell 0
          have f1 := hB1.out.frozen 0
          have hne : ∀ k, k < wc.heap.size + 1 → some k ≠ v.ownBlock := fun k hk e => by have := (hown.out.lt k e.symm).1; omega
          have K0 : Hid (∀ W, Ext wr W → (W.cell? ⟨wc.heap.size, 0, none⟩ = some v ∧ W.cell? ⟨w.heap.size, 0, none⟩ = some (.slice (some ⟨b, off, none⟩) n cap) ∧ W.cell? ⟨b, off + j * 2, none⟩ = some (.int .i64 c) ∧ W.cell? ⟨b, off + j * 2 + 1, none⟩ = some (.int .i64 l))) := fun W e => ⟨e.cell b1, e.cell b0, e.cell c1, e.cell c2⟩
          have KA : Hid (∀ W W', Ext wr W → W.grownBy W' v.ownBlock → (W'.cell? ⟨wc.heap.size, 0, none⟩ = some v ∧ W'.cell? ⟨w.heap.size, 0, none⟩ = some (.slice (some ⟨b, off, none⟩) n cap) ∧ W'.cell? ⟨b, off + j * 2, none⟩ = some (.int .i64 c) ∧ W'.cell? ⟨b, off + j * 2 + 1, none⟩ = some (.int .i64 l))) := fun W W' e hg => by
            have q := K0.out W e
            have z := e.size
            refine ⟨?_, ?_, ?_, ?_⟩
            · rw [hg.cell_far _ (by simp only; omega) (hne _ (by simp only; omega))]; exact q.1
            · rw [hg.cell_far _ (by simp only; omega) (hne _ (by simp only; omega))]; exact q.2.1
            · rw [hg.cell_far _ (by simp only; omega) (hne _ (by simp only; omega))]; exact q.2.2.1
            · rw [hg.cell_far _ (by simp only; omega) (hne _ (by simp only; omega))]; exact q.2.2.2
          have pc1 := Int.mul_le_mul hc.2 kk2 (by omega) (by omega)
          have pc0 := Int.mul_nonneg (show 0 ≤ c by omega) (show 0 ≤ k by omega)
          have ec : IntKind.i64.wrap (c * k) = muF k c := IntWalk.i64_in _ (by omega)
          clear pc0 pc1
          have j0 : (0 : Int) ≤ (j : Int) := Int.natCast_nonneg _
          have j1 : (j : Int) < (n : Int) := by omega
          clear hx
          go_wp2_with fail
          have hS0 := K0.out wr.drew (Ext.refl _).drew
          refine wp_region_Z (fun w' => w'.cell? ⟨wc.heap.size, 0, none⟩ = some v ∧ w'.cell? ⟨w.heap.size, 0, none⟩ = some (.slice (some ⟨b, off, none⟩) n cap) ∧ w'.cell? ⟨b, off + j * 2, none⟩ = some (.int .i64 c) ∧ w'.cell? ⟨b, off + j * 2 + 1, none⟩ = some (.int .i64 l)) 20 (by kernel_rfl) ?_
          refine wpAnyZ_take 0 (v := ?_) (by kernel_rfl) rfl rfl (by kernel_rfl) (by kernel_rfl) (by kernel_rfl) (fun _ _ _ h => h) hS0 (Or.inl ⟨by rfl, ?_⟩) ?_
          rotate_left
          · (intro w hSw; (try dsimp only at hSw); go_simp; (try with_reducible rfl))
          try simp only [Act.put, List.setIfInBounds_toArray, List.set_cons_zero, List.set_cons_succ]
          refine wpAnyZ_take 1 (v := ?_) (by kernel_rfl) rfl rfl (by kernel_rfl) (by kernel_rfl) (by kernel_rfl) (fun _ _ _ h => h) hS0 (Or.inl ⟨by rfl, ?_⟩) ?_
          rotate_left
          · (intro w hSw; (try dsimp only at hSw); go_simp; (try with_reducible rfl))
          try simp only [Act.put, List.setIfInBounds_toArray, List.set_cons_zero, List.set_cons_succ]
          refine wpAnyZ_take 2 (v := ?_) (by kernel_rfl) rfl rfl (by kernel_rfl) (by kernel_rfl) (by kernel_rfl) (fun _ _ _ h => h) hS0 (Or.inl ⟨by rfl, ?_⟩) ?_
          rotate_left
          · (intro w hSw; (try dsimp only at hSw); go_simp; (try with_reducible rfl))
          try simp only [Act.put, List.setIfInBounds_toArray, List.set_cons_zero, List.set_cons_succ]
          refine wpAnyZ_take 3 (v := ?_) (by kernel_rfl) rfl rfl (by kernel_rfl) (by kernel_rfl) (by kernel_rfl) (fun _ _ _ h => h) hS0 (Or.inl ⟨by rfl, ?_⟩) ?_
          rotate_left
          · (intro w hSw; (try dsimp only at hSw); go_simp; (try with_reducible rfl))
          try simp only [Act.put, List.setIfInBounds_toArray, List.set_cons_zero, List.set_cons_succ]
          refine wpAnyZ_take 4 (v := ?_) (by kernel_rfl) rfl rfl (by kernel_rfl) (by kernel_rfl) (by kernel_rfl) (fun _ _ _ h => h) hS0 (Or.inl ⟨by rfl, ?_⟩) ?_
          rotate_left
          · (intro w hSw; (try dsimp only at hSw); go_simp; (try with_reducible rfl))
          try simp only [Act.put, List.setIfInBounds_toArray, List.set_cons_zero, List.set_cons_succ]
          refine wpAnyZ_take 5 (v := ?_) (by kernel_rfl) rfl rfl (by kernel_rfl) (by kernel_rfl) (by kernel_rfl) (fun _ _ _ h => h) hS0 (Or.inl ⟨by rfl, ?_⟩) ?_
          rotate_left
          · (intro w hSw; (try dsimp only at hSw); go_simp; (try with_reducible rfl))
          try simp only [Act.put, List.setIfInBounds_toArray, List.set_cons_zero, List.set_cons_succ]
          refine wpAnyZ_take 6 (v := ?_) (by kernel_rfl) rfl rfl (by kernel_rfl) (by kernel_rfl) (by kernel_rfl) (fun _ _ _ h => h) hS0 (Or.inl ⟨by rfl, ?_⟩) ?_
          rotate_left
          · (intro w hSw; (try dsimp only at hSw); go_simp; (try with_reducible rfl))
          try simp only [Act.put, List.setIfInBounds_toArray, List.set_cons_zero, List.set_cons_succ]
          refine wpAnyZ_take 7 (v := ?_) (by kernel_rfl) rfl rfl (by kernel_rfl) (by kernel_rfl) (by kernel_rfl) (fun _ _ _ h => h) hS0 (Or.inl ⟨by rfl, ?_⟩) ?_
          rotate_left
          · (intro w hSw; (try dsimp only at hSw); go_simp; (try with_reducible rfl))
          try simp only [Act.put, List.setIfInBounds_toArray, List.set_cons_zero, List.set_cons_succ]
          refine wpAnyZ_take 8 (v := ?_) (by kernel_rfl) rfl rfl (by kernel_rfl) (by kernel_rfl) (by kernel_rfl) (fun _ _ _ h => h) hS0 (Or.inl ⟨by rfl, ?_⟩) ?_
          rotate_left
          · (intro w hSw; (try dsimp only at hSw); go_simp; (try with_reducible rfl))
          try simp only [Act.put, List.setIfInBounds_toArray, List.set_cons_zero, List.set_cons_succ]
          refine wpAnyZ_take 9 (v := ?_) (by kernel_rfl) rfl rfl (by kernel_rfl) (by kernel_rfl) (by kernel_rfl) (fun _ _ _ h => h) hS0 (Or.inl ⟨by rfl, ?_⟩) ?_
          rotate_left
          · (intro w hSw; (try dsimp only at hSw); go_simp; (try with_reducible rfl))
          try simp only [Act.put, List.setIfInBounds_toArray, List.set_cons_zero, List.set_cons_succ]
          refine wpAnyZ_take 10 (v := ?_) (by kernel_rfl) rfl rfl (by kernel_rfl) (by kernel_rfl) (by kernel_rfl) (fun _ _ _ h => h) hS0 (Or.inl ⟨by rfl, ?_⟩) ?_
          rotate_left
          · (intro w hSw; (try dsimp only at hSw); go_simp; (try with_reducible rfl))
          try simp only [Act.put, List.setIfInBounds_toArray, List.set_cons_zero, List.set_cons_succ]
          refine wpAnyZ_take 11 (v := ?_) (by kernel_rfl) rfl rfl (by kernel_rfl) (by kernel_rfl) (by kernel_rfl) (fun _ _ _ h => h) hS0 (Or.inl ⟨by rfl, ?_⟩) ?_
          rotate_left
          · (intro w hSw; (try dsimp only at hSw); go_simp; (try with_reducible rfl))
          try simp only [Act.put, List.setIfInBounds_toArray, List.set_cons_zero, List.set_cons_succ]
          refine wpAnyZ_take 12 (v := ?_) (by kernel_rfl) rfl rfl (by kernel_rfl) (by kernel_rfl) (by kernel_rfl) (fun _ _ _ h => h) hS0 (Or.inl ⟨by rfl, ?_⟩) ?_
          rotate_left
          · (intro w hSw; (try dsimp only at hSw); go_simp; (try with_reducible rfl))
          try simp only [Act.put, List.setIfInBounds_toArray, List.set_cons_zero, List.set_cons_succ]
          refine wpAnyZ_take 13 (v := ?_) (by kernel_rfl) rfl rfl (by kernel_rfl) (by kernel_rfl) (by kernel_rfl) (fun _ _ _ h => h) hS0 (Or.inl ⟨by rfl, ?_⟩) ?_
          rotate_left
          · (intro w hSw; (try dsimp only at hSw); go_simp; (try with_reducible rfl))
          try simp only [Act.put, List.setIfInBounds_toArray, List.set_cons_zero, List.set_cons_succ]
          refine wpAnyZ_take 14 (v := ?_) (by kernel_rfl) rfl rfl (by kernel_rfl) (by kernel_rfl) (by kernel_rfl) (fun _ _ _ h => h) hS0 (Or.inl ⟨by rfl, ?_⟩) ?_
          rotate_left
          · (intro w hSw; (try dsimp only at hSw); go_simp; (try with_reducible rfl))
          try simp only [Act.put, List.setIfInBounds_toArray, List.set_cons_zero, List.set_cons_succ]
          refine wpAnyZ_take 15 (v := ?_) (by kernel_rfl) rfl rfl (by kernel_rfl) (by kernel_rfl) (by kernel_rfl) (fun _ _ _ h => h) hS0 (Or.inl ⟨by rfl, ?_⟩) ?_
          rotate_left
          · (intro w hSw; (try dsimp only at hSw); go_simp; (try with_reducible rfl))
          try simp only [Act.put, List.setIfInBounds_toArray, List.set_cons_zero, List.set_cons_succ]
          refine wpAnyZ_take 16 (v := ?_) (by kernel_rfl) rfl rfl (by kernel_rfl) (by kernel_rfl) (by kernel_rfl) (fun _ _ _ h => h) hS0 (Or.inl ⟨by rfl, ?_⟩) ?_
          rotate_left
          · (intro w hSw; (try dsimp only at hSw); go_simp; (try with_reducible rfl))
          try simp only [Act.put, List.setIfInBounds_toArray, List.set_cons_zero, List.set_cons_succ]
          clear ec
          refine wpAnyZ_one 17 (by kernel_rfl) rfl rfl (fun K hK => ?_)
          go_simp
          refine hK.out _ _ (K0.out _ (by first | exact ((Ext.refl _).drew).alloc _ | exact ((Ext.refl _).alloc _).drew)) ?_
          clear hK K
          try simp only [Act.put, List.setIfInBounds_toArray, List.set_cons_zero, List.set_cons_succ]
          refine wpAnyZ_one 18 (by kernel_rfl) rfl rfl (fun K hK => ?_)
          refine wp_append_lies _ _ _ _ (by rfl) (wc.heap.size + 1) 38 i0 _ 2 16 Try.underlying23 HI.out HZ0.out HZ1.out HZ2.out rfl (by omega) v j _ (by rfl) (hown.out.alloc _).drew
                ⟨wr.heap.size, 0, none⟩ 1 1 [.int .i64 (muF k c), .int .i64 l] (by rfl) (by rfl) (World.news_of_block (cs := #[.int .i64 (muF k c), .int .i64 l]) (t := 38) (fr := (0, 0)) (heap_alloc_new wr _)) (by simp [Value.oneCell'])
                (by omega) (by unfold maxLen; omega) (by omega) (by simp; omega) (wr.heap.size + 1) (by simp) ?_
          intro gg cp w1 hown1 hg1 hat hlt1
          have BB1 := own_blk ((hB1.out.alloc _).drew) ((hown.out.alloc _).drew) (by omega) hg1
          have bb1 := BB1.cell 0
          have fz1 := BB1.frozen 0
          clear BB1
          have hSa := KA.out _ _ (by first | exact ((Ext.refl _).drew).alloc _ | exact ((Ext.refl _).alloc _).drew) hg1
          refine hK.out _ _ hSa ?_
          clear hK K
          try simp only [Act.put, List.setIfInBounds_toArray, List.set_cons_zero, List.set_cons_succ]
          refine wpAnyZ_one 19 (by kernel_rfl) rfl rfl (fun K hK => ?_)
          go_simp
          refine hK.out _ _ hSa ?_
          clear hK K
          try simp only [Act.put, List.setIfInBounds_toArray, List.set_cons_zero, List.set_cons_succ]
          refine wpAnyZ_last (by kernel_rfl) (by kernel_rfl) rfl rfl (fun K hK => ?_)
          go_simp
          refine hK.out _ _ ?_
          clear hK K
          have hg2 : (wr.drew.alloc (.cells #[.int .i64 (muF k c), .int .i64 l] 38)).grownBy w1 v.ownBlock := hg1
          obtain ⟨E1, K1, O1⟩ := push_box hE.drew hB1.out.drew hown.out.drew (by omega) (by omega) (by omega) hg2 hown1
          have Kx := push_blk (gc := wc.heap.size) (v1 := .slice (some ⟨gg, 0, none⟩) (j + 1) cp) hBx.out.drew hown.out.drew (by omega) (by omega) hg2
          have Kr := push_blk (gc := wc.heap.size) (v1 := .slice (some ⟨gg, 0, none⟩) (j + 1) cp) hB0.out.drew hown.out.drew (by omega) (by omega) hg2
          go_wp2
          go_roundw
          case rel =>
            refine ⟨j + 1, by omega, by go_num, E1, Kx, Kr, _, K1, ?_⟩
            rw [take_of_get _ _ _ HX.out, chMap_snoc, encT_append]
            simpa [encT, Hid] using O1
          case measure => simp [intOf]; omega
        · obtain rfl : j = n := by omega
          obtain ⟨A1, c1, rfl⟩ := own_slice hown.out
          have b2 := hB1.out.cell 0
          have b3 := hB1.out.cell 1
          have hzr := hB0.out.lt
          have hzq := hB1.out.lt
          have P := own_parts hown.out
          rw [List.take_of_length_le (by rw [HL.out]; omega)] at P
          have HP := Lib.hid P.1
          have HOwn := hown
          rw [List.take_of_length_le (by rw [HL.out]; omega)] at HOwn
          have HE9 := Lib.hid hE
          clear P hE hown
          have hcv := fun W (hE : Ext wr W) => specCV_any A1 j c1 (chMap (muF k) ts) z W (by unfold maxLen; omega) (HP.out.ext hE)
          by_cases h2 : cvB (chMap (muF k) ts) z = true
          · have HV2 := Lib.hid h2
            have HH := Lib.hid (hcv wr (Ext.refl _))
            clear h2 hcv
            go_wp2_with fail
            refine (calls_val HH.out (congrArg Value.bool HV2.out)).mono ?_
            rintro e w9 ⟨rfl, hE9⟩
            have B1 := hB1.out.ext hE9
            have B0 := hB0.out.ext hE9
            have hzs := hE9.size
            clear b2 b3
            have b2 := B1.cell 0
            have b3 := B1.cell 1
            have r0 := B0.cell 0
            have r1 := B0.cell 1
            have q0 := B0.frozen 0
            have q1 := B0.frozen 1
            have HO9 := Lib.hid (own_ext_keep HOwn.out hE9)
            have HEE := Lib.hid (HE9.out.trans hE9)
            clear B0 B1 hE9 hB0 hB1 HOwn HH
            go_wp2
            refine bodyPost_ret (v := .tuple #[.agg #[.slice A1 j c1, .int .i64 z], .bool true]) (by simp [results, Try.results87, go_sem, r0, r1]) rfl ?_
            have K : Kept (w.heap.size + 1) (w.heap.size + 2) w9 _ := ((Kept.refl _ _ w9).setIn (p := ⟨w.heap.size + 1, 0, none⟩) (by simp) (.slice A1 j c1)).setIn (p := ⟨w.heap.size + 1, 1, none⟩) (by simp) (.int .i64 z)
            have G := own_got2 (w := w) HO9.out K (by omega) (by omega)
            refine ⟨A1, j, c1, by unfold chD; rw [HZ.out, if_pos HV2.out, HV2.out], by unfold chT; rw [HZ.out, if_pos HV2.out, chMap_len, HL.out], ?_, (HEE.out.setNew (by simp) _).setNew (by simp) _⟩
            unfold chT
            rw [HZ.out, if_pos HV2.out]
            exact G
          · have h2f : cvB (chMap (muF k) ts) z = false := by simpa using h2
            have HV2 := Lib.hid h2f
            have HH := Lib.hid (hcv wr (Ext.refl _))
            clear h2 h2f hcv
            go_wp2_with fail
            refine (calls_val HH.out (congrArg Value.bool HV2.out)).mono ?_
            rintro e w9 ⟨rfl, hE9⟩
            have B0 := hB0.out.ext hE9
            have hzs := hE9.size
            clear b2 b3
            have r0 := B0.cell 0
            have r1 := B0.cell 1
            have q0 := B0.frozen 0
            have q1 := B0.frozen 1
            have HEE := Lib.hid (HE9.out.trans hE9)
            clear B0 hE9 hB0 hB1 HOwn HH
            go_wp2
            refine bodyPost_ret (v := .tuple #[.agg #[.slice none 0 0, .int .i64 0], .bool false]) (by simp [results, Try.results87, go_sem, r0, r1]) rfl ?_
            exact (RetCB.zero ((HEE.out.setNew (by simp) _).setNew (by simp) _)).of_eq (by unfold chT; rw [HZ.out, if_neg (by rw [HV2.out]; simp)]) (by unfold chD; rw [HZ.out, if_neg (by rw [HV2.out]; simp)]) (by rw [HZ.out]; exact HV2.out.symm)
    · have hk' : inB k 1 1000 = false := by simpa using hk
      have HO : Hid (muB ts bd k = false) := by unfold muB Hid; rw [hv, hk']; rfl
      have HK := Lib.hid hk'
      clear hk hv
      by_cases hk1 : k < 1
      case' neg =>
        have hk2 : 1000 < k := by
          have := HK.out
          simp [inB] at this; omega
      all_goals
        clear hk'
        go_enter Try.func87, Try.ntmps87
        go_wp2_with fail
        refine (specCV_any A n cap ts bd _ hn ((h.alloc _).alloc _)).mono ?_
        rintro e w1 ⟨rfl, hE1⟩
        have hv := HV.out
        rw [hv]
        clear hv h
        obtain ⟨B0, B1⟩ := Blk.of2 hE1
        have r0 := B1.cell 0
        have r1 := B1.cell 1
        have q0 := B1.frozen 0
        have q1 := B1.frozen 1
        clear B0 B1
        go_wp2
        refine bodyPost_ret (v := .tuple #[.agg #[.slice none 0 0, .int .i64 0], .bool false]) (by simp [results, Try.results87, go_sem, r0, r1]) rfl ?_
        have E1 : Ext w w1 := (((Ext.refl w).alloc _).alloc _).trans hE1
        exact (RetCB.zero ((E1.setNew (by simp) _).setNew (by simp) _)).of_eq (by unfold muT; rw [if_neg (by rw [HO.out]; simp)]) (by unfold muD; rw [if_neg (by rw [HO.out]; simp)]) HO.out.symm
  · have hf : cvB ts bd = false := by simpa using hv
    have HO : Hid (muB ts bd k = false) := by unfold muB Hid; rw [hf, Bool.false_and, Bool.false_and]
    clear hv
    go_enter Try.func87, Try.ntmps87
    go_wp2_with fail
    refine (specCV_any A n cap ts bd _ hn ((h.alloc _).alloc _)).mono ?_
    rintro e w1 ⟨rfl, hE1⟩
    rw [hf]
    clear hf h
    obtain ⟨B0, B1⟩ := Blk.of2 hE1
    have r0 := B1.cell 0
    have r1 := B1.cell 1
    have q0 := B1.frozen 0
    have q1 := B1.frozen 1
    clear B0 B1
    go_wp2
    refine bodyPost_ret (v := .tuple #[.agg #[.slice none 0 0, .int .i64 0], .bool false]) (by simp [results, Try.results87, go_sem, r0, r1]) rfl ?_
    have E1 : Ext w w1 := (((Ext.refl w).alloc _).alloc _).trans hE1
    exact (RetCB.zero ((E1.setNew (by simp) _).setNew (by simp) _)).of_eq (by unfold muT; rw [if_neg (by rw [HO.out]; simp)]) (by unfold muD; rw [if_neg (by rw [HO.out]; simp)]) HO.out.symm
end

/- DivideConstraint: the contracts of the program's and the reference's. -/
section
open Go.RowKit

theorem Try.infoTmD : (Try.prog.info? 38).map (fun i => (i.zero, i.size, i.bytes)) = some (some (.agg #[.int .i64 0, .int .i64 0]), 2, 16) := by kernel_rfl


set_option maxHeartbeats 400000 in
theorem l2Up_any (x k : Int) (w : World) (h1 : 0 ≤ x) (h2 : x ≤ 20000) (k1 : 1 ≤ k) (k2 : k ≤ 1000) :
    Calls Try.prog 94 #[.int .i64 x, .int .i64 k] w fun e w' => e = .returned (.int .i64 (upM k x)) ∧ w = w' := by
  go_enter Try.func94, Try.ntmps94
  go_wp2
  go_ret
  exact ⟨rfl, rfl⟩

set_option maxRecDepth 100000 in
set_option maxHeartbeats 4000000 in
theorem specDiv_any (A : Option Addr) (n cap : Nat) (ts : List Tm) (bd k : Int) (w : World) (hn : n ≤ maxLen) (h : Seg w 2 A n (encT ts)) :
    Calls Try.prog 88 #[.agg #[.slice A n cap, .int .i64 bd], .int .i64 k] w fun e w' => RetCB (dvT ts bd k) (dvD ts bd k) (dvB ts bd k) w e w' := by
  by_cases hv : cvB ts bd = true
  · have HV := Lib.hid hv
    by_cases hk : inB k 1 1000 = true
    · have HL := Lib.hid h.lenT
      have hn12 : n ≤ 12 := by have := cvB_len hv; rw [HL.out] at this; exact this
      have hb := cvB_bd hv
      have HO : Hid (dvB ts bd k = true) := by unfold dvB Hid; rw [hv, hk]; rfl
      obtain ⟨kk1, kk2⟩ := dvB_k HO.out
      obtain ⟨i0, hi, hz0, hz1, hz2⟩ := info_parts Try.infoTmD
      have HI := Lib.hid hi
      have HZ0 := Lib.hid hz0
      have HZ1 := Lib.hid hz1
      have HZ2 := Lib.hid hz2
      clear hi hz0 hz1 hz2 hk hv
      go_enter Try.func88, Try.ntmps88
      go_wp2_with fail
      refine (specCV_any A n cap ts bd _ hn ((h.alloc _).alloc _)).mono ?_
      rintro e wc ⟨rfl, hEc⟩
      have hv := HV.out
      rw [hv]
      clear hv
      obtain ⟨Bc0, Bc1⟩ := Blk.of2 hEc
      have hzc := Bc1.lt
      have b0 := Bc0.cell 0
      have b1 := Bc0.cell 1
      have EC : Ext w wc := (((Ext.refl w).alloc _).alloc _).trans hEc
      have hB0' := Lib.hid Bc0
      have hR := Lib.hid Bc1
      have hN := Lib.hid h
      have hold := Lib.hid h.old
      clear Bc0 Bc1 h hEc
      go_wp2_with fail
      refine (l2Up_any bd k _ (by omega) (by omega) kk1 kk2).mono ?_
      rintro e w2 ⟨rfl, rfl⟩
      generalize hz : upM k bd = z
      have HZ := Lib.hid hz
      clear hz b0 b1
      go_wp2_with fail
      go_loopw [7] (fun i wr => ∃ (j : Nat), j ≤ n ∧ i = .int .i64 j ∧ Ext w wr ∧ Hid (Blk wr w.heap.size 25 #[.slice A n cap, .int .i64 bd]) ∧ Hid (Blk wr (w.heap.size + 1) 25 #[.slice none 0 0, .int .i64 0]) ∧ ∃ v, Hid (Blk wr wc.heap.size 25 #[v, .int .i64 z]) ∧ Hid (wr.ownsRow (wc.heap.size + 1) 38 2 v j (encT (chMap (upM k) (ts.take j))))) (fun i _ => n - (intOf i).toNat)
      case atStart => exact ⟨0, by omega, rfl, EC.alloc _, hB0'.out.alloc _, hR.out.alloc _, .slice none 0 0, Blk.new _ _ _, World.ownsRow_nil _ _ _ _⟩
      case round =>
        clear hB0' hR EC
        obtain ⟨j, hj, rfl, hE, hBx, hB0, v, hB1, hown⟩ := hrel
        have b0 := hBx.out.cell 0
        have hsz := hB1.out.lt
        by_cases hlt : j < n
        · obtain ⟨b, off, c, l, rfl, hx, c1, c2⟩ := (hN.out.ext hE).term hlt
          have hbl : b < w.heap.size := (hold.out (by omega) _ rfl).2
          have hc := (cvB_get HV.out hx).2
          have HX := Lib.hid hx
          have b1 := hB1.out.cell 0
          have f1 := hB1.out.frozen 0
          have hne : ∀ k, k < wc.heap.size + 1 → some k ≠ v.ownBlock := fun k hk e => by have := (hown.out.lt k e.symm).1; omega
          have K0 : Hid (∀ W, Ext wr W → (W.cell? ⟨wc.heap.size, 0, none⟩ = some v ∧ W.cell? ⟨w.heap.size, 0, none⟩ = some (.slice (some ⟨b, off, none⟩) n cap) ∧ W.cell? ⟨b, off + j * 2, none⟩ = some (.int .i64 c) ∧ W.cell? ⟨b, off + j * 2 + 1, none⟩ = some (.int .i64 l))) := fun W e => ⟨e.cell b1, e.cell b0, e.cell c1, e.cell c2⟩
          have KA : Hid (∀ W W', Ext wr W → W.grownBy W' v.ownBlock → (W'.cell? ⟨wc.heap.size, 0, none⟩ = some v ∧ W'.cell? ⟨w.heap.size, 0, none⟩ = some (.slice (some ⟨b, off, none⟩) n cap) ∧ W'.cell? ⟨b, off + j * 2, none⟩ = some (.int .i64 c) ∧ W'.cell? ⟨b, off + j * 2 + 1, none⟩ = some (.int .i64 l))) := fun W W' e hg => by
            have q := K0.out W e
            have z := e.size
            refine ⟨?_, ?_, ?_, ?_⟩
            · rw [hg.cell_far _ (by simp only; omega) (hne _ (by simp only; omega))]; exact q.1
            · rw [hg.cell_far _ (by simp only; omega) (hne _ (by simp only; omega))]; exact q.2.1
            · rw [hg.cell_far _ (by simp only; omega) (hne _ (by simp only; omega))]; exact q.2.2.1
            · rw [hg.cell_far _ (by simp only; omega) (hne _ (by simp only; omega))]; exact q.2.2.2
          have j0 : (0 : Int) ≤ (j : Int) := Int.natCast_nonneg _
          have j1 : (j : Int) < (n : Int) := by omega
          clear hx
          go_wp2_with fail
          have hS0 := K0.out wr.drew (Ext.refl _).drew
          refine wp_region_Z (fun w' => w'.cell? ⟨wc.heap.size, 0, none⟩ = some v ∧ w'.cell? ⟨w.heap.size, 0, none⟩ = some (.slice (some ⟨b, off, none⟩) n cap) ∧ w'.cell? ⟨b, off + j * 2, none⟩ = some (.int .i64 c) ∧ w'.cell? ⟨b, off + j * 2 + 1, none⟩ = some (.int .i64 l)) 20 (by kernel_rfl) ?_
          refine wpAnyZ_take 0 (v := ?_) (by kernel_rfl) rfl rfl (by kernel_rfl) (by kernel_rfl) (by kernel_rfl) (fun _ _ _ h => h) hS0 (Or.inl ⟨by rfl, ?_⟩) ?_
          rotate_left
          · (intro w hSw; (try dsimp only at hSw); go_simp; (try with_reducible rfl))
          try simp only [Act.put, List.setIfInBounds_toArray, List.set_cons_zero, List.set_cons_succ]
          refine wpAnyZ_take 1 (v := ?_) (by kernel_rfl) rfl rfl (by kernel_rfl) (by kernel_rfl) (by kernel_rfl) (fun _ _ _ h => h) hS0 (Or.inl ⟨by rfl, ?_⟩) ?_
          rotate_left
          · (intro w hSw; (try dsimp only at hSw); go_simp; (try with_reducible rfl))
          try simp only [Act.put, List.setIfInBounds_toArray, List.set_cons_zero, List.set_cons_succ]
          refine wpAnyZ_take 2 (v := ?_) (by kernel_rfl) rfl rfl (by kernel_rfl) (by kernel_rfl) (by kernel_rfl) (fun _ _ _ h => h) hS0 (Or.inl ⟨by rfl, ?_⟩) ?_
          rotate_left
          · (intro w hSw; (try dsimp only at hSw); go_simp; (try with_reducible rfl))
          try simp only [Act.put, List.setIfInBounds_toArray, List.set_cons_zero, List.set_cons_succ]
          refine wpAnyZ_take 3 (v := ?_) (by kernel_rfl) rfl rfl (by kernel_rfl) (by kernel_rfl) (by kernel_rfl) (fun _ _ _ h => h) hS0 (Or.inl ⟨by rfl, ?_⟩) ?_
          rotate_left
          · (intro w hSw; (try dsimp only at hSw); go_simp; (try with_reducible rfl))
          try simp only [Act.put, List.setIfInBounds_toArray, List.set_cons_zero, List.set_cons_succ]
          refine wpAnyZ_take 4 (v := ?_) (by kernel_rfl) rfl rfl (by kernel_rfl) (by kernel_rfl) (by kernel_rfl) (fun _ _ _ h => h) hS0 (Or.inl ⟨by rfl, ?_⟩) ?_
          rotate_left
          · (intro w hSw; (try dsimp only at hSw); go_simp; (try with_reducible rfl))
          try simp only [Act.put, List.setIfInBounds_toArray, List.set_cons_zero, List.set_cons_succ]
          refine wpAnyZ_take 5 (v := ?_) (by kernel_rfl) rfl rfl (by kernel_rfl) (by kernel_rfl) (by kernel_rfl) (fun _ _ _ h => h) hS0 (Or.inl ⟨by rfl, ?_⟩) ?_
          rotate_left
          · (intro w hSw; (try dsimp only at hSw); go_simp; (try with_reducible rfl))
          try simp only [Act.put, List.setIfInBounds_toArray, List.set_cons_zero, List.set_cons_succ]
          refine wpAnyZ_take 6 (v := ?_) (by kernel_rfl) rfl rfl (by kernel_rfl) (by kernel_rfl) (by kernel_rfl) (fun _ _ _ h => h) hS0 (Or.inl ⟨by rfl, ?_⟩) ?_
          rotate_left
          · (intro w hSw; (try dsimp only at hSw); go_simp; (try with_reducible rfl))
          try simp only [Act.put, List.setIfInBounds_toArray, List.set_cons_zero, List.set_cons_succ]
          refine wpAnyZ_take 7 (v := ?_) (by kernel_rfl) rfl rfl (by kernel_rfl) (by kernel_rfl) (by kernel_rfl) (fun _ _ _ h => h) hS0 (Or.inl ⟨by rfl, ?_⟩) ?_
          rotate_left
          · (intro w hSw; (try dsimp only at hSw); go_simp; (try with_reducible rfl))
          try simp only [Act.put, List.setIfInBounds_toArray, List.set_cons_zero, List.set_cons_succ]
          refine wpAnyZ_take 8 (v := ?_) (by kernel_rfl) rfl rfl (by kernel_rfl) (by kernel_rfl) (by kernel_rfl) (fun _ _ _ h => h) hS0 (Or.inl ⟨by rfl, ?_⟩) ?_
          rotate_left
          · (intro w hSw; (try dsimp only at hSw); go_simp; (try with_reducible rfl))
          try simp only [Act.put, List.setIfInBounds_toArray, List.set_cons_zero, List.set_cons_succ]
          refine wpAnyZ_take 10 (v := ?_) (by kernel_rfl) rfl rfl (by kernel_rfl) (by kernel_rfl) (by kernel_rfl) (fun _ _ _ h => h) hS0 (Or.inl ⟨by rfl, ?_⟩) ?_
          rotate_left
          · (intro w hSw; (try dsimp only at hSw); go_simp; (try with_reducible rfl))
          try simp only [Act.put, List.setIfInBounds_toArray, List.set_cons_zero, List.set_cons_succ]
          refine wpAnyZ_take 11 (v := ?_) (by kernel_rfl) rfl rfl (by kernel_rfl) (by kernel_rfl) (by kernel_rfl) (fun _ _ _ h => h) hS0 (Or.inl ⟨by rfl, ?_⟩) ?_
          rotate_left
          · (intro w hSw; (try dsimp only at hSw); go_simp; (try with_reducible rfl))
          try simp only [Act.put, List.setIfInBounds_toArray, List.set_cons_zero, List.set_cons_succ]
          refine wpAnyZ_take 12 (v := ?_) (by kernel_rfl) rfl rfl (by kernel_rfl) (by kernel_rfl) (by kernel_rfl) (fun _ _ _ h => h) hS0 (Or.inl ⟨by rfl, ?_⟩) ?_
          rotate_left
          · (intro w hSw; (try dsimp only at hSw); go_simp; (try with_reducible rfl))
          try simp only [Act.put, List.setIfInBounds_toArray, List.set_cons_zero, List.set_cons_succ]
          refine wpAnyZ_take 13 (v := ?_) (by kernel_rfl) rfl rfl (by kernel_rfl) (by kernel_rfl) (by kernel_rfl) (fun _ _ _ h => h) hS0 (Or.inl ⟨by rfl, ?_⟩) ?_
          rotate_left
          · (intro w hSw; (try dsimp only at hSw); go_simp; (try with_reducible rfl))
          try simp only [Act.put, List.setIfInBounds_toArray, List.set_cons_zero, List.set_cons_succ]
          refine wpAnyZ_take 14 (v := ?_) (by kernel_rfl) rfl rfl (by kernel_rfl) (by kernel_rfl) (by kernel_rfl) (fun _ _ _ h => h) hS0 (Or.inl ⟨by rfl, ?_⟩) ?_
          rotate_left
          · (intro w hSw; (try dsimp only at hSw); go_simp; (try with_reducible rfl))
          try simp only [Act.put, List.setIfInBounds_toArray, List.set_cons_zero, List.set_cons_succ]
          refine wpAnyZ_take 15 (v := ?_) (by kernel_rfl) rfl rfl (by kernel_rfl) (by kernel_rfl) (by kernel_rfl) (fun _ _ _ h => h) hS0 (Or.inl ⟨by rfl, ?_⟩) ?_
          rotate_left
          · (intro w hSw; (try dsimp only at hSw); go_simp; (try with_reducible rfl))
          try simp only [Act.put, List.setIfInBounds_toArray, List.set_cons_zero, List.set_cons_succ]
          refine wpAnyZ_one 9 (by kernel_rfl) rfl rfl (fun K hK => ?_)
          go_simp
          refine (l2Up_any c k _ (by omega) (by omega) kk1 kk2).mono ?_
          rintro e w2 ⟨rfl, rfl⟩
          refine hK.out _ _ hS0 ?_
          clear hK K
          try simp only [Act.put, List.setIfInBounds_toArray, List.set_cons_zero, List.set_cons_succ]
          refine wpAnyZ_take 16 (v := ?_) (by kernel_rfl) rfl rfl (by kernel_rfl) (by kernel_rfl) (by kernel_rfl) (fun _ _ _ h => h) hS0 (Or.inl ⟨by rfl, ?_⟩) ?_
          rotate_left
          · (intro w hSw; (try dsimp only at hSw); go_simp; (try with_reducible rfl))
          try simp only [Act.put, List.setIfInBounds_toArray, List.set_cons_zero, List.set_cons_succ]
          refine wpAnyZ_one 17 (by kernel_rfl) rfl rfl (fun K hK => ?_)
          go_simp
          refine hK.out _ _ (K0.out _ (by first | exact ((Ext.refl _).drew).alloc _ | exact ((Ext.refl _).alloc _).drew)) ?_
          clear hK K
          try simp only [Act.put, List.setIfInBounds_toArray, List.set_cons_zero, List.set_cons_succ]
          refine wpAnyZ_one 18 (by kernel_rfl) rfl rfl (fun K hK => ?_)
          refine wp_append_lies _ _ _ _ (by rfl) (wc.heap.size + 1) 38 i0 _ 2 16 Try.underlying23 HI.out HZ0.out HZ1.out HZ2.out rfl (by omega) v j _ (by rfl) (hown.out.alloc _).drew
                ⟨wr.heap.size, 0, none⟩ 1 1 [.int .i64 (upM k c), .int .i64 l] (by rfl) (by rfl) (World.news_of_block (cs := #[.int .i64 (upM k c), .int .i64 l]) (t := 38) (fr := (0, 0)) (heap_alloc_new wr _)) (by simp [Value.oneCell'])
                (by omega) (by unfold maxLen; omega) (by omega) (by simp; omega) (wr.heap.size + 1) (by simp) ?_
          intro gg cp w1 hown1 hg1 hat hlt1
          have BB1 := own_blk ((hB1.out.alloc _).drew) ((hown.out.alloc _).drew) (by omega) hg1
          have bb1 := BB1.cell 0
          have fz1 := BB1.frozen 0
          clear BB1
          have hSa := KA.out _ _ (by first | exact ((Ext.refl _).drew).alloc _ | exact ((Ext.refl _).alloc _).drew) hg1
          refine hK.out _ _ hSa ?_
          clear hK K
          try simp only [Act.put, List.setIfInBounds_toArray, List.set_cons_zero, List.set_cons_succ]
          refine wpAnyZ_one 19 (by kernel_rfl) rfl rfl (fun K hK => ?_)
          go_simp
          refine hK.out _ _ hSa ?_
          clear hK K
          try simp only [Act.put, List.setIfInBounds_toArray, List.set_cons_zero, List.set_cons_succ]
          refine wpAnyZ_last (by kernel_rfl) (by kernel_rfl) rfl rfl (fun K hK => ?_)
          go_simp
          refine hK.out _ _ ?_
          clear hK K
          have hg2 : (wr.drew.alloc (.cells #[.int .i64 (upM k c), .int .i64 l] 38)).grownBy w1 v.ownBlock := hg1
          obtain ⟨E1, K1, O1⟩ := push_box hE.drew hB1.out.drew hown.out.drew (by omega) (by omega) (by omega) hg2 hown1
          have Kx := push_blk (gc := wc.heap.size) (v1 := .slice (some ⟨gg, 0, none⟩) (j + 1) cp) hBx.out.drew hown.out.drew (by omega) (by omega) hg2
          have Kr := push_blk (gc := wc.heap.size) (v1 := .slice (some ⟨gg, 0, none⟩) (j + 1) cp) hB0.out.drew hown.out.drew (by omega) (by omega) hg2
          go_wp2
          go_roundw
          case rel =>
            refine ⟨j + 1, by omega, by go_num, E1, Kx, Kr, _, K1, ?_⟩
            rw [take_of_get _ _ _ HX.out, chMap_snoc, encT_append]
            simpa [encT, Hid] using O1
          case measure => simp [intOf]; omega
        · obtain rfl : j = n := by omega
          obtain ⟨A1, c1, rfl⟩ := own_slice hown.out
          have b2 := hB1.out.cell 0
          have b3 := hB1.out.cell 1
          have r0 := hB0.out.cell 0
          have r1 := hB0.out.cell 1
          have q0 := hB0.out.frozen 0
          have q1 := hB0.out.frozen 1
          have hzr := hB0.out.lt
          have hD : Hid (dvD ts bd k = z) := by unfold dvD Hid; rw [if_pos HO.out]; exact HZ.out
          go_wp2
          refine bodyPost_ret (v := .tuple #[.agg #[.slice A1 j c1, .int .i64 z], .bool true]) (by simp [results, Try.results88, go_sem, r0, r1]) rfl ?_
          have K : Kept (w.heap.size + 1) (w.heap.size + 2) wr _ := ((Kept.refl _ _ wr).setIn (p := ⟨w.heap.size + 1, 0, none⟩) (by simp) (.slice A1 j c1)).setIn (p := ⟨w.heap.size + 1, 1, none⟩) (by simp) (.int .i64 z)
          have G := own_got2 (w := w) hown.out K (by omega) (by omega)
          rw [List.take_of_length_le (by rw [HL.out]; omega)] at G
          refine ⟨A1, j, c1, by rw [hD.out, HO.out], by unfold dvT; rw [if_pos HO.out, chMap_len, HL.out], ?_, (hE.setNew (by simp) _).setNew (by simp) _⟩
          unfold dvT
          rw [if_pos HO.out]
          exact G
    · have hk' : inB k 1 1000 = false := by simpa using hk
      have HO : Hid (dvB ts bd k = false) := by unfold dvB Hid; rw [hv, hk']; rfl
      have HK := Lib.hid hk'
      clear hk hv
      by_cases hk1 : k < 1
      case' neg =>
        have hk2 : 1000 < k := by
          have := HK.out
          simp [inB] at this; omega
      all_goals
        clear hk'
        go_enter Try.func88, Try.ntmps88
        go_wp2_with fail
        refine (specCV_any A n cap ts bd _ hn ((h.alloc _).alloc _)).mono ?_
        rintro e w1 ⟨rfl, hE1⟩
        have hv := HV.out
        rw [hv]
        clear hv h
        obtain ⟨B0, B1⟩ := Blk.of2 hE1
        have r0 := B1.cell 0
        have r1 := B1.cell 1
        have q0 := B1.frozen 0
        have q1 := B1.frozen 1
        clear B0 B1
        go_wp2
        refine bodyPost_ret (v := .tuple #[.agg #[.slice none 0 0, .int .i64 0], .bool false]) (by simp [results, Try.results88, go_sem, r0, r1]) rfl ?_
        have E1 : Ext w w1 := (((Ext.refl w).alloc _).alloc _).trans hE1
        exact (RetCB.zero ((E1.setNew (by simp) _).setNew (by simp) _)).of_eq (by unfold dvT; rw [if_neg (by rw [HO.out]; simp)]) (by unfold dvD; rw [if_neg (by rw [HO.out]; simp)]) HO.out.symm
  · have hf : cvB ts bd = false := by simpa using hv
    have HO : Hid (dvB ts bd k = false) := by unfold dvB Hid; rw [hf]; rfl
    clear hv
    go_enter Try.func88, Try.ntmps88
    go_wp2_with fail
    refine (specCV_any A n cap ts bd _ hn ((h.alloc _).alloc _)).mono ?_
    rintro e w1 ⟨rfl, hE1⟩
    rw [hf]
    clear hf h
    obtain ⟨B0, B1⟩ := Blk.of2 hE1
    have r0 := B1.cell 0
    have r1 := B1.cell 1
    have q0 := B1.frozen 0
    have q1 := B1.frozen 1
    clear B0 B1
    go_wp2
    refine bodyPost_ret (v := .tuple #[.agg #[.slice none 0 0, .int .i64 0], .bool false]) (by simp [results, Try.results88, go_sem, r0, r1]) rfl ?_
    have E1 : Ext w w1 := (((Ext.refl w).alloc _).alloc _).trans hE1
    exact (RetCB.zero ((E1.setNew (by simp) _).setNew (by simp) _)).of_eq (by unfold dvT; rw [if_neg (by rw [HO.out]; simp)]) (by unfold dvD; rw [if_neg (by rw [HO.out]; simp)]) HO.out.symm
end

/- AddConstraints: the reference's. -/
section
open Go.RowKit

theorem ad_v {ts : List Tm} {bd : Int} {us : List Tm} {bd' : Int} (h1 : cvB ts bd = true) (h2 : cvB us bd' = true) : vT (ts ++ us) (bd + bd') = adT ts bd us bd' ∧ vD (ts ++ us) (bd + bd') = adD ts bd us bd' ∧ noB (ts ++ us) (bd + bd') = adB ts bd us bd' := by
  have e : adB ts bd us bd' = noB (ts ++ us) (bd + bd') := by unfold adB; rw [h1, h2]; rfl
  unfold vT vD adT adD
  rw [e]; exact ⟨rfl, rfl, rfl⟩
theorem oneCTA (ts : List Tm) : ∀ u ∈ encT ts, u.oneCell' = true := by
  induction ts with
  | nil => intro u hu; simp [encT] at hu
  | cons t ts ih =>
    intro u hu
    simp only [encT, List.mem_cons] at hu
    rcases hu with rfl | rfl | hu
    · rfl
    · rfl
    · exact ih u hu

set_option maxRecDepth 100000 in
set_option maxHeartbeats 4000000 in
theorem specAdd_any (A : Option Addr) (n cap : Nat) (ts : List Tm) (bd : Int) (B : Option Addr) (m capb : Nat) (us : List Tm) (bd' : Int) (w : World) (hn : n ≤ maxLen) (h : Seg w 2 A n (encT ts)) (hm : m ≤ maxLen) (hb : Seg w 2 B m (encT us)) :
    Calls Try.prog 86 #[.agg #[.slice A n cap, .int .i64 bd], .agg #[.slice B m capb, .int .i64 bd']] w fun e w' => RetCB (adT ts bd us bd') (adD ts bd us bd') (adB ts bd us bd') w e w' := by
  obtain ⟨i0, hi, hz0, hz1, hz2⟩ := info_parts Try.infoTmF
  have HI := Lib.hid hi
  have HZ0 := Lib.hid hz0
  have HZ1 := Lib.hid hz1
  have HZ2 := Lib.hid hz2
  clear hi hz0 hz1 hz2
  have hno : Hid (∀ W' : World, Ext w W' → adB ts bd us bd' = false → RetCB (adT ts bd us bd') (adD ts bd us bd') (adB ts bd us bd') w (.returned (.tuple #[.agg #[.slice none 0 0, .int .i64 0], .bool false])) W') := fun W' hE hc =>
    (RetCB.zero hE).of_eq (adT_no hc).symm (adD_no hc).symm hc.symm
  have HL := Lib.hid h.lenT
  have HLb := Lib.hid hb.lenT
  by_cases hv : cvB ts bd = true
  · have HV := Lib.hid hv
    clear hv
    by_cases hv2 : cvB us bd' = true
    · have HV2 := Lib.hid hv2
      clear hv2
      have hl1 := cvB_len HV.out
      have hl2 := cvB_len HV2.out
      rw [HL.out] at hl1
      rw [HLb.out] at hl2
      have hbd1 := cvB_bd HV.out
      have hbd2 := cvB_bd HV2.out
      have hwr : IntKind.i64.wrap (bd + bd') = bd + bd' := IntWalk.i64_in _ (by omega)
      go_enter Try.func86, Try.ntmps86
      go_wp2_with fail
      refine (calls_val (specCV_any A n cap ts bd _ hn (((h.alloc _).alloc _).alloc _)) (congrArg Value.bool HV.out)).mono ?_
      rintro e w1 ⟨rfl, hE1⟩
      obtain ⟨B0, B1, B2⟩ := Blk.of3 hE1
      have HE1 := Lib.hid (((((Ext.refl w).alloc _).alloc _).alloc _).trans hE1)
      have d0 := B1.cell 0
      have d1 := B1.cell 1
      have HB0 := Lib.hid B0
      have HB1 := Lib.hid B1
      have HB2 := Lib.hid B2
      have hz1 := B2.lt
      have HA := Lib.hid h
      have HBs := Lib.hid hb
      clear B0 B1 B2 h hb hE1
      go_wp2_with fail
      refine (calls_val (specCV_any B m capb us bd' _ hm (HBs.out.ext HE1.out)) (congrArg Value.bool HV2.out)).mono ?_
      rintro e w2 ⟨rfl, hE2⟩
      have HE2 := Lib.hid (HE1.out.trans hE2)
      have K0 : Hid (∀ W, Ext w2 W → (W.cell? ⟨w.heap.size, 0, none⟩ = some (.slice A n cap) ∧ W.cell? ⟨w.heap.size, 1, none⟩ = some (.int .i64 bd) ∧ W.cell? ⟨w.heap.size + 1, 0, none⟩ = some (.slice B m capb) ∧ W.cell? ⟨w.heap.size + 1, 1, none⟩ = some (.int .i64 bd'))) := fun W e =>
        ⟨(HB0.out.ext (hE2.trans e)).cell 0, (HB0.out.ext (hE2.trans e)).cell 1, (HB1.out.ext (hE2.trans e)).cell 0, (HB1.out.ext (hE2.trans e)).cell 1⟩
      have HR2 := Lib.hid (HB2.out.ext hE2)
      have hz2 := HR2.out.lt
      clear d0 d1 hE2
      go_wp2_with fail
      have hS0 := K0.out w2.drew (Ext.refl _).drew
      refine wp_region_Z (fun W => W.cell? ⟨w.heap.size, 0, none⟩ = some (.slice A n cap) ∧ W.cell? ⟨w.heap.size, 1, none⟩ = some (.int .i64 bd) ∧ W.cell? ⟨w.heap.size + 1, 0, none⟩ = some (.slice B m capb) ∧ W.cell? ⟨w.heap.size + 1, 1, none⟩ = some (.int .i64 bd')) 17 (by kernel_rfl) ?_
      refine wpAnyZ_take 1 (v := ?_) (by kernel_rfl) rfl rfl (by kernel_rfl) (by kernel_rfl) (by kernel_rfl) (fun _ _ _ h => h) hS0 (Or.inl ⟨by rfl, ?_⟩) ?_
      rotate_left
      · (intro w hSw; (try dsimp only at hSw); go_simp; (try with_reducible rfl))
      try simp only [Act.put, List.setIfInBounds_toArray, List.set_cons_zero, List.set_cons_succ]
      refine wpAnyZ_take 2 (v := ?_) (by kernel_rfl) rfl rfl (by kernel_rfl) (by kernel_rfl) (by kernel_rfl) (fun _ _ _ h => h) hS0 (Or.inl ⟨by rfl, ?_⟩) ?_
      rotate_left
      · (intro w hSw; (try dsimp only at hSw); go_simp; (try with_reducible rfl))
      try simp only [Act.put, List.setIfInBounds_toArray, List.set_cons_zero, List.set_cons_succ]
      refine wpAnyZ_take 4 (v := ?_) (by kernel_rfl) rfl rfl (by kernel_rfl) (by kernel_rfl) (by kernel_rfl) (fun _ _ _ h => h) hS0 (Or.inl ⟨by rfl, ?_⟩) ?_
      rotate_left
      · (intro w hSw; (try dsimp only at hSw); go_simp; (try with_reducible rfl))
      try simp only [Act.put, List.setIfInBounds_toArray, List.set_cons_zero, List.set_cons_succ]
      refine wpAnyZ_take 5 (v := ?_) (by kernel_rfl) rfl rfl (by kernel_rfl) (by kernel_rfl) (by kernel_rfl) (fun _ _ _ h => h) hS0 (Or.inl ⟨by rfl, ?_⟩) ?_
      rotate_left
      · (intro w hSw; (try dsimp only at hSw); go_simp; (try with_reducible rfl))
      try simp only [Act.put, List.setIfInBounds_toArray, List.set_cons_zero, List.set_cons_succ]
      refine wpAnyZ_take 7 (v := ?_) (by kernel_rfl) rfl rfl (by kernel_rfl) (by kernel_rfl) (by kernel_rfl) (fun _ _ _ h => h) hS0 (Or.inl ⟨by rfl, ?_⟩) ?_
      rotate_left
      · (intro w hSw; (try dsimp only at hSw); go_simp; (try with_reducible rfl))
      try simp only [Act.put, List.setIfInBounds_toArray, List.set_cons_zero, List.set_cons_succ]
      refine wpAnyZ_take 8 (v := ?_) (by kernel_rfl) rfl rfl (by kernel_rfl) (by kernel_rfl) (by kernel_rfl) (fun _ _ _ h => h) hS0 (Or.inl ⟨by rfl, ?_⟩) ?_
      rotate_left
      · (intro w hSw; (try dsimp only at hSw); go_simp; (try with_reducible rfl))
      try simp only [Act.put, List.setIfInBounds_toArray, List.set_cons_zero, List.set_cons_succ]
      refine wpAnyZ_take 9 (v := ?_) (by kernel_rfl) rfl rfl (by kernel_rfl) (by kernel_rfl) (by kernel_rfl) (fun _ _ _ h => h) hS0 (Or.inl ⟨by rfl, ?_⟩) ?_
      rotate_left
      · (intro w hSw; (try dsimp only at hSw); go_simp; (try with_reducible rfl))
      try simp only [Act.put, List.setIfInBounds_toArray, List.set_cons_zero, List.set_cons_succ]
      refine wpAnyZ_take 10 (v := ?_) (by kernel_rfl) rfl rfl (by kernel_rfl) (by kernel_rfl) (by kernel_rfl) (fun _ _ _ h => h) hS0 (Or.inl ⟨by rfl, ?_⟩) ?_
      rotate_left
      · (intro w hSw; (try dsimp only at hSw); go_simp; (try with_reducible rfl))
      try simp only [Act.put, List.setIfInBounds_toArray, List.set_cons_zero, List.set_cons_succ]
      refine wpAnyZ_take 11 (v := ?_) (by kernel_rfl) rfl rfl (by kernel_rfl) (by kernel_rfl) (by kernel_rfl) (fun _ _ _ h => h) hS0 (Or.inl ⟨by rfl, ?_⟩) ?_
      rotate_left
      · (intro w hSw; (try dsimp only at hSw); go_simp; (try with_reducible rfl))
      try simp only [Act.put, List.setIfInBounds_toArray, List.set_cons_zero, List.set_cons_succ]
      refine wpAnyZ_one 0 (by kernel_rfl) rfl rfl (fun K hK => ?_)
      go_simp
      refine hK.out _ _ (K0.out _ (by first | exact ((Ext.refl _).drew).alloc _ | exact ((Ext.refl _).alloc _).drew)) ?_
      clear hK K hS0
      try simp only [Act.put, List.setIfInBounds_toArray, List.set_cons_zero, List.set_cons_succ]
      have OE := own_empty w2 w2.heap.size 38 2 (Nat.le_refl _)
      refine wpAnyZ_one 3 (by kernel_rfl) rfl rfl (fun K hK => ?_)
      refine wp_append_seg _ _ _ _ (by rfl) w2.heap.size 38 i0 _ 2 16 Try.underlying23 HI.out HZ0.out HZ1.out HZ2.out rfl (by omega) _ 0 [] (by rfl) OE.drew A n cap (encT ts) (by rfl) ((((HA.out.ext HE2.out).alloc _)).ext (Ext.refl _).drew) (oneCTA ts) (by unfold maxLen; omega) (by omega) (by simp) ?_
      intro A1 k1 w3 hown1 hg1
      rw [List.nil_append] at hown1
      simp only [Nat.zero_add] at hown1 ⊢
      have EG1 : Ext w2 w3 := ((Ext.refl _).alloc _).drew.grown hg1 (fun k hk => by simp [Value.ownBlock] at hk; omega)
      refine hK.out _ _ (K0.out w3 EG1) ?_
      clear hK K OE hg1
      try simp only [Act.put, List.setIfInBounds_toArray, List.set_cons_zero, List.set_cons_succ]
      refine wpAnyZ_one 6 (by kernel_rfl) rfl rfl (fun K hK => ?_)
      refine wp_append_seg _ _ _ _ (by rfl) w2.heap.size 38 i0 _ 2 16 Try.underlying23 HI.out HZ0.out HZ1.out HZ2.out rfl (by omega) (.slice A1 n k1) n (encT ts) (by rfl) hown1 B m capb (encT us) (by rfl) ((HBs.out.ext HE2.out).ext EG1) (oneCTA us) (by unfold maxLen; omega) (by omega) (EG1.size) ?_
      intro A2 k2 w4 hown2 hg2
      have EG2 : Ext w2 w4 := own_ext EG1 hown1 (Nat.le_refl _) hg2
      rw [← encT_append] at hown2
      refine hK.out _ _ (K0.out w4 EG2) ?_
      clear hK K hown1 EG1 hg2
      try simp only [Act.put, List.setIfInBounds_toArray, List.set_cons_zero, List.set_cons_succ]
      have HSA := Lib.hid (own_parts hown2).1
      have HSM := Lib.hid (smT_append (cvB_sm HV.out) (cvB_sm HV2.out))
      clear hown2
      refine wpAnyZ_one 12 (by kernel_rfl) rfl rfl (fun K hK => ?_)
      go_simp
      refine (l1Net_any A2 (n + m) k2 (ts ++ us) (bd + bd') _ (by omega) HSA.out HSM.out (by omega)).mono ?_
      rintro e w5 ⟨A3, c3, rfl, hG3, hE3⟩
      have EG5 := Lib.hid (EG2.trans hE3)
      have HG3 := Lib.hid hG3.seg
      have hS5 := K0.out w5 EG5.out
      refine hK.out _ _ hS5 ?_
      clear hK K EG2 hG3 hE3
      try simp only [Act.put, List.setIfInBounds_toArray, List.set_cons_zero, List.set_cons_succ]
      refine wpAnyZ_take 13 (v := ?_) (by kernel_rfl) rfl rfl (by kernel_rfl) (by kernel_rfl) (by kernel_rfl) (fun _ _ _ h => h) hS5 (Or.inl ⟨by rfl, ?_⟩) ?_
      rotate_left
      · (intro w hSw; (try dsimp only at hSw); go_simp; (try with_reducible rfl))
      try simp only [Act.put, List.setIfInBounds_toArray, List.set_cons_zero, List.set_cons_succ]
      refine wpAnyZ_take 14 (v := ?_) (by kernel_rfl) rfl rfl (by kernel_rfl) (by kernel_rfl) (by kernel_rfl) (fun _ _ _ h => h) hS5 (Or.inl ⟨by rfl, ?_⟩) ?_
      rotate_left
      · (intro w hSw; (try dsimp only at hSw); go_simp; (try with_reducible rfl))
      try simp only [Act.put, List.setIfInBounds_toArray, List.set_cons_zero, List.set_cons_succ]
      refine wpAnyZ_take 15 (v := ?_) (by kernel_rfl) rfl rfl (by kernel_rfl) (by kernel_rfl) (by kernel_rfl) (fun _ _ _ h => h) hS5 (Or.inl ⟨by rfl, ?_⟩) ?_
      rotate_left
      · (intro w hSw; (try dsimp only at hSw); go_simp; (try with_reducible rfl))
      try simp only [Act.put, List.setIfInBounds_toArray, List.set_cons_zero, List.set_cons_succ]
      refine wpAnyZ_one 16 (by kernel_rfl) rfl rfl (fun K hK => ?_)
      go_simp
      refine hK.out _ _ hS5 ?_
      clear hK K
      try simp only [Act.put, List.setIfInBounds_toArray, List.set_cons_zero, List.set_cons_succ]
      refine wpAnyZ_last (by kernel_rfl) (by kernel_rfl) rfl rfl (fun K hK => ?_)
      go_simp
      refine hK.out _ _ ?_
      clear hK K hS5
      obtain ⟨e1, e2, e3⟩ := ad_v HV.out HV2.out
      have HE1' := Lib.hid e1
      have HE2' := Lib.hid e2
      have HE3' := Lib.hid e3
      clear e1 e2 e3
      go_wp2_with fail
      refine (l1Normal_any A3 c3 (ts ++ us) (bd + bd') _ HG3.out (by rw [List.length_append, HL.out, HLb.out]; omega) HSM.out (by omega)).mono ?_
      rintro e w6 ⟨A6, n6, c6, rfl, hl6, hG6, hE6⟩
      have HB := Lib.hid ((HR2.out.ext EG5.out).ext hE6)
      have HW5 := Lib.hid (HE2.out.trans EG5.out)
      have HW6 := Lib.hid ((HE2.out.trans EG5.out).trans hE6)
      have hz5 := (HR2.out.ext EG5.out).lt
      have hzz := HB.out.lt
      have r0 := HB.out.cell 0
      have r1 := HB.out.cell 1
      have q0 := HB.out.frozen 0
      have q1 := HB.out.frozen 1
      have HG6 := Lib.hid hG6
      have HL6 := Lib.hid hl6
      clear hE6 hG6 hl6
      go_wp2
      refine bodyPost_ret (v := .tuple #[.agg #[.slice A6 n6 c6, .int .i64 (vD (ts ++ us) (bd + bd'))], .bool (noB (ts ++ us) (bd + bd'))]) (by simp [results, Try.results86, go_sem, r0, r1]; try rfl) rfl ?_
      have K : Kept (w.heap.size + 1 + 1) (w.heap.size + 1 + 1 + 1) w6 _ := ((Kept.refl _ _ w6).setIn (p := ⟨w.heap.size + 1 + 1, 0, none⟩) (by simp) (.slice A6 n6 c6)).setIn (p := ⟨w.heap.size + 1 + 1, 1, none⟩) (by simp) (.int .i64 (vD (ts ++ us) (bd + bd')))
      refine RetCB.of_eq ?_ HE1'.out HE2'.out HE3'.out
      exact ⟨A6, n6, c6, rfl, HL6.out, (HG6.out.kept K (by omega)).from_ HW5.out, (HW6.out.setNew (by simp only; omega) _).setNew (by simp only; omega) _⟩
    · have hf : cvB us bd' = false := by simpa using hv2
      have HV2 := Lib.hid hf
      have HO : Hid (adB ts bd us bd' = false) := by unfold adB Hid; rw [hf]; simp
      clear hv2 hf
      go_enter Try.func86, Try.ntmps86
      go_wp2_with fail
      refine (calls_val (specCV_any A n cap ts bd _ hn (((h.alloc _).alloc _).alloc _)) (congrArg Value.bool HV.out)).mono ?_
      rintro e w1 ⟨rfl, hE1⟩
      obtain ⟨B0, B1, B2⟩ := Blk.of3 hE1
      have HE1 := Lib.hid (((((Ext.refl w).alloc _).alloc _).alloc _).trans hE1)
      have d0 := B1.cell 0
      have d1 := B1.cell 1
      have HB2 := Lib.hid B2
      have hz1 := B2.lt
      have HBs := Lib.hid hb
      clear B0 B1 B2 h hb hE1
      go_wp2_with fail
      refine (calls_val (specCV_any B m capb us bd' _ hm (HBs.out.ext HE1.out)) (congrArg Value.bool HV2.out)).mono ?_
      rintro e w2 ⟨rfl, hE2⟩
      have HE2 := Lib.hid (HE1.out.trans hE2)
      have HR2 := Lib.hid (HB2.out.ext hE2)
      have r0 := HR2.out.cell 0
      have r1 := HR2.out.cell 1
      have q0 := HR2.out.frozen 0
      have q1 := HR2.out.frozen 1
      have hz2 := HR2.out.lt
      clear d0 d1 hE2
      go_wp2
      refine bodyPost_ret (v := .tuple #[.agg #[.slice none 0 0, .int .i64 0], .bool false]) (by simp [results, Try.results86, go_sem, r0, r1]) rfl ?_
      exact hno.out _ ((HE2.out.setNew (by simp only; omega) _).setNew (by simp only; omega) _) HO.out
  · have hf : cvB ts bd = false := by simpa using hv
    have HV := Lib.hid hf
    have HO : Hid (adB ts bd us bd' = false) := by unfold adB Hid; rw [hf]; simp
    clear hv hf hb
    go_enter Try.func86, Try.ntmps86
    go_wp2_with fail
    refine (calls_val (specCV_any A n cap ts bd _ hn (((h.alloc _).alloc _).alloc _)) (congrArg Value.bool HV.out)).mono ?_
    rintro e w1 ⟨rfl, hE1⟩
    obtain ⟨B0, B1, B2⟩ := Blk.of3 hE1
    have HE1 := Lib.hid (((((Ext.refl w).alloc _).alloc _).alloc _).trans hE1)
    have r0 := B2.cell 0
    have r1 := B2.cell 1
    have q0 := B2.frozen 0
    have q1 := B2.frozen 1
    have hz2 := B2.lt
    clear B0 B1 B2 h hE1
    go_wp2
    refine bodyPost_ret (v := .tuple #[.agg #[.slice none 0 0, .int .i64 0], .bool false]) (by simp [results, Try.results86, go_sem, r0, r1]) rfl ?_
    exact hno.out _ ((HE1.out.setNew (by simp only; omega) _).setNew (by simp only; omega) _) HO.out
end

/- SaturateConstraint, the program's and the reference's. -/
section
open Go.RowKit

def satM (c bd : Int) : Int := if bd < c then bd else c
def satMap (ts : List Tm) (bd : Int) : List Tm := ts.map fun t => (satM t.1 bd, t.2)
theorem satMap_len (ts : List Tm) (bd : Int) : (satMap ts bd).length = ts.length := by simp [satMap]
theorem satMap_snoc (ts : List Tm) (t : Tm) (bd : Int) : satMap (ts ++ [t]) bd = satMap ts bd ++ [(satM t.1 bd, t.2)] := by simp [satMap]
def saT (ts : List Tm) (bd : Int) : List Tm := if 0 < bd then satMap ts bd else []
theorem saT_le (ts : List Tm) (bd : Int) : (saT ts bd).length ≤ ts.length := by unfold saT; split <;> simp [satMap_len]
def stT (ts : List Tm) (bd : Int) : List Tm := if cvB ts bd = true then saT ts bd else []
def stD (ts : List Tm) (bd : Int) : Int := if cvB ts bd = true then bd else 0
theorem stT_len (ts : List Tm) (bd : Int) : (stT ts bd).length ≤ 1048576 := by
  unfold stT; split
  · rename_i h; have := cvB_len h; have := saT_le ts bd; omega
  · simp

theorem Try.infoTmS : (Try.prog.info? 38).map (fun i => (i.zero, i.size, i.bytes)) = some (some (.agg #[.int .i64 0, .int .i64 0]), 2, 16) := by kernel_rfl

set_option maxRecDepth 100000 in
set_option maxHeartbeats 2000000 in
theorem implSat_any (A : Option Addr) (n cap : Nat) (ts : List Tm) (bd : Int) (w : World) (hn : n ≤ maxLen) (h : Seg w 2 A n (encT ts)) :
    Calls Try.prog 15 #[.agg #[.slice A n cap, .int .i64 bd]] w fun e w' => RetCB (stT ts bd) (stD ts bd) (cvB ts bd) w e w' := by
  by_cases hv : cvB ts bd = true
  · have HL := Lib.hid h.lenT
    have hn12 : n ≤ 12 := by have := cvB_len hv; rw [HL.out] at this; exact this
    have hb := cvB_bd hv
    obtain ⟨i0, hi, hz0, hz1, hz2⟩ := info_parts Try.infoTmS
    have HI := Lib.hid hi
    have HZ0 := Lib.hid hz0
    have HZ1 := Lib.hid hz1
    have HZ2 := Lib.hid hz2
    have HV := Lib.hid hv
    clear hi hz0 hz1 hz2 hv
    go_enter Try.func15, Try.ntmps15
    go_wp2_with fail
    refine (implCV_any A n cap ts bd _ hn ((h.alloc _).alloc _)).mono ?_
    rintro e wc ⟨rfl, hEc⟩
    have hv := HV.out
    rw [hv]
    clear hv
    obtain ⟨B0, B1⟩ := Blk.of2 hEc
    have b0 := B0.cell 0
    have b1 := B0.cell 1
    have hzc := B1.lt
    have hzb := B0.lt
    have EW : Ext w wc := (((Ext.refl w).alloc _).alloc _).trans hEc
    by_cases h0 : 0 < bd
    · have HB0 := Lib.hid B0
      have HB1 := Lib.hid B1
      have hN := Lib.hid h
      clear B0 B1 h hEc
      go_wp2_with fail
      go_loopw [20] (fun i wr => ∃ (j : Nat), j ≤ n ∧ i = .int .i64 j ∧ Ext w wr ∧ Hid (Blk wr w.heap.size 25 #[.slice A n cap, .int .i64 bd]) ∧ Hid (Blk wr (w.heap.size + 1) 25 #[.slice none 0 0, .int .i64 0]) ∧ ∃ v, Hid (Blk wr wc.heap.size 25 #[v, .int .i64 bd]) ∧ Hid (wr.ownsRow (wc.heap.size + 1) 38 2 v j (encT (satMap (ts.take j) bd)))) (fun i _ => n - (intOf i).toNat)
      case atStart => exact ⟨0, by omega, rfl, EW.alloc _, HB0.out.alloc _, HB1.out.alloc _, .slice none 0 0, Blk.new _ _ _, World.ownsRow_nil _ _ _ _⟩
      case round =>
        clear b0 b1 EW HB0 HB1
        obtain ⟨j, hj, rfl, hE, hBx, hB0, v, hB1, hown⟩ := hrel
        have b0 := hBx.out.cell 1
        have b1 := hB1.out.cell 0
        have hsz := hB1.out.lt
        by_cases hlt : j < n
        · obtain ⟨b, off, c, l, rfl, hx, c1, c2⟩ := (hN.out.ext hE).term hlt
          have hbl := World.block_lt_of_cell? _ _ c1
          simp only at hbl
          have HX := Lib.hid hx
          clear hx
          obtain ⟨m, hm⟩ : ∃ m, Hid (satM c bd = m) := ⟨_, rfl⟩
          have hmm : (bd < c ∧ bd = m) ∨ (¬ bd < c ∧ c = m) := by
            have := hm.out; unfold satM at this; split at this <;> omega
          have hxb : wc.heap.size < wr.heap.size := hsz
          have hxw : w.heap.size < wr.heap.size := by omega
          rcases hmm with ⟨hcb, rfl⟩ | ⟨hcb, rfl⟩
          all_goals
            go_wp2_with (first
              | (at_builtin
                 first
                 | refine wpList_append_own _ rfl (.tmp 25) (.tmp 34) 23 rfl (wc.heap.size + 1) 38 i0 _ 2 16 Try.underlying23 HI.out HZ0.out HZ1.out HZ2.out rfl (by omega) v j _ rfl ((hown.out.alloc _).alloc _) ⟨wr.heap.size + 1, 0, none⟩ 1 1 [.int .i64 bd, .int .i64 l] rfl rfl (by have := cell_two_new (wr.alloc (.cells #[.int .i64 c, .int .i64 l] 38)) (.int .i64 bd) (.int .i64 l) 38; rw [World.size_alloc] at this; exact this) ?_ ?_ ?_ ?_ ?_
                 | refine wpList_append_own _ rfl (.tmp 25) (.tmp 34) 23 rfl (wc.heap.size + 1) 38 i0 _ 2 16 Try.underlying23 HI.out HZ0.out HZ1.out HZ2.out rfl (by omega) v j _ rfl ((hown.out.alloc _).alloc _) ⟨wr.heap.size + 1, 0, none⟩ 1 1 [.int .i64 c, .int .i64 l] rfl rfl (by have := cell_two_new (wr.alloc (.cells #[.int .i64 c, .int .i64 l] 38)) (.int .i64 c) (.int .i64 l) 38; rw [World.size_alloc] at this; exact this) ?_ ?_ ?_ ?_ ?_
                 (intro u hu; simp at hu; rcases hu with rfl | rfl <;> rfl)
                 (unfold maxLen; omega)
                 omega
                 (simp; omega)
                 intro v1 w1 hown1 hg1 _
                 obtain ⟨A1, k1, rfl⟩ := own_slice hown1
                 have BB := push_pre (hB1.out.alloc _) (hown.out.alloc _) (by omega) hg1
                 have bb := BB.cell 0
                 have fz := BB.frozen 0
                 clear BB))
            obtain ⟨E1, K1, O1⟩ := push_box (hE.alloc _) (hB1.out.alloc _) (hown.out.alloc _) (by omega) (by omega) (by omega) hg1 hown1
            have K0 := push_blk (gc := wc.heap.size) (v1 := .slice A1 (j + 1) k1) (hB0.out.alloc _) (hown.out.alloc _) (by omega) (by omega) hg1
            have Kx := push_blk (gc := wc.heap.size) (v1 := .slice A1 (j + 1) k1) (hBx.out.alloc _) (hown.out.alloc _) (by omega) (by omega) hg1
            go_roundw
            case rel =>
              refine ⟨j + 1, by omega, by go_num, E1, Kx, K0, _, K1, ?_⟩
              rw [take_of_get _ _ _ HX.out, satMap_snoc, encT_append, hm.out]
              simpa [encT, Hid] using O1
            case measure => simp [intOf]; omega
        · obtain rfl : j = n := by omega
          obtain ⟨A1, c1, rfl⟩ := own_slice hown.out
          have b2 := hB1.out.cell 1
          have r0 := hB0.out.cell 0
          have r1 := hB0.out.cell 1
          have q0 := hB0.out.frozen 0
          have q1 := hB0.out.frozen 1
          have hz := hB0.out.lt
          go_wp2
          refine bodyPost_ret (v := .tuple #[.agg #[.slice A1 j c1, .int .i64 bd], .bool true]) (by simp [results, Try.results15, go_sem, r0, r1]) rfl ?_
          have K : Kept (w.heap.size + 1) (w.heap.size + 2) wr _ := ((Kept.refl _ _ wr).setIn (p := ⟨w.heap.size + 1, 0, none⟩) (by simp) (.slice A1 j c1)).setIn (p := ⟨w.heap.size + 1, 1, none⟩) (by simp) (.int .i64 bd)
          have G := own_got2 (w := w) hown.out K (by omega) (by omega)
          rw [List.take_of_length_le (by rw [HL.out]; omega)] at G
          refine ⟨A1, j, c1, by unfold stD; rw [if_pos HV.out, HV.out], by unfold stT saT; rw [if_pos HV.out, if_pos h0, satMap_len, HL.out], ?_, (hE.setNew (by simp) _).setNew (by simp) _⟩
          unfold stT saT
          rw [if_pos HV.out, if_pos h0]
          exact G
    · have r0 := B1.cell 0
      have r1 := B1.cell 1
      have q0 := B1.frozen 0
      have q1 := B1.frozen 1
      obtain rfl : bd = 0 := by omega
      clear h B0 B1
      go_wp2
      refine bodyPost_ret (v := .tuple #[.agg #[.slice none 0 0, .int .i64 0], .bool true]) (by simp [results, Try.results15, go_sem, r0, r1, hzc]) rfl ?_
      exact ⟨none, 0, 0, by unfold stD; rw [if_pos HV.out, HV.out], by unfold stT saT; rw [if_pos HV.out, if_neg (by omega)]; rfl, by unfold stT saT; rw [if_pos HV.out, if_neg (by omega)]; exact Got.nil' _ _ _ _, ((EW.setNew (by simp) _).setNew (by simp) _).alloc _⟩
  · have hf : cvB ts bd = false := by simpa using hv
    have HV := Lib.hid hf
    clear hv
    go_enter Try.func15, Try.ntmps15
    go_wp2_with fail
    refine (implCV_any A n cap ts bd _ hn ((h.alloc _).alloc _)).mono ?_
    rintro e w1 ⟨rfl, hE1⟩
    rw [hf]
    clear hf h
    obtain ⟨B0, B1⟩ := Blk.of2 hE1
    have r0 := B1.cell 0
    have r1 := B1.cell 1
    have q0 := B1.frozen 0
    have q1 := B1.frozen 1
    clear B0 B1
    go_wp2
    refine bodyPost_ret (v := .tuple #[.agg #[.slice none 0 0, .int .i64 0], .bool false]) (by simp [results, Try.results15, go_sem, r0, r1]) rfl ?_
    have E1 : Ext w w1 := (((Ext.refl w).alloc _).alloc _).trans hE1
    exact (RetCB.zero ((E1.setNew (by simp) _).setNew (by simp) _)).of_eq (by unfold stT; rw [if_neg (by rw [HV.out]; simp)]) (by unfold stD; rw [if_neg (by rw [HV.out]; simp)]) HV.out.symm

set_option maxRecDepth 100000 in
set_option maxHeartbeats 2000000 in
theorem l2Sat_any (A : Option Addr) (n cap : Nat) (ts : List Tm) (bd : Int) (w : World) (h : Seg w 2 A n (encT ts)) (hv : cvB ts bd = true) :
    Calls Try.prog 36 #[.agg #[.slice A n cap, .int .i64 bd]] w fun e w' => RetC (saT ts bd) bd w e w' := by
  have HL := Lib.hid h.lenT
  have hn12 : n ≤ 12 := by have := cvB_len hv; rw [HL.out] at this; exact this
  have hb := cvB_bd hv
  obtain ⟨i0, hi, hz0, hz1, hz2⟩ := info_parts Try.infoTmS
  have HI := Lib.hid hi
  have HZ0 := Lib.hid hz0
  have HZ1 := Lib.hid hz1
  have HZ2 := Lib.hid hz2
  have HV := Lib.hid hv
  clear hi hz0 hz1 hz2 hv
  by_cases h0 : 0 < bd
  · have hN := Lib.hid h
    have hg0 : decide (0 < bd) = true := decide_eq_true h0
    clear h
    go_enter Try.func36, Try.ntmps36
    go_wp2_with fail
    go_loopw [4] (fun i wr => ∃ (j : Nat), j ≤ n ∧ i = .int .i64 j ∧ Ext w wr ∧ Hid (Blk wr w.heap.size 25 #[.slice A n cap, .int .i64 bd]) ∧ Hid (Blk wr (w.heap.size + 1) 25 #[.slice none 0 0, .int .i64 0]) ∧ ∃ v, Hid (Blk wr (w.heap.size + 2) 25 #[v, .int .i64 bd]) ∧ Hid (wr.ownsRow (w.heap.size + 3) 38 2 v j (encT (satMap (ts.take j) bd)))) (fun i _ => n - (intOf i).toNat)
    case atStart => exact ⟨0, by omega, rfl, (((Ext.refl w).alloc _).alloc _).alloc _, ((Blk.new _ _ _).alloc _).alloc _, by
        have := (Blk.new (w.alloc (.cells #[.slice A n cap, .int .i64 bd] 25)) 25 #[.slice none 0 0, .int .i64 0]).alloc (.cells #[.slice none 0 0, .int .i64 bd] 25)
        rw [World.size_alloc] at this; exact this, .slice none 0 0, by
        have := Blk.new ((w.alloc (.cells #[.slice A n cap, .int .i64 bd] 25)).alloc (.cells #[.slice none 0 0, .int .i64 0] 25)) 25 #[.slice none 0 0, .int .i64 bd]
        rw [World.size_alloc, World.size_alloc] at this; exact this, World.ownsRow_nil _ _ _ _⟩
    case round =>
      obtain ⟨j, hj, rfl, hE, hBx, hB0, v, hB1, hown⟩ := hrel
      have b0 := hBx.out.cell 0
      have b0' := hBx.out.cell 1
      have b1 := hB1.out.cell 0
      have hsz := hB1.out.lt
      by_cases hlt : j < n
      · obtain ⟨b, off, c, l, rfl, hx, c1, c2⟩ := (hN.out.ext hE).term hlt
        have hbl := World.block_lt_of_cell? _ _ c1
        simp only at hbl
        have HX := Lib.hid hx
        clear hx
        have hxw : w.heap.size < wr.heap.size := by omega
        obtain ⟨m, hm⟩ : ∃ m, Hid (satM c bd = m) := ⟨_, rfl⟩
        have hmm : (bd < c ∧ bd = m) ∨ (¬ bd < c ∧ c = m) := by
          have := hm.out; unfold satM at this; split at this <;> omega
        rcases hmm with ⟨hcb, rfl⟩ | ⟨hcb, rfl⟩
        all_goals
          go_wp2_with (first
            | (at_builtin
               first
               | refine wpList_append_own _ rfl (.tmp 35) (.tmp 37) 23 rfl (w.heap.size + 3) 38 i0 _ 2 16 Try.underlying23 HI.out HZ0.out HZ1.out HZ2.out rfl (by omega) v j _ rfl ((hown.out.alloc _).alloc _) ⟨wr.heap.size + 1, 0, none⟩ 1 1 [.int .i64 bd, .int .i64 l] rfl rfl (by have := cell_two_new (wr.alloc (.cells #[.int .i64 bd, .int .i64 l] 38)) (.int .i64 bd) (.int .i64 l) 38; rw [World.size_alloc] at this; exact this) ?_ ?_ ?_ ?_ ?_
               | refine wpList_append_own _ rfl (.tmp 35) (.tmp 37) 23 rfl (w.heap.size + 3) 38 i0 _ 2 16 Try.underlying23 HI.out HZ0.out HZ1.out HZ2.out rfl (by omega) v j _ rfl ((hown.out.alloc _).alloc _) ⟨wr.heap.size + 1, 0, none⟩ 1 1 [.int .i64 c, .int .i64 l] rfl rfl (by have := cell_two_new (wr.alloc (.cells #[.int .i64 c, .int .i64 l] 38)) (.int .i64 c) (.int .i64 l) 38; rw [World.size_alloc] at this; exact this) ?_ ?_ ?_ ?_ ?_
               (intro u hu; simp at hu; rcases hu with rfl | rfl <;> rfl)
               (unfold maxLen; omega)
               omega
               (simp; omega)
               intro v1 w1 hown1 hg1 _
               obtain ⟨A1, k1, rfl⟩ := own_slice hown1
               have BB := push_pre (hB1.out.alloc _) (hown.out.alloc _) (by omega) hg1
               have bb := BB.cell 0
               have fz := BB.frozen 0
               clear BB))
          obtain ⟨E1, K1, O1⟩ := push_box (hE.alloc _) (hB1.out.alloc _) (hown.out.alloc _) (by omega) (by omega) (by omega) hg1 hown1
          have K0 := push_blk (gc := w.heap.size + 2) (v1 := .slice A1 (j + 1) k1) (hB0.out.alloc _) (hown.out.alloc _) (by omega) (by omega) hg1
          have Kx := push_blk (gc := w.heap.size + 2) (v1 := .slice A1 (j + 1) k1) (hBx.out.alloc _) (hown.out.alloc _) (by omega) (by omega) hg1
          go_roundw
          case rel =>
            refine ⟨j + 1, by omega, by go_num, E1, Kx, K0, _, K1, ?_⟩
            rw [take_of_get _ _ _ HX.out, satMap_snoc, encT_append, hm.out]
            simpa [encT, Hid] using O1
          case measure => simp [intOf]; omega
      · obtain rfl : j = n := by omega
        obtain ⟨A1, c1, rfl⟩ := own_slice hown.out
        have b2 := hB1.out.cell 0
        have b3 := hB1.out.cell 1
        have r0 := hB0.out.cell 0
        have r1 := hB0.out.cell 1
        have q0 := hB0.out.frozen 0
        have q1 := hB0.out.frozen 1
        have hz := hB0.out.lt
        go_wp2
        refine bodyPost_ret (v := .agg #[.slice A1 j c1, .int .i64 bd]) (by simp [results, Try.results36, go_sem, r0, r1]) rfl ?_
        have K : Kept (w.heap.size + 1) (w.heap.size + 2) wr _ := ((Kept.refl _ _ wr).setIn (p := ⟨w.heap.size + 1, 0, none⟩) (by simp) (.slice A1 j c1)).setIn (p := ⟨w.heap.size + 1, 1, none⟩) (by simp) (.int .i64 bd)
        have G := own_got2 (w := w) hown.out K (by omega) (by omega)
        rw [List.take_of_length_le (by rw [HL.out]; omega)] at G
        refine ⟨A1, j, c1, rfl, by unfold saT; rw [if_pos h0, satMap_len, HL.out], ?_, (hE.setNew (by simp) _).setNew (by simp) _⟩
        unfold saT
        rw [if_pos h0]
        exact G
  · obtain rfl : bd = 0 := by omega
    clear h
    by_cases hn0 : 0 < n
    all_goals
      go_enter Try.func36, Try.ntmps36
      go_wp2_with fail
      go_loopw [4] (fun i wr => i = .int .i64 0 ∧ wr = (((w.alloc (.cells #[.slice A n cap, .int .i64 0] 25)).alloc (.cells #[.slice none 0 0, .int .i64 0] 25)).alloc (.cells #[.slice none 0 0, .int .i64 0] 25))) (fun i _ => 0)
      case atStart => exact ⟨rfl, rfl⟩
      case round =>
        obtain ⟨rfl, rfl⟩ := hrel
        go_wp2
        refine bodyPost_ret (v := .agg #[.slice none 0 0, .int .i64 0]) (by simp [results, Try.results36, go_sem]) rfl ?_
        have hs : saT ts 0 = [] := by unfold saT; rw [if_neg (by omega)]
        rw [hs]
        exact ⟨none, 0, 0, rfl, rfl, Got.nil' _ _ _ _, (((Ext.refl w).alloc _).alloc _).alloc _⟩
set_option maxRecDepth 100000 in
set_option maxHeartbeats 2000000 in
theorem specSat_any (A : Option Addr) (n cap : Nat) (ts : List Tm) (bd : Int) (w : World) (hn : n ≤ maxLen) (h : Seg w 2 A n (encT ts)) :
    Calls Try.prog 16 #[.agg #[.slice A n cap, .int .i64 bd]] w fun e w' => RetCB (stT ts bd) (stD ts bd) (cvB ts bd) w e w' := by
  by_cases hv : cvB ts bd = true
  · have HV := Lib.hid hv
    clear hv
    go_enter Try.func16, Try.ntmps16
    go_wp2_with fail
    refine (specCV_any A n cap ts bd _ hn ((h.alloc _).alloc _)).mono ?_
    rintro e w1 ⟨rfl, hE1⟩
    have hv := HV.out
    rw [hv]
    obtain ⟨B0, B1⟩ := Blk.of2 hE1
    have b0 := B0.cell 0
    have b1 := B0.cell 1
    have h1 := ((h.alloc _).alloc _).ext hE1
    clear B0 hv
    have HB := Lib.hid B1
    clear B1
    go_wp2_with fail
    refine (l2Sat_any A n cap ts bd _ h1 HV.out).mono ?_
    rintro e w2 ⟨A2, n2, c2, rfl, hl, hG, hE2⟩
    have B2 := HB.out.ext hE2
    have r0 := B2.cell 0
    have r1 := B2.cell 1
    have q0 := B2.frozen 0
    have q1 := B2.frozen 1
    clear B2 b0 b1 h h1
    have HG := Lib.hid hG
    clear hG
    have hz := HB.out.lt
    go_wp2
    refine bodyPost_ret (v := .tuple #[.agg #[.slice A2 n2 c2, .int .i64 bd], .bool true]) (by simp [results, Try.results16, go_sem, r0, r1]) rfl ?_
    have K : Kept (w.heap.size + 1) (w.heap.size + 2) w2 _ := ((Kept.refl _ _ w2).setIn (p := ⟨w.heap.size + 1, 0, none⟩) (by simp) (.slice A2 n2 c2)).setIn (p := ⟨w.heap.size + 1, 1, none⟩) (by simp) (.int .i64 bd)
    have E1 : Ext w w1 := (((Ext.refl w).alloc _).alloc _).trans hE1
    refine ⟨A2, n2, c2, by unfold stD; rw [if_pos HV.out, HV.out], by unfold stT; rw [if_pos HV.out]; exact hl, ?_, ((E1.trans hE2).setNew (by simp) _).setNew (by simp) _⟩
    unfold stT
    rw [if_pos HV.out]
    exact (HG.out.kept K (by omega)).from_ E1
  · have hf : cvB ts bd = false := by simpa using hv
    have HV := Lib.hid hf
    clear hv
    go_enter Try.func16, Try.ntmps16
    go_wp2_with fail
    refine (specCV_any A n cap ts bd _ hn ((h.alloc _).alloc _)).mono ?_
    rintro e w1 ⟨rfl, hE1⟩
    rw [hf]
    clear hf h
    obtain ⟨B0, B1⟩ := Blk.of2 hE1
    have r0 := B1.cell 0
    have r1 := B1.cell 1
    have q0 := B1.frozen 0
    have q1 := B1.frozen 1
    clear B0 B1
    go_wp2
    refine bodyPost_ret (v := .tuple #[.agg #[.slice none 0 0, .int .i64 0], .bool false]) (by simp [results, Try.results16, go_sem, r0, r1]) rfl ?_
    have E1 : Ext w w1 := (((Ext.refl w).alloc _).alloc _).trans hE1
    exact (RetCB.zero ((E1.setNew (by simp) _).setNew (by simp) _)).of_eq (by unfold stT; rw [if_neg (by rw [HV.out]; simp)]) (by unfold stD; rw [if_neg (by rw [HV.out]; simp)]) HV.out.symm
end

/- WeakenConstraint, the program's and the reference's. -/
section
open Go.RowKit

def wkKeep (v : Int) (t : Tm) : Bool := !decide (absI t.2 = v)
def wkMap (ts : List Tm) (v : Int) : List Tm := ts.filter (wkKeep v)
def wkSum (ts : List Tm) (v : Int) : Int := sumT (ts.filter fun t => !wkKeep v t)
theorem wkMap_le (ts : List Tm) (v : Int) : (wkMap ts v).length ≤ ts.length := List.length_filter_le _ _
theorem wkMap_snoc (ts : List Tm) (t : Tm) (v : Int) : wkMap (ts ++ [t]) v = if wkKeep v t = true then wkMap ts v ++ [t] else wkMap ts v := by
  unfold wkMap; rw [List.filter_append]; split <;> simp_all
theorem wkSum_snoc (ts : List Tm) (t : Tm) (v : Int) : wkSum (ts ++ [t]) v = if wkKeep v t = true then wkSum ts v else wkSum ts v + t.1 := by
  unfold wkSum; rw [List.filter_append]; split <;> simp_all [sumT]
theorem goodB_above (ts : List Tm) : ∀ u : Int, goodB u ts = true → ∀ t ∈ ts, u < absI t.2 := by
  induction ts with
  | nil => intro u _ t ht; cases ht
  | cons x ts ih =>
    intro u h t ht
    obtain ⟨c, l⟩ := x
    rw [goodB_cons, Bool.and_eq_true, decide_eq_true_eq] at h
    obtain ⟨⟨_, h1, _⟩, h2⟩ := h
    rcases List.mem_cons.1 ht with rfl | ht
    · exact h1
    · have := ih _ h2 t ht; omega
theorem goodB_before (ts : List Tm) : ∀ (u : Int) (k : Nat) (t : Tm), goodB u ts = true → ts[k]? = some t → ∀ s ∈ ts.take k, absI s.2 < absI t.2 := by
  induction ts with
  | nil => intro u k t _ hx; simp at hx
  | cons x ts ih =>
    intro u k t h hx s hs
    obtain ⟨c, l⟩ := x
    rw [goodB_cons, Bool.and_eq_true, decide_eq_true_eq] at h
    cases k with
    | zero => simp at hs
    | succ k =>
      rw [List.take_succ_cons] at hs
      rcases List.mem_cons.1 hs with rfl | hs
      · exact goodB_above ts _ h.2 t (List.mem_of_getElem? (by simpa using hx))
      · exact ih _ k t h.2 (by simpa using hx) s hs
/-- ahead of a term, no other of its variable -/
theorem wkSum_before {ts : List Tm} {bd : Int} (h : cvB ts bd = true) {k : Nat} {c l : Int} (hx : ts[k]? = some (c, l)) : wkSum (ts.take k) (absI l) = 0 := by
  unfold cvB at h
  rw [Bool.and_eq_true] at h
  have hb := goodB_before ts 0 k (c, l) h.1 hx
  unfold wkSum
  rw [List.filter_eq_nil_iff.2 fun s hs => by
    have := hb s hs
    simp only [wkKeep, Bool.not_not, decide_eq_true_eq]
    simp only at this
    omega]
  rfl
def wkD (ts : List Tm) (bd v : Int) : Int := max 0 (bd - wkSum ts v)
def wkB (ts : List Tm) (bd v : Int) : Bool := cvB ts bd && inB v 1 12
def wcT (ts : List Tm) (bd v : Int) : List Tm := if wkB ts bd v = true then wkMap ts v else []
def wcD (ts : List Tm) (bd v : Int) : Int := if wkB ts bd v = true then wkD ts bd v else 0
theorem wcT_len (ts : List Tm) (bd v : Int) : (wcT ts bd v).length ≤ 1048576 := by
  unfold wcT; split
  · rename_i h
    unfold wkB at h
    rw [Bool.and_eq_true] at h
    have := cvB_len h.1; have := wkMap_le ts v; omega
  · simp
theorem wkSum_bounds {ts : List Tm} {bd : Int} (h : cvB ts bd = true) (k : Nat) (v : Int) : 0 ≤ wkSum (ts.take k) v ∧ wkSum (ts.take k) v ≤ 12000 := by
  have hl := cvB_len h
  unfold cvB at h
  rw [Bool.and_eq_true] at h
  have hm : ∀ t ∈ ts, 1 ≤ t.1 ∧ t.1 ≤ 1000 := fun t ht => (goodB_mem ts 0 h.1 t ht).2
  have key : ∀ us : List Tm, (∀ t ∈ us, 1 ≤ t.1 ∧ t.1 ≤ 1000) → 0 ≤ sumT us ∧ sumT us ≤ 1000 * us.length := by
    intro us
    induction us with
    | nil => intro _; simp [sumT]
    | cons x us ih =>
      intro hu
      have h1 := hu x (by simp)
      have h2 := ih fun t ht => hu t (by simp [ht])
      simp only [sumT, List.map_cons, List.sum_cons, List.length_cons] at h2 ⊢
      omega
  have k1 := key ((ts.take k).filter fun t => !wkKeep v t) fun t ht => hm t (List.mem_of_mem_take (List.mem_filter.1 ht).1)
  have k2 : ((ts.take k).filter fun t => !wkKeep v t).length ≤ 12 := by
    have a := List.length_filter_le (fun t => !wkKeep v t) (ts.take k)
    have b := List.length_take_le k ts
    have c : (ts.take k).length ≤ ts.length := by rw [List.length_take]; exact Nat.min_le_right _ _
    omega
  unfold wkSum
  omega

theorem Try.infoTmW : (Try.prog.info? 38).map (fun i => (i.zero, i.size, i.bytes)) = some (some (.agg #[.int .i64 0, .int .i64 0]), 2, 16) := by kernel_rfl


set_option maxRecDepth 100000 in
set_option maxHeartbeats 4000000 in
theorem specWk_any (A : Option Addr) (n cap : Nat) (ts : List Tm) (bd u : Int) (w : World) (hn : n ≤ maxLen) (h : Seg w 2 A n (encT ts)) :
    Calls Try.prog 89 #[.agg #[.slice A n cap, .int .i64 bd], .int .i64 u] w fun e w' => RetCB (wcT ts bd u) (wcD ts bd u) (wkB ts bd u) w e w' := by
  by_cases hk : wkB ts bd u = true
  · have hv : cvB ts bd = true := by unfold wkB at hk; rw [Bool.and_eq_true] at hk; exact hk.1
    have hu : inB u 1 12 = true := by unfold wkB at hk; rw [Bool.and_eq_true] at hk; exact hk.2
    have hu' : 1 ≤ u ∧ u ≤ 12 := by simpa [inB] using hu
    have HL := Lib.hid h.lenT
    have hn12 : n ≤ 12 := by have := cvB_len hv; rw [HL.out] at this; exact this
    have hb := cvB_bd hv
    obtain ⟨i0, hi, hz0, hz1, hz2⟩ := info_parts Try.infoTmW
    have HI := Lib.hid hi
    have HZ0 := Lib.hid hz0
    have HZ1 := Lib.hid hz1
    have HZ2 := Lib.hid hz2
    have HV := Lib.hid hv
    have HK := Lib.hid hk
    have hold := Lib.hid h.old
    clear hi hz0 hz1 hz2 hv hk hu
    go_enter Try.func89, Try.ntmps89
    go_wp2_with fail
    refine (specCV_any A n cap ts bd _ hn ((h.alloc _).alloc _)).mono ?_
    rintro e wc ⟨rfl, hEc⟩
    have hv := HV.out
    rw [hv]
    clear hv
    obtain ⟨B0, B1⟩ := Blk.of2 hEc
    have b0 := B0.cell 0
    have b1 := B0.cell 1
    have hzc := B1.lt
    have hzb := B0.lt
    have EW : Ext w wc := (((Ext.refl w).alloc _).alloc _).trans hEc
    have HB0 := Lib.hid B0
    have HB1 := Lib.hid B1
    have hN := Lib.hid h
    clear B0 B1 h hEc
    go_wp2_with fail
    generalize hgr : wc.heap.size = gr at *
    go_loopw [7] (fun i wr => ∃ (j m : Nat) (z : Int), j ≤ n ∧ m ≤ j ∧ i = .int .i64 j ∧ -12000 ≤ z ∧ z ≤ 20000 ∧ Ext w wr ∧ Hid (Blk wr w.heap.size 25 #[.slice A n cap, .int .i64 bd]) ∧ Hid (Blk wr (w.heap.size + 1) 25 #[.slice none 0 0, .int .i64 0]) ∧ Hid (z = bd - wkSum (ts.take j) u) ∧ ∃ v, Hid (Blk wr gr 25 #[v, .int .i64 z]) ∧ Hid (wr.ownsRow (gr + 1) 38 2 v m (encT (wkMap (ts.take j) u)))) (fun i _ => n - (intOf i).toNat)
    case atStart => exact ⟨0, 0, bd, by omega, by omega, rfl, by omega, by omega, EW.alloc _, HB0.out.alloc _, HB1.out.alloc _, by unfold wkSum Hid; simp [sumT], .slice none 0 0, by rw [← hgr]; exact Blk.new _ _ _, World.ownsRow_nil _ _ _ _⟩
    case round =>
      clear b0 b1 EW HB0 HB1 hgr
      obtain ⟨j, m, z, hj, hmj, rfl, hz1, hz2, hE, hBx, hB0, hZ, v, hB1, hown⟩ := hrel
      have b0 := hBx.out.cell 0
      have b1 := hB1.out.cell 0
      have b3 := hB1.out.cell 1
      have f1 := hB1.out.frozen 0
      have f3 := hB1.out.frozen 1
      have hsz := hB1.out.lt
      by_cases hlt : j < n
      · obtain ⟨b, off, c, l, rfl, hx, c1, c2⟩ := (hN.out.ext hE).term hlt
        have hbl : b < w.heap.size := (hold.out (by omega) _ rfl).2
        obtain ⟨hl, hc1, hc2⟩ := cvB_get HV.out hx
        have ha := absI_pos hl
        have hl2 := ((litB_iff l).1 hl).2
        have HX := Lib.hid hx
        clear hx
        have j0 : (0 : Int) ≤ (j : Int) := Int.natCast_nonneg _
        have j1 : (j : Int) < (n : Int) := by omega
        by_cases hq : absI l = u
        · have hq' : (absI l == u) = true := by simp [hq]
          have hz' : Hid (z - c = bd - wkSum (ts.take (j + 1)) u) := by
            unfold Hid
            have h1 := hZ.out
            rw [take_of_get _ _ _ HX.out, wkSum_snoc, if_neg (by simp [wkKeep, hq])]
            simp only
            omega
          have hzb : -12000 ≤ z - c ∧ z - c ≤ 20000 := by
            have h1 := hz'.out
            have h2 := wkSum_bounds HV.out (j + 1) u
            omega
          have n1 : IntKind.i64.wrap (z - c) = z - c := IntWalk.i64_in _ (by omega)
          have K0 : Hid (∀ W, Ext wr W → (W.cell? ⟨gr, 1, none⟩ = some (.int .i64 z) ∧ W.cell? ⟨w.heap.size, 0, none⟩ = some (.slice (some ⟨b, off, none⟩) n cap) ∧ W.cell? ⟨b, off + j * 2, none⟩ = some (.int .i64 c) ∧ W.cell? ⟨b, off + j * 2 + 1, none⟩ = some (.int .i64 l))) := fun W e => ⟨e.cell b3, e.cell b0, e.cell c1, e.cell c2⟩
          go_wp2_with (first | (go_at_call 22; refine (l1Abs_any _ _ (by omega) (by omega)).mono ?_; rintro e w1 ⟨rfl, rfl⟩))
          have hS0 := K0.out wr.drew (Ext.refl _).drew
          refine wp_region_Z (fun w' => (w'.cell? ⟨gr, 1, none⟩ = some (.int .i64 z) ∧ w'.cell? ⟨w.heap.size, 0, none⟩ = some (.slice (some ⟨b, off, none⟩) n cap) ∧ w'.cell? ⟨b, off + j * 2, none⟩ = some (.int .i64 c) ∧ w'.cell? ⟨b, off + j * 2 + 1, none⟩ = some (.int .i64 l))) 10 (by kernel_rfl) ?_
          refine wpAnyZ_take 0 (v := ?_) (by kernel_rfl) rfl rfl (by kernel_rfl) (by kernel_rfl) (by kernel_rfl) (fun _ _ _ h => h) hS0 (Or.inl ⟨by rfl, ?_⟩) ?_
          rotate_left
          · (intro w hSw; (try dsimp only at hSw); go_simp; (try with_reducible rfl))
          try simp only [Act.put, List.setIfInBounds_toArray, List.set_cons_zero, List.set_cons_succ]
          refine wpAnyZ_take 1 (v := ?_) (by kernel_rfl) rfl rfl (by kernel_rfl) (by kernel_rfl) (by kernel_rfl) (fun _ _ _ h => h) hS0 (Or.inl ⟨by rfl, ?_⟩) ?_
          rotate_left
          · (intro w hSw; (try dsimp only at hSw); go_simp; (try with_reducible rfl))
          try simp only [Act.put, List.setIfInBounds_toArray, List.set_cons_zero, List.set_cons_succ]
          refine wpAnyZ_take 2 (v := ?_) (by kernel_rfl) rfl rfl (by kernel_rfl) (by kernel_rfl) (by kernel_rfl) (fun _ _ _ h => h) hS0 (Or.inl ⟨by rfl, ?_⟩) ?_
          rotate_left
          · (intro w hSw; (try dsimp only at hSw); go_simp; (try with_reducible rfl))
          try simp only [Act.put, List.setIfInBounds_toArray, List.set_cons_zero, List.set_cons_succ]
          refine wpAnyZ_take 3 (v := ?_) (by kernel_rfl) rfl rfl (by kernel_rfl) (by kernel_rfl) (by kernel_rfl) (fun _ _ _ h => h) hS0 (Or.inl ⟨by rfl, ?_⟩) ?_
          rotate_left
          · (intro w hSw; (try dsimp only at hSw); go_simp; (try with_reducible rfl))
          try simp only [Act.put, List.setIfInBounds_toArray, List.set_cons_zero, List.set_cons_succ]
          refine wpAnyZ_take 4 (v := ?_) (by kernel_rfl) rfl rfl (by kernel_rfl) (by kernel_rfl) (by kernel_rfl) (fun _ _ _ h => h) hS0 (Or.inl ⟨by rfl, ?_⟩) ?_
          rotate_left
          · (intro w hSw; (try dsimp only at hSw); go_simp; (try with_reducible rfl))
          try simp only [Act.put, List.setIfInBounds_toArray, List.set_cons_zero, List.set_cons_succ]
          refine wpAnyZ_take 5 (v := ?_) (by kernel_rfl) rfl rfl (by kernel_rfl) (by kernel_rfl) (by kernel_rfl) (fun _ _ _ h => h) hS0 (Or.inl ⟨by rfl, ?_⟩) ?_
          rotate_left
          · (intro w hSw; (try dsimp only at hSw); go_simp; (try with_reducible rfl))
          try simp only [Act.put, List.setIfInBounds_toArray, List.set_cons_zero, List.set_cons_succ]
          refine wpAnyZ_take 6 (v := ?_) (by kernel_rfl) rfl rfl (by kernel_rfl) (by kernel_rfl) (by kernel_rfl) (fun _ _ _ h => h) hS0 (Or.inl ⟨by rfl, ?_⟩) ?_
          rotate_left
          · (intro w hSw; (try dsimp only at hSw); go_simp; (try with_reducible rfl))
          try simp only [Act.put, List.setIfInBounds_toArray, List.set_cons_zero, List.set_cons_succ]
          refine wpAnyZ_take 7 (v := ?_) (by kernel_rfl) rfl rfl (by kernel_rfl) (by kernel_rfl) (by kernel_rfl) (fun _ _ _ h => h) hS0 (Or.inl ⟨by rfl, ?_⟩) ?_
          rotate_left
          · (intro w hSw; (try dsimp only at hSw); go_simp; (try with_reducible rfl))
          try simp only [Act.put, List.setIfInBounds_toArray, List.set_cons_zero, List.set_cons_succ]
          refine wpAnyZ_take 8 (v := ?_) (by kernel_rfl) rfl rfl (by kernel_rfl) (by kernel_rfl) (by kernel_rfl) (fun _ _ _ h => h) hS0 (Or.inl ⟨by rfl, ?_⟩) ?_
          rotate_left
          · (intro w hSw; (try dsimp only at hSw); go_simp; (try with_reducible rfl))
          try simp only [Act.put, List.setIfInBounds_toArray, List.set_cons_zero, List.set_cons_succ]
          refine wpAnyZ_take 9 (v := ?_) (by kernel_rfl) rfl rfl (by kernel_rfl) (by kernel_rfl) (by kernel_rfl) (fun _ _ _ h => h) hS0 (Or.inl ⟨by rfl, ?_⟩) ?_
          rotate_left
          · (intro w hSw; (try dsimp only at hSw); go_simp; (try with_reducible rfl))
          try simp only [Act.put, List.setIfInBounds_toArray, List.set_cons_zero, List.set_cons_succ]
          refine wpAnyZ_last (by kernel_rfl) (by kernel_rfl) rfl rfl (fun K hK => ?_)
          go_simp
          refine hK.out _ _ ?_
          clear hK K
          go_wp2
          go_roundw
          case rel =>
            refine ⟨j + 1, m, z - c, by omega, by omega, by go_num, by omega, by omega, hE.drew.setNew (by simp only; omega) _, hBx.out.drew.far (by simp only; omega) _, hB0.out.drew.far (by simp only; omega) _, hz', v, hB1.out.drew.set_ 1 _, ?_⟩
            rw [take_of_get _ _ _ HX.out, wkMap_snoc, if_neg (by simp [wkKeep, hq])]
            exact own_far hown.out.drew (by simp only; omega) _
          case measure => simp [intOf]; omega
        · have hq' : (absI l == u) = false := by simp [hq]
          have hz' : Hid (z = bd - wkSum (ts.take (j + 1)) u) := by
            unfold Hid
            rw [take_of_get _ _ _ HX.out, wkSum_snoc, if_pos (by simp [wkKeep, hq])]
            exact hZ.out
          have hne : ∀ k, k < gr + 1 → some k ≠ v.ownBlock := fun k hk e => by have := (hown.out.lt k e.symm).1; omega
          have K0 : Hid (∀ W, Ext wr W → (W.cell? ⟨gr, 0, none⟩ = some v ∧ W.cell? ⟨w.heap.size, 0, none⟩ = some (.slice (some ⟨b, off, none⟩) n cap) ∧ W.cell? ⟨b, off + j * 2, none⟩ = some (.int .i64 c) ∧ W.cell? ⟨b, off + j * 2 + 1, none⟩ = some (.int .i64 l))) := fun W e => ⟨e.cell b1, e.cell b0, e.cell c1, e.cell c2⟩
          have KA : Hid (∀ W W', Ext wr W → W.grownBy W' v.ownBlock → (W'.cell? ⟨gr, 0, none⟩ = some v ∧ W'.cell? ⟨w.heap.size, 0, none⟩ = some (.slice (some ⟨b, off, none⟩) n cap) ∧ W'.cell? ⟨b, off + j * 2, none⟩ = some (.int .i64 c) ∧ W'.cell? ⟨b, off + j * 2 + 1, none⟩ = some (.int .i64 l))) := fun W W' e hg => by
            have q := K0.out W e
            have z := e.size
            refine ⟨?_, ?_, ?_, ?_⟩
            · rw [hg.cell_far _ (by simp only; omega) (hne _ (by simp only; omega))]; exact q.1
            · rw [hg.cell_far _ (by simp only; omega) (hne _ (by simp only; omega))]; exact q.2.1
            · rw [hg.cell_far _ (by simp only; omega) (hne _ (by simp only; omega))]; exact q.2.2.1
            · rw [hg.cell_far _ (by simp only; omega) (hne _ (by simp only; omega))]; exact q.2.2.2
          go_wp2_with (first | (go_at_call 22; refine (l1Abs_any _ _ (by omega) (by omega)).mono ?_; rintro e w1 ⟨rfl, rfl⟩))
          have hS0 := K0.out wr.drew (Ext.refl _).drew
          refine wp_region_Z (fun w' => (w'.cell? ⟨gr, 0, none⟩ = some v ∧ w'.cell? ⟨w.heap.size, 0, none⟩ = some (.slice (some ⟨b, off, none⟩) n cap) ∧ w'.cell? ⟨b, off + j * 2, none⟩ = some (.int .i64 c) ∧ w'.cell? ⟨b, off + j * 2 + 1, none⟩ = some (.int .i64 l))) 10 (by kernel_rfl) ?_
          refine wpAnyZ_take 0 (v := ?_) (by kernel_rfl) rfl rfl (by kernel_rfl) (by kernel_rfl) (by kernel_rfl) (fun _ _ _ h => h) hS0 (Or.inl ⟨by rfl, ?_⟩) ?_
          rotate_left
          · (intro w hSw; (try dsimp only at hSw); go_simp; (try with_reducible rfl))
          try simp only [Act.put, List.setIfInBounds_toArray, List.set_cons_zero, List.set_cons_succ]
          refine wpAnyZ_take 1 (v := ?_) (by kernel_rfl) rfl rfl (by kernel_rfl) (by kernel_rfl) (by kernel_rfl) (fun _ _ _ h => h) hS0 (Or.inl ⟨by rfl, ?_⟩) ?_
          rotate_left
          · (intro w hSw; (try dsimp only at hSw); go_simp; (try with_reducible rfl))
          try simp only [Act.put, List.setIfInBounds_toArray, List.set_cons_zero, List.set_cons_succ]
          refine wpAnyZ_take 2 (v := ?_) (by kernel_rfl) rfl rfl (by kernel_rfl) (by kernel_rfl) (by kernel_rfl) (fun _ _ _ h => h) hS0 (Or.inl ⟨by rfl, ?_⟩) ?_
          rotate_left
          · (intro w hSw; (try dsimp only at hSw); go_simp; (try with_reducible rfl))
          try simp only [Act.put, List.setIfInBounds_toArray, List.set_cons_zero, List.set_cons_succ]
          refine wpAnyZ_take 3 (v := ?_) (by kernel_rfl) rfl rfl (by kernel_rfl) (by kernel_rfl) (by kernel_rfl) (fun _ _ _ h => h) hS0 (Or.inl ⟨by rfl, ?_⟩) ?_
          rotate_left
          · (intro w hSw; (try dsimp only at hSw); go_simp; (try with_reducible rfl))
          try simp only [Act.put, List.setIfInBounds_toArray, List.set_cons_zero, List.set_cons_succ]
          refine wpAnyZ_take 4 (v := ?_) (by kernel_rfl) rfl rfl (by kernel_rfl) (by kernel_rfl) (by kernel_rfl) (fun _ _ _ h => h) hS0 (Or.inl ⟨by rfl, ?_⟩) ?_
          rotate_left
          · (intro w hSw; (try dsimp only at hSw); go_simp; (try with_reducible rfl))
          try simp only [Act.put, List.setIfInBounds_toArray, List.set_cons_zero, List.set_cons_succ]
          refine wpAnyZ_take 5 (v := ?_) (by kernel_rfl) rfl rfl (by kernel_rfl) (by kernel_rfl) (by kernel_rfl) (fun _ _ _ h => h) hS0 (Or.inl ⟨by rfl, ?_⟩) ?_
          rotate_left
          · (intro w hSw; (try dsimp only at hSw); go_simp; (try with_reducible rfl))
          try simp only [Act.put, List.setIfInBounds_toArray, List.set_cons_zero, List.set_cons_succ]
          refine wpAnyZ_take 6 (v := ?_) (by kernel_rfl) rfl rfl (by kernel_rfl) (by kernel_rfl) (by kernel_rfl) (fun _ _ _ h => h) hS0 (Or.inl ⟨by rfl, ?_⟩) ?_
          rotate_left
          · (intro w hSw; (try dsimp only at hSw); go_simp; (try with_reducible rfl))
          try simp only [Act.put, List.setIfInBounds_toArray, List.set_cons_zero, List.set_cons_succ]
          refine wpAnyZ_one 7 (by kernel_rfl) rfl rfl (fun K hK => ?_)
          go_simp
          refine hK.out _ _ (K0.out _ (by first | exact ((Ext.refl _).drew).alloc _ | exact ((Ext.refl _).alloc _).drew)) ?_
          clear hK K
          try simp only [Act.put, List.setIfInBounds_toArray, List.set_cons_zero, List.set_cons_succ]
          refine wpAnyZ_one 8 (by kernel_rfl) rfl rfl (fun K hK => ?_)
          refine wp_append_lies _ _ _ _ (by rfl) (gr + 1) 38 i0 _ 2 16 Try.underlying23 HI.out HZ0.out HZ1.out HZ2.out rfl (by omega) v m _ (by rfl) (hown.out.alloc _).drew
                ⟨wr.heap.size, 0, none⟩ 1 1 [.int .i64 c, .int .i64 l] (by rfl) (by rfl) (World.news_of_block (cs := #[.int .i64 c, .int .i64 l]) (t := 38) (fr := (0, 0)) (heap_alloc_new wr _)) (by simp [Value.oneCell'])
                (by omega) (by unfold maxLen; omega) (by omega) (by simp; omega) (wr.heap.size + 1) (by simp) ?_
          intro gg cp w1 hown1 hg1 hat hlt1
          have BB1 := own_blk ((hB1.out.alloc _).drew) ((hown.out.alloc _).drew) (by omega) hg1
          have bb1 := BB1.cell 0
          have fz1 := BB1.frozen 0
          clear BB1
          have hSa := KA.out _ _ (by first | exact ((Ext.refl _).drew).alloc _ | exact ((Ext.refl _).alloc _).drew) hg1
          refine hK.out _ _ hSa ?_
          clear hK K
          try simp only [Act.put, List.setIfInBounds_toArray, List.set_cons_zero, List.set_cons_succ]
          refine wpAnyZ_one 9 (by kernel_rfl) rfl rfl (fun K hK => ?_)
          go_simp
          refine hK.out _ _ hSa ?_
          clear hK K
          try simp only [Act.put, List.setIfInBounds_toArray, List.set_cons_zero, List.set_cons_succ]
          refine wpAnyZ_last (by kernel_rfl) (by kernel_rfl) rfl rfl (fun K hK => ?_)
          go_simp
          refine hK.out _ _ ?_
          clear hK K
          have hg2 : (wr.drew.alloc (.cells #[.int .i64 c, .int .i64 l] 38)).grownBy w1 v.ownBlock := hg1
          obtain ⟨E1, K1, O1⟩ := push_box hE.drew hB1.out.drew hown.out.drew (by omega) (by omega) (by omega) hg2 hown1
          have Kx := push_blk (gc := gr) (v1 := .slice (some ⟨gg, 0, none⟩) (m + 1) cp) hBx.out.drew hown.out.drew (by omega) (by omega) hg2
          have Kr := push_blk (gc := gr) (v1 := .slice (some ⟨gg, 0, none⟩) (m + 1) cp) hB0.out.drew hown.out.drew (by omega) (by omega) hg2
          go_wp2
          go_roundw
          case rel =>
            refine ⟨j + 1, m + 1, z, by omega, by omega, by go_num, hz1, hz2, E1, Kx, Kr, hz', _, K1, ?_⟩
            rw [take_of_get _ _ _ HX.out, wkMap_snoc, if_pos (by simp [wkKeep, hq]), encT_append]
            simpa [encT, Hid] using O1
          case measure => simp [intOf]; omega
      · obtain rfl : j = n := by omega
        obtain ⟨A1, c1, rfl⟩ := own_slice hown.out
        have r0 := hB0.out.cell 0
        have r1 := hB0.out.cell 1
        have q0 := hB0.out.frozen 0
        have q1 := hB0.out.frozen 1
        have hz := hB0.out.lt
        have hZ' := hZ.out
        have hm := own_len hown.out
        rw [List.take_of_length_le (by rw [HL.out]; omega)] at hZ' hm
        rw [encT_length] at hm
        have HZ' := Lib.hid hZ'
        have HM := Lib.hid hm
        clear hZ' hm
        by_cases hz0 : z < 0
        · have hD : Hid (wcD ts bd u = 0) := by have := HZ'.out; unfold wcD wkD Hid; rw [if_pos HK.out]; omega
          go_wp2
          refine bodyPost_ret (v := .tuple #[.agg #[.slice A1 m c1, .int .i64 0], .bool true]) (by simp [results, Try.results89, go_sem, r0, r1]) rfl ?_
          have K : Kept (w.heap.size + 1) (gr + 1) wr _ := (((Kept.refl _ _ wr).setIn (p := ⟨gr, 1, none⟩) (by simp only; omega) (.int .i64 0)).setIn (p := ⟨w.heap.size + 1, 0, none⟩) (by simp only; omega) (.slice A1 m c1)).setIn (p := ⟨w.heap.size + 1, 1, none⟩) (by simp only; omega) (.int .i64 0)
          have G := own_got2 (w := w) hown.out K (by omega) (by omega)
          rw [List.take_of_length_le (by rw [HL.out]; omega)] at G
          refine ⟨A1, m, c1, by rw [hD.out, HK.out], by unfold wcT; rw [if_pos HK.out]; have := HM.out; omega, ?_, ((hE.setNew (by simp only; omega) _).setNew (by simp) _).setNew (by simp) _⟩
          unfold wcT
          rw [if_pos HK.out]
          exact G
        · have hD : Hid (wcD ts bd u = z) := by have := HZ'.out; unfold wcD wkD Hid; rw [if_pos HK.out]; omega
          go_wp2
          refine bodyPost_ret (v := .tuple #[.agg #[.slice A1 m c1, .int .i64 z], .bool true]) (by simp [results, Try.results89, go_sem, r0, r1]) rfl ?_
          have K : Kept (w.heap.size + 1) (w.heap.size + 2) wr _ := ((Kept.refl _ _ wr).setIn (p := ⟨w.heap.size + 1, 0, none⟩) (by simp) (.slice A1 m c1)).setIn (p := ⟨w.heap.size + 1, 1, none⟩) (by simp) (.int .i64 z)
          have G := own_got2 (w := w) hown.out K (by omega) (by omega)
          rw [List.take_of_length_le (by rw [HL.out]; omega)] at G
          refine ⟨A1, m, c1, by rw [hD.out, HK.out], by unfold wcT; rw [if_pos HK.out]; have := HM.out; omega, ?_, (hE.setNew (by simp) _).setNew (by simp) _⟩
          unfold wcT
          rw [if_pos HK.out]
          exact G
  · by_cases hv : cvB ts bd = true
    all_goals
      have hkf : wkB ts bd u = false := by simpa using hk
      have HK := Lib.hid hkf
      clear hk hkf
    · have hv1 := Lib.hid hv
      have hu : Hid (inB u 1 12 = false) := by
        have a1 := HK.out
        unfold wkB at a1
        rw [hv, Bool.true_and] at a1
        exact a1
      clear hv
      go_enter Try.func89, Try.ntmps89
      go_wp2_with fail
      refine (specCV_any A n cap ts bd _ hn ((h.alloc _).alloc _)).mono ?_
      rintro e w1 ⟨rfl, hE1⟩
      have hv2 := hv1.out
      rw [hv2]
      clear hv2 h
      obtain ⟨B0, B1⟩ := Blk.of2 hE1
      have r0 := B1.cell 0
      have r1 := B1.cell 1
      have q0 := B1.frozen 0
      have q1 := B1.frozen 1
      clear B0 B1
      have hux : u < 1 ∨ 12 < u := by
        have := hu.out
        simp [inB] at this
        omega
      rcases hux with hux | hux
      all_goals
       go_wp2
       refine bodyPost_ret (v := .tuple #[.agg #[.slice none 0 0, .int .i64 0], .bool false]) (by simp [results, Try.results89, go_sem, r0, r1]) rfl ?_
       have E1 : Ext w w1 := (((Ext.refl w).alloc _).alloc _).trans hE1
       exact (RetCB.zero ((E1.setNew (by simp) _).setNew (by simp) _)).of_eq (by unfold wcT; rw [if_neg (by rw [HK.out]; simp)]) (by unfold wcD; rw [if_neg (by rw [HK.out]; simp)]) HK.out.symm
    · have hf : cvB ts bd = false := by simpa using hv
      clear hv
      go_enter Try.func89, Try.ntmps89
      go_wp2_with fail
      refine (specCV_any A n cap ts bd _ hn ((h.alloc _).alloc _)).mono ?_
      rintro e w1 ⟨rfl, hE1⟩
      rw [hf]
      clear hf h
      obtain ⟨B0, B1⟩ := Blk.of2 hE1
      have r0 := B1.cell 0
      have r1 := B1.cell 1
      have q0 := B1.frozen 0
      have q1 := B1.frozen 1
      clear B0 B1
      go_wp2
      refine bodyPost_ret (v := .tuple #[.agg #[.slice none 0 0, .int .i64 0], .bool false]) (by simp [results, Try.results89, go_sem, r0, r1]) rfl ?_
      have E1 : Ext w w1 := (((Ext.refl w).alloc _).alloc _).trans hE1
      exact (RetCB.zero ((E1.setNew (by simp) _).setNew (by simp) _)).of_eq (by unfold wcT; rw [if_neg (by rw [HK.out]; simp)]) (by unfold wcD; rw [if_neg (by rw [HK.out]; simp)]) HK.out.symm
end
end Go.Proofs.Ytbpkpcfhmglddaa
