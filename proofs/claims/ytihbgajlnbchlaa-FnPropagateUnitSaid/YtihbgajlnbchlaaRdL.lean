/- Drawn problems: l3Problem, l3Mutate; DrawSatisfiesAll, DrawPropagate, DrawRupConstraint. -/
import Derived.Test.YtihbgajlnbchlaaRdP
import Derived.Test.YtihbgajlnbchlaaProb
namespace Go.Proofs.Ytihbgajlnbchlaa
open Go.RowKit

/-- the inner slices of a list of constraints: of at most m terms, in blocks from lo on that are not the row's -/
def InL (w : World) (lo m : Nat) (row : Option Nat) (hs : List Hd) (cs : List Cn) : Prop :=
  ∀ (i : Nat) (h : Hd) (c : Cn), hs[i]? = some h → cs[i]? = some c → h.2.1 ≤ m ∧ Seg w 2 h.1 h.2.1 (encT c.1) ∧ Lies lo w.heap.size h.1 h.2.1 ∧ (0 < h.2.1 → ∀ ad : Addr, h.1 = some ad → row ≠ some ad.block)
theorem InL.nil (w : World) (lo m : Nat) (row : Option Nat) : InL w lo m row [] [] := fun i h c h1 _ => by simp at h1
theorem InL.kept {w w' : World} {lo m lo' hi' : Nat} {row : Option Nat} {hs : List Hd} {cs : List Cn} (h : InL w lo m row hs cs) (K : Kept lo' hi' w w') (hd : hi' ≤ lo) : InL w' lo m row hs cs := by
  intro i x c h1 h2
  obtain ⟨q1, q2, q3, q4⟩ := h i x c h1 h2
  exact ⟨q1, q2.kept q3 K (.inr hd), q3.wide (Nat.le_refl _) K.size, q4⟩
theorem InL.ext {w w' : World} {lo m : Nat} {row : Option Nat} {hs : List Hd} {cs : List Cn} (h : InL w lo m row hs cs) (E : Ext w w') : InL w' lo m row hs cs :=
  h.kept E (Nat.zero_le _)
theorem InL.wide {w : World} {lo lo' m m' : Nat} {row : Option Nat} {hs : List Hd} {cs : List Cn} (h : InL w lo m row hs cs) (h1 : lo' ≤ lo) (h2 : m ≤ m') : InL w lo' m' row hs cs := by
  intro i x c e1 e2
  obtain ⟨q1, q2, q3, q4⟩ := h i x c e1 e2
  exact ⟨Nat.le_trans q1 h2, q2, q3.wide h1 (Nat.le_refl _), q4⟩
theorem InL.new {w : World} {lo m : Nat} {row : Option Nat} {hs : List Hd} {cs : List Cn} (h : InL w lo m row hs cs) {g : Nat} (hg : w.heap.size ≤ g) : InL w lo m (some g) hs cs := by
  intro i x c h1 h2
  obtain ⟨q1, q2, q3, q4⟩ := h i x c h1 h2
  exact ⟨q1, q2, q3, fun hn ad e e2 => by have := (q3 hn ad e).2; injection e2 with e2; omega⟩
/-- nothing but the row's block was written -/
theorem InL.grown {w w' : World} {lo m : Nat} {row : Option Nat} {hs : List Hd} {cs : List Cn} (h : InL w lo m row hs cs) (hg : w.grownBy w' row) : InL w' lo m row hs cs := by
  intro i x c h1 h2
  obtain ⟨q1, q2, q3, q4⟩ := h i x c h1 h2
  refine ⟨q1, q2.keep fun hn b off u e o hc => ?_, q3.wide (Nat.le_refl _) hg.size, q4⟩
  have hlt := World.block_lt_of_cell? _ _ hc
  have hne := q4 hn _ e
  rw [World.cell?_of_block (hg.block b hlt fun e2 => hne e2.symm)]; exact hc
/-- .. and the row may have moved to a new block -/
theorem InL.grownTo {w w' : World} {lo m gg H : Nat} {row : Option Nat} {hs : List Hd} {cs : List Cn} (h : InL w lo m row hs cs) (hg : w.grownBy w' row) (hat : row = some gg ∨ gg = H) (hH : w.heap.size = H) : InL w' lo m (some gg) hs cs := by
  intro i x c h1 h2
  obtain ⟨q1, q2, q3, q4⟩ := (h.grown hg) i x c h1 h2
  refine ⟨q1, q2, q3, fun hn ad e => ?_⟩
  rcases hat with e2 | e2
  · rw [← e2]; exact q4 hn ad e
  · have := ((h i x c h1 h2).2.2.1 hn ad e).2
    intro e3; injection e3 with e3; omega
/-- one constraint more -/
theorem InL.snoc {w : World} {lo m : Nat} {row : Option Nat} {hs : List Hd} {cs : List Cn} (h : InL w lo m row hs cs) (hl : hs.length = cs.length) {A : Option Addr} {n cap : Nat} {ts : List Tm} {bd : Int} (hn : n ≤ m)
    (hS : Seg w 2 A n (encT ts)) (hL : Lies lo w.heap.size A n) (hr : 0 < n → ∀ ad : Addr, A = some ad → row ≠ some ad.block) : InL w lo m row (hs ++ [(A, n, cap)]) (cs ++ [(ts, bd)]) := by
  intro i x c e1 e2
  rcases Nat.lt_or_ge i hs.length with hlt | hge
  · rw [List.getElem?_append_left hlt] at e1
    rw [List.getElem?_append_left (by omega)] at e2
    exact h i x c e1 e2
  · rw [List.getElem?_append_right hge] at e1
    rw [List.getElem?_append_right (by omega), ← hl] at e2
    rcases Nat.eq_zero_or_pos (i - hs.length) with h0 | h0
    · rw [h0] at e1 e2
      simp at e1 e2
      subst e1; subst e2
      exact ⟨hn, hS, hL, hr⟩
    · rw [List.getElem?_eq_none (by simp; omega)] at e1; cases e1
/-- the k-th constraint replaced -/
theorem InL.set {w : World} {lo m : Nat} {row : Option Nat} {hs : List Hd} {cs : List Cn} (h : InL w lo m row hs cs) (k : Nat) {A : Option Addr} {n cap : Nat} {ts : List Tm} {bd : Int} (hn : n ≤ m)
    (hS : Seg w 2 A n (encT ts)) (hL : Lies lo w.heap.size A n) (hr : 0 < n → ∀ ad : Addr, A = some ad → row ≠ some ad.block) : InL w lo m row (hs.set k (A, n, cap)) (cs.set k (ts, bd)) := by
  intro i x c e1 e2
  by_cases hi : k = i
  · subst hi
    rw [List.getElem?_set] at e1 e2
    simp only [if_true] at e1 e2
    split at e1
    · split at e2
      · injection e1 with e1; injection e2 with e2; subst e1; subst e2
        exact ⟨hn, hS, hL, hr⟩
      · cases e2
    · cases e1
  · rw [List.getElem?_set_ne hi] at e1 e2
    exact h i x c e1 e2

theorem InL.cellRow {w : World} {lo m b o : Nat} {hs : List Hd} {cs : List Cn} (h : InL w lo m (some b) hs cs) (u : Value) : InL (w.setCell ⟨b, o, none⟩ u) lo m (some b) hs cs := by
  intro i x c h1 h2
  obtain ⟨q1, q2, q3, q4⟩ := h i x c h1 h2
  refine ⟨q1, q2.keep fun hn b' off v e o' hc => ?_, q3.wide (Nat.le_refl _) (by simp), q4⟩
  have hne := q4 hn _ e
  rw [World.cell?_setCell_other _ _ _ _ (by intro e2; injection e2 with e2; subst e2; exact hne rfl)]
  exact hc
theorem InL.norow {w : World} {lo m : Nat} {row : Option Nat} {hs : List Hd} {cs : List Cn} (h : InL w lo m row hs cs) : InL w lo m none hs cs := fun i x c h1 h2 => by
  obtain ⟨q1, q2, q3, _⟩ := h i x c h1 h2
  exact ⟨q1, q2, q3, fun _ _ _ => by simp⟩
theorem encH_setL : ∀ (hs : List Hd) (cs : List Cn) (k : Nat) (h : Hd) (c : Cn), hs.length = cs.length → ((encH hs cs).set (k * 2) (.slice h.1 h.2.1 h.2.2)).set (k * 2 + 1) (.int .i64 c.2) = encH (hs.set k h) (cs.set k c)
  | [], [], _, _, _, _ => rfl
  | [], _ :: _, _, _, _, e => by simp at e
  | _ :: _, [], _, _, _, e => by simp at e
  | x :: hs, y :: cs, 0, h, c, _ => rfl
  | x :: hs, y :: cs, k + 1, h, c, e => by
    have := encH_setL hs cs k h c (by simpa using e)
    rw [show (k + 1) * 2 = k * 2 + 1 + 1 from by omega]
    simp only [encH, List.set_cons_succ, this]
theorem oneCHl : ∀ (hs : List Hd) (cs : List Cn), ∀ u ∈ encH hs cs, u.oneCell' = true
  | [], _, u, h => by simp [encH] at h
  | _ :: _, [], u, h => by simp [encH] at h
  | h :: hs, c :: cs, u, hu => by
    simp only [encH, List.mem_cons] at hu
    rcases hu with rfl | rfl | hu
    · rfl
    · rfl
    · exact oneCHl hs cs u hu
/-- a list of constraints, all its blocks from lo on -/
def LiC (w : World) (lo m : Nat) (A : Option Addr) (n : Nat) (cs : List Cn) : Prop :=
  ∃ hs : List Hd, hs.length = cs.length ∧ Seg w 2 A n (encH hs cs) ∧ Lies lo w.heap.size A n ∧ InL w lo m none hs cs
section
variable {w w' : World} {lo m n : Nat} {A : Option Addr} {cs : List Cn}
theorem LiC.kept {lo' hi' : Nat} (h : LiC w lo m A n cs) (K : Kept lo' hi' w w') (hd : hi' ≤ lo) : LiC w' lo m A n cs := by
  obtain ⟨hs, h1, h2, h3, h4⟩ := h
  exact ⟨hs, h1, h2.kept h3 K (.inr hd), h3.wide (Nat.le_refl _) K.size, h4.kept K hd⟩
theorem LiC.ext (h : LiC w lo m A n cs) (E : Ext w w') : LiC w' lo m A n cs := h.kept E (Nat.zero_le _)
theorem LiC.wide {lo' m' : Nat} (h : LiC w lo m A n cs) (h1 : lo' ≤ lo) (h2 : m ≤ m') : LiC w lo' m' A n cs := by
  obtain ⟨hs, q1, q2, q3, q4⟩ := h
  exact ⟨hs, q1, q2, q3.wide h1 (Nat.le_refl _), q4.wide h1 h2⟩
theorem LiC.segC (h : LiC w lo m A n cs) (hm : m ≤ 1048576) : SegC w A n cs := by
  obtain ⟨hs, h1, h2, h3, h4⟩ := h
  exact ⟨hs, h1, h2, fun i x c e1 e2 => ⟨Nat.le_trans (h4 i x c e1 e2).1 (Nat.le_trans hm (by unfold maxLen; omega)), (h4 i x c e1 e2).2.1⟩⟩
theorem LiC.len (h : LiC w lo m A n cs) : cs.length = n := by
  obtain ⟨hs, h1, h2, _⟩ := h
  have := h2.1
  rw [encH_len hs cs h1] at this; omega
theorem LiC.small (h : LiC w lo m A n cs) : ∀ c ∈ cs, c.1.length ≤ m := by
  obtain ⟨hs, h1, h2, h3, h4⟩ := h
  intro c hc
  obtain ⟨i, hi⟩ := List.getElem?_of_mem hc
  have hlt : i < hs.length := by rw [h1]; exact (List.getElem?_eq_some_iff.1 hi).1
  obtain ⟨q1, q2, _⟩ := h4 i _ c (List.getElem?_eq_getElem hlt) hi
  rw [q2.lenT]; exact q1
end
/-- SOME constraints: at most N of at most m terms, in memory from lo on -/
def RdL (N m lo g L : Nat) (w : World) (e : Ending) (w' : World) : Prop :=
  ∃ A n c cs, e = .returned (.slice A n c) ∧ n ≤ N ∧ LiC w' lo m A n cs ∧ Kept g (g + 1) w w' ∧ Rd w' g L
theorem Try.infoCnL : (Try.prog.info? 25).map (fun i => (i.zero, i.size, i.bytes)) = some (some (.agg #[.slice none 0 0, .int .i64 0]), 2, 32) := by kernel_rfl

set_option maxRecDepth 100000 in
set_option maxHeartbeats 2000000 in
theorem l3Problem_any (g L : Nat) (w : World) (h : Rd w g L) (hL : L ≤ 800000000) :
    Calls Try.prog 62 #[.pointer (some ⟨g, 0, none⟩)] w (RdL 8 12 (g + 1) g (L + 500) w) := by
  obtain ⟨i0, hi, hz0, hz1, hz2⟩ := info_parts Try.infoCnL
  have HI := Lib.hid hi
  have HZ0 := Lib.hid hz0
  have HZ1 := Lib.hid hz1
  have HZ2 := Lib.hid hz2
  have hgw := h.lt
  have HR := Lib.hid h
  clear hi hz0 hz1 hz2 h
  go_enter Try.func62, Try.ntmps62
  go_wp2_with fail
  refine (num_lit [4, 5, 3, 6] g _ 4 _ _ _ _ (by simp) rfl rfl (by omega) (by omega) (HR.out.alloc _) (by omega)).mono ?_
  rintro e w1 ⟨m, rfl, hm, hK1, hR1⟩
  have hmb : 0 ≤ m ∧ m ≤ 6 := by simp at hm; omega
  obtain ⟨m, rfl⟩ := Int.eq_ofNat_of_zero_le hmb.1
  have HK1 := Lib.hid (((Kept.refl g (g + 1) w).alloc (.cells #[] 25)).trans hK1)
  have HR1 := Lib.hid hR1
  have hown1 := Lib.hid (own_kept (own_empty w w.heap.size 25 2 (Nat.le_refl _)) hK1 (by omega))
  have hz1 := hK1.size
  clear hm hK1 hR1 HR
  go_wp2_with fail
  refine (num_lit [4, 6, 3, 8, 2, 1, 0] g _ 7 _ _ _ _ (by simp) rfl rfl (by omega) (by omega) HR1.out (by omega)).mono ?_
  rintro e w2 ⟨q, rfl, hq, hK2, hR2⟩
  have hqb : 0 ≤ q ∧ q ≤ 8 := by simp at hq; omega
  obtain ⟨q, rfl⟩ := Int.eq_ofNat_of_zero_le hqb.1
  have HK2 := Lib.hid (HK1.out.trans hK2)
  have HR2 := Lib.hid hR2
  have hown2 := Lib.hid (own_kept hown1.out hK2 (by omega))
  have hz2 := hK2.size
  clear hq hK2 hR2 HR1 HK1 hown1
  go_wp2_with fail
  go_loopw [3, 5] (fun s0 i wr => ∃ (s : Value) (j k : Nat) (hs : List Hd) (cs : List Cn), s = s0 ∧ k + j ≤ 8 ∧ i = .int .i64 j ∧ hs.length = cs.length ∧ Kept g (g + 1) w wr ∧ Hid (Rd wr g (L + 2 + 60 * k)) ∧ Hid (wr.ownsRow w.heap.size 25 2 s k (encH hs cs)) ∧ Hid (InL wr w.heap.size 12 s.ownBlock hs cs)) (fun _ i _ => (intOf i).toNat)
  case atStart => exact ⟨_, q, 0, [], [], rfl, by omega, rfl, rfl, HK2.out, HR2.out.mono (by omega), hown2.out, InL.nil _ _ _ _⟩
  case round =>
    clear HK2 HR2 hown2
    obtain ⟨s, j, k, hs, cs, hs0, hk, rfl, hl, hE, hR, hown, hin⟩ := hrel
    subst hs0
    have HL := Lib.hid hl
    have hzw := hE.size
    clear hl
    by_cases hlt : 0 < j
    · go_wp2_with fail
      refine (l1Draw_any g _ m _ hR.out (by omega) (by omega)).mono ?_
      rintro e w3 ⟨A, n, c, ts, bd, rfl, hlt3, hn, hG, hK3, hR3⟩
      have hz3 := hK3.size
      have HK3 := Lib.hid (hE.trans hK3)
      have HR3 := Lib.hid hR3
      have hown3 := Lib.hid (own_kept hown.out hK3 (by omega))
      have hin3 := Lib.hid (hin.out.kept hK3 (by omega))
      have HG := Lib.hid hG
      have hob : Hid (∀ b, s.ownBlock = some b → b < wr.heap.size) := fun b hb => (hown.out.lt b hb).2
      clear hE hR hown hin hK3 hR3 hG
      go_wp2_with (first
        | (at_builtin
           refine wpList_append_lies _ rfl _ _ 42 rfl w.heap.size 25 i0 _ 2 32 Try.underlying42 HI.out HZ0.out HZ1.out HZ2.out rfl (by omega) s k _ rfl (hown3.out.alloc _) ⟨w3.heap.size, 0, none⟩ 1 1 [.slice A n c, .int .i64 bd] rfl rfl (cell_two_new w3 (.slice A n c) (.int .i64 bd) 25) ?_ (by omega) ?_ ?_ ?_ (w3.heap.size + 1) (by simp) ?_
           (intro u hu; simp at hu; rcases hu with rfl | rfl <;> rfl)
           (unfold maxLen; omega)
           omega
           (simp; omega)
           (intro gg cp w5 hown5 hg5 hat5 hlt5)))
      go_roundw
      case rel =>
        have KG : Kept w.heap.size (w3.alloc (.cells #[.slice A n c, .int .i64 bd] 25)).heap.size (w3.alloc (.cells #[.slice A n c, .int .i64 bd] 25)) w5 := kept_of_grown hg5 fun k hk => ((hown3.out.alloc (.cells #[.slice A n c, .int .i64 bd] 25)).lt k hk).1
        have I2 : InL w5 w.heap.size 12 (Value.slice (some ⟨gg, 0, none⟩) (k + 1) cp).ownBlock (hs ++ [(A, n, c)]) (cs ++ [(ts, bd)]) := ((hin3.out.ext ((Ext.refl _).alloc (.cells #[.slice A n c, .int .i64 bd] 25))).snoc (cap := c) HL.out (bd := bd) hn (HG.out.seg.alloc _) ((HG.out.lies.wide (lo' := w.heap.size) (by omega) (by simp))) (fun h0 ad e e2 => by
          have := HG.out.lies h0 ad e
          have := hob.out _ e2
          omega)).grownTo hg5 hat5 (by simp)
        refine ⟨_, j - 1, k + 1, hs ++ [(A, n, c)], cs ++ [(ts, bd)], rfl, by omega, by go_num, by simp [HL.out], (HK3.out.alloc _).fresh KG (Nat.le_refl _), ((HR3.out.alloc (.cells #[.slice A n c, .int .i64 bd] 25)).kept KG hgw).mono (by omega), ?_, I2⟩
        rw [encH_append hs cs _ _ HL.out]
        simpa [encH, Hid] using hown5
      case measure => simp [intOf]; omega
    · obtain rfl : j = 0 := by omega
      obtain ⟨A1, c1, rfl⟩ := own_slice hown.out
      have hP := own_parts hown.out
      have HF : Hid (LiC wr (g + 1) 12 A1 k cs) := by
        refine ⟨hs, HL.out, hP.1, hP.2.2.wide (by omega) (Nat.le_refl _), fun i x c e1 e2 => ?_⟩
        obtain ⟨q1, q2, q3, _⟩ := hin.out i x c e1 e2
        exact ⟨q1, q2, q3.wide (by omega) (Nat.le_refl _), fun _ _ _ => by simp⟩
      clear hP
      go_wp2
      go_ret
      exact ⟨_, k, c1, cs, rfl, by omega, HF.out, hE, hR.out.mono (by omega)⟩
set_option maxRecDepth 100000 in
set_option maxHeartbeats 2000000 in
theorem l3Mutate_any (g L m : Nat) (A : Option Addr) (n c : Nat) (cs : List Cn) (w : World) (h : Rd w g L) (hL : L ≤ 700000000) (hn : n ≤ 1000) (hm : m ≤ 100) (hs0 : LiC w (g + 1) m A n cs) :
    Calls Try.prog 61 #[.pointer (some ⟨g, 0, none⟩), .slice A n c] w (RdL n (m + 3) (g + 1) g (L + 20) w) := by
  obtain ⟨i0, hi, hz0, hz1, hz2⟩ := info_parts Try.infoCnL
  have HI := Lib.hid hi
  have HZ0 := Lib.hid hz0
  have HZ1 := Lib.hid hz1
  have HZ2 := Lib.hid hz2
  have hgw := h.lt
  have HR := Lib.hid h
  obtain ⟨hs, hl, hS, hLi, hIn⟩ := hs0
  have HLh := Lib.hid hl
  have HIN := Lib.hid hIn
  have OE := own_empty w w.heap.size 25 2 (Nat.le_refl _)
  have SV := Lib.hid (hS.alloc (.cells #[] 25))
  clear hi hz0 hz1 hz2 h hl hS hLi hIn
  rcases Nat.eq_zero_or_pos n with h0 | hpos
  · have hb : decide ((0 : Int) < (n : Int)) = false := decide_eq_false (by omega)
    go_enter Try.func61, Try.ntmps61
    go_wp2_with (first
      | (at_builtin
         refine wpList_append_seg _ rfl _ _ 42 rfl w.heap.size 25 i0 _ 2 32 Try.underlying42 HI.out HZ0.out HZ1.out HZ2.out rfl (by omega) (.slice (some ⟨w.heap.size, 0, none⟩) 0 0) 0 [] rfl OE A n c (encH hs cs) rfl SV.out (oneCHl _ _) ?_ ?_ ?_ ?_
         (unfold maxLen; omega)
         omega
         (first | exact Nat.le_refl _ | simp)
         (intro A9 c9 w9 hown9 hg9)
         (have P9 := own_parts (show w9.ownsRow w.heap.size 25 2 (.slice A9 n c9) n (encH hs cs) from (by simpa using hown9)))
         (have HS9 := Lib.hid P9.1)
         (have HF9 := Lib.hid P9.2.1)
         (have HL9 := Lib.hid P9.2.2)
         (have HE9 : Hid (Ext w w9) := ((Ext.refl w).alloc _).grown hg9 (fun k hk => Nat.le_of_eq (Option.some.inj hk)))
         (clear P9 hown9 hg9 OE SV)))
    have hz9 := HE9.out.size
    have HR9 := Lib.hid (HR.out.ext HE9.out)
    clear HR
    -- the answer where nothing is changed
    have same : Hid (∀ W, Kept g (g + 1) w9 W → LiC W (g + 1) (m + 3) A9 n cs) := fun W K => by
      have := K.size
      exact ⟨hs, HLh.out, HS9.out.kept HL9.out K (.inr (by omega)), HL9.out.wide (by omega) K.size, ((HIN.out.ext HE9.out).kept K (Nat.le_refl _)).wide (Nat.le_refl _) (by omega)⟩
    go_ret
    exact ⟨_, n, c9, cs, by simp [h0], Nat.le_refl _, same.out _ (Kept.refl _ _ _), HE9.out.kept _ _, HR9.out.mono (by omega)⟩
  · have hb : decide ((0 : Int) < (n : Int)) = true := decide_eq_true (by omega)
    go_enter Try.func61, Try.ntmps61
    go_wp2_with (first
      | (at_builtin
         refine wpList_append_seg _ rfl _ _ 42 rfl w.heap.size 25 i0 _ 2 32 Try.underlying42 HI.out HZ0.out HZ1.out HZ2.out rfl (by omega) (.slice (some ⟨w.heap.size, 0, none⟩) 0 0) 0 [] rfl OE A n c (encH hs cs) rfl SV.out (oneCHl _ _) ?_ ?_ ?_ ?_
         (unfold maxLen; omega)
         omega
         (first | exact Nat.le_refl _ | simp)
         (intro A9 c9 w9 hown9 hg9)
         (have P9 := own_parts (show w9.ownsRow w.heap.size 25 2 (.slice A9 n c9) n (encH hs cs) from (by simpa using hown9)))
         (have HS9 := Lib.hid P9.1)
         (have HF9 := Lib.hid P9.2.1)
         (have HL9 := Lib.hid P9.2.2)
         (have HE9 : Hid (Ext w w9) := ((Ext.refl w).alloc _).grown hg9 (fun k hk => Nat.le_of_eq (Option.some.inj hk)))
         (clear P9 hown9 hg9 OE SV)))
    have hz9 := HE9.out.size
    have HR9 := Lib.hid (HR.out.ext HE9.out)
    clear HR
    -- the answer where nothing is changed
    have same : Hid (∀ W, Kept g (g + 1) w9 W → LiC W (g + 1) (m + 3) A9 n cs) := fun W K => by
      have := K.size
      exact ⟨hs, HLh.out, HS9.out.kept HL9.out K (.inr (by omega)), HL9.out.wide (by omega) K.size, ((HIN.out.ext HE9.out).kept K (Nat.le_refl _)).wide (Nat.le_refl _) (by omega)⟩
    refine (pick_any g _ 20 _ HR9.out (by omega) (by omega)).mono ?_
    rintro e w1 ⟨i, rfl, hi, hK1, hR1⟩
    have hz1 := hK1.size
    have HK1 := Lib.hid hK1
    have HR1 := Lib.hid hR1
    clear hi hK1 hR1 HR9
    by_cases hi0 : i = 0
    · subst hi0
      go_wp2_with fail
      refine (pick_any g _ (n : Int) _ HR1.out (by omega) (by omega)).mono ?_
      rintro e w2 ⟨i, rfl, hi, hK2, hR2⟩
      obtain ⟨i, rfl⟩ := Int.eq_ofNat_of_zero_le hi.1
      have hin : i < n := by have := hi; unfold PickB at this; omega
      have hz2 := hK2.size
      have HK2 := Lib.hid (HK1.out.trans hK2)
      have HR2 := Lib.hid hR2
      clear hi hK2 hR2 HR1 HK1 same
      have hS2 := HS9.out.kept HL9.out HK2.out (.inr (by omega))
      obtain ⟨b, off, rfl⟩ := hS2.addr hpos
      have hbl := HL9.out hpos _ rfl
      simp only at hbl
      have IB := Lib.hid (((HIN.out.new (g := b) hbl.1).ext HE9.out).kept HK2.out (Nat.le_refl _))
      have hlh := HLh.out
      have hcl : cs.length = n := by have := hS2.1; rw [encH_len hs cs hlh] at this; omega
      have e1 : hs[i]? = some (hs[i]'(by omega)) := List.getElem?_eq_getElem _
      have e2 : cs[i]? = some (cs[i]'(by omega)) := List.getElem?_eq_getElem _
      generalize hs[i]'(by omega) = h1 at e1
      generalize cs[i]'(by omega) = k1 at e2
      obtain ⟨A1, n1, c1⟩ := h1
      obtain ⟨ts1, bd1⟩ := k1
      obtain ⟨b', off', e', hcc⟩ := hS2.2 hpos
      injection e' with e'; injection e' with e3 e4
      subst e3; subst e4
      have gg := encH_get hs cs i _ _ e1 e2
      have t1 : w2.cell? ⟨b, off + i * 2, none⟩ = some (.slice A1 n1 c1) := hcc _ _ gg.1
      have t2 : w2.cell? ⟨b, off + i * 2 + 1, none⟩ = some (.int .i64 bd1) := hcc _ _ gg.2
      obtain ⟨q1, q2, q3, q4⟩ := IB.out i _ _ e1 e2
      simp only at q1 q2 t1 t2
      have HS1 := Lib.hid q2
      have hCL := Lib.hid hcl
      clear hS2 e1 e2 hcc gg q2 q3 q4 hlh
      go_wp2_with fail
      refine (l1Mutate_any g _ A1 n1 c1 ts1 bd1 _ HR2.out (by omega) HS1.out (by omega)).mono ?_
      rintro e w3 ⟨A3, n3, c3, ts3, bd3, rfl, hl3, hn3, hG3, hK3, hR3⟩
      have hz3 := hK3.size
      go_wp2_with fail
      refine (l1Mutate_any g _ A3 n3 c3 ts3 bd3 _ hR3 (by omega) hG3.seg (by omega)).mono ?_
      rintro e w4 ⟨A4, n4, c4, ts4, bd4, rfl, hl4, hn4, hG4, hK4, hR4⟩
      have hz4 := hK4.size
      go_wp2_with fail
      refine (l1Mutate_any g _ A4 n4 c4 ts4 bd4 _ hR4 (by omega) hG4.seg (by omega)).mono ?_
      rintro e w5 ⟨A5, n5, c5, ts5, bd5, rfl, hl5, hn5, hG5, hK5, hR5⟩
      have hz5 := hK5.size
      have K5 := Lib.hid ((hK3.trans hK4).trans hK5)
      have HK5 := Lib.hid (HK2.out.trans K5.out)
      have S5 := Lib.hid (HS9.out.kept HL9.out HK5.out (.inr (by omega)))
      have F5 := Lib.hid (HF9.out.kept HS9.out HL9.out HK5.out (.inr (by omega)))
      have I5 := Lib.hid (IB.out.kept K5.out (Nat.le_refl _))
      have G5 := Lib.hid hG5
      have R5 := Lib.hid hR5
      have d1 := K5.out.cell (p := ⟨b, off + i * 2, none⟩) (by simp only; omega) (.inr (by simp only; omega))
      have d2 := K5.out.cell (p := ⟨b, off + i * 2 + 1, none⟩) (by simp only; omega) (.inr (by simp only; omega))
      rw [t1] at d1
      rw [t2] at d2
      have f1 := F5.out b off rfl (i * 2) (by omega)
      have f2 := F5.out b off rfl (i * 2 + 1) (by omega)
      rw [← Nat.add_assoc] at f2
      clear hl3 hG3 hK3 hR3 hl4 hG4 hK4 hR4 hG5 hK5 hR5 t1 t2 HS1 HS9 HF9
      go_wp2
      go_ret
      have s1 := S5.out.setAt (i := i * 2) (by rw [S5.out.1]; omega) (.slice A5 n5 c5)
      have s2 := s1.setAt (i := i * 2 + 1) (by rw [s1.1]; omega) (.int .i64 bd5)
      rw [encH_setL hs cs i (A5, n5, c5) (ts5, bd5) HLh.out, ← Nat.add_assoc] at s2
      have hgl := G5.out.lies
      refine ⟨_, n, c9, cs.set i (ts5, bd5), rfl, Nat.le_refl _, ⟨hs.set i (A5, n5, c5), by simp [HLh.out], s2, fun _ ad e => ?_, ?_⟩, ?_, ?_⟩
      · injection e with e; subst e; simp only [World.size_setCell]; omega
      · have I6 := (I5.out.wide (Nat.le_refl _) (Nat.le_add_right m 3)).set i (cap := c5) (bd := bd5) (by omega) G5.out.seg (hgl.wide (by omega) (Nat.le_refl _)) (fun h0 ad e e2 => by
          have := hgl h0 ad e
          injection e2 with e2; omega)
        exact ((I6.cellRow _).cellRow _).norow
      · exact ((HE9.out.kept g (g + 1)).trans HK5.out |>.setNew (p := ⟨b, off + i * 2, none⟩) hbl.1 _).setNew (p := ⟨b, off + i * 2 + 1, none⟩) hbl.1 _
      · exact ((R5.out.mono (by omega)).far (p := ⟨b, off + i * 2, none⟩) (by simp only; omega) _).far (p := ⟨b, off + i * 2 + 1, none⟩) (by simp only; omega) _
    · have hb0 : (i == 0) = false := by simpa using hi0
      clear hi0
      go_wp2
      go_ret
      exact ⟨_, n, c9, cs, by simp, Nat.le_refl _, same.out _ HK1.out, (HE9.out.kept _ _).trans HK1.out, HR1.out.mono (by omega)⟩

/-- SOME constraints and SOME values -/
def RetLB (w : World) (e : Ending) (w' : World) : Prop :=
  ∃ A n c cs B m d vs, e = .returned (.tuple #[.slice A n c, .slice B m d]) ∧ cs.length = n ∧ n ≤ 20 ∧ vs.length = m ∧ m ≤ 12 ∧ SegC w' A n cs ∧ Got w w' 1 B m (encB vs) ∧ Ext w w'
set_option maxRecDepth 100000 in
set_option maxHeartbeats 2000000 in
theorem drawSA_any (A : Option Addr) (n c : Nat) (bs : List Int) (w : World) (hn : n ≤ maxLen) (hc : n ≤ c) (hs : Seg w 1 A n (encY bs)) (hb : bytesB bs) :
    Calls Try.prog 25 #[.slice A n c] w (RetLB w) := by
  go_enter Try.func25, Try.ntmps25
  go_wp2_with fail
  refine (open_any A n c bs _ hn hc hs hb).mono ?_
  rintro e w1 ⟨rfl, hE1, hR1⟩
  have hg := hR1.lt
  go_wp2_with fail
  refine (l3Problem_any _ _ w1 hR1 (by omega)).mono ?_
  rintro e w2 ⟨A2, n2, c2, cs2, rfl, hn2, hL2, hK2, hR2⟩
  go_wp2_with fail
  refine (l3Mutate_any _ _ _ A2 n2 c2 cs2 w2 hR2 (by omega) (by omega) (by omega) hL2).mono ?_
  rintro e w3 ⟨A3, n3, c3, cs3, rfl, hn3, hL3, hK3, hR3⟩
  have z1 := hE1.size
  have z2 := hK2.size
  have z3 := hK3.size
  go_wp2_with fail
  refine (l1Values_any _ _ w3 hR3 (by omega)).mono ?_
  rintro e w4 ⟨A4, n4, c4, vs, rfl, hl4, hn4, hG4, hK4, hR4⟩
  go_wp2
  go_ret2
  exact ⟨A3, n3, c3, cs3, A4, n4, c4, vs, rfl, hL3.len, by omega, hl4, hn4, (hL3.kept hK4 (Nat.le_refl _)).segC (by omega), ⟨hG4.seg, hG4.free, hG4.lies.wide (by omega) (Nat.le_refl _)⟩, hE1.fresh (hK2.trans (hK3.trans hK4)) (Nat.le_refl _)⟩

/-- SOME constraints and SOME integers -/
def RetLI (w : World) (e : Ending) (w' : World) : Prop :=
  ∃ A n c cs B m d zs, e = .returned (.tuple #[.slice A n c, .slice B m d]) ∧ cs.length = n ∧ n ≤ 20 ∧ zs.length = m ∧ m ≤ 12 ∧ SegC w' A n cs ∧ Got w w' 1 B m (encI zs) ∧ Ext w w'
set_option maxRecDepth 100000 in
set_option maxHeartbeats 2000000 in
theorem drawPr_any (A : Option Addr) (n c : Nat) (bs : List Int) (w : World) (hn : n ≤ maxLen) (hc : n ≤ c) (hs : Seg w 1 A n (encY bs)) (hb : bytesB bs) :
    Calls Try.prog 41 #[.slice A n c] w (RetLI w) := by
  go_enter Try.func41, Try.ntmps41
  go_wp2_with fail
  refine (open_any A n c bs _ hn hc hs hb).mono ?_
  rintro e w1 ⟨rfl, hE1, hR1⟩
  have hg := hR1.lt
  go_wp2_with fail
  refine (l3Problem_any _ _ w1 hR1 (by omega)).mono ?_
  rintro e w2 ⟨A2, n2, c2, cs2, rfl, hn2, hL2, hK2, hR2⟩
  go_wp2_with fail
  refine (l3Mutate_any _ _ _ A2 n2 c2 cs2 w2 hR2 (by omega) (by omega) (by omega) hL2).mono ?_
  rintro e w3 ⟨A3, n3, c3, cs3, rfl, hn3, hL3, hK3, hR3⟩
  have z1 := hE1.size
  have z2 := hK2.size
  have z3 := hK3.size
  go_wp2_with fail
  refine (l3Partial_any _ _ w3 hR3 (by omega)).mono ?_
  rintro e w4 ⟨A4, n4, c4, zs, rfl, hl4, hn4, hG4, hK4, hR4⟩
  have z4 := hK4.size
  have HL4 := Lib.hid hG4.lies
  have HS4 := Lib.hid hG4.seg
  have HF4 := Lib.hid hG4.free
  have HR4 := Lib.hid hR4
  have HK4 := Lib.hid hK4
  have HZ := Lib.hid hl4
  have HFIN : Hid (∀ W, Kept w.heap.size (w.heap.size + 1) w3 W → SegC W A3 n3 cs3 ∧ Ext w W) := fun W K => ⟨(hL3.kept K (Nat.le_refl _)).segC (by omega), hE1.fresh (hK2.trans (hK3.trans K)) (Nat.le_refl _)⟩
  have HLC := Lib.hid hL3.len
  clear hs hb hE1 hR1 hR2 hR3 hR4 hK2 hK3 hK4 hG4 hl4 hL2 hL3
  go_wp2_with fail
  go_loopw [7] (fun i wr => ∃ (k : Nat), k ≤ 12 ∧ i = .int .i64 k ∧ Hid (Kept w.heap.size (w.heap.size + 1) w3 wr) ∧ Hid (w4.heap.size ≤ wr.heap.size) ∧ Hid (Rd wr w.heap.size (600 + k)) ∧ ∃ us : List Int, Hid (us.length = n4) ∧ Hid (Seg wr 1 A4 n4 (encI us)) ∧ Hid (Free wr 1 A4 n4)) (fun i _ => 12 - (intOf i).toNat)
  case atStart => exact ⟨0, by omega, rfl, HK4.out, Nat.le_refl _, HR4.out.mono (by omega), zs, HZ.out, HS4.out, HF4.out⟩
  case round =>
    clear HR4 HK4 HS4 HF4
    obtain ⟨k, hk, rfl, hK, hz, hR, us, hul, hS, hF⟩ := hrel
    have hzz := hz.out
    by_cases h1 : k < n4
    · have d1 : decide ((k : Int) < (n4 : Int)) = true := decide_eq_true (by omega)
      go_wp2_with fail
      refine (pick_any _ _ 3 _ hR.out (by omega) (by omega)).mono ?_
      rintro e w5 ⟨i, rfl, hi, hK5, hR5⟩
      have z5 := hK5.size
      have HK5 := Lib.hid (hK.out.trans hK5)
      have HR5 := Lib.hid hR5
      have HS5 := Lib.hid (hS.out.kept HL4.out hK5 (.inr (by omega)))
      have HF5 := Lib.hid (hF.out.kept hS.out HL4.out hK5 (.inr (by omega)))
      clear hK hR hS hF hK5 hR5 hi
      by_cases hi1 : 0 < i
      · have d3 : decide ((0 : Int) < i) = true := decide_eq_true hi1
        obtain ⟨b, off, x, rfl, hx, t1⟩ := HS5.out.int h1
        have tf := HF5.out b off rfl k (by omega)
        have l4 := HL4.out (by omega) _ rfl
        simp only at l4
        have s6 := HS5.out.setAt (i := k) (by have := hul.out; simp [encI]; omega) (.int .i64 0)
        have es : (encI us).set k (.int .i64 0) = encI (us.set k 0) := by simp [encI, List.map_set]
        rw [es] at s6
        have S6 := Lib.hid s6
        have F6 := Lib.hid (HF5.out.setCell ⟨b, off + k, none⟩ (.int .i64 0))
        have K6 := Lib.hid (HK5.out.setNew (p := ⟨b, off + k, none⟩) (by simp only; omega) (.int .i64 0))
        have R6 := Lib.hid (HR5.out.far (p := ⟨b, off + k, none⟩) (by simp only; omega) (.int .i64 0))
        clear es s6 HK5 HR5 hx
        go_wp2
        go_roundw
        case rel => exact ⟨k + 1, by omega, by go_num, K6.out, (by unfold Hid; simp; omega), R6.out.mono (by omega), us.set k 0, (by unfold Hid; rw [List.length_set]; exact hul.out), S6.out, F6.out⟩
        case measure => simp [intOf]; omega
      · have d3 : decide ((0 : Int) < i) = false := decide_eq_false hi1
        clear hi1
        go_wp2
        go_ret2
        exact ⟨A3, n3, c3, cs3, A4, n4, c4, us, rfl, HLC.out, by omega, hul.out, hn4, (HFIN.out _ HK5.out).1, ⟨HS5.out, HF5.out, HL4.out.wide (by omega) (by omega)⟩, (HFIN.out _ HK5.out).2⟩
    · have d1 : decide ((k : Int) < (n4 : Int)) = false := decide_eq_false (by omega)
      go_wp2
      go_ret2
      exact ⟨A3, n3, c3, cs3, A4, n4, c4, us, rfl, HLC.out, by omega, hul.out, hn4, (HFIN.out _ hK.out).1, ⟨hS.out, hF.out, HL4.out.wide (by omega) (by omega)⟩, (HFIN.out _ hK.out).2⟩
end Go.Proofs.Ytihbgajlnbchlaa
