/- What a call hands back in memory of its own: Got; a row that is being filled element by element. -/
import Derived.Test.YtbpkpcfhmglddaaMemB
namespace Go.Proofs.Ytbpkpcfhmglddaa
open Go.RowKit

/-- the slice reads as xs, its cells may be written, and it lies in blocks that were not there in w -/
structure Got (w w' : World) (sz : Nat) (A : Option Addr) (n : Nat) (xs : List Value) : Prop where
  seg : Seg w' sz A n xs
  free : Free w' sz A n
  lies : Lies w.heap.size w'.heap.size A n

theorem Free.ext {w w' : World} {sz n : Nat} {A : Option Addr} {xs : List Value} (h : Free w sz A n) (hs : Seg w sz A n xs) (hb : Ext w w') : Free w' sz A n := by
  intro b off e j hj
  have hn : 0 < n := by rcases Nat.eq_zero_or_pos n with h0 | h0; (subst h0; simp at hj); exact h0
  obtain ⟨b', off', e', hc⟩ := hs.2 hn
  rw [e] at e'; injection e' with e'; injection e' with e1 e2; subst e1; subst e2
  have hl : j < xs.length := by rw [hs.1]; exact hj
  rw [hb.frozen (hc j _ (List.getElem?_eq_getElem hl))]
  exact h b off e j hj
theorem Free.kept {w w' : World} {sz n lo hi lo' hi' : Nat} {A : Option Addr} {xs : List Value} (h : Free w sz A n) (hs : Seg w sz A n xs) (hl : Lies lo' hi' A n) (hb : Kept lo hi w w') (hd : hi' ≤ lo ∨ hi ≤ lo') : Free w' sz A n := by
  intro b off e j hj
  have hn : 0 < n := by rcases Nat.eq_zero_or_pos n with h0 | h0; (subst h0; simp at hj); exact h0
  obtain ⟨b', off', e', hc⟩ := hs.2 hn
  rw [e] at e'; injection e' with e'; injection e' with e1 e2; subst e1; subst e2
  have hle : j < xs.length := by rw [hs.1]; exact hj
  have hll := hl hn _ e
  rw [hb.frozen (World.block_lt_of_cell? _ _ (hc j _ (List.getElem?_eq_getElem hle))) (by simp only at hll ⊢; omega)]
  exact h b off e j hj

theorem Got.nil (w : World) (sz : Nat) (A : Option Addr) : Got w w sz A 0 [] := ⟨Seg.nil _ _ _, fun _ _ _ j hj => by simp at hj, fun h => absurd h (by omega)⟩
theorem Got.nil' (w w' : World) (sz : Nat) (A : Option Addr) : Got w w' sz A 0 [] := ⟨Seg.nil _ _ _, fun _ _ _ j hj => by simp at hj, fun h => absurd h (by omega)⟩
theorem Lies.wide {lo hi lo' hi' n : Nat} {A : Option Addr} (h : Lies lo hi A n) (h1 : lo' ≤ lo) (h2 : hi ≤ hi') : Lies lo' hi' A n := fun hn ad e => by have := h hn ad e; omega
/-- the call began earlier, and went on -/
theorem Got.step {a b c d : World} {sz n : Nat} {A : Option Addr} {xs : List Value} (h : Got b c sz A n xs) (h1 : Ext a b) (h2 : Ext c d) : Got a d sz A n xs :=
  ⟨h.seg.ext h2, h.free.ext h.seg h2, h.lies.wide h1.size h2.size⟩
theorem Got.later {b c d : World} {sz n : Nat} {A : Option Addr} {xs : List Value} (h : Got b c sz A n xs) (h2 : Ext c d) : Got b d sz A n xs := h.step (Ext.refl _) h2

/-- behind it only blocks that were there before the call were written -/
theorem Got.kept {b c d : World} {sz n lo hi : Nat} {A : Option Addr} {xs : List Value} (h : Got b c sz A n xs) (k : Kept lo hi c d) (hd : hi ≤ b.heap.size) : Got b d sz A n xs :=
  ⟨h.seg.kept h.lies k (.inr hd), h.free.kept h.seg h.lies k (.inr hd), h.lies.wide (Nat.le_refl _) k.size⟩
theorem Got.from_ {a b c : World} {sz n : Nat} {A : Option Addr} {xs : List Value} (h : Got b c sz A n xs) (k : Ext a b) : Got a c sz A n xs := h.step k (Ext.refl _)

/-- a new block g, of n elements of sz cells, whose first cells are xs -/
structure Row (w : World) (g : Nat) (t : TypeId) (len : Nat) (xs : List Value) (cur : Array Value) : Prop where
  blk : Blk w g t cur
  size : cur.size = len
  pre : cur.toList.take xs.length = xs

section
variable {w w' : World} {g : Nat} {t : TypeId} {len : Nat} {xs : List Value} {cur : Array Value}
theorem Row.new (w : World) (t : TypeId) (cur : Array Value) : Row (w.alloc (.cells cur t)) w.heap.size t cur.size [] cur := ⟨Blk.new _ _ _, rfl, by simp⟩
theorem Row.ext (h : Row w g t len xs cur) (hb : Ext w w') : Row w' g t len xs cur := ⟨h.blk.ext hb, h.size, h.pre⟩
theorem Row.le (h : Row w g t len xs cur) : xs.length ≤ len := by
  have := congrArg List.length h.pre
  simp [h.size] at this
  omega
theorem Row.cell (h : Row w g t len xs cur) {i : Nat} (hi : i < len) : ∃ u, w.cell? ⟨g, i, none⟩ = some u := by
  rw [h.blk.cell]
  exact ⟨cur[i]'(by rw [h.size]; exact hi), Array.getElem?_eq_getElem _⟩
theorem Row.frozen (h : Row w g t len xs cur) (i : Nat) : w.frozen? ⟨g, i, none⟩ = false := h.blk.frozen i
/-- one cell more -/
theorem Row.push (h : Row w g t len xs cur) {i : Nat} (hi : i = xs.length) (hlt : i < len) (u : Value) : Row (w.setCell ⟨g, i, none⟩ u) g t len (xs ++ [u]) (cur.setIfInBounds i u) := by
  subst hi
  refine ⟨h.blk.set_ _ _, by simpa using h.size, ?_⟩
  have hs : xs.length < cur.toList.length := by simpa [h.size] using hlt
  rw [Array.toList_setIfInBounds, List.length_append, List.length_singleton]
  have e1 : (cur.toList.set xs.length u).take xs.length = xs := by rw [List.take_set_of_le (Nat.le_refl _)]; exact h.pre
  rw [List.take_succ_eq_append_getElem (by simpa using hs), e1]
  simp
theorem Row.seg (h : Row w g t len xs cur) {sz n : Nat} (hl : xs.length = n * sz) : Seg w sz (some ⟨g, 0, none⟩) n xs :=
  ⟨hl, fun _ => ⟨g, 0, rfl, fun j u hu => by
    rw [Nat.zero_add, h.blk.cell, ← Array.getElem?_toList]
    have := List.getElem?_take (l := cur.toList) (i := xs.length) (j := j)
    rw [h.pre] at this
    have hj : j < xs.length := (List.getElem?_eq_some_iff.1 hu).1
    rw [if_pos hj] at this
    rw [← this]; exact hu⟩⟩
theorem Row.free (h : Row w g t len xs cur) (sz n : Nat) : Free w sz (some ⟨g, 0, none⟩) n := by
  intro b off e j _
  injection e with e
  injection e with e1 e2
  subst e1
  exact h.frozen _
theorem Row.got {w0 : World} (h : Row w g t len xs cur) {sz n : Nat} (hl : xs.length = n * sz) (hg : w0.heap.size ≤ g) : Got w0 w sz (some ⟨g, 0, none⟩) n xs :=
  ⟨h.seg hl, h.free _ _, fun _ ad e => by injection e with e; subst e; exact ⟨hg, h.blk.lt⟩⟩
end

theorem toNat_cast (n : Nat) : ((n : Int)).toNat = n := rfl
/-- what is read in w lies below w's size -/
theorem Seg.old {w : World} {sz n : Nat} {A : Option Addr} {xs : List Value} (h : Seg w (sz + 1) A n xs) : Lies 0 w.heap.size A n := by
  intro hn ad e
  refine ⟨Nat.zero_le _, ?_⟩
  obtain ⟨b, off, e', hc⟩ := h.2 hn
  rw [e] at e'; injection e' with e'; subst e'
  have hl : 0 < xs.length := by rw [h.1]; exact Nat.mul_pos hn (Nat.succ_pos _)
  exact World.block_lt_of_cell? _ _ (hc 0 _ (List.getElem?_eq_getElem hl))
end Go.Proofs.Ytbpkpcfhmglddaa
