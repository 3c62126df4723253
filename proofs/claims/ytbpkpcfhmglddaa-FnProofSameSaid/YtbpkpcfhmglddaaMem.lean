/- Words for memory: Kept (what a call may have written), Ext (nothing old was written), Seg (a slice value that reads as a list of cells), Blk (a block known whole). No program is named here. -/
import Derived.Test.YtbpkpcfhmglddaaRows
import Derived.WalkKit
import Derived.WalkSpells
import Derived.WalkLawsBesides
import Derived.BigQuiet
import Derived.Lib.Hide
import Derived.KernelRfl
namespace Go.Proofs.Ytbpkpcfhmglddaa
open Go.RowKit

theorem ret_i {a b : Int} (h : a = b) : Ending.returned (.int .i64 a) = .returned (.int .i64 b) := by rw [h]
theorem ret_b {a b : Bool} (h : a = b) : Ending.returned (.bool a) = .returned (.bool b) := by rw [h]

/-- a callee that leaves the world alone, inside a region that draws its order -/
theorem quiet_left {P : Program} {f : FuncId} {args : Array Value} {w : World} {n : Nat} {v : Value}
    (h : Calls P f args (w.drewN n) fun e w' => e = .returned v ∧ w.drewN n = w') : Calls P f args (w.drewN n) fun e w'' => e = .returned v ∧ ∃ m, w'' = w.drewN m :=
  h.mono fun _ _ ⟨he, hm⟩ => ⟨he, n, hm.symm⟩

/-- of the blocks that were there, those outside [lo, hi) are as they were -/
structure Kept (lo hi : Nat) (w w' : World) : Prop where
  os : w'.os = w.os
  tape : w'.tape = w.tape
  output : w'.output = w.output
  size : w.heap.size ≤ w'.heap.size
  block : ∀ k, k < w.heap.size → (k < lo ∨ hi ≤ k) → w'.heap[k]? = w.heap[k]?

/-- nothing that was there has turned -/
def Ext (w w' : World) : Prop := Kept 0 0 w w'

theorem Kept.refl (lo hi : Nat) (w : World) : Kept lo hi w w := ⟨rfl, rfl, rfl, Nat.le_refl _, fun _ _ _ => rfl⟩
theorem Kept.trans {lo hi : Nat} {a b c : World} (h : Kept lo hi a b) (k : Kept lo hi b c) : Kept lo hi a c :=
  ⟨k.os.trans h.os, k.tape.trans h.tape, k.output.trans h.output, Nat.le_trans h.size k.size,
    fun i hi' ho => (k.block i (Nat.lt_of_lt_of_le hi' h.size) ho).trans (h.block i hi' ho)⟩
theorem Kept.wide {lo hi lo' hi' : Nat} {a b : World} (h : Kept lo hi a b) (h1 : lo' ≤ lo) (h2 : hi ≤ hi') : Kept lo' hi' a b :=
  ⟨h.os, h.tape, h.output, h.size, fun i hi ho => h.block i hi (by omega)⟩
theorem Kept.alloc {lo hi : Nat} {a w : World} (h : Kept lo hi a w) (o : Obj) : Kept lo hi a (w.alloc o) :=
  ⟨h.os, h.tape, h.output, by have := h.size; simp; omega, fun i hi ho => (Below.heap_alloc _ _ _ (Nat.lt_of_lt_of_le hi h.size)).trans (h.block i hi ho)⟩
theorem Kept.drew {lo hi : Nat} {a w : World} (h : Kept lo hi a w) : Kept lo hi a w.drew := ⟨h.os, h.tape, h.output, h.size, h.block⟩
theorem Kept.drewN {lo hi : Nat} {a w : World} (h : Kept lo hi a w) (n : Nat) : Kept lo hi a (w.drewN n) := ⟨h.os, h.tape, h.output, h.size, h.block⟩
theorem Kept.setNew {lo hi : Nat} {a w : World} (h : Kept lo hi a w) {p : Addr} (hp : a.heap.size ≤ p.block) (u : Value) : Kept lo hi a (w.setCell p u) :=
  ⟨h.os, h.tape, h.output, by have := h.size; simp; omega, fun i hi ho => (Below.heap_setCell _ _ _ _ (by omega)).trans (h.block i hi ho)⟩
theorem Kept.setIn {lo hi : Nat} {a w : World} (h : Kept lo hi a w) {p : Addr} (hp : lo ≤ p.block ∧ p.block < hi) (u : Value) : Kept lo hi a (w.setCell p u) :=
  ⟨h.os, h.tape, h.output, by have := h.size; simp; omega, fun i hi ho => (Below.heap_setCell _ _ _ _ (by omega)).trans (h.block i hi ho)⟩
/-- a step that may write in [lo, hi), all of it new -/
theorem Kept.fresh {lo hi lo' hi' : Nat} {a b c : World} (h : Kept lo hi a b) (k : Kept lo' hi' b c) (hn : a.heap.size ≤ lo') : Kept lo hi a c :=
  ⟨k.os.trans h.os, k.tape.trans h.tape, k.output.trans h.output, Nat.le_trans h.size k.size,
    fun i hi' ho => (k.block i (Nat.lt_of_lt_of_le hi' h.size) (by omega)).trans (h.block i hi' ho)⟩
theorem Kept.grown {lo hi : Nat} {a w w' : World} {row : Option Nat} (h : Kept lo hi a w) (hg : w.grownBy w' row) (hr : ∀ k, row = some k → a.heap.size ≤ k) : Kept lo hi a w' :=
  ⟨hg.os.trans h.os, hg.tape.trans h.tape, hg.output.trans h.output, Nat.le_trans h.size hg.size,
    fun i hi ho => (hg.block i (Nat.lt_of_lt_of_le hi h.size) (fun e => by have := hr i e.symm; omega)).trans (h.block i hi ho)⟩
theorem Kept.cell {lo hi : Nat} {w w' : World} (h : Kept lo hi w w') {p : Addr} (hp : p.block < w.heap.size) (ho : p.block < lo ∨ hi ≤ p.block) : w'.cell? p = w.cell? p :=
  World.cell?_of_block (h.block _ hp ho)
theorem Kept.frozen {lo hi : Nat} {w w' : World} (h : Kept lo hi w w') {p : Addr} (hp : p.block < w.heap.size) (ho : p.block < lo ∨ hi ≤ p.block) : w'.frozen? p = w.frozen? p :=
  World.frozen?_of_block (h.block _ hp ho)

theorem Ext.refl (w : World) : Ext w w := Kept.refl _ _ _
theorem Ext.trans {a b c : World} (h : Ext a b) (k : Ext b c) : Ext a c := Kept.trans h k
theorem Ext.alloc {a w : World} (h : Ext a w) (o : Obj) : Ext a (w.alloc o) := Kept.alloc h o
theorem Ext.drew {a w : World} (h : Ext a w) : Ext a w.drew := Kept.drew h
theorem Ext.drewN {a w : World} (h : Ext a w) (n : Nat) : Ext a (w.drewN n) := Kept.drewN h n
theorem Ext.setNew {a w : World} (h : Ext a w) {p : Addr} (hp : a.heap.size ≤ p.block) (u : Value) : Ext a (w.setCell p u) := Kept.setNew h hp u
theorem Ext.kept {a b : World} (h : Ext a b) (lo hi : Nat) : Kept lo hi a b := ⟨h.os, h.tape, h.output, h.size, fun i hi _ => h.block i hi (.inr (Nat.zero_le _))⟩
theorem Ext.size {a b : World} (h : Ext a b) : a.heap.size ≤ b.heap.size := Kept.size h
theorem Ext.below {a b : World} (h : Ext a b) : Below a.heap.size a b := ⟨h.os, h.tape, h.output, h.size, fun k hk => h.block k hk (.inr (Nat.zero_le _))⟩
theorem Ext.of_below {a b : World} (h : Below a.heap.size a b) : Ext a b := ⟨h.os, h.tape, h.output, h.size, fun k hk _ => h.block k hk⟩
/-- a step that writes nothing but what is new to a -/
theorem Ext.fresh {lo' hi' : Nat} {a b c : World} (h : Ext a b) (k : Kept lo' hi' b c) (hn : a.heap.size ≤ lo') : Ext a c := Kept.fresh h k hn
theorem Ext.grown {a w w' : World} {row : Option Nat} (h : Ext a w) (hg : w.grownBy w' row) (hr : ∀ k, row = some k → a.heap.size ≤ k) : Ext a w' := Kept.grown h hg hr
theorem Ext.cell {w w' : World} (h : Ext w w') {p : Addr} {u : Value} (hc : w.cell? p = some u) : w'.cell? p = some u :=
  (Kept.cell h (World.block_lt_of_cell? w p hc) (.inr (Nat.zero_le _))).trans hc
theorem Ext.frozen {w w' : World} (h : Ext w w') {p : Addr} {u : Value} (hc : w.cell? p = some u) : w'.frozen? p = w.frozen? p :=
  Kept.frozen h (World.block_lt_of_cell? w p hc) (.inr (Nat.zero_le _))

/-- block g is just the cells cs, none frozen -/
def Blk (w : World) (g : Nat) (t : TypeId) (cs : Array Value) : Prop := w.heap[g]? = some (.cells cs t (0, 0))
section
variable {w w' : World} {g : Nat} {t : TypeId} {cs : Array Value}
theorem Blk.lt (h : Blk w g t cs) : g < w.heap.size := by
  rcases Nat.lt_or_ge g w.heap.size with hlt | hge
  · exact hlt
  · unfold Blk at h; rw [Array.getElem?_eq_none hge] at h; cases h
theorem Blk.cell (h : Blk w g t cs) (i : Nat) : w.cell? ⟨g, i, none⟩ = cs[i]? := cell_of_row w g i cs t (0, 0) h
theorem Blk.frozen (h : Blk w g t cs) (i : Nat) : w.frozen? ⟨g, i, none⟩ = false := by
  unfold Blk at h
  simp [World.frozen?, h]
theorem Blk.new (w : World) (t : TypeId) (cs : Array Value) : Blk (w.alloc (.cells cs t)) w.heap.size t cs := heap_alloc_new w _
theorem Blk.drew (h : Blk w g t cs) : Blk w.drew g t cs := h
theorem Blk.drewN (h : Blk w g t cs) (n : Nat) : Blk (w.drewN n) g t cs := h
theorem Blk.alloc (h : Blk w g t cs) (o : Obj) : Blk (w.alloc o) g t cs := (Below.heap_alloc w o g h.lt).trans h
theorem Blk.set_ (h : Blk w g t cs) (i : Nat) (u : Value) : Blk (w.setCell ⟨g, i, none⟩ u) g t (cs.setIfInBounds i u) := by
  unfold Blk at h ⊢
  simp [World.setCell, Array.getElem?_modify, h]
theorem Blk.far (h : Blk w g t cs) {p : Addr} (hp : g ≠ p.block) (u : Value) : Blk (w.setCell p u) g t cs := (Below.heap_setCell w p u g hp).trans h
theorem Blk.ext (h : Blk w g t cs) (hb : Ext w w') : Blk w' g t cs := (hb.block g h.lt (.inr (Nat.zero_le _))).trans h
theorem Blk.kept {lo hi : Nat} (h : Blk w g t cs) (hb : Kept lo hi w w') (ho : g < lo ∨ hi ≤ g) : Blk w' g t cs := (hb.block g h.lt ho).trans h
end

/-- the blocks that a call has just laid, behind whatever came later -/
theorem Blk.of1 {w w' : World} {a : Array Value} {ta : TypeId} (h : Ext (w.alloc (.cells a ta)) w') : Blk w' w.heap.size ta a := (Blk.new w ta a).ext h
theorem Blk.of2 {w w' : World} {a b : Array Value} {ta tb : TypeId} (h : Ext ((w.alloc (.cells a ta)).alloc (.cells b tb)) w') : Blk w' w.heap.size ta a ∧ Blk w' (w.heap.size + 1) tb b :=
  ⟨((Blk.new w ta a).alloc _).ext h, by have := (Blk.new (w.alloc (.cells a ta)) tb b).ext h; simpa using this⟩
theorem Blk.of3 {w w' : World} {a b c : Array Value} {ta tb tc : TypeId} (h : Ext (((w.alloc (.cells a ta)).alloc (.cells b tb)).alloc (.cells c tc)) w') :
    Blk w' w.heap.size ta a ∧ Blk w' (w.heap.size + 1) tb b ∧ Blk w' (w.heap.size + 1 + 1) tc c :=
  ⟨(((Blk.new w ta a).alloc _).alloc _).ext h, by have := ((Blk.new (w.alloc (.cells a ta)) tb b).alloc (.cells c tc)).ext h; simpa using this,
    by have := (Blk.new ((w.alloc (.cells a ta)).alloc (.cells b tb)) tc c).ext h; simpa using this⟩

/-- the slice value '.slice A n c' reads as the cells xs, sz cells an element -/
def Seg (w : World) (sz : Nat) (A : Option Addr) (n : Nat) (xs : List Value) : Prop :=
  xs.length = n * sz ∧ (0 < n → ∃ b off, A = some ⟨b, off, none⟩ ∧ ∀ j u, xs[j]? = some u → w.cell? ⟨b, off + j, none⟩ = some u)
/-- its block lies in [lo, hi) -/
def Lies (lo hi : Nat) (A : Option Addr) (n : Nat) : Prop := 0 < n → ∀ ad : Addr, A = some ad → lo ≤ ad.block ∧ ad.block < hi
/-- its cells may be written -/
def Free (w : World) (sz : Nat) (A : Option Addr) (n : Nat) : Prop := ∀ b off, A = some ⟨b, off, none⟩ → ∀ j, j < n * sz → w.frozen? ⟨b, off + j, none⟩ = false

section
variable {w w' : World} {sz n : Nat} {A : Option Addr} {xs : List Value}
theorem Seg.nil (w : World) (sz : Nat) (A : Option Addr) : Seg w sz A 0 [] := ⟨by simp, fun h => absurd h (by omega)⟩
theorem Seg.zero (h : Seg w sz A 0 xs) : xs = [] := List.eq_nil_of_length_eq_zero (by simpa using h.1)
theorem Seg.keep (h : Seg w sz A n xs) (hk : 0 < n → ∀ (b off : Nat) (u : Value), A = some ⟨b, off, none⟩ → ∀ o, w.cell? ⟨b, o, none⟩ = some u → w'.cell? ⟨b, o, none⟩ = some u) : Seg w' sz A n xs :=
  ⟨h.1, fun hn => by
    obtain ⟨b, off, e, hc⟩ := h.2 hn
    exact ⟨b, off, e, fun j u hu => hk hn b off u e _ (hc j u hu)⟩⟩
theorem Seg.ext (h : Seg w sz A n xs) (hb : Ext w w') : Seg w' sz A n xs := h.keep fun _ _ _ _ _ _ hc => hb.cell hc
theorem Seg.kept {lo hi lo' hi' : Nat} (h : Seg w sz A n xs) (hl : Lies lo' hi' A n) (hb : Kept lo hi w w') (hd : hi' ≤ lo ∨ hi ≤ lo') : Seg w' sz A n xs :=
  h.keep fun hn b off u e o hc => by
    have := hl hn _ e
    exact (hb.cell (World.block_lt_of_cell? _ _ hc) (by simp only at this ⊢; omega)).trans hc
theorem Seg.alloc (h : Seg w sz A n xs) (o : Obj) : Seg (w.alloc o) sz A n xs := h.ext ((Ext.refl _).alloc _)
theorem Seg.drewN (h : Seg w sz A n xs) (k : Nat) : Seg (w.drewN k) sz A n xs := h
theorem Seg.at1 {k : Nat} (h : Seg w 1 A n xs) (hk : k < n) : ∃ b off u, A = some ⟨b, off, none⟩ ∧ xs[k]? = some u ∧ w.cell? ⟨b, off + k, none⟩ = some u := by
  obtain ⟨b, off, e, hc⟩ := h.2 (by omega)
  have hl : k < xs.length := by have := h.1; omega
  exact ⟨b, off, xs[k], e, List.getElem?_eq_getElem hl, hc k _ (List.getElem?_eq_getElem hl)⟩
end
end Go.Proofs.Ytbpkpcfhmglddaa
