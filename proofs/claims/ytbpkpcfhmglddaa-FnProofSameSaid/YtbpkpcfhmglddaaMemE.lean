/- Slices that the call itself appends to: own rows; results of the form (constraint, bool). -/
import Derived.Test.YtbpkpcfhmglddaaMark
namespace Go.Proofs.Ytbpkpcfhmglddaa
open Go.RowKit

section
variable {a w w' : World} {base : Nat} {e : TypeId} {sz : Nat} {v : Value} {n : Nat} {xs : List Value}
theorem own_ext (hE : Ext a w) (hown : w.ownsRow base e sz v n xs) (hb : a.heap.size ≤ base) (hg : w.grownBy w' v.ownBlock) : Ext a w' :=
  hE.grown hg fun k hk => Nat.le_trans hb (hown.lt k hk).1
theorem own_blk {g : Nat} {t : TypeId} {cs : Array Value} (B : Blk w g t cs) (hown : w.ownsRow base e sz v n xs) (hgb : g < base) (hg : w.grownBy w' v.ownBlock) : Blk w' g t cs :=
  (hg.block g B.lt (fun h => by have := hown.lt g h.symm; omega)).trans B
theorem own_ext_keep (hown : w.ownsRow base e sz v n xs) (hE : Ext w w') : w'.ownsRow base e sz v n xs := by
  refine ⟨hown.1, ?_⟩
  rcases hown.2 with hn | ⟨g, cap, cur, hv, hb, hgg, rest⟩
  · exact .inl hn
  · exact .inr ⟨g, cap, cur, hv, hb, (hE.block g (Array.getElem?_eq_some_iff.1 hgg).1 (.inr (Nat.zero_le _))).trans hgg, rest⟩
theorem own_far (hown : w.ownsRow base e sz v n xs) {p : Addr} (hp : p.block < base) (u : Value) : (w.setCell p u).ownsRow base e sz v n xs := ownsRow_setCell_below hown hp u
theorem own_slice (hown : w.ownsRow base e sz v n xs) : ∃ A c, v = .slice A n c := by
  rcases hown.2 with ⟨rfl, rfl⟩ | ⟨g, cap, cur, rfl, _⟩
  · exact ⟨none, 0, rfl⟩
  · exact ⟨_, cap, rfl⟩
theorem own_parts {A : Option Addr} {c : Nat} (hown : w'.ownsRow base e sz (.slice A n c) n xs) : Seg w' sz A n xs ∧ Free w' sz A n ∧ Lies base w'.heap.size A n := by
  rcases hown.2 with ⟨hv, hn⟩ | ⟨g, cap, cur, hv, hg, hh, hnc, _, hcs, htake⟩
  · subst hn
    have hx : xs = [] := List.eq_nil_of_length_eq_zero (by simpa using hown.1)
    subst hx
    exact ⟨Seg.nil _ _ _, fun _ _ _ j hj => by simp at hj, fun h => absurd h (by omega)⟩
  · injection hv with hA _ _
    subst hA
    have B : Blk w' g e cur := hh
    have hcell : ∀ j u, xs[j]? = some u → w'.cell? ⟨g, 0 + j, none⟩ = some u := by
      intro j u hu
      rw [Nat.zero_add, B.cell, ← Array.getElem?_toList]
      have hj : j < xs.length := (List.getElem?_eq_some_iff.1 hu).1
      have := List.getElem?_take (l := cur.toList) (i := n * sz) (j := j)
      rw [htake, if_pos (by rw [← hown.1]; exact hj)] at this
      rw [← this]; exact hu
    refine ⟨⟨hown.1, fun _ => ⟨g, 0, rfl, hcell⟩⟩, fun b off e' j _ => ?_, fun _ ad e' => ?_⟩
    · injection e' with e'; injection e' with e1 e2; subst e1
      exact B.frozen _
    · injection e' with e'; subst e'
      exact ⟨hg, B.lt⟩
theorem own_got {A : Option Addr} {c : Nat} (hown : w'.ownsRow base e sz (.slice A n c) n xs) (hb : w.heap.size ≤ base) : Got w w' sz A n xs :=
  have ⟨h1, h2, h3⟩ := own_parts hown
  ⟨h1, h2, h3.wide hb (Nat.le_refl _)⟩
/-- .. and behind it only blocks ahead of base were written -/
theorem own_got2 {w2 : World} {lo hi : Nat} {A : Option Addr} {c : Nat} (hown : w'.ownsRow base e sz (.slice A n c) n xs) (hk : Kept lo hi w' w2) (hd : hi ≤ base) (hb : w.heap.size ≤ base) : Got w w2 sz A n xs :=
  have ⟨h1, h2, h3⟩ := own_parts hown
  ⟨h1.kept h3 hk (.inr hd), h2.kept h1 h3 hk (.inr hd), h3.wide hb hk.size⟩
theorem own_len (hown : w.ownsRow base e sz v n xs) : xs.length = n * sz := hown.1
end

/-- 'c.Terms = append(c.Terms, x)', c a struct of the call's own in block gc, its slice in blocks from base on -/
theorem push_pre {wr w1 : World} {gc base : Nat} {e t : TypeId} {sz n : Nat} {v : Value} {cs : Array Value} {xs : List Value} {o : Obj}
    (B : Blk wr gc t cs) (hown : wr.ownsRow base e sz v n xs) (hgb : gc < base) (hg : (wr.alloc o).grownBy w1 v.ownBlock) : Blk w1 gc t cs :=
  own_blk (B.alloc o) (hown.alloc o) hgb hg
theorem push_box {a wr w1 : World} {gc base : Nat} {e t : TypeId} {sz n m : Nat} {v v1 bx : Value} {xs ys : List Value} {o : Obj}
    (hE : Ext a wr) (B : Blk wr gc t #[v, bx]) (hown : wr.ownsRow base e sz v n xs) (ha : a.heap.size ≤ base) (hag : a.heap.size ≤ gc) (hgb : gc < base) (hg : (wr.alloc o).grownBy w1 v.ownBlock) (hown1 : w1.ownsRow base e sz v1 m ys) :
    Ext a (w1.setCell ⟨gc, 0, none⟩ v1) ∧ Blk (w1.setCell ⟨gc, 0, none⟩ v1) gc t #[v1, bx] ∧ (w1.setCell ⟨gc, 0, none⟩ v1).ownsRow base e sz v1 m ys :=
  ⟨(own_ext (hE.alloc o) (hown.alloc o) ha hg).setNew hag _, (push_pre B hown hgb hg).set_ 0 v1, own_far hown1 hgb v1⟩
theorem push_blk {wr w1 : World} {g gc base : Nat} {e t : TypeId} {sz n : Nat} {v v1 : Value} {cs : Array Value} {xs : List Value} {o : Obj}
    (B : Blk wr g t cs) (hown : wr.ownsRow base e sz v n xs) (hgb : g < base) (hne : g ≠ gc) (hg : (wr.alloc o).grownBy w1 v.ownBlock) : Blk (w1.setCell ⟨gc, 0, none⟩ v1) g t cs :=
  (own_blk (B.alloc o) (hown.alloc o) hgb hg).far (p := ⟨gc, 0, none⟩) hne v1

/-- a block that holds just the slice's cells -/
theorem Blk.got {w w' : World} {g : Nat} {t : TypeId} {cs : Array Value} {sz n : Nat} (B : Blk w' g t cs) (hl : cs.size = n * sz) (hg : w.heap.size ≤ g) : Got w w' sz (some ⟨g, 0, none⟩) n cs.toList :=
  (show Row w' g t cs.size cs.toList cs from ⟨B, rfl, List.take_length⟩).got (by simpa using hl) hg

/-- what a function with results (constraint, bool) hands back -/
def RetCB (ts : List Tm) (bd : Int) (ok : Bool) (w : World) (e : Ending) (w' : World) : Prop :=
  ∃ A n cap, e = .returned (.tuple #[.agg #[.slice A n cap, .int .i64 bd], .bool ok]) ∧ ts.length = n ∧ Got w w' 2 A n (encT ts) ∧ Ext w w'

/-- the zero constraint and false -/
theorem RetCB.zero {w w' : World} (hE : Ext w w') : RetCB [] 0 false w (.returned (.tuple #[.agg #[.slice none 0 0, .int .i64 0], .bool false])) w' :=
  ⟨none, 0, 0, rfl, rfl, Got.nil' _ _ _ _, hE⟩

theorem RetCB.of_eq {ts us : List Tm} {bd bd' : Int} {ok ok' : Bool} {w w' : World} {e : Ending} (h : RetCB ts bd ok w e w') (h1 : ts = us) (h2 : bd = bd') (h3 : ok = ok') : RetCB us bd' ok' w e w' := by
  subst h1; subst h2; subst h3; exact h
end Go.Proofs.Ytbpkpcfhmglddaa
