/- Lists of steps in memory: SegP; the law's own sizes, copies and comparisons of them. -/
import Derived.Test.YtbpkpcfhmglddaaProb
namespace Go.Proofs.Ytbpkpcfhmglddaa
open Go.RowKit

/-- a step: kind, A, B, the given constraint -/
abbrev St := Int × Int × Int × Cn
def encP : List Hd → List St → List Value
  | h :: hs, s :: ss => .int .i64 s.1 :: .int .i64 s.2.1 :: .int .i64 s.2.2.1 :: .slice h.1 h.2.1 h.2.2 :: .int .i64 s.2.2.2.2 :: encP hs ss
  | _, _ => []
theorem encP_len : ∀ (hs : List Hd) (ss : List St), hs.length = ss.length → (encP hs ss).length = ss.length * 5
  | [], [], _ => rfl
  | [], _ :: _, h => by simp at h
  | _ :: _, [], h => by simp at h
  | h :: hs, c :: cs, e => by
    have := encP_len hs cs (by simpa using e)
    simp only [encP, List.length_cons, this]; omega
theorem encP_get : ∀ (hs : List Hd) (ss : List St) (k : Nat) (h : Hd) (s : St), hs[k]? = some h → ss[k]? = some s →
    (encP hs ss)[k * 5]? = some (.int .i64 s.1) ∧ (encP hs ss)[k * 5 + 1]? = some (.int .i64 s.2.1) ∧ (encP hs ss)[k * 5 + 2]? = some (.int .i64 s.2.2.1) ∧ (encP hs ss)[k * 5 + 3]? = some (.slice h.1 h.2.1 h.2.2) ∧ (encP hs ss)[k * 5 + 4]? = some (.int .i64 s.2.2.2.2)
  | [], _, k, h, c, e, _ => by simp at e
  | _ :: _, [], k, h, c, _, e => by simp at e
  | x :: hs, y :: cs, 0, h, c, e1, e2 => by
    simp at e1 e2; subst e1; subst e2; exact ⟨rfl, rfl, rfl, rfl, rfl⟩
  | x :: hs, y :: cs, k + 1, h, c, e1, e2 => by
    have := encP_get hs cs k h c (by simpa using e1) (by simpa using e2)
    rw [show (k + 1) * 5 = k * 5 + 1 + 1 + 1 + 1 + 1 from by omega]
    exact this
theorem encP_snoc : ∀ (hs : List Hd) (ss : List St) (h : Hd) (s : St), hs.length = ss.length → encP (hs ++ [h]) (ss ++ [s]) = encP hs ss ++ [.int .i64 s.1] ++ [.int .i64 s.2.1] ++ [.int .i64 s.2.2.1] ++ [.slice h.1 h.2.1 h.2.2] ++ [.int .i64 s.2.2.2.2]
  | [], [], _, _, _ => rfl
  | [], _ :: _, _, _, h => by simp at h
  | _ :: _, [], _, _, h => by simp at h
  | x :: hs, y :: ss, h, s, e => by simp [encP, encP_snoc hs ss h s (by simpa using e)]

/-- the slice value reads as the steps ss -/
def SegP (w : World) (A : Option Addr) (n : Nat) (ss : List St) : Prop :=
  ∃ hs : List Hd, hs.length = ss.length ∧ Seg w 5 A n (encP hs ss) ∧ ∀ (i : Nat) (h : Hd) (s : St), hs[i]? = some h → ss[i]? = some s → h.2.1 ≤ maxLen ∧ Seg w 2 h.1 h.2.1 (encT s.2.2.2.1)
section
variable {w w' : World} {n : Nat} {A : Option Addr} {ss : List St}
theorem SegP.len (h : SegP w A n ss) : ss.length = n := by
  obtain ⟨hs, hl, hS, _⟩ := h
  have := hS.1
  rw [encP_len hs ss hl] at this
  omega
theorem SegP.ext (h : SegP w A n ss) (hE : Ext w w') : SegP w' A n ss := by
  obtain ⟨hs, hl, hS, hi⟩ := h
  exact ⟨hs, hl, hS.ext hE, fun i x c h1 h2 => ⟨(hi i x c h1 h2).1, (hi i x c h1 h2).2.ext hE⟩⟩
theorem SegP.at_ {k : Nat} (h : SegP w A n ss) (hk : k < n) :
    ∃ b off x y z A' n' cap' ts bd, A = some ⟨b, off, none⟩ ∧ ss[k]? = some (x, y, z, ts, bd) ∧ w.cell? ⟨b, off + k * 5, none⟩ = some (.int .i64 x) ∧ w.cell? ⟨b, off + k * 5 + 1, none⟩ = some (.int .i64 y) ∧ w.cell? ⟨b, off + k * 5 + 2, none⟩ = some (.int .i64 z)
      ∧ w.cell? ⟨b, off + k * 5 + 3, none⟩ = some (.slice A' n' cap') ∧ w.cell? ⟨b, off + k * 5 + 4, none⟩ = some (.int .i64 bd) ∧ n' ≤ maxLen ∧ Seg w 2 A' n' (encT ts) := by
  have hlen := h.len
  obtain ⟨hs, hl, hS, hi⟩ := h
  obtain ⟨b, off, e, hc⟩ := hS.2 (by omega)
  have h1 : hs[k]? = some (hs[k]'(by omega)) := List.getElem?_eq_getElem _
  have h2 : ss[k]? = some (ss[k]'(by omega)) := List.getElem?_eq_getElem _
  have g := encP_get hs ss k _ _ h1 h2
  have q := hi k _ _ h1 h2
  exact ⟨b, off, _, _, _, _, _, _, _, _, e, h2, hc _ _ g.1, hc _ _ g.2.1, hc _ _ g.2.2.1, hc _ _ g.2.2.2.1, hc _ _ g.2.2.2.2, q.1, q.2⟩
end
def cnS (ss : List St) : List Cn := ss.map fun s => s.2.2.2
instance stDec : DecidableEq St := fun a b => decidable_of_iff (a.1 = b.1 ∧ a.2.1 = b.2.1 ∧ a.2.2.1 = b.2.2.1 ∧ a.2.2.2.1 = b.2.2.2.1 ∧ a.2.2.2.2 = b.2.2.2.2) (by
  obtain ⟨a1, a2, a3, a4, a5⟩ := a
  obtain ⟨b1, b2, b3, b4, b5⟩ := b
  simp)
def spEq (xs ys : List St) : Bool := decide (xs = ys)
theorem spEq_self (xs : List St) : spEq xs xs = true := by simp [spEq]




end Go.Proofs.Ytbpkpcfhmglddaa
