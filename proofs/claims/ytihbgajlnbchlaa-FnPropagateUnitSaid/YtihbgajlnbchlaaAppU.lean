/- append of one constraint to a list of the call's own. -/
import Derived.Test.YtihbgajlnbchlaaAppC
namespace Go.Proofs.Ytihbgajlnbchlaa
open Go.RowKit

theorem segC_one {w : World} {A : Option Addr} {n : Nat} {hs : List Hd} {cs : List Cn} {B : Option Addr} {m cap : Nat} {us : List Tm} {z : Int} (hl : hs.length = cs.length) (hS : Seg w 2 A n (encH hs cs ++ [.slice B m cap, .int .i64 z]))
    (h1 : ∀ (i : Nat) (h : Hd) (c : Cn), hs[i]? = some h → cs[i]? = some c → h.2.1 ≤ maxLen ∧ Seg w 2 h.1 h.2.1 (encT c.1)) (hm : m ≤ maxLen) (hb : Seg w 2 B m (encT us)) : SegC w A n (cs ++ [(us, z)]) :=
  segC_app (hs' := [(B, m, cap)]) (cs' := [(us, z)]) hl rfl hS h1 fun i h c e1 e2 => by
    cases i with
    | zero =>
      simp at e1 e2
      subst e1; subst e2
      exact ⟨hm, hb⟩
    | succ i => simp at e1
theorem blk_segT {w : World} {g : Nat} {t : TypeId} {c l : Int} (B : Blk w g t #[.int .i64 c, .int .i64 l]) : Seg w 2 (some ⟨g, 0, none⟩) 1 (encT [(c, l)]) :=
  ⟨rfl, fun _ => ⟨g, 0, rfl, fun j u hu => by
    rw [Nat.zero_add, B.cell]
    simpa [encT] using hu⟩⟩
theorem blk_grownU {w w' : World} {g : Nat} {t : TypeId} {cs : Array Value} {row : Option Nat} (B : Blk w g t cs) (hg : w.grownBy w' row) (h : some g ≠ row) : Blk w' g t cs :=
  (hg.block g B.lt h).trans B
theorem blk_seg1U {w : World} {g : Nat} {t : TypeId} {a b : Value} (B : Blk w g t #[a, b]) : Seg w 2 (some ⟨g, 0, none⟩) 1 [a, b] :=
  ⟨rfl, fun _ => ⟨g, 0, rfl, fun j u hu => by
    rw [Nat.zero_add, B.cell]
    simpa using hu⟩⟩
theorem oneC1U (A : Option Addr) (n c : Nat) (z : Int) : ∀ u ∈ [Value.slice A n c, Value.int .i64 z], u.oneCell' = true := by
  intro u hu; simp at hu; rcases hu with rfl | rfl <;> rfl
end Go.Proofs.Ytihbgajlnbchlaa
