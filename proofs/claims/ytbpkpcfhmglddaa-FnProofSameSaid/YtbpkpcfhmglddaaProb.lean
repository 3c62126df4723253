/- Lists of constraints in memory: SegC; the law's own sizes, copies and comparisons of them. -/
import Derived.Test.YtbpkpcfhmglddaaMemE
import Derived.Test.YtbpkpcfhmglddaaSzT
import Derived.Test.YtbpkpcfhmglddaaToT
import Derived.Test.YtbpkpcfhmglddaaEqT
namespace Go.Proofs.Ytbpkpcfhmglddaa
open Go.RowKit

/-- a constraint: its terms and its bound -/
abbrev Cn := List Tm × Int
/-- a slice's header -/
abbrev Hd := Option Addr × Nat × Nat
def encH : List Hd → List Cn → List Value
  | h :: hs, c :: cs => .slice h.1 h.2.1 h.2.2 :: .int .i64 c.2 :: encH hs cs
  | _, _ => []
theorem encH_len : ∀ (hs : List Hd) (cs : List Cn), hs.length = cs.length → (encH hs cs).length = cs.length * 2
  | [], [], _ => rfl
  | [], _ :: _, h => by simp at h
  | _ :: _, [], h => by simp at h
  | h :: hs, c :: cs, e => by
    have := encH_len hs cs (by simpa using e)
    simp only [encH, List.length_cons, this]; omega
theorem encH_get : ∀ (hs : List Hd) (cs : List Cn) (k : Nat) (h : Hd) (c : Cn), hs[k]? = some h → cs[k]? = some c →
    (encH hs cs)[k * 2]? = some (.slice h.1 h.2.1 h.2.2) ∧ (encH hs cs)[k * 2 + 1]? = some (.int .i64 c.2)
  | [], _, k, h, c, e, _ => by simp at e
  | _ :: _, [], k, h, c, _, e => by simp at e
  | x :: hs, y :: cs, 0, h, c, e1, e2 => by
    simp at e1 e2; subst e1; subst e2; exact ⟨rfl, rfl⟩
  | x :: hs, y :: cs, k + 1, h, c, e1, e2 => by
    have := encH_get hs cs k h c (by simpa using e1) (by simpa using e2)
    rw [show (k + 1) * 2 = k * 2 + 1 + 1 from by omega]
    exact this
theorem encH_append : ∀ (hs : List Hd) (cs : List Cn) (hs' : List Hd) (cs' : List Cn), hs.length = cs.length → encH (hs ++ hs') (cs ++ cs') = encH hs cs ++ encH hs' cs'
  | [], [], _, _, _ => rfl
  | [], _ :: _, _, _, h => by simp at h
  | _ :: _, [], _, _, h => by simp at h
  | h :: hs, c :: cs, hs', cs', e => by simp [encH, encH_append hs cs hs' cs' (by simpa using e)]

/-- the slice value reads as the constraints cs -/
def SegC (w : World) (A : Option Addr) (n : Nat) (cs : List Cn) : Prop :=
  ∃ hs : List Hd, hs.length = cs.length ∧ Seg w 2 A n (encH hs cs) ∧ ∀ (i : Nat) (h : Hd) (c : Cn), hs[i]? = some h → cs[i]? = some c → h.2.1 ≤ maxLen ∧ Seg w 2 h.1 h.2.1 (encT c.1)

section
variable {w w' : World} {n : Nat} {A : Option Addr} {cs : List Cn}
theorem SegC.len (h : SegC w A n cs) : cs.length = n := by
  obtain ⟨hs, hl, hS, _⟩ := h
  have := hS.1
  rw [encH_len hs cs hl] at this
  omega
theorem SegC.ext (h : SegC w A n cs) (hE : Ext w w') : SegC w' A n cs := by
  obtain ⟨hs, hl, hS, hi⟩ := h
  exact ⟨hs, hl, hS.ext hE, fun i x c h1 h2 => ⟨(hi i x c h1 h2).1, (hi i x c h1 h2).2.ext hE⟩⟩
theorem SegC.alloc (h : SegC w A n cs) (o : Obj) : SegC (w.alloc o) A n cs := h.ext ((Ext.refl _).alloc _)
theorem SegC.at_ {k : Nat} (h : SegC w A n cs) (hk : k < n) :
    ∃ b off A' n' cap' ts bd, A = some ⟨b, off, none⟩ ∧ cs[k]? = some (ts, bd) ∧ w.cell? ⟨b, off + k * 2, none⟩ = some (.slice A' n' cap') ∧ w.cell? ⟨b, off + k * 2 + 1, none⟩ = some (.int .i64 bd) ∧ n' ≤ maxLen ∧ Seg w 2 A' n' (encT ts) := by
  have hlen := h.len
  obtain ⟨hs, hl, hS, hi⟩ := h
  obtain ⟨b, off, e, hc⟩ := hS.2 (by omega)
  have h1 : hs[k]? = some (hs[k]'(by omega)) := List.getElem?_eq_getElem _
  have h2 : cs[k]? = some (cs[k]'(by omega)) := List.getElem?_eq_getElem _
  have g := encH_get hs cs k _ _ h1 h2
  have q := hi k _ _ h1 h2
  exact ⟨b, off, _, _, _, _, _, e, h2, hc _ _ g.1, hc _ _ g.2, q.1, q.2⟩
theorem SegC.nil (w : World) (A : Option Addr) : SegC w A 0 [] := ⟨[], rfl, Seg.nil _ _ _, fun i h c h1 _ => by simp at h1⟩
end

def csEq (xs ys : List Cn) : Bool := decide (xs = ys)
theorem csEq_self (xs : List Cn) : csEq xs xs = true := by simp [csEq]

/-- what is left of a size -/
def szC : List Cn → Int → Int
  | [], left => left
  | c :: cs, left => if left < 0 then -1 else szC cs (szB c.1.length left)
def szCs (cs : List Cn) (left : Int) : Int := if szB cs.length left < 0 then -1 else if szC cs (szB cs.length left) < 0 then -1 else szC cs (szB cs.length left)
theorem szC_bounds : ∀ (cs : List Cn) (left : Int), -1 ≤ left → -1 ≤ szC cs left ∧ szC cs left ≤ left
  | [], left, h => ⟨h, Int.le_refl _⟩
  | c :: cs, left, h => by
    unfold szC
    split
    · omega
    · have h1 := szB_le c.1.length left h
      have h2 := szB_ge c.1.length left h
      have := szC_bounds cs (szB c.1.length left) h2
      omega
theorem szC_small : ∀ (cs : List Cn) (left : Int), left ≤ 1048576 → -1 ≤ left → ¬ szC cs left < 0 → ∀ c ∈ cs, c.1.length ≤ 1048576
  | [], left, _, _, _, c, hc => by cases hc
  | x :: cs, left, hl, h0, hb, c, hc => by
    unfold szC at hb
    split at hb
    · omega
    · have h1 := szB_le x.1.length left h0
      have h2 := szB_ge x.1.length left h0
      rcases List.mem_cons.1 hc with rfl | hc
      · by_cases hh : szB c.1.length left < 0
        · have := szC_bounds cs (szB c.1.length left) h2
          omega
        · exact szB_small _ _ hl hh
      · exact szC_small cs _ (by omega) h2 hb c hc
theorem szCs_le (cs : List Cn) (left : Int) (h : -1 ≤ left) : szCs cs left ≤ left := by
  have h1 := szB_le cs.length left h
  have h2 := szB_ge cs.length left h
  have := szC_bounds cs _ h2
  unfold szCs
  split
  · exact h
  · split <;> omega
theorem szCs_ge (cs : List Cn) (left : Int) (h : -1 ≤ left) : -1 ≤ szCs cs left := by
  have h2 := szB_ge cs.length left h
  have := szC_bounds cs _ h2
  unfold szCs
  split
  · omega
  · split <;> omega
theorem szCs_small (cs : List Cn) (left : Int) (hl : left ≤ 1048576) (h0 : -1 ≤ left) (hb : ¬ szCs cs left < 0) : cs.length ≤ 1048576 ∧ ∀ c ∈ cs, c.1.length ≤ 1048576 := by
  have h1 := szB_le cs.length left h0
  have h2 := szB_ge cs.length left h0
  unfold szCs at hb
  split at hb
  · omega
  · rename_i hh
    split at hb
    · omega
    · exact ⟨szB_small _ _ hl hh, szC_small cs _ (by omega) h2 ‹_›⟩


/-- the inner slices of the first k constraints: each in blocks of its own, one behind the other -/
def InC (w0 : Nat) (w : World) (k : Nat) (hs : List Hd) (cs : List Cn) (f : Nat → Nat) : Prop :=
  hs.length = k ∧ w0 ≤ f 0 ∧ (∀ i, i < k → f i ≤ f (i + 1)) ∧ f k ≤ w.heap.size ∧
    ∀ (i : Nat) (h : Hd) (c : Cn), hs[i]? = some h → cs[i]? = some c → h.2.1 ≤ 1048576 ∧ Seg w 2 h.1 h.2.1 (encT c.1) ∧ Free w 2 h.1 h.2.1 ∧ Lies (f i) (f (i + 1)) h.1 h.2.1
theorem InC.ge {w0 : Nat} {w : World} {k : Nat} {hs : List Hd} {cs : List Cn} {f : Nat → Nat} (h : InC w0 w k hs cs f) : ∀ i, i ≤ k → w0 ≤ f i := by
  intro i
  induction i with
  | zero => intro _; exact h.2.1
  | succ i ih => intro hi; exact Nat.le_trans (ih (by omega)) (h.2.2.1 i (by omega))
theorem InC.kept {w0 lo hi : Nat} {w w' : World} {k : Nat} {hs : List Hd} {cs : List Cn} {f : Nat → Nat} (h : InC w0 w k hs cs f) (hK : Kept lo hi w w') (hd : hi ≤ w0) : InC w0 w' k hs cs f := by
  refine ⟨h.1, h.2.1, h.2.2.1, Nat.le_trans h.2.2.2.1 hK.size, fun i x c h1 h2 => ?_⟩
  obtain ⟨q1, q2, q3, q4⟩ := h.2.2.2.2 i x c h1 h2
  have hi' : i < k := by rw [← h.1]; exact (List.getElem?_eq_some_iff.1 h1).1
  have hge := h.ge i (by omega)
  exact ⟨q1, q2.kept q4 hK (.inr (by omega)), q3.kept q2 q4 hK (.inr (by omega)), q4⟩
theorem InC.ext {w0 : Nat} {w w' : World} {k : Nat} {hs : List Hd} {cs : List Cn} {f : Nat → Nat} (h : InC w0 w k hs cs f) (hE : Ext w w') : InC w0 w' k hs cs f :=
  h.kept hE (Nat.zero_le _)
theorem InC.nil (w : World) (cs : List Cn) : InC w.heap.size w 0 [] cs (fun _ => w.heap.size) :=
  ⟨rfl, Nat.le_refl _, fun i h => by omega, Nat.le_refl _, fun i x c h1 _ => by simp at h1⟩
theorem InC.snoc {w0 : Nat} {w w1 : World} {k : Nat} {hs : List Hd} {cs : List Cn} {f : Nat → Nat} (h : InC w0 w k hs cs f) (hE : Ext w w1) {A : Option Addr} {n cap : Nat} {c : Cn} (hc : cs[k]? = some c) (hn : n ≤ 1048576)
    (hG : Got w w1 2 A n (encT c.1)) : InC w0 w1 (k + 1) (hs ++ [(A, n, cap)]) cs (fun i => if i ≤ k then f i else w1.heap.size) := by
  have h' := h.ext hE
  refine ⟨by simp [h.1], by simpa using h.2.1, fun i hi => ?_, by show (if k + 1 ≤ k then f (k+1) else w1.heap.size) ≤ _; rw [if_neg (by omega)]; exact Nat.le_refl _, fun i x c' h1 h2 => ?_⟩
  · simp only
    rcases Nat.lt_or_ge i k with hlt | hge
    · rw [if_pos (by omega), if_pos (by omega)]; exact h.2.2.1 i hlt
    · obtain rfl : i = k := by omega
      rw [if_pos (Nat.le_refl _), if_neg (by omega)]; exact h'.2.2.2.1
  · rcases Nat.lt_or_ge i k with hlt | hge
    · rw [List.getElem?_append_left (by rw [h.1]; exact hlt)] at h1
      obtain ⟨q1, q2, q3, q4⟩ := h'.2.2.2.2 i x c' h1 h2
      simp only
      rw [if_pos (by omega), if_pos (by omega)]
      exact ⟨q1, q2, q3, q4⟩
    · have hik : i = k := by
        have := (List.getElem?_eq_some_iff.1 h1).1
        simp [h.1] at this; omega
      subst hik
      rw [List.getElem?_append_right (by rw [h.1]; exact Nat.le_refl _), h.1] at h1
      simp at h1
      subst h1
      rw [hc] at h2; injection h2 with h2; subst h2
      simp only
      rw [if_pos (Nat.le_refl _), if_neg (by omega)]
      exact ⟨hn, hG.seg, hG.free, hG.lies.wide h.2.2.2.1 (Nat.le_refl _)⟩

/-- constraints in memory of the call's own -/
structure GotC (w w' : World) (A : Option Addr) (n : Nat) (cs : List Cn) : Prop where
  all : ∃ hs f, InC (w.heap.size + 1) w' n hs cs f ∧ cs.length = n ∧ Seg w' 2 A n (encH hs cs) ∧ Free w' 2 A n ∧ Lies w.heap.size (w.heap.size + 1) A n
theorem GotC.seg {w w' : World} {A : Option Addr} {n : Nat} {cs : List Cn} (h : GotC w w' A n cs) : SegC w' A n cs := by
  obtain ⟨hs, f, hI, hl, hS, _, _⟩ := h.all
  exact ⟨hs, by rw [hI.1, hl], hS, fun i x c h1 h2 => ⟨Nat.le_trans (hI.2.2.2.2 i x c h1 h2).1 (by unfold maxLen; omega), (hI.2.2.2.2 i x c h1 h2).2.1⟩⟩

def RetCS (cs : List Cn) (w : World) (e : Ending) (w' : World) : Prop :=
  ∃ A n cap, e = .returned (.slice A n cap) ∧ cs.length = n ∧ GotC w w' A n cs ∧ Ext w w'

theorem Try.infoCn : (Try.prog.info? 25).map (fun i => (i.zero, i.size, i.bytes)) = some (some (.agg #[.slice none 0 0, .int .i64 0]), 2, 32) := by kernel_rfl

theorem encH_snoc (hs : List Hd) (cs : List Cn) (h : Hd) (c : Cn) (e : hs.length = cs.length) : encH (hs ++ [h]) (cs ++ [c]) = encH hs cs ++ [.slice h.1 h.2.1 h.2.2] ++ [.int .i64 c.2] := by
  rw [encH_append hs cs [h] [c] e, List.append_assoc]; rfl


end Go.Proofs.Ytbpkpcfhmglddaa
