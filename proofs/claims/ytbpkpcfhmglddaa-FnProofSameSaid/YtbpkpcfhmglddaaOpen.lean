/- An argument that reads as data, opened to cells: slices of integers, bools, terms; constraints; lists of constraints. -/
import Derived.Test.YtbpkpcfhmglddaaMemB
import Derived.ProofKit
import Derived.Deep.Slices
import Derived.OpenShut
namespace Go.Proofs.Ytbpkpcfhmglddaa
open Go.RowKit Go.ChangeShapes Go.WideShapes Go.Deep

section
variable {H : Type} {enc : TypeId × Value → H} {P : Program} {w : World} {base : Nat} {spare : Nat → Bool} {held : Bool}

theorem addr_add (b off i : Nat) : (⟨b, off, none⟩ : Addr).add i = ⟨b, off + i, none⟩ := by
  unfold Addr.add
  split
  · rename_i h; subst h; rfl
  · rfl

theorem flat_get {α : Type} {C : Nat} (f : Nat → List α) : ∀ n, (∀ i, i < n → (f i).length = C) → ((List.range n).flatMap f).length = n * C ∧ ∀ i r, i < n → r < C → ((List.range n).flatMap f)[i * C + r]? = (f i)[r]? := by
  intro n
  induction n with
  | zero => intro _; exact ⟨by simp, fun i r h => by omega⟩
  | succ n ih =>
    intro h
    obtain ⟨hl, hg⟩ := ih fun i hi => h i (by omega)
    have e : (List.range (n + 1)).flatMap f = (List.range n).flatMap f ++ f n := by
      rw [List.range_succ, List.flatMap_append]
      simp
    rw [e]
    refine ⟨by rw [List.length_append, hl, h n (by omega), Nat.succ_mul], fun i r hi hr => ?_⟩
    rcases Nat.lt_or_ge i n with hin | hin
    · have hlt : i * C + r < n * C := by
        have : (i + 1) * C ≤ n * C := Nat.mul_le_mul_right C hin
        rw [Nat.succ_mul] at this
        omega
      rw [List.getElem?_append_left (by omega)]
      exact hg i r hin hr
    · obtain rfl : i = n := by omega
      rw [List.getElem?_append_right (by omega), hl]
      congr 1
      omega

/-- what a slice's element cells come to: f i for the i-th -/
theorem open_slice_seg {t e : TypeId} {fuel C : Nat} {cs : List Value} {x : DataW H × List MemPlace} (hC0 : 0 < C) (ht : P.underlying t = some (.slice e)) (hC : P.cellsOf e = C) (h : DataW.trod enc P w base spare held fuel t cs = some x) :
    ∃ (A : Option Addr) (n cap : Nat) (f : Nat → List Value), cs = [.slice A n cap] ∧ n ≤ maxLen ∧ (∀ i, i < n → (f i).length = C) ∧ Seg w C A n ((List.range n).flatMap f) ∧
      ∀ i, i < n → ∃ k y, DataW.trod enc P w base spare held k e (f i) = some y := by
  rcases open_slice ht h with ⟨rfl, _⟩ | ⟨a, len, cap, m, n, D, Pl, rfl, _, hl, hm, hmm, _, hi⟩
  · exact ⟨none, 0, 0, fun _ => [], rfl, Nat.zero_le _, fun i hi => by omega, by simpa using Seg.nil w C none, fun i hi => by omega⟩
  · rw [hC] at hi
    have hlm : len ≤ m := by rw [hmm]; split <;> omega
    have hch : ∀ i, ∃ cs', i < len → w.cells? base (a.add (i * C)) C = some cs' ∧ DataW.trod enc P w base spare held n e cs' = some (D i, Pl i) := by
      intro i
      by_cases hlt : i < len
      · obtain ⟨cs', h1, h2⟩ := hi i (by omega)
        exact ⟨cs', fun _ => ⟨h1, h2⟩⟩
      · exact ⟨[], fun h => absurd h hlt⟩
    have hf := Classical.axiomOfChoice hch
    obtain ⟨f, hf⟩ := hf
    have hlen : ∀ i, i < len → (f i).length = C := fun i hlt => (World.cells?_some (hf i hlt).1).2.1
    refine ⟨some a, len, cap, f, rfl, by omega, hlen, ?_, fun i hlt => ⟨n, _, (hf i hlt).2⟩⟩
    obtain ⟨hl1, hg⟩ := flat_get f len hlen
    refine ⟨hl1, fun hpos => ?_⟩
    have hcell : ∀ i r, i < len → r < C → w.cell? ((a.add (i * C)).add r) = (f i)[r]? := fun i r hlt hr => (World.cells?_some (hf i hlt).1).2.2 r hr
    have h0 := hcell 0 0 hpos hC0
    have hne : ∃ u, (f 0)[0]? = some u := ⟨(f 0)[0]'(by rw [hlen 0 hpos]; exact hC0), List.getElem?_eq_getElem _⟩
    obtain ⟨u, hu⟩ := hne
    rw [hu] at h0
    simp only [Nat.zero_mul, Addr.add, if_true] at h0
    have hspot : a.spot = none := by
      simp only [World.cell?] at h0
      split at h0
      · split at h0
        · cases h0
        · rename_i hs; simpa using hs
      · cases h0
    obtain ⟨b, off, spot⟩ := a
    simp only at hspot
    subst hspot
    refine ⟨b, off, rfl, fun j u hu => ?_⟩
    have hj : j < len * C := by rw [← hl1]; exact (List.getElem?_eq_some_iff.1 hu).1
    have hdm : j / C * C + j % C = j := by have := Nat.div_add_mod j C; rw [Nat.mul_comm] at this; exact this
    have hd : j / C < len := by rw [Nat.div_lt_iff_lt_mul hC0]; exact hj
    have hr : j % C < C := Nat.mod_lt _ hC0
    have h1 := hcell (j / C) (j % C) hd hr
    have h2 := hg (j / C) (j % C) hd hr
    rw [hdm, hu] at h2
    rw [← h2] at h1
    rw [addr_add, addr_add] at h1
    rw [← h1]
    congr 2
    omega

theorem map_of_range {α β : Type} (g : α → List β) (f : Nat → List β) : ∀ n, (∀ i, i < n → ∃ a, f i = g a) → ∃ zs : List α, zs.length = n ∧ (List.range n).flatMap f = zs.flatMap g := by
  intro n
  induction n with
  | zero => intro _; exact ⟨[], rfl, by simp⟩
  | succ n ih =>
    intro h
    obtain ⟨zs, hl, he⟩ := ih fun i hi => h i (by omega)
    obtain ⟨a, ha⟩ := h n (by omega)
    refine ⟨zs ++ [a], by simp [hl], ?_⟩
    rw [List.range_succ, List.flatMap_append, List.flatMap_append, he]
    simp [ha]

theorem encT_flat (ts : List Tm) : encT ts = ts.flatMap fun t => [.int .i64 t.1, .int .i64 t.2] := by
  induction ts with
  | nil => rfl
  | cons t ts ih => simp [encT, ih]
theorem encI_flat (zs : List Int) : encI zs = zs.flatMap fun z => [.int .i64 z] := by
  induction zs with
  | nil => rfl
  | cons z zs ih => simp [encI] at ih ⊢; exact ih
theorem encB_flat (zs : List Bool) : encB zs = zs.flatMap fun z => [.bool z] := by
  induction zs with
  | nil => rfl
  | cons z zs ih => simp [encB] at ih ⊢; exact ih

theorem trod_ints {t e : TypeId} {fuel : Nat} {cs : List Value} {x : DataW H × List MemPlace} (ht : P.underlying t = some (.slice e)) (he : P.underlying e = some (.int .i64)) (hC : P.cellsOf e = 1)
    (h : DataW.trod enc P w base spare held fuel t cs = some x) : ∃ A n cap zs, cs = [.slice A n cap] ∧ n ≤ maxLen ∧ Seg w 1 A n (encI zs) := by
  obtain ⟨A, n, cap, f, rfl, hn, _, hs, hel⟩ := open_slice_seg (by omega) ht hC h
  obtain ⟨zs, _, e⟩ := map_of_range (fun z : Int => [Value.int .i64 z]) f n fun i hi => by
    obtain ⟨k, y, hy⟩ := hel i hi
    obtain ⟨z, hz, _⟩ := DataW.trod_int he hy
    exact ⟨z, hz⟩
  exact ⟨A, n, cap, zs, rfl, hn, by rw [encI_flat, ← e]; exact hs⟩

theorem trod_bools {t e : TypeId} {fuel : Nat} {cs : List Value} {x : DataW H × List MemPlace} (ht : P.underlying t = some (.slice e)) (he : P.underlying e = some .bool) (hC : P.cellsOf e = 1)
    (h : DataW.trod enc P w base spare held fuel t cs = some x) : ∃ A n cap zs, cs = [.slice A n cap] ∧ n ≤ maxLen ∧ Seg w 1 A n (encB zs) := by
  obtain ⟨A, n, cap, f, rfl, hn, _, hs, hel⟩ := open_slice_seg (by omega) ht hC h
  obtain ⟨zs, _, e⟩ := map_of_range (fun z : Bool => [Value.bool z]) f n fun i hi => by
    obtain ⟨k, y, hy⟩ := hel i hi
    obtain ⟨z, hz, _⟩ := DataW.trod_bool he hy
    exact ⟨z, hz⟩
  exact ⟨A, n, cap, zs, rfl, hn, by rw [encB_flat, ← e]; exact hs⟩

/-- a struct of two one-cell fields -/
theorem trod_pair {t : TypeId} {fuel : Nat} {cs : List Value} {x : DataW H × List MemPlace} {f0 f1 : Field} (ht : P.underlying t = some (.struct #[f0, f1])) (hC : P.cellsOf t = 2)
    (o0 : f0.offset = 0) (o1 : f1.offset = 1) (c0 : P.cellsOf f0.type = 1) (c1 : P.cellsOf f1.type = 1) (h : DataW.trod enc P w base spare held fuel t cs = some x) :
    ∃ v0 v1 n y0 y1, cs = [v0, v1] ∧ DataW.trod enc P w base spare held n f0.type [v0] = some y0 ∧ DataW.trod enc P w base spare held n f1.type [v1] = some y1 := by
  obtain ⟨xs, n, _, _, hlen, hxl, hf⟩ := DataW.trod_struct ht h
  rw [hC] at hlen
  match cs, hlen with
  | [v0, v1], _ =>
    have h0 := hf 0 f0 rfl
    have h1 := hf 1 f1 rfl
    rw [o0, c0] at h0
    rw [o1, c1] at h1
    have e0 : xs[0]? = some (xs[0]'(by rw [hxl]; simp)) := List.getElem?_eq_getElem _
    have e1 : xs[1]? = some (xs[1]'(by rw [hxl]; simp)) := List.getElem?_eq_getElem _
    exact ⟨v0, v1, n, _, _, rfl, h0.trans e0, h1.trans e1⟩

theorem trod_terms {t e : TypeId} {fuel : Nat} {cs : List Value} {x : DataW H × List MemPlace} {f0 f1 : Field} (ht : P.underlying t = some (.slice e)) (he : P.underlying e = some (.struct #[f0, f1])) (hC : P.cellsOf e = 2)
    (o0 : f0.offset = 0) (o1 : f1.offset = 1) (c0 : P.cellsOf f0.type = 1) (c1 : P.cellsOf f1.type = 1) (i0 : P.underlying f0.type = some (.int .i64)) (i1 : P.underlying f1.type = some (.int .i64))
    (h : DataW.trod enc P w base spare held fuel t cs = some x) : ∃ A n cap ts, cs = [.slice A n cap] ∧ n ≤ maxLen ∧ Seg w 2 A n (encT ts) := by
  obtain ⟨A, n, cap, f, rfl, hn, _, hs, hel⟩ := open_slice_seg (by omega) ht hC h
  obtain ⟨ts, _, e⟩ := map_of_range (fun t : Tm => [Value.int .i64 t.1, .int .i64 t.2]) f n fun i hi => by
    obtain ⟨k, y, hy⟩ := hel i hi
    obtain ⟨v0, v1, m, y0, y1, e, h0, h1⟩ := trod_pair he hC o0 o1 c0 c1 hy
    obtain ⟨z0, hz0, _⟩ := DataW.trod_int i0 h0
    obtain ⟨z1, hz1, _⟩ := DataW.trod_int i1 h1
    injection hz0 with hz0; injection hz1 with hz1
    exact ⟨(z0, z1), by rw [e, hz0, hz1]⟩
  exact ⟨A, n, cap, ts, rfl, hn, by rw [encT_flat, ← e]; exact hs⟩

theorem trod_constr {t e : TypeId} {fuel : Nat} {cs : List Value} {x : DataW H × List MemPlace} {g0 g1 f0 f1 : Field} (ht : P.underlying t = some (.struct #[g0, g1])) (hC' : P.cellsOf t = 2)
    (p0 : g0.offset = 0) (p1 : g1.offset = 1) (d0 : P.cellsOf g0.type = 1) (d1 : P.cellsOf g1.type = 1) (hs : P.underlying g0.type = some (.slice e)) (hb : P.underlying g1.type = some (.int .i64))
    (he : P.underlying e = some (.struct #[f0, f1])) (hC : P.cellsOf e = 2)
    (o0 : f0.offset = 0) (o1 : f1.offset = 1) (c0 : P.cellsOf f0.type = 1) (c1 : P.cellsOf f1.type = 1) (i0 : P.underlying f0.type = some (.int .i64)) (i1 : P.underlying f1.type = some (.int .i64))
    (h : DataW.trod enc P w base spare held fuel t cs = some x) : ∃ A n cap ts bd, cs = [.slice A n cap, .int .i64 bd] ∧ n ≤ maxLen ∧ Seg w 2 A n (encT ts) := by
  obtain ⟨v0, v1, m, y0, y1, rfl, h0, h1⟩ := trod_pair ht hC' p0 p1 d0 d1 h
  obtain ⟨A, n, cap, ts, e0, hn, hseg⟩ := trod_terms hs he hC o0 o1 c0 c1 i0 i1 h0
  obtain ⟨z, hz, _⟩ := DataW.trod_int hb h1
  injection e0 with e0; injection hz with hz
  exact ⟨A, n, cap, ts, z, by rw [e0, hz], hn, hseg⟩
end

section
variable {H : Type} {enc : TypeId × Value → H} {w : World} {base : Nat} {spare : Nat → Bool} {held : Bool} {r : Reach} {b0 : Nat} {v : Value} {d : DataW H} {p : List MemPlace}

set_option maxRecDepth 100000 in
theorem arg_int (hv : Value.okWide Try.prog w r b0 3 v) (h : DataW.Trod enc Try.prog w base spare held 3 v d p) : ∃ z : Int, v = .int .i64 z ∧ -9223372036854775808 ≤ z ∧ z ≤ 9223372036854775807 := by
  obtain ⟨z, rfl⟩ := okWide_int Try.underlying3 hv
  obtain ⟨fuel, hf⟩ := h
  obtain ⟨z', e, _, hw⟩ := DataW.trod_int Try.underlying3 hf
  simp [Value.cells] at e
  subst e
  have hw2 := bounds_i64 hw
  exact ⟨z, rfl, by omega, by omega⟩
set_option maxRecDepth 100000 in
theorem arg_ints (hv : Value.okWide Try.prog w r b0 22 v) (h : DataW.Trod enc Try.prog w base spare held 22 v d p) :
    ∃ A n cap zs, v = .slice A n cap ∧ n ≤ maxLen ∧ Seg w 1 A n (encI zs) := by
  obtain ⟨A0, n0, cap0, rfl⟩ := okWide_slice Try.underlying22 hv
  obtain ⟨fuel, hf⟩ := h
  obtain ⟨A, n, cap, zs, e, hn, hs⟩ := trod_ints Try.underlying22 Try.underlying3 (by kernel_rfl) hf
  simp [Value.cells] at e
  obtain ⟨rfl, rfl, rfl⟩ := e
  exact ⟨_, _, _, zs, rfl, hn, hs⟩
set_option maxRecDepth 100000 in
theorem arg_bools (hv : Value.okWide Try.prog w r b0 99 v) (h : DataW.Trod enc Try.prog w base spare held 99 v d p) :
    ∃ A n cap zs, v = .slice A n cap ∧ n ≤ maxLen ∧ Seg w 1 A n (encB zs) := by
  obtain ⟨A0, n0, cap0, rfl⟩ := okWide_slice Try.underlying99 hv
  obtain ⟨fuel, hf⟩ := h
  obtain ⟨A, n, cap, zs, e, hn, hs⟩ := trod_bools Try.underlying99 Try.underlying4 (by kernel_rfl) hf
  simp [Value.cells] at e
  obtain ⟨rfl, rfl, rfl⟩ := e
  exact ⟨_, _, _, zs, rfl, hn, hs⟩
end
end Go.Proofs.Ytbpkpcfhmglddaa
