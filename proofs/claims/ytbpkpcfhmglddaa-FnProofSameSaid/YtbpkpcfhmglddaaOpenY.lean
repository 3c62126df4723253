/- An argument of bytes, opened. -/
import Derived.Test.YtbpkpcfhmglddaaOpen
import Derived.Test.YtbpkpcfhmglddaaRd
namespace Go.Proofs.Ytbpkpcfhmglddaa
open Go.RowKit Go.ChangeShapes Go.WideShapes Go.Deep

section
variable {H : Type} {enc : TypeId × Value → H} {P : Program} {w : World} {base : Nat} {spare : Nat → Bool} {held : Bool}
theorem bytes_of_range (f : Nat → List Value) : ∀ n, (∀ i, i < n → ∃ a : Int, f i = [Value.int .u8 a] ∧ 0 ≤ a ∧ a ≤ 255) → ∃ zs : List Int, zs.length = n ∧ (List.range n).flatMap f = encY zs ∧ bytesB zs := by
  intro n
  induction n with
  | zero => intro _; exact ⟨[], rfl, by simp [encY], fun b hb => by cases hb⟩
  | succ n ih =>
    intro h
    obtain ⟨zs, hl, he, hb⟩ := ih fun i hi => h i (by omega)
    obtain ⟨a, ha, h0, h1⟩ := h n (by omega)
    refine ⟨zs ++ [a], by simp [hl], ?_, fun b hb' => ?_⟩
    · rw [List.range_succ, List.flatMap_append, he]
      simp [ha, encY]
    · rcases List.mem_append.1 hb' with hb' | hb'
      · exact hb b hb'
      · obtain rfl : b = a := by simpa using hb'
        exact ⟨h0, h1⟩
theorem trod_bytes {t e : TypeId} {fuel : Nat} {cs : List Value} {x : DataW H × List MemPlace} (ht : P.underlying t = some (.slice e)) (he : P.underlying e = some (.int .u8)) (hC : P.cellsOf e = 1)
    (h : DataW.trod enc P w base spare held fuel t cs = some x) : ∃ A n cap zs, cs = [.slice A n cap] ∧ n ≤ maxLen ∧ n ≤ cap ∧ Seg w 1 A n (encY zs) ∧ bytesB zs := by
  obtain ⟨A, n, cap, f, rfl, hn, _, hs, hel⟩ := open_slice_seg (by omega) ht hC h
  have hcap : n ≤ cap := by
    rcases open_slice ht h with ⟨e', _⟩ | ⟨a, len, cap', m, n', D, Pl, e', _, hl, _⟩
    · simp at e'; omega
    · simp at e'; omega
  obtain ⟨zs, _, e', hb⟩ := bytes_of_range f n fun i hi => by
    obtain ⟨k, y, hy⟩ := hel i hi
    obtain ⟨z, hz, _, hw⟩ := DataW.trod_int he hy
    have := bounds_u8 hw
    exact ⟨z, hz, this.1, this.2⟩
  exact ⟨A, n, cap, zs, rfl, hn, hcap, by rw [← e']; exact hs, hb⟩
end

section
variable {H : Type} {enc : TypeId × Value → H} {w : World} {base : Nat} {spare : Nat → Bool} {held : Bool} {r : Reach} {b0 : Nat} {v : Value} {d : DataW H} {p : List MemPlace}
set_option maxRecDepth 100000 in
theorem arg_bytes (hv : Value.okWide Try.prog w r b0 34 v) (h : DataW.Trod enc Try.prog w base spare held 34 v d p) :
    ∃ A n cap zs, v = .slice A n cap ∧ n ≤ maxLen ∧ n ≤ cap ∧ Seg w 1 A n (encY zs) ∧ bytesB zs := by
  obtain ⟨A0, n0, cap0, rfl⟩ := okWide_slice Try.underlying34 hv
  obtain ⟨fuel, hf⟩ := h
  obtain ⟨A, n, cap, zs, e, hn, hc, hs, hb⟩ := trod_bytes Try.underlying34 Try.underlying5 (by kernel_rfl) hf
  simp [Value.cells] at e
  obtain ⟨rfl, rfl, rfl⟩ := e
  exact ⟨_, _, _, zs, rfl, hn, hc, hs, hb⟩
end
end Go.Proofs.Ytbpkpcfhmglddaa
