/- Lists of steps as arguments, opened. -/
import Derived.Test.YtgoaggojbcdgeaaStep
import Derived.Test.YtgoaggojbcdgeaaOpenC
namespace Go.Proofs.Ytgoaggojbcdgeaa
open Go.RowKit Go.ChangeShapes Go.WideShapes Go.Deep

theorem encP_flat : ∀ (xs : List (Hd × St)), encP (xs.map Prod.fst) (xs.map Prod.snd) = xs.flatMap fun x => [.int .i64 x.2.1, .int .i64 x.2.2.1, .int .i64 x.2.2.2.1, .slice x.1.1 x.1.2.1 x.1.2.2, .int .i64 x.2.2.2.2.2]
  | [] => rfl
  | x :: xs => by simp [encP, encP_flat xs]

section
variable {H : Type} {enc : TypeId × Value → H} {P : Program} {w : World} {base : Nat} {spare : Nat → Bool} {held : Bool}

theorem trod_step {t e : TypeId} {fuel : Nat} {cs : List Value} {x : DataW H × List MemPlace} {k0 k1 k2 k3 g0 g1 f0 f1 : Field} (hk : P.underlying t = some (.struct #[k0, k1, k2, k3])) (hCk : P.cellsOf t = 5)
    (q0 : k0.offset = 0) (q1 : k1.offset = 1) (q2 : k2.offset = 2) (q3 : k3.offset = 3) (r0 : P.cellsOf k0.type = 1) (r1 : P.cellsOf k1.type = 1) (r2 : P.cellsOf k2.type = 1) (r3 : P.cellsOf k3.type = 2)
    (j0 : P.underlying k0.type = some (.int .i64)) (j1 : P.underlying k1.type = some (.int .i64)) (j2 : P.underlying k2.type = some (.int .i64))
    (ht : P.underlying k3.type = some (.struct #[g0, g1])) (hC' : P.cellsOf k3.type = 2)
    (p0 : g0.offset = 0) (p1 : g1.offset = 1) (d0 : P.cellsOf g0.type = 1) (d1 : P.cellsOf g1.type = 1) (hs : P.underlying g0.type = some (.slice e)) (hb : P.underlying g1.type = some (.int .i64))
    (he : P.underlying e = some (.struct #[f0, f1])) (hC : P.cellsOf e = 2)
    (o0 : f0.offset = 0) (o1 : f1.offset = 1) (c0 : P.cellsOf f0.type = 1) (c1 : P.cellsOf f1.type = 1) (i0 : P.underlying f0.type = some (.int .i64)) (i1 : P.underlying f1.type = some (.int .i64))
    (h : DataW.trod enc P w base spare held fuel t cs = some x) : ∃ x y z A n cap ts bd, cs = [.int .i64 x, .int .i64 y, .int .i64 z, .slice A n cap, .int .i64 bd] ∧ n ≤ maxLen ∧ Seg w 2 A n (encT ts) := by
  obtain ⟨xs, n, _, _, hlen, hxl, hf⟩ := DataW.trod_struct hk h
  rw [hCk] at hlen
  match cs, hlen with
  | [v0, v1, v2, v3, v4], _ =>
    have h0 := hf 0 k0 rfl
    have h1 := hf 1 k1 rfl
    have h2 := hf 2 k2 rfl
    have h3 := hf 3 k3 rfl
    rw [q0, r0] at h0
    rw [q1, r1] at h1
    rw [q2, r2] at h2
    rw [q3, r3] at h3
    have e0 : xs[0]? = some (xs[0]'(by rw [hxl]; simp)) := List.getElem?_eq_getElem _
    have e1 : xs[1]? = some (xs[1]'(by rw [hxl]; simp)) := List.getElem?_eq_getElem _
    have e2 : xs[2]? = some (xs[2]'(by rw [hxl]; simp)) := List.getElem?_eq_getElem _
    have e3 : xs[3]? = some (xs[3]'(by rw [hxl]; simp)) := List.getElem?_eq_getElem _
    have a0 := h0.trans e0
    have a1 := h1.trans e1
    have a2 := h2.trans e2
    have a3 := h3.trans e3
    obtain ⟨z0, hz0, _⟩ := DataW.trod_int j0 a0
    obtain ⟨z1, hz1, _⟩ := DataW.trod_int j1 a1
    obtain ⟨z2, hz2, _⟩ := DataW.trod_int j2 a2
    obtain ⟨A, m, cap, ts, bd, hz3, hm, hS⟩ := trod_constr ht hC' p0 p1 d0 d1 hs hb he hC o0 o1 c0 c1 i0 i1 a3
    simp at hz0 hz1 hz2 hz3
    exact ⟨z0, z1, z2, A, m, cap, ts, bd, by rw [hz0, hz1, hz2, hz3.1, hz3.2], hm, hS⟩

theorem trod_steps {tt t e : TypeId} {fuel : Nat} {cs : List Value} {x : DataW H × List MemPlace} {k0 k1 k2 k3 g0 g1 f0 f1 : Field} (htt : P.underlying tt = some (.slice t)) (hk : P.underlying t = some (.struct #[k0, k1, k2, k3])) (hCk : P.cellsOf t = 5)
    (q0 : k0.offset = 0) (q1 : k1.offset = 1) (q2 : k2.offset = 2) (q3 : k3.offset = 3) (r0 : P.cellsOf k0.type = 1) (r1 : P.cellsOf k1.type = 1) (r2 : P.cellsOf k2.type = 1) (r3 : P.cellsOf k3.type = 2)
    (j0 : P.underlying k0.type = some (.int .i64)) (j1 : P.underlying k1.type = some (.int .i64)) (j2 : P.underlying k2.type = some (.int .i64))
    (ht : P.underlying k3.type = some (.struct #[g0, g1])) (hC' : P.cellsOf k3.type = 2)
    (p0 : g0.offset = 0) (p1 : g1.offset = 1) (d0 : P.cellsOf g0.type = 1) (d1 : P.cellsOf g1.type = 1) (hs : P.underlying g0.type = some (.slice e)) (hb : P.underlying g1.type = some (.int .i64))
    (he : P.underlying e = some (.struct #[f0, f1])) (hC : P.cellsOf e = 2)
    (o0 : f0.offset = 0) (o1 : f1.offset = 1) (c0 : P.cellsOf f0.type = 1) (c1 : P.cellsOf f1.type = 1) (i0 : P.underlying f0.type = some (.int .i64)) (i1 : P.underlying f1.type = some (.int .i64))
    (h : DataW.trod enc P w base spare held fuel tt cs = some x) : ∃ A n cap zs, cs = [.slice A n cap] ∧ n ≤ maxLen ∧ SegP w A n zs := by
  obtain ⟨A, n, cap, f, rfl, hn, _, hS, hel⟩ := open_slice_seg (by omega) htt hCk h
  obtain ⟨xs, hl, hx⟩ := list_of_range (fun i (x : Hd × St) => f i = [.int .i64 x.2.1, .int .i64 x.2.2.1, .int .i64 x.2.2.2.1, .slice x.1.1 x.1.2.1 x.1.2.2, .int .i64 x.2.2.2.2.2] ∧ x.1.2.1 ≤ maxLen ∧ Seg w 2 x.1.1 x.1.2.1 (encT x.2.2.2.2.1)) n fun i hi => by
    obtain ⟨k, y, hy⟩ := hel i hi
    obtain ⟨z0, z1, z2, B, m, q, ts, bd, e, hm, hs⟩ := trod_step hk hCk q0 q1 q2 q3 r0 r1 r2 r3 j0 j1 j2 ht hC' p0 p1 d0 d1 hs hb he hC o0 o1 c0 c1 i0 i1 hy
    exact ⟨((B, m, q), (z0, z1, z2, ts, bd)), e, hm, hs⟩
  refine ⟨A, n, cap, xs.map Prod.snd, rfl, hn, xs.map Prod.fst, by simp, ?_, fun i h c h1 h2 => ?_⟩
  · rw [encP_flat, ← flat_congr f _ n xs hl fun i x h => (hx i x h).1]; exact hS
  · rw [List.getElem?_map] at h1 h2
    cases hxi : xs[i]? with
    | none => rw [hxi] at h1; cases h1
    | some y =>
      rw [hxi] at h1 h2
      injection h1 with h1; injection h2 with h2
      subst h1; subst h2
      exact (hx i y hxi).2
end

section
variable {H : Type} {enc : TypeId × Value → H} {w : World} {base : Nat} {spare : Nat → Bool} {held : Bool} {r : Reach} {b0 : Nat} {v : Value} {d : DataW H} {p : List MemPlace}
set_option maxRecDepth 100000 in
theorem arg_steps (hv : Value.okWide Try.prog w r b0 40 v) (h : DataW.Trod enc Try.prog w base spare held 40 v d p) :
    ∃ A n cap cs, v = .slice A n cap ∧ n ≤ maxLen ∧ SegP w A n cs := by
  obtain ⟨A0, n0, cap0, rfl⟩ := okWide_slice Try.underlying40 hv
  obtain ⟨fuel, hf⟩ := h
  obtain ⟨A, n, cap, cs, e, hn, hs⟩ := trod_steps Try.underlying40 Try.underlying76 (by kernel_rfl) rfl rfl rfl rfl (by kernel_rfl) (by kernel_rfl) (by kernel_rfl) (by kernel_rfl) Try.underlying3 Try.underlying3 Try.underlying3
    Try.underlying74 (by kernel_rfl) rfl rfl (by kernel_rfl) (by kernel_rfl) Try.underlying72 Try.underlying3 Try.underlying152 (by kernel_rfl) rfl rfl (by kernel_rfl) (by kernel_rfl) Try.underlying3 Try.underlying3 hf
  simp [Value.cells] at e
  obtain ⟨rfl, rfl, rfl⟩ := e
  exact ⟨_, _, _, cs, rfl, hn, hs⟩
end
end Go.Proofs.Ytgoaggojbcdgeaa
