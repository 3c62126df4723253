/- Models as arguments, opened. -/
import Derived.Test.YtgoaggojbcdgeaaMd
import Derived.Test.YtgoaggojbcdgeaaOpenC
namespace Go.Proofs.Ytgoaggojbcdgeaa
open Go.RowKit Go.ChangeShapes Go.WideShapes Go.Deep

theorem encG_flat {α : Type} : ∀ (xs : List (Hd × α)), encG (xs.map Prod.fst) = xs.flatMap fun x => [.slice x.1.1 x.1.2.1 x.1.2.2]
  | [] => rfl
  | x :: xs => by have := encG_flat xs; simp [encG] at this ⊢; exact this
theorem encR_flat : ∀ (xs : List (Hr × Rl)), encR (xs.map Prod.fst) (xs.map Prod.snd) = xs.flatMap fun x => [.int .i64 x.2.1, .slice x.1.1.1 x.1.1.2.1 x.1.1.2.2, .slice x.1.2.1.1 x.1.2.1.2.1 x.1.2.1.2.2, .int .i64 x.2.2.2.2.1, .slice x.1.2.2.1 x.1.2.2.2.1 x.1.2.2.2.2]
  | [] => rfl
  | x :: xs => by simp [encR, encR_flat xs]
theorem inG_of {η α : Type} {Q : Nat → World → η → α → Prop} {lo : Nat} {w : World} (xs : List (η × α)) (h : ∀ (i : Nat) (x : η × α), xs[i]? = some x → Q lo w x.1 x.2) : InG Q lo w (xs.map Prod.fst) (xs.map Prod.snd) := by
  intro i a b h1 h2
  rw [List.getElem?_map] at h1 h2
  cases hxi : xs[i]? with
  | none => rw [hxi] at h1; cases h1
  | some y =>
    rw [hxi] at h1 h2
    injection h1 with h1; injection h2 with h2
    subst h1; subst h2
    exact h i y hxi

section
variable {H : Type} {enc : TypeId × Value → H} {P : Program} {w : World} {base : Nat} {spare : Nat → Bool} {held : Bool}

theorem trod_cap {t e : TypeId} {fuel : Nat} {A : Option Addr} {n cap : Nat} {x : DataW H × List MemPlace} (ht : P.underlying t = some (.slice e)) (h : DataW.trod enc P w base spare held fuel t [.slice A n cap] = some x) : n ≤ cap := by
  rcases open_slice ht h with ⟨e, _⟩ | ⟨a, len, cap', m, k, D, Pl, e, _, hl, _⟩
  · simp at e; omega
  · simp at e; obtain ⟨_, rfl, rfl⟩ := e; exact hl

theorem trod_intss {tt t e : TypeId} {fuel : Nat} {cs : List Value} {x : DataW H × List MemPlace} (ht' : P.underlying tt = some (.slice t)) (hC' : P.cellsOf t = 1) (ht : P.underlying t = some (.slice e)) (he : P.underlying e = some (.int .i64)) (hC : P.cellsOf e = 1)
    (h : DataW.trod enc P w base spare held fuel tt cs = some x) : ∃ A n cap rs, cs = [.slice A n cap] ∧ QII 0 w (A, n, cap) rs := by
  obtain ⟨A, n, cap, f, rfl, hn, _, hS, hel⟩ := open_slice_seg (by omega) ht' hC' h
  obtain ⟨xs, hl, hx⟩ := list_of_range (fun i (x : Hd × List Int) => f i = [.slice x.1.1 x.1.2.1 x.1.2.2] ∧ QI 0 w x.1 x.2) n fun i hi => by
    obtain ⟨k, y, hy⟩ := hel i hi
    obtain ⟨B, m, q, zs, e, hm, hs⟩ := trod_ints ht he hC hy
    rw [e] at hy
    exact ⟨((B, m, q), zs), e, QI.of hm (trod_cap ht hy) hs⟩
  have hseg : Seg w 1 A n (encG (xs.map Prod.fst)) := by rw [encG_flat, ← flat_congr f _ n xs hl fun i x h => (hx i x h).1]; exact hS
  exact ⟨A, n, cap, xs.map Prod.snd, rfl, hn, xs.map Prod.fst, by simp, hseg, hseg.old, inG_of xs fun i x h => (hx i x h).2⟩

theorem trod_rule {t sI e : TypeId} {fuel : Nat} {cs : List Value} {x : DataW H × List MemPlace} {k0 k1 k2 k3 k4 : Field} (hk : P.underlying t = some (.struct #[k0, k1, k2, k3, k4])) (hCk : P.cellsOf t = 5)
    (q0 : k0.offset = 0) (q1 : k1.offset = 1) (q2 : k2.offset = 2) (q3 : k3.offset = 3) (q4 : k4.offset = 4) (r0 : P.cellsOf k0.type = 1) (r1 : P.cellsOf k1.type = 1) (r2 : P.cellsOf k2.type = 1) (r3 : P.cellsOf k3.type = 1) (r4 : P.cellsOf k4.type = 1)
    (j0 : P.underlying k0.type = some (.int .i64)) (j1 : P.underlying k1.type = some (.slice e)) (j2 : P.underlying k2.type = some (.slice e)) (j3 : P.underlying k3.type = some (.int .i64)) (j4 : P.underlying k4.type = some (.slice sI))
    (hC' : P.cellsOf sI = 1) (ht : P.underlying sI = some (.slice e)) (he : P.underlying e = some (.int .i64)) (hC : P.cellsOf e = 1)
    (h : DataW.trod enc P w base spare held fuel t cs = some x) : ∃ z A1 n1 p1 v A2 n2 p2 c bd A3 n3 p3 rs, cs = [.int .i64 z, .slice A1 n1 p1, .slice A2 n2 p2, .int .i64 bd, .slice A3 n3 p3] ∧ QR 0 w ((A1, n1, p1), (A2, n2, p2), (A3, n3, p3)) (z, v, c, bd, rs) := by
  obtain ⟨xs, n, _, _, hlen, hxl, hf⟩ := DataW.trod_struct hk h
  rw [hCk] at hlen
  match cs, hlen with
  | [v0, v1, v2, v3, v4], _ =>
    have h0 := hf 0 k0 rfl
    have h1 := hf 1 k1 rfl
    have h2 := hf 2 k2 rfl
    have h3 := hf 3 k3 rfl
    have h4 := hf 4 k4 rfl
    rw [q0, r0] at h0
    rw [q1, r1] at h1
    rw [q2, r2] at h2
    rw [q3, r3] at h3
    rw [q4, r4] at h4
    have e0 : xs[0]? = some (xs[0]'(by rw [hxl]; simp)) := List.getElem?_eq_getElem _
    have e1 : xs[1]? = some (xs[1]'(by rw [hxl]; simp)) := List.getElem?_eq_getElem _
    have e2 : xs[2]? = some (xs[2]'(by rw [hxl]; simp)) := List.getElem?_eq_getElem _
    have e3 : xs[3]? = some (xs[3]'(by rw [hxl]; simp)) := List.getElem?_eq_getElem _
    have e4 : xs[4]? = some (xs[4]'(by rw [hxl]; simp)) := List.getElem?_eq_getElem _
    have a0 := h0.trans e0
    have a1 := h1.trans e1
    have a2 := h2.trans e2
    have a3 := h3.trans e3
    have a4 := h4.trans e4
    obtain ⟨z0, hz0, _⟩ := DataW.trod_int j0 a0
    obtain ⟨A1, n1, p1, s1, hz1, hm1, hS1⟩ := trod_ints j1 he hC a1
    obtain ⟨A2, n2, p2, s2, hz2, hm2, hS2⟩ := trod_ints j2 he hC a2
    obtain ⟨z3, hz3, _⟩ := DataW.trod_int j3 a3
    obtain ⟨A3, n3, p3, rs, hz4, hQ⟩ := trod_intss j4 hC' ht he hC a4
    rw [hz1] at a1
    rw [hz2] at a2
    have hc1 := trod_cap j1 a1
    have hc2 := trod_cap j2 a2
    simp at hz0 hz1 hz2 hz3 hz4
    exact ⟨z0, A1, n1, p1, s1, A2, n2, p2, s2, z3, A3, n3, p3, rs, by rw [hz0, hz1, hz2, hz3, hz4], QI.of hm1 hc1 hS1, QI.of hm2 hc2 hS2, hQ⟩

theorem trod_rules {tt t sI e : TypeId} {fuel : Nat} {cs : List Value} {x : DataW H × List MemPlace} {k0 k1 k2 k3 k4 : Field} (htt : P.underlying tt = some (.slice t)) (hk : P.underlying t = some (.struct #[k0, k1, k2, k3, k4])) (hCk : P.cellsOf t = 5)
    (q0 : k0.offset = 0) (q1 : k1.offset = 1) (q2 : k2.offset = 2) (q3 : k3.offset = 3) (q4 : k4.offset = 4) (r0 : P.cellsOf k0.type = 1) (r1 : P.cellsOf k1.type = 1) (r2 : P.cellsOf k2.type = 1) (r3 : P.cellsOf k3.type = 1) (r4 : P.cellsOf k4.type = 1)
    (j0 : P.underlying k0.type = some (.int .i64)) (j1 : P.underlying k1.type = some (.slice e)) (j2 : P.underlying k2.type = some (.slice e)) (j3 : P.underlying k3.type = some (.int .i64)) (j4 : P.underlying k4.type = some (.slice sI))
    (hC' : P.cellsOf sI = 1) (ht : P.underlying sI = some (.slice e)) (he : P.underlying e = some (.int .i64)) (hC : P.cellsOf e = 1)
    (h : DataW.trod enc P w base spare held fuel tt cs = some x) : ∃ A n cap rs, cs = [.slice A n cap] ∧ QRS 0 w (A, n, cap) rs := by
  obtain ⟨A, n, cap, f, rfl, hn, _, hS, hel⟩ := open_slice_seg (by omega) htt hCk h
  obtain ⟨xs, hl, hx⟩ := list_of_range (fun i (x : Hr × Rl) => f i = [.int .i64 x.2.1, .slice x.1.1.1 x.1.1.2.1 x.1.1.2.2, .slice x.1.2.1.1 x.1.2.1.2.1 x.1.2.1.2.2, .int .i64 x.2.2.2.2.1, .slice x.1.2.2.1 x.1.2.2.2.1 x.1.2.2.2.2] ∧ QR 0 w x.1 x.2) n fun i hi => by
    obtain ⟨k, y, hy⟩ := hel i hi
    obtain ⟨z, A1, n1, p1, v, A2, n2, p2, c, bd, A3, n3, p3, rs, e, hQ⟩ := trod_rule hk hCk q0 q1 q2 q3 q4 r0 r1 r2 r3 r4 j0 j1 j2 j3 j4 hC' ht he hC hy
    exact ⟨(((A1, n1, p1), (A2, n2, p2), (A3, n3, p3)), (z, v, c, bd, rs)), e, hQ⟩
  have hseg : Seg w 5 A n (encR (xs.map Prod.fst) (xs.map Prod.snd)) := by rw [encR_flat, ← flat_congr f _ n xs hl fun i x h => (hx i x h).1]; exact hS
  exact ⟨A, n, cap, xs.map Prod.snd, rfl, hn, xs.map Prod.fst, by simp, hseg, hseg.old, inG_of xs fun i x h => (hx i x h).2⟩
end

section
variable {H : Type} {enc : TypeId × Value → H} {w : World} {base : Nat} {spare : Nat → Bool} {held : Bool} {r : Reach} {b0 : Nat} {v : Value} {d : DataW H} {p : List MemPlace}
set_option maxRecDepth 100000 in
theorem arg_model (hv : Value.okWide Try.prog w r b0 50 v) (h : DataW.Trod enc Try.prog w base spare held 50 v d p) :
    ∃ A n cap B m q vs rs, v = .agg #[.slice A n cap, .slice B m q] ∧ QI 0 w (A, n, cap) vs ∧ QRS 0 w (B, m, q) rs := by
  obtain ⟨cs, rfl, _⟩ := okWide_struct Try.underlying50 hv
  obtain ⟨fuel, hf⟩ := h
  obtain ⟨v0, v1, m, y0, y1, e, h0, h1⟩ := trod_pair Try.underlying50 (by kernel_rfl) rfl rfl (by kernel_rfl) (by kernel_rfl) hf
  obtain ⟨A, n, cap, vs, e0, hn, hs⟩ := trod_ints Try.underlying22 Try.underlying3 (by kernel_rfl) h0
  obtain ⟨B, k, q, rs, e1, hr⟩ := trod_rules Try.underlying48 Try.underlying114 (by kernel_rfl) rfl rfl rfl rfl rfl (by kernel_rfl) (by kernel_rfl) (by kernel_rfl) (by kernel_rfl) (by kernel_rfl)
    Try.underlying3 Try.underlying22 Try.underlying22 Try.underlying3 Try.underlying89 (by kernel_rfl) Try.underlying22 Try.underlying3 (by kernel_rfl) h1
  rw [e0] at h0
  refine ⟨A, n, cap, B, k, q, vs, rs, ?_, QI.of hn (trod_cap Try.underlying22 h0) hs, hr⟩
  obtain ⟨l⟩ := cs
  injection e0 with e0; injection e1 with e1
  simp [Value.cells] at e
  rw [e, e0, e1]
end
end Go.Proofs.Ytgoaggojbcdgeaa
