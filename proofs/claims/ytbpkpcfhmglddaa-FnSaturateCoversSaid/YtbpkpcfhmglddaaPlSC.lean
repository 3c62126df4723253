/- Plain: a saturated constraint with the bound 1 is the clause of its literals. -/
import Derived.Test.YtbpkpcfhmglddaaPlCI
import Derived.Test.YtbpkpcfhmglddaaPlS
namespace Go.Proofs.Ytbpkpcfhmglddaa

def litsOf (ts : List Tm) : List Int := ts.map fun t => t.2
theorem good_pair : ∀ (ts : List Tm) (v : Int), goodB v ts = true → (∀ l ∈ litsOf ts, litB l = true ∧ v < absI l) ∧ (litsOf ts).Pairwise (fun x y => absI x < absI y) ∧ ∀ t ∈ ts, 1 ≤ t.1
  | [], _, _ => ⟨fun l hl => (by cases hl), List.Pairwise.nil, fun t ht => (by cases ht)⟩
  | (c, l) :: ts, v, h => by
    rw [goodB_cons, Bool.and_eq_true, decide_eq_true_eq] at h
    obtain ⟨⟨h1, h2, h3, _⟩, h5⟩ := h
    obtain ⟨i1, i2, i3⟩ := good_pair ts (absI l) h5
    refine ⟨fun x hx => ?_, ?_, fun t ht => ?_⟩
    · rcases List.mem_cons.1 hx with e | hx
      · rw [e]; exact ⟨h1, h2⟩
      · have := i1 x hx
        exact ⟨this.1, by omega⟩
    · exact List.pairwise_cons.2 ⟨fun x hx => (i1 x hx).2, i2⟩
    · rcases List.mem_cons.1 ht with e | ht
      · rw [e]; exact h3
      · exact i3 t ht
theorem pair_noneg : ∀ (L : List Int), L.Pairwise (fun x y => absI x < absI y) → (∀ l ∈ L, litB l = true) → ∀ l ∈ L, -l ∉ L
  | [], _, _, _, hl, _ => by cases hl
  | x :: L, hp, hL, l, hl, hn => by
    rw [List.pairwise_cons] at hp
    have ha : absI (-l) = absI l := by unfold absI; split <;> split <;> omega
    have hl0 := ((litB_iff l).1 (hL l hl)).1
    rcases List.mem_cons.1 hl with e | h1
    · rcases List.mem_cons.1 hn with e2 | h2
      · omega
      · have := hp.1 _ h2; rw [ha, e] at this; omega
    · rcases List.mem_cons.1 hn with e2 | h2
      · have := hp.1 _ h1; rw [← e2, ha] at this; omega
      · exact pair_noneg L hp.2 (fun k hk => hL k (by simp [hk])) l h1 h2
theorem cv_coOk {ts : List Tm} (h : cvB ts 1 = true) : coOk (litsOf ts) = true := by
  obtain ⟨h1, h2, _⟩ := good_pair ts 0 (cvB_good h)
  exact coOk_of fun l hl => ⟨(h1 l hl).1, pair_noneg _ h2 (fun k hk => (h1 k hk).1) l hl⟩
theorem cv_coB {ts : List Tm} (h : cvB ts 1 = true) : coB (litsOf ts) = true :=
  coB_of (by have := cvB_len h; unfold litsOf; rw [List.length_map]; omega) (cv_coOk h)
theorem cv_coD {ts : List Tm} (h : cvB ts 1 = true) : coD (litsOf ts) = 1 := by unfold coD; rw [if_pos (cv_coB h)]
theorem cv_coT {ts : List Tm} (h : cvB ts 1 = true) : coT (litsOf ts) = saT ts 1 := by
  obtain ⟨h1, h2, h3⟩ := good_pair ts 0 (cvB_good h)
  unfold coT
  rw [if_pos (cv_coB h)]
  obtain ⟨L, e, i1, i2⟩ := coUp_inv (litsOf ts) (cv_coOk h) 12 (Nat.le_refl _)
  have hL : L = litsOf ts := absI_ext _ _ i2 h2 fun x => by
    rw [i1]
    exact ⟨fun hx => hx.1, fun hx => ⟨hx, by have := absI_pos (h1 x hx).1; omega⟩⟩
  rw [e, hL]
  unfold saT litsOf satMap
  rw [if_pos (by omega), List.map_map]
  refine List.map_congr_left fun t ht => ?_
  have := h3 t ht
  unfold satM
  simp only [Function.comp]
  congr 1
  split <;> omega
theorem litsOf_take {ts : List Tm} {k : Nat} {c l : Int} (h : ts[k]? = some (c, l)) : litsOf (ts.take (k + 1)) = litsOf (ts.take k) ++ [l] := by
  rw [take_of_get _ _ _ h]; simp [litsOf]
end Go.Proofs.Ytbpkpcfhmglddaa
