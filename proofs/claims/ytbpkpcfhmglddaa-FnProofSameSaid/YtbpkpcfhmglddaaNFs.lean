/- NormalForm, the program's and the reference's: the walks over the normal forms of NF and NFi. -/
import Derived.Test.YtbpkpcfhmglddaaNF
import Derived.Test.YtbpkpcfhmglddaaInts
namespace Go.Proofs.Ytbpkpcfhmglddaa
open Go.RowKit

theorem smT_no {ts : List Tm} {t : Tm} (hm : t ∈ ts) (h : litB t.2 = false ∨ t.1 < -1000 ∨ 1000 < t.1) : smT ts = false := by
  rw [Bool.eq_false_iff]
  intro hs
  have := smT_at hs t hm
  rcases h with h | h | h
  · rw [h] at this; cases this.1
  · omega
  · omega
theorem smT_snoc {ts : List Tm} {t : Tm} (h : smT ts = true) (hl : litB t.2 = true) (h1 : -1000 ≤ t.1) (h2 : t.1 ≤ 1000) : smT (ts ++ [t]) = true :=
  smT_append h (List.all_eq_true.2 fun x hx => by
    obtain rfl : x = t := by simpa using hx
    rw [Bool.and_eq_true]; exact ⟨hl, by unfold inB; rw [decide_eq_true_eq]; omega⟩)
theorem nfB_short {ts : List Tm} {bd : Int} (h : 40 < ts.length ∨ bd < -20000 ∨ 20000 < bd ∨ smT ts = false) : nfB ts bd = false := by
  rw [Bool.eq_false_iff]
  intro hb
  obtain ⟨h1, h2, h3, _⟩ := nfB_parts hb
  rcases h with h | h | h | h
  · omega
  · omega
  · omega
  · rw [h] at h3; cases h3
theorem nfB_small {ts : List Tm} {bd : Int} (h1 : ts.length ≤ 40) (h2 : -20000 ≤ bd ∧ bd ≤ 20000) (h3 : smT ts = true) : nfB ts bd = noB ts bd := by
  unfold nfB; rw [decide_eq_true h1, h3]; unfold inB; rw [decide_eq_true h2]; rfl
theorem nf_v {ts : List Tm} {bd : Int} (h1 : ts.length ≤ 40) (h2 : -20000 ≤ bd ∧ bd ≤ 20000) (h3 : smT ts = true) : vT ts bd = nfT ts bd ∧ vD ts bd = nfD ts bd := by
  unfold vT vD nfT nfD; rw [nfB_small h1 h2 h3]; exact ⟨rfl, rfl⟩

end Go.Proofs.Ytbpkpcfhmglddaa
