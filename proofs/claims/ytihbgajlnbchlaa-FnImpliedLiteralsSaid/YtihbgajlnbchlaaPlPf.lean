/- Propagation: what it keeps, where it ends. Plain laws; no program is named here. -/
import Derived.Test.YtihbgajlnbchlaaPlPr
import Derived.Test.YtihbgajlnbchlaaPlC
import Derived.Test.YtihbgajlnbchlaaPlP
import Derived.Test.YtihbgajlnbchlaaSats
import Derived.Test.YtihbgajlnbchlaaNeg
namespace Go.Proofs.Ytihbgajlnbchlaa

theorem litB_negL {l : Int} (h : litB l = true) : litB (-l) = true := by
  rw [litB_iff] at h ⊢; omega
theorem stI_negL (p : List Int) {l : Int} (h : litB l = true) : stI p (-l) = - stI p l := by
  rw [litB_iff] at h
  unfold stI
  by_cases h0 : 0 < l
  · rw [if_neg (by omega), if_pos h0]; simp
  · rw [if_pos (by omega), if_neg h0]; simp
theorem stI_bd {p : List Int} (hp : pvB p = true) {l : Int} (h : litB l = true) : -1 ≤ stI p l ∧ stI p l ≤ 1 := by
  obtain ⟨m, hm, hl⟩ := lit_cases h
  have hv := pvB_at hp
  obtain ⟨z, hz⟩ : ∃ z, p[m]? = some z := ⟨p[m]'(by omega), List.getElem?_eq_getElem _⟩
  have hb := hv.2 m z hz
  rcases hl with rfl | rfl
  · rw [stI_pos p m z hz]; exact hb
  · rw [stI_neg p m z hz]; omega
theorem stI_asg {p : List Int} (hp : pvB p = true) {l k : Int} (hl : litB l = true) (hk : litB k = true) : stI (asg p l) k = if k = l then 1 else if k = -l then -1 else stI p k := by
  obtain ⟨m, hm, hlm⟩ := lit_cases hl
  obtain ⟨j, hj, hkj⟩ := lit_cases hk
  have hlen := (pvB_at hp).1
  obtain ⟨z, hz⟩ : ∃ z, p[j]? = some z := ⟨p[j]'(by omega), List.getElem?_eq_getElem _⟩
  have e1 : ∀ x : Int, (p.set m x)[j]? = some (if m = j then x else z) := by
    intro x
    by_cases e : m = j
    · subst e; rw [List.getElem?_set_self (by omega), if_pos rfl]
    · rw [List.getElem?_set_ne e, if_neg e, hz]
  have ha : asg p l = p.set m (if 0 < l then 1 else -1) := by
    unfold asg
    rcases hlm with rfl | rfl
    · rw [if_pos (by omega), if_pos (by omega), show ((m : Int) + 1 - 1).toNat = m from by omega]
    · rw [if_neg (by omega), if_neg (by omega), show (- -((m : Int) + 1) - 1).toNat = m from by omega]
  rw [ha]
  rcases hkj with rfl | rfl
  · rw [stI_pos _ j _ (e1 _), stI_pos p j z hz]
    rcases hlm with rfl | rfl
    · by_cases e : m = j
      · subst e; rw [if_pos rfl, if_pos (by omega), if_pos rfl]
      · rw [if_neg e, if_neg (by omega), if_neg (by omega)]
    · by_cases e : m = j
      · subst e; rw [if_pos rfl, if_neg (by omega), if_neg (by omega), if_pos (by omega)]
      · rw [if_neg e, if_neg (by omega), if_neg (by omega)]
  · rw [stI_neg _ j _ (e1 _), stI_neg p j z hz]
    rcases hlm with rfl | rfl
    · by_cases e : m = j
      · subst e; rw [if_pos rfl, if_pos (by omega), if_neg (by omega), if_pos rfl]
      · rw [if_neg e, if_neg (by omega), if_neg (by omega)]
    · by_cases e : m = j
      · subst e; rw [if_pos rfl, if_neg (by omega), if_pos rfl]; omega
      · rw [if_neg e, if_neg (by omega), if_neg (by omega)]

/-- q extends p -/
def leP (p q : List Int) : Prop := ∀ l, litB l = true → stI p l ≠ 0 → stI q l = stI p l
theorem leP.refl (p : List Int) : leP p p := fun _ _ _ => rfl
theorem leP.trans {p q r : List Int} (h : leP p q) (k : leP q r) : leP p r := fun l hl h0 => by
  have e := h l hl h0
  rw [k l hl (by rw [e]; exact h0), e]

theorem cvC_mem {c : Cn} (h : cvC c = true) {t : Tm} (ht : t ∈ c.1) : litB t.2 = true ∧ 1 ≤ t.1 ∧ t.1 ≤ 1000 :=
  goodB_mem c.1 0 (cvB_good h) t ht

/-- the slack falls -/
theorem slkT_le {p q : List Int} (h : leP p q) : ∀ ts : List Tm, (∀ t ∈ ts, litB t.2 = true ∧ 1 ≤ t.1) → slkT q ts ≤ slkT p ts := by
  intro ts
  induction ts with
  | nil => intro _; exact Int.le_refl _
  | cons t ts ih =>
    intro hm
    have h1 := ih fun x hx => hm x (by simp [hx])
    have h2 := hm t (by simp)
    simp only [slkT, List.map_cons, List.sum_cons] at h1 ⊢
    have h3 : 0 ≤ stI q t.2 → 0 ≤ stI p t.2 := fun h0 => by
      by_cases e : stI p t.2 = 0
      · omega
      · have := h t.2 h2.1 e; omega
    by_cases hq : 0 ≤ stI q t.2
    · rw [if_pos hq, if_pos (h3 hq)]; omega
    · rw [if_neg hq]; split <;> omega
theorem slkT_lt {p q : List Int} (h : leP p q) : ∀ (ts : List Tm), (∀ t ∈ ts, litB t.2 = true ∧ 1 ≤ t.1) → ∀ t ∈ ts, 0 ≤ stI p t.2 → stI q t.2 < 0 → slkT q ts + t.1 ≤ slkT p ts := by
  intro ts
  induction ts with
  | nil => intro _ t ht; cases ht
  | cons x ts ih =>
    intro hm t ht h1 h2
    rcases List.mem_cons.1 ht with rfl | ht
    · have h3 := slkT_le h ts fun x hx => hm x (by simp [hx])
      simp only [slkT, List.map_cons, List.sum_cons] at h3 ⊢
      rw [if_pos h1, if_neg (by omega)]; omega
    · have h3 := ih (fun x hx => hm x (by simp [hx])) t ht h1 h2
      have h4 := hm x (by simp)
      have h5 : 0 ≤ stI q x.2 → 0 ≤ stI p x.2 := fun h0 => by
        by_cases e : stI p x.2 = 0
        · omega
        · have := h x.2 h4.1 e; omega
      simp only [slkT, List.map_cons, List.sum_cons] at h3 ⊢
      by_cases hq : 0 ≤ stI q x.2
      · rw [if_pos hq, if_pos (h5 hq)]; omega
      · rw [if_neg hq]; split <;> omega
theorem slkC_le {p q : List Int} (h : leP p q) {c : Cn} (hc : cvC c = true) : slkC q c ≤ slkC p c := by
  have := slkT_le h c.1 fun t ht => ⟨(cvC_mem hc ht).1, (cvC_mem hc ht).2.1⟩
  unfold slkC; omega

/-- no constraint is violated, none implies a literal -/
def cloC (q : List Int) (c : Cn) : Prop := 0 ≤ slkC q c ∧ ∀ t ∈ c.1, stI q t.2 = 0 → t.1 ≤ slkC q c
theorem imC_iff {q : List Int} {c : Cn} (h : 0 ≤ slkC q c) (l : Int) : l ∈ imC q c ↔ ∃ t ∈ c.1, stI q t.2 = 0 ∧ slkC q c < t.1 ∧ t.2 = l := by
  unfold imC imS
  rw [if_pos h]
  unfold imL
  rw [List.mem_map]
  constructor
  · rintro ⟨t, ht, rfl⟩
    obtain ⟨h1, h2⟩ := List.mem_filter.1 ht
    rw [Bool.and_eq_true, decide_eq_true_eq, decide_eq_true_eq] at h2
    exact ⟨t, h1, h2.1, h2.2, rfl⟩
  · rintro ⟨t, h1, h2, h3, rfl⟩
    exact ⟨t, List.mem_filter.2 ⟨h1, by rw [Bool.and_eq_true, decide_eq_true_eq, decide_eq_true_eq]; exact ⟨h2, h3⟩⟩, rfl⟩
theorem cloC_iff {q : List Int} {c : Cn} : cloC q c ↔ (0 ≤ slkC q c ∧ imC q c = []) := by
  constructor
  · rintro ⟨h1, h2⟩
    refine ⟨h1, ?_⟩
    cases hI : imC q c with
    | nil => rfl
    | cons l ls =>
      obtain ⟨t, a, b, d, _⟩ := (imC_iff h1 l).1 (by rw [hI]; simp)
      have := h2 t a b; omega
  · rintro ⟨h1, h2⟩
    refine ⟨h1, fun t ht h0 => ?_⟩
    rcases Int.lt_or_le (slkC q c) t.1 with hlt | hle
    · have := (imC_iff h1 t.2).2 ⟨t, ht, h0, hlt, rfl⟩
      rw [h2] at this; cases this
    · exact hle

theorem stI_asgL (ls : List Int) : ∀ {p : List Int}, pvB p = true → (∀ l ∈ ls, litB l = true) → ∀ k, litB k = true → k ∉ ls → -k ∉ ls → stI (asgL p ls) k = stI p k := by
  induction ls with
  | nil => intro p _ _ k _ _ _; rfl
  | cons l ls ih =>
    intro p hp hl k hk h1 h2
    simp only [List.mem_cons, not_or] at h1 h2
    show stI (asgL (asg p l) ls) k = _
    rw [ih (pvB_asg hp l) (fun x hx => hl x (by simp [hx])) k hk h1.2 h2.2, stI_asg hp (hl l (by simp)) hk, if_neg h1.1, if_neg (by have := h2.1; omega)]
theorem stI_asgL_mem (ls : List Int) : ∀ {p : List Int}, pvB p = true → (∀ l ∈ ls, litB l = true) → (∀ l ∈ ls, -l ∉ ls) → ∀ k ∈ ls, stI (asgL p ls) k = 1 := by
  induction ls with
  | nil => intro p _ _ _ k hk; cases hk
  | cons l ls ih =>
    intro p hp hl hd k hk
    show stI (asgL (asg p l) ls) k = 1
    by_cases hin : k ∈ ls
    · exact ih (pvB_asg hp l) (fun x hx => hl x (by simp [hx])) (fun x hx h => hd x (by simp [hx]) (by simp [h])) k hin
    · have hk' : k = l := by rcases List.mem_cons.1 hk with h | h; exact h; exact absurd h hin
      subst hk'
      have hn : -k ∉ ls := fun h => hd k (by simp) (by simp [h])
      rw [stI_asgL ls (pvB_asg hp k) (fun x hx => hl x (by simp [hx])) k (hl k (by simp)) hin hn, stI_asg hp (hl k (by simp)) (hl k (by simp)), if_pos rfl]

theorem imC_lits {p : List Int} {c : Cn} (hc : cvC c = true) : (∀ l ∈ imC p c, litB l = true) ∧ (∀ l ∈ imC p c, -l ∉ imC p c) := by
  refine ⟨fun l hl => (imC_mem hc hl).1, fun l hl hn => ?_⟩
  have h1 := imC_mem hc hl
  by_cases h0 : 0 ≤ slkC p c
  · obtain ⟨t, ht, _, _, e1⟩ := (imC_iff h0 l).1 hl
    obtain ⟨s, hs, _, _, e2⟩ := (imC_iff h0 (-l)).1 hn
    have hlb := h1.1
    rw [litB_iff] at hlb
    have := goodB_inj c.1 0 (cvB_good hc) t ht s hs (by rw [e1, e2]; unfold absI; split <;> split <;> omega)
    subst this
    omega
  · unfold imC imS at hl; rw [if_neg h0] at hl; cases hl
/-- what a constraint implies extends the assignment -/
theorem leP_imC {p : List Int} {c : Cn} (hp : pvB p = true) (hc : cvC c = true) : leP p (asgL p (imC p c)) := by
  intro k hk h0
  obtain ⟨a, _⟩ := imC_lits (p := p) hc
  refine stI_asgL _ hp a k hk (fun h => h0 (imC_mem hc h).2) fun h => h0 ?_
  have := (imC_mem hc h).2
  rw [stI_negL p hk] at this; omega
/-- a closed assignment that extends another extends what a constraint implies there -/
theorem imC_leP {p q : List Int} {c : Cn} (hp : pvB p = true) (hq : pvB q = true) (hc : cvC c = true) (h : leP p q) (hq2 : cloC q c) : leP (asgL p (imC p c)) q := by
  obtain ⟨a, b⟩ := imC_lits (p := p) hc
  have hsl := slkC_le h hc
  have hp0 : 0 ≤ slkC p c := Int.le_trans hq2.1 hsl
  have key : ∀ l ∈ imC p c, stI q l = 1 := by
    intro l hl
    obtain ⟨t, ht, h1, h2, rfl⟩ := (imC_iff hp0 l).1 hl
    have hb := stI_bd hq (a _ hl)
    by_cases h3 : stI q t.2 = 0
    · have := hq2.2 t ht h3; omega
    · by_cases h4 : stI q t.2 < 0
      · have := slkT_lt h c.1 (fun x hx => ⟨(cvC_mem hc hx).1, (cvC_mem hc hx).2.1⟩) t ht (by omega) h4
        have := hq2.1
        unfold slkC at *; omega
      · omega
  intro k hk h0
  by_cases h1 : k ∈ imC p c
  · rw [key k h1, stI_asgL_mem _ hp a b k h1]
  · by_cases h2 : -k ∈ imC p c
    · have e1 := key _ h2
      have e2 := stI_asgL_mem _ hp a b _ h2
      rw [stI_negL _ hk] at e1 e2; omega
    · have e := stI_asgL _ hp a k hk h1 h2
      rw [e] at h0 ⊢
      exact h k hk h0

def cloL (q : List Int) (cs : List Cn) : Prop := ∀ c ∈ cs, cloC q c

theorem passP_pv (cs : List Cn) : ∀ {p : List Int} (i : Int) (ch : Bool), pvB p = true → pvB (passP cs p i ch).1 = true := by
  induction cs with
  | nil => intro p i ch h; exact h
  | cons c cs ih =>
    intro p i ch h
    rw [passP]; split
    · exact h
    · exact ih _ _ (pvB_asgL _ h)
theorem passP_ext (cs : List Cn) : ∀ {p : List Int} (i : Int) (ch : Bool), pvB p = true → cs.all cvC = true → leP p (passP cs p i ch).1 := by
  induction cs with
  | nil => intro p i ch _ _; exact leP.refl _
  | cons c cs ih =>
    intro p i ch h hv
    rw [List.all_cons, Bool.and_eq_true] at hv
    rw [passP]; split
    · exact leP.refl _
    · exact (leP_imC h hv.1).trans (ih _ _ (pvB_asgL _ h) hv.2)
/-- below a closed assignment nothing is violated -/
theorem passP_below (cs : List Cn) : ∀ {p q : List Int} (i : Int) (ch : Bool), pvB p = true → pvB q = true → cs.all cvC = true → leP p q → cloL q cs → (passP cs p i ch).2.1 = -1 ∧ leP (passP cs p i ch).1 q := by
  induction cs with
  | nil => intro p q i ch _ _ _ h _; exact ⟨rfl, h⟩
  | cons c cs ih =>
    intro p q i ch hp hq hv h hc
    rw [List.all_cons, Bool.and_eq_true] at hv
    have h1 := hc c (by simp)
    have h2 := slkC_le h hv.1
    rw [passP, if_neg (by have := h1.1; omega)]
    exact ih _ _ (pvB_asgL _ hp) hq hv.2 (imC_leP hp hq hv.1 h h1) fun x hx => hc x (by simp [hx])
theorem passP_conf (cs : List Cn) : ∀ {p : List Int} (i : Int) (ch : Bool), 0 ≤ i → (passP cs p i ch).2.1 = -1 ∨ (0 ≤ (passP cs p i ch).2.1 ∧ ∃ c ∈ cs, slkC (passP cs p i ch).1 c < 0) := by
  induction cs with
  | nil => intro p i ch _; exact .inl rfl
  | cons c cs ih =>
    intro p i ch hi
    rw [passP]; split
    · rename_i h; exact .inr ⟨hi, c, by simp, h⟩
    · rcases ih (p := asgL p (imC p c)) (i + 1) (ch || !(imC p c).isEmpty) (by omega) with h | ⟨h1, x, hx, h2⟩
      · exact .inl h
      · exact .inr ⟨h1, x, by simp [hx], h2⟩
theorem passP_ch (cs : List Cn) : ∀ {p : List Int} (i : Int), (passP cs p i true).2.2 = true := by
  induction cs with
  | nil => intro p i; rfl
  | cons c cs ih =>
    intro p i
    rw [passP]; split
    · rfl
    · rw [Bool.true_or]; exact ih _
/-- a pass that makes nothing true and meets no conflict: closed -/
theorem passP_still (cs : List Cn) : ∀ {p : List Int} (i : Int), 0 ≤ i → (passP cs p i false).2.1 < 0 → (passP cs p i false).2.2 = false → (passP cs p i false).1 = p ∧ cloL p cs := by
  induction cs with
  | nil => intro p i _ _ _; exact ⟨rfl, fun c hc => by cases hc⟩
  | cons c cs ih =>
    intro p i hi h1 h2
    by_cases hs : slkC p c < 0
    · rw [passP, if_pos hs] at h1; simp only at h1; omega
    · rw [passP, if_neg hs] at h1 h2 ⊢
      cases hI : imC p c with
      | cons l ls => rw [hI] at h2; simp only [List.isEmpty_cons, Bool.not_false, Bool.or_true] at h2; rw [passP_ch] at h2; cases h2
      | nil =>
        rw [hI] at h1 h2
        simp only [List.isEmpty_nil, Bool.not_true, Bool.or_false] at h1 h2 ⊢
        have h3 : asgL p [] = p := rfl
        rw [h3] at h1 h2 ⊢
        have := ih (i + 1) (by omega) h1 h2
        exact ⟨this.1, fun x hx => by
          rcases List.mem_cons.1 hx with rfl | hx
          · exact cloC_iff.2 ⟨by omega, hI⟩
          · exact this.2 x hx⟩
theorem passP_clo (cs : List Cn) : ∀ {p : List Int} (i : Int), cloL p cs → passP cs p i false = (p, -1, false) := by
  induction cs with
  | nil => intro p i _; rfl
  | cons c cs ih =>
    intro p i h
    have h1 := cloC_iff.1 (h c (by simp))
    rw [passP, if_neg (by omega), h1.2]
    exact ih (i + 1) fun x hx => h x (by simp [hx])
theorem passP_zc (cs : List Cn) : ∀ {p : List Int} (i : Int) (ch : Bool), pvB p = true → cs.all cvC = true → zc (passP cs p i ch).1 ≤ zc p ∧ (ch = false → (passP cs p i ch).2.2 = true → zc (passP cs p i ch).1 < zc p) := by
  induction cs with
  | nil => intro p i ch _ _; exact ⟨Nat.le_refl _, fun h1 h2 => by simp only [passP] at h2; rw [h1] at h2; cases h2⟩
  | cons c cs ih =>
    intro p i ch hp hv
    rw [List.all_cons, Bool.and_eq_true] at hv
    rw [passP]; split
    · exact ⟨Nat.le_refl _, fun h1 h2 => by simp only at h2; rw [h1] at h2; cases h2⟩
    · have h1 := ih (p := asgL p (imC p c)) (i + 1) (ch || !(imC p c).isEmpty) (pvB_asgL _ hp) hv.2
      have h2 := zc_asgL (imC p c) p
      refine ⟨Nat.le_trans h1.1 h2, fun h3 h4 => ?_⟩
      by_cases hI : (imC p c).isEmpty = true
      · exact Nat.lt_of_lt_of_le (h1.2 (by rw [h3, hI]; rfl) h4) h2
      · exact Nat.lt_of_le_of_lt h1.1 (zc_imC hp hv.1 (by simpa using hI))

theorem propP_pv (cs : List Cn) : ∀ (f : Nat) {p : List Int}, pvB p = true → pvB (propP cs f p).1 = true := by
  intro f
  induction f with
  | zero => intro p h; exact h
  | succ f ih =>
    intro p h
    rw [propP]
    have h1 := passP_pv cs 0 false h
    split
    · exact h1
    · split
      · exact ih h1
      · exact h1
theorem propP_ext (cs : List Cn) : ∀ (f : Nat) {p : List Int}, pvB p = true → cs.all cvC = true → leP p (propP cs f p).1 := by
  intro f
  induction f with
  | zero => intro p _ _; exact leP.refl _
  | succ f ih =>
    intro p h hv
    rw [propP]
    have h1 := passP_pv cs 0 false h
    have h2 := passP_ext cs 0 false h hv
    split
    · exact h2
    · split
      · exact h2.trans (ih h1 hv)
      · exact h2
theorem propP_below (cs : List Cn) : ∀ (f : Nat) {p q : List Int}, pvB p = true → pvB q = true → cs.all cvC = true → leP p q → cloL q cs → (propP cs f p).2 = -1 ∧ leP (propP cs f p).1 q := by
  intro f
  induction f with
  | zero => intro p q _ _ _ h _; exact ⟨rfl, h⟩
  | succ f ih =>
    intro p q hp hq hv h hc
    obtain ⟨h1, h2⟩ := passP_below cs 0 false hp hq hv h hc
    rw [propP]
    rw [if_neg (by omega)]
    split
    · exact ih (passP_pv cs 0 false hp) hq hv h2 hc
    · exact ⟨rfl, h2⟩
/-- the end: a conflict, or closed -/
theorem propP_end (cs : List Cn) : ∀ (f : Nat) {p : List Int}, zc p < f → pvB p = true → cs.all cvC = true →
    ((propP cs f p).2 = -1 ∧ cloL (propP cs f p).1 cs) ∨ (0 ≤ (propP cs f p).2 ∧ ∃ c ∈ cs, slkC (propP cs f p).1 c < 0) := by
  intro f
  induction f with
  | zero => intro p h; omega
  | succ f ih =>
    intro p hz hp hv
    rw [propP]
    have h1 := passP_zc cs 0 false hp hv
    rcases passP_conf cs (p := p) 0 false (Int.le_refl _) with h2 | ⟨h2, h3⟩
    · rw [if_neg (by omega)]
      by_cases h4 : (passP cs p 0 false).2.2 = true
      · rw [if_pos h4]
        exact ih (by have := h1.2 rfl h4; omega) (passP_pv cs 0 false hp) hv
      · rw [if_neg h4]
        have h5 := passP_still cs (p := p) 0 (Int.le_refl _) (by omega) (by simpa using h4)
        exact .inl ⟨rfl, by rw [h5.1]; exact h5.2⟩
    · rw [if_pos h2]; exact .inr ⟨h2, h3⟩
theorem propP_end13 {cs : List Cn} {p : List Int} (hp : pvB p = true) (hv : cs.all cvC = true) :
    ((propP cs 13 p).2 = -1 ∧ cloL (propP cs 13 p).1 cs) ∨ (0 ≤ (propP cs 13 p).2 ∧ ∃ c ∈ cs, slkC (propP cs 13 p).1 c < 0) := by
  refine propP_end cs 13 ?_ hp hv
  have h1 := (pvB_at hp).1
  have h2 : zc p ≤ p.length := List.count_le_length
  omega
theorem propP_clo {cs : List Cn} {q : List Int} (h : cloL q cs) : propP cs 13 q = (q, -1) := by
  rw [propP, passP_clo cs 0 h]; rfl

/-- FnPropagateFixed -/
theorem prop_again {cs : List Cn} {p : List Int} (hp : pvB p = true) (hv : cs.all cvC = true) (h : (propP cs 13 p).2 < 0) : propP cs 13 (propP cs 13 p).1 = ((propP cs 13 p).1, -1) := by
  rcases propP_end13 hp hv with ⟨_, h2⟩ | ⟨h1, _⟩
  · exact propP_clo h2
  · omega
theorem prop_again_bad {cs : List Cn} {p : List Int} (hp : pvB p = true) (hv : cs.all cvC = true) (h : 0 ≤ (propP cs 13 p).2) : 0 ≤ (propP cs 13 (propP cs 13 p).1).2 := by
  rcases propP_end13 hp hv with ⟨h1, _⟩ | ⟨_, c, hc, h2⟩
  · omega
  · have hq := propP_pv cs 13 hp
    rcases propP_end13 hq hv with ⟨_, h4⟩ | ⟨h3, _⟩
    · have h5 := slkC_le (propP_ext cs 13 hq hv) (List.all_eq_true.1 hv c hc)
      have := (h4 c hc).1; omega
    · exact h3
theorem prop_ext_at {cs : List Cn} {p : List Int} (hp : pvB p = true) (hv : cs.all cvC = true) {i : Nat} {z : Int} (hz : p[i]? = some z) (h0 : z ≠ 0) : (propP cs 13 p).1[i]? = some z := by
  have hl := (pvB_at hp).1
  have hi : i < p.length := (List.getElem?_eq_some_iff.1 hz).1
  have hq := (pvB_at (propP_pv cs 13 hp)).1
  obtain ⟨y, hy⟩ : ∃ y, (propP cs 13 p).1[i]? = some y := ⟨(propP cs 13 p).1[i]'(by omega), List.getElem?_eq_getElem _⟩
  have h1 := propP_ext cs 13 hp hv ((i : Int) + 1) (by rw [litB_iff]; omega) (by rw [stI_pos p i z hz]; exact h0)
  rw [stI_pos p i z hz, stI_pos _ i y hy] at h1
  rw [hy, h1]
/-- FnPropagateMonotone -/
theorem prop_mono {cs ds : List Cn} {p : List Int} (hp : pvB p = true) (hv : cs.all cvC = true) (hw : ds.all cvC = true) (hsub : ∀ c ∈ cs, c ∈ ds) (h : (propP ds 13 p).2 < 0) :
    (propP cs 13 p).2 = -1 ∧ leP (propP cs 13 p).1 (propP ds 13 p).1 := by
  rcases propP_end13 hp hw with ⟨_, h2⟩ | ⟨h1, _⟩
  · exact propP_below cs 13 hp (propP_pv ds 13 hp) hv (propP_ext ds 13 hp hw) fun c hc => h2 c (hsub c hc)
  · omega
theorem leP_at {p q : List Int} (hp : pvB p = true) (hq : pvB q = true) (h : leP p q) {i : Nat} {z : Int} (hz : p[i]? = some z) (h0 : z ≠ 0) : q[i]? = some z := by
  have hl := (pvB_at hp).1
  have hi : i < p.length := (List.getElem?_eq_some_iff.1 hz).1
  have hq := (pvB_at hq).1
  obtain ⟨y, hy⟩ : ∃ y, q[i]? = some y := ⟨q[i]'(by omega), List.getElem?_eq_getElem _⟩
  have h1 := h ((i : Int) + 1) (by rw [litB_iff]; omega) (by rw [stI_pos p i z hz]; exact h0)
  rw [stI_pos p i z hz, stI_pos _ i y hy] at h1
  rw [hy, h1]
/-- FnPropagateUnit -/
theorem prop_unit {cs : List Cn} {p : List Int} {l : Int} (hp : pvB p = true) (hv : cs.all cvC = true) (hm : ([(1, l)], 1) ∈ cs) (hl : litB l = true) (h : (propP cs 13 p).2 < 0) : stI (propP cs 13 p).1 l = 1 := by
  rcases propP_end13 hp hv with ⟨_, h2⟩ | ⟨h1, _⟩
  · obtain ⟨h3, h4⟩ := h2 _ hm
    have hb := stI_bd (propP_pv cs 13 hp) hl
    have h5 := h4 (1, l) (by simp)
    simp only [slkC, slkT, List.map_cons, List.map_nil, List.sum_cons, List.sum_nil] at h3 h5
    by_cases h6 : 0 ≤ stI (propP cs 13 p).1 l
    · rw [if_pos h6] at h3 h5
      by_cases h7 : stI (propP cs 13 p).1 l = 0
      · have := h5 h7; omega
      · omega
    · rw [if_neg h6] at h3; omega
  · omega

/-- total assignments -/
def totP (vs : List Bool) : List Int := vs.map fun b => if b = true then 1 else -1
theorem totP_pv {vs : List Bool} (h : vs.length = 12) : pvB (totP vs) = true := by
  unfold pvB totP
  rw [Bool.and_eq_true, decide_eq_true_eq, List.length_map]
  refine ⟨h, List.all_eq_true.2 fun x hx => ?_⟩
  obtain ⟨b, _, rfl⟩ := List.mem_map.1 hx
  cases b <;> simp [inB]
theorem totP_st {vs : List Bool} (h : vs.length = 12) {l : Int} (hl : litB l = true) : stI (totP vs) l = if litV vs l = true then 1 else -1 := by
  obtain ⟨m, hm, hlm⟩ := lit_cases hl
  obtain ⟨b, hb⟩ : ∃ b, vs[m]? = some b := ⟨vs[m]'(by omega), List.getElem?_eq_getElem _⟩
  have ht : (totP vs)[m]? = some (if b = true then 1 else -1) := by unfold totP; rw [List.getElem?_map, hb]; rfl
  rcases hlm with rfl | rfl
  · rw [stI_pos _ m _ ht, litV_pos vs m b hb]
  · rw [stI_neg _ m _ ht, litV_neg vs m b hb]; cases b <;> simp
theorem slkT_tot {vs : List Bool} (h : vs.length = 12) : ∀ ts : List Tm, (∀ t ∈ ts, litB t.2 = true) → slkT (totP vs) ts = sumV vs ts := by
  intro ts
  induction ts with
  | nil => intro _; rfl
  | cons t ts ih =>
    intro hm
    have h1 := ih fun x hx => hm x (by simp [hx])
    simp only [slkT, sumV, List.map_cons, List.sum_cons] at h1 ⊢
    rw [h1, totP_st h (hm t (by simp))]
    cases litV vs t.2 <;> simp
theorem tot_clo {vs : List Bool} (h : vs.length = 12) {cs : List Cn} (hv : cs.all cvC = true) (hs : cs.all (holdC vs) = true) : cloL (totP vs) cs := by
  intro c hc
  have h1 := List.all_eq_true.1 hv c hc
  have h2 := List.all_eq_true.1 hs c hc
  unfold holdC at h2
  rw [decide_eq_true_eq] at h2
  refine ⟨?_, fun t ht h0 => ?_⟩
  · unfold slkC; rw [slkT_tot h _ fun t ht => (cvC_mem h1 ht).1]; omega
  · rw [totP_st h (cvC_mem h1 ht).1] at h0; split at h0 <;> omega
theorem ep_iff {p : List Int} {vs : List Bool} (hp : pvB p = true) (h : vs.length = 12) : epB p vs = true ↔ leP p (totP vs) := by
  have hl := (pvB_at hp).1
  have hb := (pvB_at hp).2
  unfold epB
  rw [hp, h]
  simp only [decide_true, Bool.true_and]
  rw [agree_iff]
  constructor
  · intro ha l hlb h0
    obtain ⟨m, hm, hlm⟩ := lit_cases hlb
    obtain ⟨b, hvb⟩ : ∃ b, vs[m]? = some b := ⟨vs[m]'(by omega), List.getElem?_eq_getElem _⟩
    obtain ⟨z, hz⟩ : ∃ z, p[m]? = some z := ⟨p[m]'(by omega), List.getElem?_eq_getElem _⟩
    have := ha m z b hz hvb
    have := hb m z hz
    rw [totP_st h hlb]
    rcases hlm with rfl | rfl
    · rw [stI_pos p m z hz] at h0 ⊢
      rw [litV_pos vs m b hvb]
      rcases ‹z = 0 ∨ b = decide (0 < z)› with e | e
      · exact absurd e h0
      · subst e; by_cases hz0 : 0 < z
        · simp [hz0]; omega
        · simp [hz0]; omega
    · rw [stI_neg p m z hz] at h0 ⊢
      rw [litV_neg vs m b hvb]
      rcases ‹z = 0 ∨ b = decide (0 < z)› with e | e
      · omega
      · subst e; by_cases hz0 : 0 < z
        · simp [hz0]; omega
        · simp [hz0]; omega
  · intro hle k z b hz hvb
    have hk : k < p.length := (List.getElem?_eq_some_iff.1 hz).1
    have hbb := hb k z hz
    by_cases hz0 : z = 0
    · exact .inl hz0
    · right
      have hlb : litB ((k : Int) + 1) = true := by rw [litB_iff]; omega
      have := hle ((k : Int) + 1) hlb (by rw [stI_pos p k z hz]; exact hz0)
      rw [totP_st h hlb, litV_pos vs k b hvb, stI_pos p k z hz] at this
      cases b
      · rw [if_neg (by simp)] at this; subst this; rfl
      · rw [if_pos rfl] at this; subst this; rfl
/-- FnPropagate -/
theorem prop_sound {cs : List Cn} {p : List Int} {vs : List Bool} (hp : pvB p = true) (hv : cs.all cvC = true) (he : epB p vs = true) (hs : cs.all (holdC vs) = true) :
    (propP cs 13 p).2 = -1 ∧ epB (propP cs 13 p).1 vs = true := by
  have h12 : vs.length = 12 := (epB_parts he).2.1
  obtain ⟨h1, h2⟩ := propP_below cs 13 hp (totP_pv h12) hv ((ep_iff hp h12).1 he) (tot_clo h12 hv hs)
  exact ⟨h1, (ep_iff (propP_pv cs 13 hp) h12).2 h2⟩
/-- FnRupMember -/
theorem negT_st (p : List Int) : ∀ ts : List Tm, slkT p (negT ts) = (ts.map fun t => if 0 ≤ stI p (-t.2) then t.1 else 0).sum := by
  intro ts
  unfold slkT negT
  rw [List.map_map]; rfl
theorem rup_member {cs : List Cn} {c : Cn} (hv : cs.all cvC = true) (hn : cvC (negT c.1, negD c.1 c.2) = true) (hc : c ∈ cs) (hb : c.2 ≤ 1) {p : List Int} (hp : pvB p = true) :
    0 ≤ (propP (cs ++ [(negT c.1, negD c.1 c.2)]) 13 p).2 := by
  have hv2 : (cs ++ [(negT c.1, negD c.1 c.2)]).all cvC = true := by rw [List.all_append, hv]; simp [hn]
  have hcv := List.all_eq_true.1 hv c hc
  rcases propP_end13 hp hv2 with ⟨_, h2⟩ | ⟨h1, _⟩
  · exfalso
    generalize (propP (cs ++ [(negT c.1, negD c.1 c.2)]) 13 p).1 = q at h2
    obtain ⟨a1, a2⟩ := h2 c (by simp [hc])
    obtain ⟨b1, b2⟩ := h2 (negT c.1, negD c.1 c.2) (by simp)
    have hd : negD c.1 c.2 ≥ sumT c.1 := by unfold negD; omega
    have hs : slkC q (negT c.1, negD c.1 c.2) = slkT q (negT c.1) - negD c.1 c.2 := rfl
    -- each negated literal is not false
    have key : ∀ ts : List Tm, (∀ t ∈ ts, litB t.2 = true ∧ 1 ≤ t.1) → slkT q (negT ts) ≤ sumT ts ∧ (sumT ts ≤ slkT q (negT ts) → ∀ t ∈ ts, stI q t.2 ≤ 0) := by
      intro ts
      induction ts with
      | nil => intro _; exact ⟨Int.le_refl _, fun _ t ht => by cases ht⟩
      | cons x ts ih =>
        intro hm
        have h1 := ih fun t ht => hm t (by simp [ht])
        have h2 := hm x (by simp)
        rw [negT_st] at h1 ⊢
        simp only [List.map_cons, List.sum_cons, sumT] at h1 ⊢
        rw [stI_negL q h2.1]
        by_cases hx : 0 ≤ -stI q x.2
        · rw [if_pos hx]
          refine ⟨by omega, fun h t ht => ?_⟩
          rcases List.mem_cons.1 ht with rfl | ht
          · omega
          · exact h1.2 (by omega) t ht
        · rw [if_neg hx]; exact ⟨by omega, fun h => by omega⟩
    have hm : ∀ t ∈ c.1, litB t.2 = true ∧ 1 ≤ t.1 := fun t ht => ⟨(cvC_mem hcv ht).1, (cvC_mem hcv ht).2.1⟩
    obtain ⟨k1, k2⟩ := key c.1 hm
    have k3 := k2 (by omega)
    have k4 : ∀ t ∈ c.1, stI q t.2 < 0 := by
      intro t ht
      have h5 := k3 t ht
      by_cases h0 : stI q t.2 = 0
      · exfalso
        have := b2 (t.1, -t.2) (by unfold negT; exact List.mem_map.2 ⟨t, ht, rfl⟩) (by simp only; rw [stI_negL q (hm t ht).1]; omega)
        have := (hm t ht).2
        simp only at *; omega
      · omega
    have k5 : slkT q c.1 = 0 := by
      have : ∀ ts : List Tm, (∀ t ∈ ts, stI q t.2 < 0) → slkT q ts = 0 := by
        intro ts
        induction ts with
        | nil => intro _; rfl
        | cons x ts ih =>
          intro h
          have h1 := ih fun t ht => h t (by simp [ht])
          have h2 := h x (by simp)
          simp only [slkT, List.map_cons, List.sum_cons] at h1 ⊢
          rw [if_neg (by omega)]; omega
      exact this _ k4
    unfold slkC at a1 b1
    simp only at b1
    have hneg : negD c.1 c.2 = max 0 (sumT c.1 - c.2 + 1) := rfl
    omega
  · exact h1
end Go.Proofs.Ytihbgajlnbchlaa
