/- Normal forms: plain laws. No program is named here. -/
import Derived.Test.YtbpkpcfhmglddaaPlC
namespace Go.Proofs.Ytbpkpcfhmglddaa

/-- the coefficient of a variable, negative literals replaced -/
def netI (ts : List Tm) (v : Int) : Int := (ts.map fun t => if t.2 = v then t.1 else if t.2 = -v then -t.1 else 0).sum
/-- what the replaced literals take from the bound -/
def negI (ts : List Tm) : Int := (ts.map fun t => if t.2 < 0 then t.1 else 0).sum
def netL (ts : List Tm) : List Int := (List.range 13).map fun (i : Nat) => netI ts i
def nfA (a v : Int) : List Tm := if 0 < a then [(a, v)] else if a < 0 then [(-a, -v)] else []
def nfUp (ts : List Tm) (m : Nat) : List Tm := (List.range m).flatMap fun (i : Nat) => nfA (netI ts i) i
def nfNg (ts : List Tm) (m : Nat) : Int := ((List.range m).map fun (i : Nat) => if netI ts i < 0 then netI ts i else 0).sum
def noT (ts : List Tm) : List Tm := nfUp ts 13
def noD (ts : List Tm) (bd : Int) : Int := max 0 (bd - negI ts - nfNg ts 13)
def noB (ts : List Tm) (bd : Int) : Bool := cvB (noT ts) (noD ts bd)

theorem netI_snoc (ts : List Tm) (t : Tm) (v : Int) : netI (ts ++ [t]) v = netI ts v + (if t.2 = v then t.1 else if t.2 = -v then -t.1 else 0) := by simp [netI]
theorem negI_snoc (ts : List Tm) (t : Tm) : negI (ts ++ [t]) = negI ts + (if t.2 < 0 then t.1 else 0) := by simp [negI]
theorem netL_len (ts : List Tm) : (netL ts).length = 13 := by simp [netL]
theorem netL_at (ts : List Tm) (i : Nat) (h : i < 13) : (netL ts)[i]? = some (netI ts i) := by
  unfold netL; rw [List.getElem?_map, List.getElem?_range h]; rfl
theorem netL_snoc (ts : List Tm) (c l : Int) (hl : litB l = true) : netL (ts ++ [(c, l)]) = (netL ts).set (absI l).toNat (netI ts (absI l) + (if l < 0 then -c else c)) := by
  have ha := absI_pos hl
  rw [litB_iff] at hl
  apply List.ext_getElem?
  intro i
  by_cases hi : i < 13
  · rw [netL_at _ i hi, netI_snoc]
    simp only
    by_cases he : (absI l).toNat = i
    · rw [he, List.getElem?_set_self (by rw [netL_len]; exact hi)]
      have e : (i : Int) = absI l := by omega
      rw [e]
      congr 1
      congr 1
      unfold absI at e ⊢
      by_cases h0 : l < 0
      · rw [if_pos h0] at e ⊢; rw [if_pos h0, if_neg (by omega), if_pos (by omega)]
      · rw [if_neg h0] at e ⊢; rw [if_neg h0, if_pos rfl]
    · rw [List.getElem?_set_ne he, netL_at _ i hi]
      congr 1
      unfold absI at he ha
      have : ¬ (l = (i : Int)) := fun e => he (by rw [if_neg (by omega)]; omega)
      have : ¬ (l = -(i : Int)) := fun e => he (by split <;> omega)
      rw [if_neg ‹_›, if_neg ‹_›]; omega
  · rw [List.getElem?_eq_none (by rw [netL_len]; omega), List.getElem?_eq_none (by rw [List.length_set, netL_len]; omega)]
theorem netL_nil : netL [] = List.replicate 13 0 := by
  apply List.ext_getElem?
  intro i
  by_cases hi : i < 13
  · rw [netL_at _ i hi, List.getElem?_replicate, if_pos hi]; rfl
  · rw [List.getElem?_eq_none (by rw [netL_len]; omega), List.getElem?_eq_none (by simp; omega)]
theorem nfUp_succ (ts : List Tm) (m : Nat) : nfUp ts (m + 1) = nfUp ts m ++ nfA (netI ts m) m := by
  unfold nfUp; rw [List.range_succ, List.flatMap_append]; simp
theorem nfNg_succ (ts : List Tm) (m : Nat) : nfNg ts (m + 1) = nfNg ts m + (if netI ts m < 0 then netI ts m else 0) := by
  unfold nfNg; rw [List.range_succ, List.map_append, List.sum_append]; simp
theorem nfUp_pos {ts : List Tm} {m : Nat} (h : 0 < netI ts m) : nfUp ts (m + 1) = nfUp ts m ++ [(netI ts m, (m : Int))] ∧ nfNg ts (m + 1) = nfNg ts m := by
  rw [nfUp_succ, nfNg_succ, nfA, if_pos h, if_neg (by omega)]; exact ⟨rfl, by omega⟩
theorem nfUp_neg {ts : List Tm} {m : Nat} (h : netI ts m < 0) : nfUp ts (m + 1) = nfUp ts m ++ [(-netI ts m, -(m : Int))] ∧ nfNg ts (m + 1) = nfNg ts m + netI ts m := by
  rw [nfUp_succ, nfNg_succ, nfA, if_neg (by omega), if_pos h, if_pos h]; exact ⟨rfl, rfl⟩
theorem nfUp_zero {ts : List Tm} {m : Nat} (h : netI ts m = 0) : nfUp ts (m + 1) = nfUp ts m ∧ nfNg ts (m + 1) = nfNg ts m := by
  rw [nfUp_succ, nfNg_succ, nfA, if_neg (by omega), if_neg (by omega), if_neg (by omega), List.append_nil]; exact ⟨rfl, by omega⟩
theorem nfA_len (a v : Int) : (nfA a v).length ≤ 1 := by unfold nfA; split; simp; split <;> simp
theorem nfUp_len (ts : List Tm) (m : Nat) : (nfUp ts m).length ≤ m := by
  induction m with
  | zero => simp [nfUp]
  | succ m ih => rw [nfUp_succ, List.length_append]; have := nfA_len (netI ts m) m; omega

/-- small terms: literals, coefficients of at most 1000 -/
def smT (ts : List Tm) : Bool := ts.all fun t => litB t.2 && inB t.1 (-1000) 1000
theorem smT_at {ts : List Tm} (h : smT ts = true) : ∀ t ∈ ts, litB t.2 = true ∧ -1000 ≤ t.1 ∧ t.1 ≤ 1000 := by
  intro t ht
  have := List.all_eq_true.1 h t ht
  rw [Bool.and_eq_true] at this
  exact ⟨this.1, by have h2 := this.2; unfold inB at h2; rw [decide_eq_true_eq] at h2; exact h2⟩
theorem sum_bd {ts : List Tm} (f : Tm → Int) (h : ∀ t ∈ ts, -1000 ≤ f t ∧ f t ≤ 1000) : -(1000 * (ts.length : Int)) ≤ (ts.map f).sum ∧ (ts.map f).sum ≤ 1000 * ts.length := by
  induction ts with
  | nil => simp
  | cons x ts ih =>
    have h1 := ih fun t ht => h t (by simp [ht])
    have h2 := h x (by simp)
    simp only [List.map_cons, List.sum_cons, List.length_cons]; omega
theorem netI_bd {ts : List Tm} (h : smT ts = true) (v : Int) : -(1000 * (ts.length : Int)) ≤ netI ts v ∧ netI ts v ≤ 1000 * ts.length := by
  refine sum_bd _ fun t ht => ?_
  have := smT_at h t ht
  split
  · omega
  · split <;> omega
theorem negI_bd {ts : List Tm} (h : smT ts = true) : -(1000 * (ts.length : Int)) ≤ negI ts ∧ negI ts ≤ 1000 * ts.length := by
  refine sum_bd _ fun t ht => ?_
  have := smT_at h t ht
  split <;> omega
theorem smT_take {ts : List Tm} (h : smT ts = true) (k : Nat) : smT (ts.take k) = true :=
  List.all_eq_true.2 fun t ht => List.all_eq_true.1 h t (List.mem_of_mem_take ht)
theorem nfNg_bd {ts : List Tm} (h : smT ts = true) (m : Nat) : -(1000 * (ts.length : Int) * m) ≤ nfNg ts m ∧ nfNg ts m ≤ 0 := by
  induction m with
  | zero => simp [nfNg]
  | succ m ih =>
    have := netI_bd h m
    rw [nfNg_succ]
    have e : 1000 * (ts.length : Int) * ((m + 1 : Nat) : Int) = 1000 * (ts.length : Int) * m + 1000 * ts.length := by push_cast; rw [Int.mul_add, Int.mul_one]
    rw [e]
    split <;> omega
theorem netI_zero {ts : List Tm} (h : smT ts = true) : netI ts 0 = 0 := by
  unfold netI
  have key : ∀ us : List Tm, (∀ t ∈ us, litB t.2 = true) → (us.map fun t => if t.2 = 0 then t.1 else if t.2 = -0 then -t.1 else 0).sum = 0 := by
    intro us
    induction us with
    | nil => intro _; rfl
    | cons x us ih =>
      intro hu
      have h1 := hu x (by simp)
      rw [litB_iff] at h1
      rw [List.map_cons, List.sum_cons, ih fun t ht => hu t (by simp [ht]), if_neg h1.1, if_neg (by omega)]; rfl
  exact key ts fun t ht => (smT_at h t ht).1

theorem perm_sum {l m : List Int} (h : l.Perm m) : l.sum = m.sum := by
  induction h with
  | nil => rfl
  | cons x _ ih => simp only [List.sum_cons, ih]
  | swap x y l => simp only [List.sum_cons]; omega
  | trans _ _ h1 h2 => exact h1.trans h2
/-- the order of terms does not matter -/
theorem netI_perm {ts us : List Tm} (h : ts.Perm us) (v : Int) : netI ts v = netI us v := by
  unfold netI; exact perm_sum (h.map _)
theorem negI_perm {ts us : List Tm} (h : ts.Perm us) : negI ts = negI us := by
  unfold negI; exact perm_sum (h.map _)
theorem nfUp_perm {ts us : List Tm} (h : ts.Perm us) (m : Nat) : nfUp ts m = nfUp us m := by
  unfold nfUp; congr 1; funext i; rw [netI_perm h]
theorem nfNg_perm {ts us : List Tm} (h : ts.Perm us) (m : Nat) : nfNg ts m = nfNg us m := by
  unfold nfNg; congr 2; funext i; rw [netI_perm h]
theorem noT_perm {ts us : List Tm} (h : ts.Perm us) : noT ts = noT us := nfUp_perm h 13
theorem noD_perm {ts us : List Tm} (h : ts.Perm us) (bd : Int) : noD ts bd = noD us bd := by
  unfold noD; rw [negI_perm h, nfNg_perm h]
theorem noB_perm {ts us : List Tm} (h : ts.Perm us) (bd : Int) : noB ts bd = noB us bd := by
  unfold noB; rw [noT_perm h, noD_perm h]

/-- what a variable's coefficient is worth under values -/
def worth (vs : List Bool) (ts : List Tm) (i : Nat) : Int := if litV vs i = true then netI ts i else 0
theorem worth_snoc (vs : List Bool) (ts : List Tm) (t : Tm) (i : Nat) : worth vs (ts ++ [t]) i = worth vs ts i + (if litV vs i = true then (if t.2 = i then t.1 else if t.2 = -(i : Int) then -t.1 else 0) else 0) := by
  unfold worth; rw [netI_snoc]; split <;> simp
theorem sum_add {α : Type} (f g : α → Int) (l : List α) : (l.map fun x => f x + g x).sum = (l.map f).sum + (l.map g).sum := by
  induction l with
  | nil => rfl
  | cons x l ih => simp only [List.map_cons, List.sum_cons, ih]; omega
theorem sum_one (f : Nat → Int) (m n : Nat) (h : m < n) (hf : ∀ i, i ≠ m → f i = 0) : ((List.range n).map f).sum = f m := by
  induction n with
  | zero => omega
  | succ n ih =>
    rw [List.range_succ, List.map_append, List.sum_append]
    simp only [List.map_cons, List.map_nil, List.sum_cons, List.sum_nil]
    by_cases e : m = n
    · subst e
      have : ∀ k, k ≤ m → ((List.range k).map f).sum = 0 := by
        intro k
        induction k with
        | zero => intro _; rfl
        | succ k ihk =>
          intro hk
          rw [List.range_succ, List.map_append, List.sum_append, ihk (by omega)]
          simp [hf k (by omega)]
      rw [this m (Nat.le_refl _)]; omega
    · rw [ih (by omega), hf n (fun e2 => e e2.symm)]; omega
theorem sumV_net {vs : List Bool} (hvs : vs.length = 12) : ∀ ts : List Tm, (∀ t ∈ ts, litB t.2 = true) → sumV vs ts = negI ts + ((List.range 13).map (worth vs ts)).sum := by
  have key : ∀ us : List Tm, (∀ t ∈ us.reverse, litB t.2 = true) → sumV vs us.reverse = negI us.reverse + ((List.range 13).map (worth vs us.reverse)).sum := by
    intro us
    induction us with
    | nil =>
      intro _
      have : ((List.range 13).map (worth vs [])).sum = 0 := by
        rw [sum_one (worth vs []) 0 13 (by omega) (fun i _ => by simp [worth, netI])]; simp [worth, netI]
      rw [List.reverse_nil, this]; rfl
    | cons t us ih =>
      intro hl
      rw [List.reverse_cons] at hl ⊢
      have hlt := hl t (by simp)
      have h1 := ih fun x hx => hl x (by simp only [List.mem_append]; exact .inl hx)
      rw [sumV_snoc, negI_snoc, h1]
      have e : (worth vs (us.reverse ++ [t])) = fun i => worth vs us.reverse i + (fun (i : Nat) => if litV vs i = true then (if t.2 = i then t.1 else if t.2 = -(i : Int) then -t.1 else 0) else 0) i := by
        funext i; rw [worth_snoc]
      rw [e, sum_add]
      obtain ⟨m, hm, hlm⟩ := lit_cases hlt
      obtain ⟨b, hb⟩ : ∃ b, vs[m]? = some b := ⟨vs[m]'(by omega), List.getElem?_eq_getElem _⟩
      rw [sum_one (fun (i : Nat) => if litV vs i = true then (if t.2 = i then t.1 else if t.2 = -(i : Int) then -t.1 else 0) else 0) (m + 1) 13 (by omega) (fun i hi => by
        have a1 : ¬ (t.2 = (i : Int)) := by rcases hlm with e | e <;> omega
        have a2 : ¬ (t.2 = -(i : Int)) := by rcases hlm with e | e <;> omega
        show (if litV vs i = true then (if t.2 = (i : Int) then t.1 else if t.2 = -(i : Int) then -t.1 else 0) else 0) = 0
        rw [if_neg a1, if_neg a2]; split <;> rfl)]
      rw [show ((m + 1 : Nat) : Int) = (m : Int) + 1 from by omega, litV_pos vs m b hb]
      rcases hlm with e | e
      · have a1 : ¬ ((m : Int) + 1 < 0) := by omega
        rw [e, litV_pos vs m b hb, if_neg a1]
        cases b <;> simp <;> omega
      · have a1 : -((m : Int) + 1) < 0 := by omega
        have a2 : ¬ (-((m : Int) + 1) = (m : Int) + 1) := by omega
        rw [e, litV_neg vs m b hb, if_pos a1, if_neg a2]
        cases b <;> simp <;> omega
  intro ts h
  have := key ts.reverse (by rw [List.reverse_reverse]; exact h)
  rw [List.reverse_reverse] at this; exact this
theorem sumV_append (vs : List Bool) (a b : List Tm) : sumV vs (a ++ b) = sumV vs a + sumV vs b := by simp [sumV]
theorem sumV_nf {vs : List Bool} (hvs : vs.length = 12) {ts : List Tm} (h : smT ts = true) (m : Nat) (hm : m ≤ 13) : sumV vs (nfUp ts m) + nfNg ts m = ((List.range m).map (worth vs ts)).sum := by
  induction m with
  | zero => simp [nfUp, nfNg, sumV]
  | succ m ih =>
    have h1 := ih (by omega)
    rw [List.range_succ, List.map_append, List.sum_append, ← h1]
    simp only [List.map_cons, List.map_nil, List.sum_cons, List.sum_nil]
    rcases Nat.eq_zero_or_pos m with h0 | h0
    · subst h0
      have hz := netI_zero h
      have := nfUp_zero (ts := ts) (m := 0) hz
      rw [this.1, this.2]; unfold worth
      rw [show ((0 : Nat) : Int) = 0 from rfl, hz]; split <;> omega
    · obtain ⟨j, rfl⟩ : ∃ j, m = j + 1 := ⟨m - 1, by omega⟩
      obtain ⟨b, hb⟩ : ∃ b, vs[j]? = some b := ⟨vs[j]'(by omega), List.getElem?_eq_getElem _⟩
      have l1 := litV_pos vs j b hb
      have l2 := litV_neg vs j b hb
      have ej : ((j + 1 : Nat) : Int) = (j : Int) + 1 := by omega
      unfold worth
      rcases Int.lt_trichotomy (netI ts ((j + 1 : Nat) : Int)) 0 with hn | hn | hn
      · obtain ⟨e1, e2⟩ := nfUp_neg hn
        rw [e1, e2, sumV_snoc]
        simp only
        rw [ej, l1, l2]
        cases b <;> simp <;> omega
      · obtain ⟨e1, e2⟩ := nfUp_zero hn
        rw [e1, e2, hn]; split <;> omega
      · obtain ⟨e1, e2⟩ := nfUp_pos hn
        rw [e1, e2, sumV_snoc]
        simp only
        rw [ej, l1]
        cases b <;> simp <;> omega
theorem nfUp_pos_c (ts : List Tm) (m : Nat) : ∀ t ∈ nfUp ts m, 1 ≤ t.1 := by
  intro t ht
  unfold nfUp at ht
  obtain ⟨i, _, hi⟩ := List.mem_flatMap.1 ht
  unfold nfA at hi
  split at hi
  · simp at hi; subst hi; simp only; omega
  · split at hi
    · simp at hi; subst hi; simp only; omega
    · cases hi
theorem sumV_nonneg (vs : List Bool) (ts : List Tm) (h : ∀ t ∈ ts, 1 ≤ t.1) : 0 ≤ sumV vs ts := by
  induction ts with
  | nil => exact Int.le_refl _
  | cons x ts ih =>
    have h1 := ih fun t ht => h t (by simp [ht])
    have h2 := h x (by simp)
    simp only [sumV, List.map_cons, List.sum_cons] at h1 ⊢
    split <;> omega
/-- FnNormalForm: a normal form is satisfied by exactly the values that satisfy the terms -/
theorem nf_eval {vs : List Bool} (hvs : vs.length = 12) {ts : List Tm} (h : smT ts = true) {bd : Int} (hb : noB ts bd = true) : evB (noT ts) (noD ts bd) vs = decide (bd ≤ sumV vs ts) := by
  have h1 := sumV_net hvs ts fun t ht => (smT_at h t ht).1
  have h2 := sumV_nf hvs h 13 (Nat.le_refl _)
  have h3 := sumV_nonneg vs (nfUp ts 13) (nfUp_pos_c ts 13)
  unfold noB at hb
  unfold evB
  rw [hb, hvs]
  simp only [decide_true, Bool.true_and]
  rw [decide_eq_decide]
  unfold noT noD
  omega

/-- FnNormalTwice: a valid constraint is its own normal form -/
theorem netI_over (ts : List Tm) : ∀ (u v : Int), 0 ≤ v → v ≤ u → goodB u ts = true → netI ts v = 0 := by
  induction ts with
  | nil => intro u v _ _ _; rfl
  | cons x ts ih =>
    intro u v h0 hv hg
    obtain ⟨c, l⟩ := x
    rw [goodB_cons, Bool.and_eq_true, decide_eq_true_eq] at hg
    have h1 := ih (absI l) v h0 (by omega) hg.2
    have h2 := hg.1.2.1
    unfold netI at h1 ⊢
    rw [List.map_cons, List.sum_cons, h1]
    simp only
    unfold absI at h2
    rw [if_neg (by split at h2 <;> omega), if_neg (by split at h2 <;> omega)]; rfl
theorem netI_cons (c l : Int) (ts : List Tm) (v : Int) : netI ((c, l) :: ts) v = (if l = v then c else if l = -v then -c else 0) + netI ts v := by
  simp [netI]
theorem flatMap_nil_of {α β : Type} (l : List α) (f : α → List β) (h : ∀ x ∈ l, f x = []) : l.flatMap f = [] := by
  induction l with
  | nil => rfl
  | cons x l ih => rw [List.flatMap_cons, h x (by simp), ih fun y hy => h y (by simp [hy])]; rfl
theorem flatMap_congr_of {α β : Type} (l : List α) (f g : α → List β) (h : ∀ x ∈ l, f x = g x) : l.flatMap f = l.flatMap g := by
  induction l with
  | nil => rfl
  | cons x l ih => rw [List.flatMap_cons, List.flatMap_cons, h x (by simp), ih fun y hy => h y (by simp [hy])]
theorem nf_self (n : Nat) : ∀ (u : Nat) (ts : List Tm), u + n = 12 → goodB (u : Int) ts = true → (List.range' (u + 1) n).flatMap (fun (i : Nat) => nfA (netI ts i) i) = ts := by
  induction n with
  | zero =>
    intro u ts hu hg
    cases ts with
    | nil => rfl
    | cons x ts =>
      obtain ⟨c, l⟩ := x
      rw [goodB_cons, Bool.and_eq_true, decide_eq_true_eq] at hg
      have := absI_pos hg.1.1
      omega
  | succ n ih =>
    intro u ts hu hg
    rw [List.range'_succ, List.flatMap_cons]
    cases ts with
    | nil =>
      have : ∀ i : Nat, nfA (netI [] i) i = [] := fun i => rfl
      rw [this, flatMap_nil_of _ _ fun i _ => this i]; rfl
    | cons x ts =>
      obtain ⟨c, l⟩ := x
      have hg0 := hg
      rw [goodB_cons, Bool.and_eq_true, decide_eq_true_eq] at hg
      obtain ⟨⟨h1, h2, h3, h4⟩, h5⟩ := hg
      have h6 := absI_pos h1
      by_cases he : absI l = ((u + 1 : Nat) : Int)
      · rw [he] at h5
        have z := netI_over ts _ ((u + 1 : Nat) : Int) (by omega) (Int.le_refl _) h5
        have e1 : nfA (netI ((c, l) :: ts) ((u + 1 : Nat) : Int)) ((u + 1 : Nat) : Int) = [(c, l)] := by
          rw [netI_cons, z]
          unfold absI at he
          unfold nfA
          by_cases h0 : l < 0
          · rw [if_pos h0] at he
            rw [if_neg (by omega), if_pos (by omega), if_neg (by omega), if_pos (by omega)]
            congr 2 <;> omega
          · rw [if_neg h0] at he
            rw [if_pos (by omega), if_pos (by omega)]
            congr 2 <;> omega
        have e2 : (List.range' (u + 1 + 1) n).flatMap (fun (i : Nat) => nfA (netI ((c, l) :: ts) i) i) = ts := by
          rw [flatMap_congr_of _ _ (fun (i : Nat) => nfA (netI ts i) i) fun i hi => ?_]
          · exact ih (u + 1) ts (by omega) h5
          · have := List.mem_range'.1 hi
            obtain ⟨j, _, rfl⟩ := this
            rw [netI_cons]
            unfold absI at he
            rw [if_neg (by split at he <;> omega), if_neg (by split at he <;> omega), Int.zero_add]
        rw [e1, e2]; rfl
      · have e1 : nfA (netI ((c, l) :: ts) ((u + 1 : Nat) : Int)) ((u + 1 : Nat) : Int) = [] := by
          have hg1 : goodB ((u + 1 : Nat) : Int) ((c, l) :: ts) = true := by
            rw [goodB_cons, Bool.and_eq_true, decide_eq_true_eq]; exact ⟨⟨h1, by omega, h3, h4⟩, h5⟩
          rw [netI_over _ _ _ (by omega) (Int.le_refl _) hg1]; rfl
        rw [e1, List.nil_append]
        refine ih (u + 1) ((c, l) :: ts) (by omega) ?_
        rw [goodB_cons, Bool.and_eq_true, decide_eq_true_eq]; exact ⟨⟨h1, by omega, h3, h4⟩, h5⟩
theorem cvB_sm {ts : List Tm} {bd : Int} (h : cvB ts bd = true) : smT ts = true := by
  refine List.all_eq_true.2 fun t ht => ?_
  have := goodB_mem ts 0 (cvB_good h) t ht
  rw [Bool.and_eq_true]
  exact ⟨this.1, by unfold inB; rw [decide_eq_true_eq]; omega⟩
theorem noT_self {ts : List Tm} {bd : Int} (h : cvB ts bd = true) : noT ts = ts := by
  unfold noT nfUp
  rw [List.range_eq_range', List.range'_succ, List.flatMap_cons]
  have := netI_zero (cvB_sm h)
  rw [show ((0 : Nat) : Int) = 0 from rfl, this]
  exact nf_self 12 0 ts rfl (cvB_good h)
theorem negI_append (a b : List Tm) : negI (a ++ b) = negI a + negI b := by simp [negI]
theorem negI_nf {ts : List Tm} (h : smT ts = true) (m : Nat) : negI (nfUp ts m) = - nfNg ts m := by
  induction m with
  | zero => rfl
  | succ m ih =>
    rcases Int.lt_trichotomy (netI ts (m : Int)) 0 with hn | hn | hn
    · obtain ⟨e1, e2⟩ := nfUp_neg hn
      have hm : m ≠ 0 := by rintro rfl; rw [show ((0 : Nat) : Int) = 0 from rfl, netI_zero h] at hn; omega
      rw [e1, e2, negI_snoc, ih]; simp only; rw [if_pos (by omega)]; omega
    · obtain ⟨e1, e2⟩ := nfUp_zero hn
      rw [e1, e2, ih]
    · obtain ⟨e1, e2⟩ := nfUp_pos hn
      rw [e1, e2, negI_snoc, ih]; simp only; rw [if_neg (by omega)]; omega
theorem noD_self {ts : List Tm} {bd : Int} (h : cvB ts bd = true) : noD ts bd = bd := by
  have h1 := negI_nf (cvB_sm h) 13
  have h2 : nfUp ts 13 = ts := noT_self h
  rw [h2] at h1
  have h3 : 0 ≤ bd := by
    unfold cvB at h; rw [Bool.and_eq_true] at h
    have := h.2; unfold inB at this; rw [decide_eq_true_eq] at this; exact this.1
  unfold noD; omega
theorem noB_self {ts : List Tm} {bd : Int} (h : cvB ts bd = true) : noB ts bd = true := by
  unfold noB; rw [noT_self h, noD_self h]; exact h

/- NormalForm -/
def nfB (ts : List Tm) (bd : Int) : Bool := decide (ts.length ≤ 40) && inB bd (-20000) 20000 && smT ts && noB ts bd
def nfT (ts : List Tm) (bd : Int) : List Tm := if nfB ts bd = true then noT ts else []
def nfD (ts : List Tm) (bd : Int) : Int := if nfB ts bd = true then noD ts bd else 0
theorem noT_len (ts : List Tm) : (noT ts).length ≤ 13 := nfUp_len ts 13
theorem nfT_len (ts : List Tm) (bd : Int) : (nfT ts bd).length ≤ 1048576 := by
  unfold nfT; split
  · have := noT_len ts; omega
  · simp
theorem nfT_of {ts : List Tm} {bd : Int} (h : nfB ts bd = true) : nfT ts bd = noT ts := by unfold nfT; rw [if_pos h]
theorem nfD_of {ts : List Tm} {bd : Int} (h : nfB ts bd = true) : nfD ts bd = noD ts bd := by unfold nfD; rw [if_pos h]
theorem nfT_no {ts : List Tm} {bd : Int} (h : nfB ts bd = false) : nfT ts bd = [] := by unfold nfT; rw [if_neg (by rw [h]; simp)]
theorem nfD_no {ts : List Tm} {bd : Int} (h : nfB ts bd = false) : nfD ts bd = 0 := by unfold nfD; rw [if_neg (by rw [h]; simp)]
theorem nfB_parts {ts : List Tm} {bd : Int} (h : nfB ts bd = true) : ts.length ≤ 40 ∧ (-20000 ≤ bd ∧ bd ≤ 20000) ∧ smT ts = true ∧ noB ts bd = true := by
  unfold nfB at h
  rw [Bool.and_eq_true, Bool.and_eq_true, Bool.and_eq_true, decide_eq_true_eq] at h
  exact ⟨h.1.1.1, by have := h.1.1.2; unfold inB at this; rw [decide_eq_true_eq] at this; exact this, h.1.2, h.2⟩
theorem nfB_self {ts : List Tm} {bd : Int} (h : cvB ts bd = true) (us : List Tm) (hp : ts.Perm us) : nfB us bd = true := by
  have hl := cvB_len h
  have hb : 0 ≤ bd ∧ bd ≤ 20000 := by
    unfold cvB at h; rw [Bool.and_eq_true] at h
    have := h.2; unfold inB at this; rw [decide_eq_true_eq] at this; exact this
  unfold nfB
  rw [Bool.and_eq_true, Bool.and_eq_true, Bool.and_eq_true, decide_eq_true_eq]
  refine ⟨⟨⟨by rw [← hp.length_eq]; omega, by unfold inB; rw [decide_eq_true_eq]; omega⟩, ?_⟩, by rw [← noB_perm hp]; exact noB_self h⟩
  have := cvB_sm h
  unfold smT at this ⊢
  rw [List.all_eq_true] at this ⊢
  exact fun t ht => this t (hp.symm.mem_iff.1 ht)

/- AddConstraints -/
def adB (ts : List Tm) (bd : Int) (us : List Tm) (bd' : Int) : Bool := (cvB ts bd && cvB us bd') && noB (ts ++ us) (bd + bd')
def adT (ts : List Tm) (bd : Int) (us : List Tm) (bd' : Int) : List Tm := if adB ts bd us bd' = true then noT (ts ++ us) else []
def adD (ts : List Tm) (bd : Int) (us : List Tm) (bd' : Int) : Int := if adB ts bd us bd' = true then noD (ts ++ us) (bd + bd') else 0
theorem adT_len (ts : List Tm) (bd : Int) (us : List Tm) (bd' : Int) : (adT ts bd us bd').length ≤ 1048576 := by
  unfold adT; split
  · have := noT_len (ts ++ us); omega
  · simp
theorem adT_of {ts : List Tm} {bd : Int} {us : List Tm} {bd' : Int} (h : adB ts bd us bd' = true) : adT ts bd us bd' = noT (ts ++ us) := by unfold adT; rw [if_pos h]
theorem adD_of {ts : List Tm} {bd : Int} {us : List Tm} {bd' : Int} (h : adB ts bd us bd' = true) : adD ts bd us bd' = noD (ts ++ us) (bd + bd') := by unfold adD; rw [if_pos h]
theorem adT_no {ts : List Tm} {bd : Int} {us : List Tm} {bd' : Int} (h : adB ts bd us bd' = false) : adT ts bd us bd' = [] := by unfold adT; rw [if_neg (by rw [h]; simp)]
theorem adD_no {ts : List Tm} {bd : Int} {us : List Tm} {bd' : Int} (h : adB ts bd us bd' = false) : adD ts bd us bd' = 0 := by unfold adD; rw [if_neg (by rw [h]; simp)]
theorem adB_parts {ts : List Tm} {bd : Int} {us : List Tm} {bd' : Int} (h : adB ts bd us bd' = true) : cvB ts bd = true ∧ cvB us bd' = true ∧ noB (ts ++ us) (bd + bd') = true := by
  unfold adB at h
  rw [Bool.and_eq_true, Bool.and_eq_true] at h
  exact ⟨h.1.1, h.1.2, h.2⟩
theorem smT_append {a b : List Tm} (h : smT a = true) (k : smT b = true) : smT (a ++ b) = true := by
  unfold smT at *; rw [List.all_append, h, k]; rfl
theorem adB_comm {ts : List Tm} {bd : Int} {us : List Tm} {bd' : Int} (h : adB ts bd us bd' = true) : adB us bd' ts bd = true := by
  obtain ⟨h1, h2, h3⟩ := adB_parts h
  unfold adB
  rw [h1, h2, Int.add_comm, noB_perm (List.perm_append_comm (l₁ := us) (l₂ := ts)), h3]; rfl
theorem adT_comm {ts : List Tm} {us : List Tm} : noT (us ++ ts) = noT (ts ++ us) := noT_perm List.perm_append_comm
theorem adD_comm {ts : List Tm} {us : List Tm} (bd bd' : Int) : noD (us ++ ts) (bd' + bd) = noD (ts ++ us) (bd + bd') := by rw [Int.add_comm, noD_perm List.perm_append_comm]
theorem ad_sound {ts : List Tm} {bd : Int} {us : List Tm} {bd' : Int} {vs : List Bool} (h : adB ts bd us bd' = true) (h1 : evB ts bd vs = true) (h2 : evB us bd' vs = true) : evB (noT (ts ++ us)) (noD (ts ++ us) (bd + bd')) vs = true := by
  obtain ⟨c1, c2, c3⟩ := adB_parts h
  unfold evB at h1 h2
  rw [Bool.and_eq_true, Bool.and_eq_true, decide_eq_true_eq, decide_eq_true_eq] at h1 h2
  rw [nf_eval h1.2.1 (smT_append (cvB_sm c1) (cvB_sm c2)) c3, decide_eq_true_eq, sumV_append]
  have := h1.2.2; have := h2.2.2; omega
/-- FnLiteralAxiom -/
theorem la_valid {l : Int} (h : litB l = true) : cvB [(1, l)] 0 = true := by
  have := absI_pos h
  unfold cvB
  rw [goodB_cons, Bool.and_eq_true, Bool.and_eq_true, decide_eq_true_eq]
  exact ⟨⟨⟨h, by omega, by omega, by omega⟩, rfl⟩, rfl⟩
theorem la_holds {l : Int} (h : litB l = true) {vs : List Bool} (hv : vs.length = 12) : evB [(1, l)] 0 vs = true := by
  unfold evB
  rw [la_valid h, hv]
  simp only [decide_true, Bool.true_and, decide_eq_true_eq]
  exact sumV_nonneg vs _ fun t ht => by simp at ht; subst ht; exact Int.le_refl _
end Go.Proofs.Ytbpkpcfhmglddaa
