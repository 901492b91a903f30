/-
  Plain lists: a heap's steps (up, down), and that the root is the least.
-/
namespace Go.Proofs.Ytafiidbkkcaegaa.C

/-- A strict total order on what the heap holds. -/
structure StrictTotal (lt : Nat → Nat → Bool) (S : Nat → Prop) : Prop where
  irrefl : ∀ a, S a → lt a a = false
  trans : ∀ a b c, S a → S b → S c → lt a b = true → lt b c = true → lt a c = true
  total : ∀ a b, S a → S b → a ≠ b → lt a b = true ∨ lt b a = true
theorem StrictTotal.le_trans {lt : Nat → Nat → Bool} {S : Nat → Prop} (h : StrictTotal lt S) {a b c : Nat} (ha : S a) (hb : S b) (hc : S c) (h1 : lt b a = false) (h2 : lt c b = false) : lt c a = false := by
  cases hca : lt c a with
  | false => rfl
  | true =>
    by_cases e : a = b
    · subst e
      rw [hca] at h2
      cases h2
    · rcases h.total a b ha hb e with h3 | h3
      · have := h.trans c a b hc ha hb hca h3
        rw [this] at h2
        cases h2
      · rw [h3] at h1
        cases h1
theorem StrictTotal.asymm {lt : Nat → Nat → Bool} {S : Nat → Prop} (h : StrictTotal lt S) {a b : Nat} (ha : S a) (hb : S b) (h1 : lt a b = true) : lt b a = false := by
  cases hba : lt b a with
  | false => rfl
  | true =>
    have := h.trans a b a ha hb ha h1 hba
    rw [h.irrefl a ha] at this
    cases this

def at_ (l : List Nat) (i : Nat) : Nat := l.getD i 0
def par (i : Nat) : Nat := (i - 1) / 2
def swapL (l : List Nat) (i j : Nat) : List Nat := (l.set i (at_ l j)).set j (at_ l i)
theorem swapL_length (l : List Nat) (i j : Nat) : (swapL l i j).length = l.length := by simp [swapL]
theorem at_swap (l : List Nat) (i j k : Nat) (hi : i < l.length) (hj : j < l.length) : at_ (swapL l i j) k = if k = j then at_ l i else if k = i then at_ l j else at_ l k := by
  unfold swapL at_
  rw [List.getD_eq_getElem?_getD, List.getElem?_set]
  by_cases h1 : j = k
  · subst h1
    rw [if_pos rfl, if_pos (by simpa using hj), if_pos rfl]
    rfl
  · rw [if_neg h1, if_neg (fun e => h1 e.symm), List.getElem?_set]
    by_cases h2 : i = k
    · subst h2
      rw [if_pos rfl, if_pos hi, if_pos rfl]
      rfl
    · rw [if_neg h2, if_neg (fun e => h2 e.symm), List.getD_eq_getElem?_getD]
/-- up: from j towards the root. -/
def upL (lt : Nat → Nat → Bool) : Nat → List Nat → Nat → List Nat
  | 0, l, _ => l
  | f + 1, l, j => if j = 0 then l else if lt (at_ l j) (at_ l (par j)) = true then upL lt f (swapL l (par j) j) (par j) else l
/-- down: from i towards the leaves, among the first n. -/
def child (lt : Nat → Nat → Bool) (l : List Nat) (i n : Nat) : Nat := if 2 * i + 2 < n ∧ lt (at_ l (2 * i + 2)) (at_ l (2 * i + 1)) = true then 2 * i + 2 else 2 * i + 1
def downL (lt : Nat → Nat → Bool) : Nat → List Nat → Nat → Nat → List Nat
  | 0, l, _, _ => l
  | f + 1, l, i, n => if n ≤ 2 * i + 1 then l else if lt (at_ l (child lt l i n)) (at_ l i) = true then downL lt f (swapL l i (child lt l i n)) (child lt l i n) n else l

theorem mem_of_at {l : List Nat} {i : Nat} (h : i < l.length) : at_ l i ∈ l := by
  unfold at_
  rw [List.getD_eq_getElem?_getD, List.getElem?_eq_getElem h]
  exact List.getElem_mem h
theorem swapL_perm (l : List Nat) (i j : Nat) (hi : i < l.length) (hj : j < l.length) : (swapL l i j).Perm l := by
  rw [List.perm_iff_count]
  intro a
  unfold swapL
  have ei : at_ l i = l[i] := by unfold at_; rw [List.getD_eq_getElem?_getD, List.getElem?_eq_getElem hi]; rfl
  have ej : at_ l j = l[j] := by unfold at_; rw [List.getD_eq_getElem?_getD, List.getElem?_eq_getElem hj]; rfl
  rw [ei, ej]
  by_cases e : i = j
  · subst e
    simp
  · have hc1 := List.count_set (l := l) (a := l[j]) (b := a) hi
    have hc2 := List.count_set (l := l.set i l[j]) (a := l[i]) (b := a) (i := j) (by simpa using hj)
    rw [hc2, hc1, List.getElem_set_ne e]
    have h1 : 0 < l.count l[i] := List.count_pos_iff.2 (List.getElem_mem hi)
    have h2 : 0 < l.count l[j] := List.count_pos_iff.2 (List.getElem_mem hj)
    by_cases e1 : l[i] = a <;> by_cases e2 : l[j] = a <;> simp [e1, e2]
    all_goals (try subst e1); (try subst e2); omega

section
variable {lt : Nat → Nat → Bool} {S : Nat → Prop} (ht : StrictTotal lt S)
/-- No child is less than its parent, among the first n. -/
def Heap (lt : Nat → Nat → Bool) (l : List Nat) (n : Nat) : Prop := ∀ k, 0 < k → k < n → lt (at_ l k) (at_ l (par k)) = false
include ht
theorem Heap.root {l : List Nat} {n : Nat} (h : Heap lt l n) (hn : n ≤ l.length) (hS : ∀ x, x ∈ l → S x) : ∀ k, k < n → lt (at_ l k) (at_ l 0) = false := by
  intro k
  induction k using Nat.strongRecOn with
  | _ k ih =>
    intro hk
    by_cases e : k = 0
    · subst e
      exact ht.irrefl _ (hS _ (mem_of_at (by omega)))
    · have h1 := h k (by omega) hk
      have h2 := ih (par k) (by unfold par; omega) (by unfold par; omega)
      exact ht.le_trans (hS _ (mem_of_at (by omega))) (hS _ (mem_of_at (by unfold par; omega))) (hS _ (mem_of_at (by omega))) h2 h1
/-- A heap but for j, which may be less than its parent. -/
theorem upL_heap : ∀ (f : Nat) (l : List Nat) (j : Nat), (∀ x, x ∈ l → S x) → j < l.length → j ≤ f →
    (∀ k, 0 < k → k < l.length → k ≠ j → lt (at_ l k) (at_ l (par k)) = false) →
    (∀ k, 0 < k → k < l.length → par k = j → 0 < j → lt (at_ l k) (at_ l (par j)) = false) →
    Heap lt (upL lt f l j) l.length ∧ (upL lt f l j).Perm l
  | 0, l, j, hS, hj, hf, h1, h2 => by
    unfold upL
    exact ⟨fun k hk hkn => h1 k hk hkn (by omega), List.Perm.refl _⟩
  | f + 1, l, j, hS, hj, hf, h1, h2 => by
    unfold upL
    by_cases e : j = 0
    · rw [if_pos e]
      exact ⟨fun k hk hkn => h1 k hk hkn (by omega), List.Perm.refl _⟩
    rw [if_neg e]
    have hp : par j < j := by unfold par; omega
    by_cases hl : lt (at_ l j) (at_ l (par j)) = true
    · rw [if_pos hl]
      have hperm := swapL_perm l (par j) j (by omega) hj
      have hS' : ∀ x, x ∈ swapL l (par j) j → S x := fun x hx => hS x (hperm.mem_iff.1 hx)
      have ih := upL_heap f (swapL l (par j) j) (par j) hS' (by rw [swapL_length]; omega) (by omega) ?_ ?_
      · rw [swapL_length] at ih
        exact ⟨ih.1, ih.2.trans hperm⟩
      · intro k hk hkn hkp
        rw [swapL_length] at hkn
        rw [at_swap _ _ _ _ (by omega) hj, at_swap _ _ _ _ (by omega) hj]
        by_cases ek : k = j
        · subst ek
          rw [if_pos rfl, if_neg (by omega), if_pos rfl]
          exact ht.asymm (hS _ (mem_of_at hj)) (hS _ (mem_of_at (by omega))) hl
        · rw [if_neg ek, if_neg hkp]
          by_cases e1 : par k = j
          · rw [if_pos e1]
            exact h2 k hk hkn e1 (by omega)
          · rw [if_neg e1]
            by_cases e2 : par k = par j
            · rw [if_pos e2]
              have a1 := h1 k hk hkn ek
              rw [e2] at a1
              exact ht.le_trans (hS _ (mem_of_at hj)) (hS _ (mem_of_at (by omega))) (hS _ (mem_of_at hkn)) (ht.asymm (hS _ (mem_of_at hj)) (hS _ (mem_of_at (by omega))) hl) a1
            · rw [if_neg e2]
              exact h1 k hk hkn ek
      · intro k hk hkn hkp hpj
        rw [swapL_length] at hkn
        rw [at_swap _ _ _ _ (by omega) hj, at_swap _ _ _ _ (by omega) hj]
        have hpp : par (par j) < par j := by unfold par at *; omega
        rw [if_neg (show ¬ par (par j) = j by omega), if_neg (show ¬ par (par j) = par j by omega)]
        have b1 := h1 (par j) hpj (by omega) (by omega)
        by_cases ek : k = j
        · subst ek
          rw [if_pos rfl]
          exact b1
        · have hkne : ¬ k = par j := by intro e'; subst e'; unfold par at *; omega
          rw [if_neg ek, if_neg hkne]
          have a1 := h1 k hk hkn ek
          rw [hkp] at a1
          exact ht.le_trans (hS _ (mem_of_at (by omega))) (hS _ (mem_of_at (by omega))) (hS _ (mem_of_at hkn)) b1 a1
    · rw [if_neg hl]
      refine ⟨fun k hk hkn => ?_, List.Perm.refl _⟩
      by_cases ek : k = j
      · subst ek
        simpa using hl
      · exact h1 k hk hkn ek
/-- A heap but for i, which may be greater than its children. -/
theorem downL_heap (n : Nat) : ∀ (f : Nat) (l : List Nat) (i : Nat), (∀ x, x ∈ l → S x) → n ≤ l.length → n ≤ f + i →
    (∀ k, 0 < k → k < n → par k ≠ i → lt (at_ l k) (at_ l (par k)) = false) →
    (∀ k, 0 < k → k < n → par k = i → 0 < i → lt (at_ l k) (at_ l (par i)) = false) →
    Heap lt (downL lt f l i n) n ∧ (downL lt f l i n).Perm l ∧ ∀ k, n ≤ k → at_ (downL lt f l i n) k = at_ l k
  | 0, l, i, hS, hn, hf, h1, h2 => by
    unfold downL
    exact ⟨fun k hk hkn => h1 k hk hkn (by unfold par; omega), List.Perm.refl _, fun _ _ => rfl⟩
  | f + 1, l, i, hS, hn, hf, h1, h2 => by
    unfold downL
    by_cases e : n ≤ 2 * i + 1
    · rw [if_pos e]
      exact ⟨fun k hk hkn => h1 k hk hkn (by unfold par; omega), List.Perm.refl _, fun _ _ => rfl⟩
    rw [if_neg e]
    have hc : (child lt l i n = 2 * i + 1 ∨ child lt l i n = 2 * i + 2) ∧ child lt l i n < n := by
      unfold child
      split
      · exact ⟨.inr rfl, by omega⟩
      · exact ⟨.inl rfl, by omega⟩
    have hleast : ∀ k, k < n → par k = i → 0 < k → lt (at_ l k) (at_ l (child lt l i n)) = false := by
      intro k hkn hkp hk0
      have hk12 : k = 2 * i + 1 ∨ k = 2 * i + 2 := by unfold par at hkp; omega
      unfold child
      split
      · rename_i hcc
        rcases hk12 with rfl | rfl
        · exact ht.asymm (hS _ (mem_of_at (by omega))) (hS _ (mem_of_at (by omega))) hcc.2
        · exact ht.irrefl _ (hS _ (mem_of_at (by omega)))
      · rename_i hcc
        rcases hk12 with rfl | rfl
        · exact ht.irrefl _ (hS _ (mem_of_at (by omega)))
        · cases hx : lt (at_ l (2 * i + 2)) (at_ l (2 * i + 1)) with
          | false => rfl
          | true => exact absurd ⟨hkn, hx⟩ hcc
    generalize child lt l i n = c at *
    have hpc : par c = i := by unfold par; omega
    have hci : i < c := by omega
    by_cases hl : lt (at_ l c) (at_ l i) = true
    · rw [if_pos hl]
      have hperm := swapL_perm l i c (by omega) (by omega)
      have hS' : ∀ x, x ∈ swapL l i c → S x := fun x hx => hS x (hperm.mem_iff.1 hx)
      have ih := downL_heap n f (swapL l i c) c hS' (by rw [swapL_length]; omega) (by omega) ?_ ?_
      · refine ⟨ih.1, ih.2.1.trans hperm, fun k hk => (ih.2.2 k hk).trans ?_⟩
        rw [at_swap _ _ _ _ (by omega) (by omega), if_neg (by omega), if_neg (by omega)]
      · intro k hk hkn hkp
        rw [at_swap _ _ _ _ (by omega) (by omega), at_swap _ _ _ _ (by omega) (by omega)]
        by_cases ek : k = c
        · subst ek
          rw [if_pos rfl, hpc, if_neg (by omega), if_pos rfl]
          exact ht.asymm (hS _ (mem_of_at (by omega))) (hS _ (mem_of_at (by omega))) hl
        · rw [if_neg ek, if_neg hkp]
          by_cases e1 : par k = i
          · rw [if_pos e1, if_neg (show ¬ k = i by unfold par at e1; omega)]
            exact hleast k hkn e1 hk
          · rw [if_neg e1]
            by_cases e2 : k = i
            · subst e2
              rw [if_pos rfl]
              exact h2 c (by omega) hc.2 hpc hk
            · rw [if_neg e2]
              exact h1 k hk hkn e1
      · intro k hk hkn hkp hc0
        rw [at_swap _ _ _ _ (by omega) (by omega), at_swap _ _ _ _ (by omega) (by omega), hpc, if_neg (show ¬ i = c by omega), if_pos rfl]
        have hkc : c < k := by unfold par at hkp; omega
        rw [if_neg (show ¬ k = c by omega), if_neg (show ¬ k = i by omega)]
        have a1 := h1 k hk hkn (by omega)
        rwa [hkp] at a1
    · rw [if_neg hl]
      refine ⟨fun k hk hkn => ?_, List.Perm.refl _, fun _ _ => rfl⟩
      by_cases ek : par k = i
      · rw [ek]
        have a1 := hleast k hkn ek hk
        exact ht.le_trans (hS _ (mem_of_at (by omega))) (hS _ (mem_of_at (by omega))) (hS _ (mem_of_at (by omega))) (by simpa using hl) a1
      · exact h1 k hk hkn ek
end
end Go.Proofs.Ytafiidbkkcaegaa.C
