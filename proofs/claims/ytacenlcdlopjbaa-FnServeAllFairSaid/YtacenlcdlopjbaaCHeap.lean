/-
  Plain lists: a heap's steps (up, down), and that the root is the least; the order in which users are served; a line that is right.
-/
namespace Go.Proofs.Ytacenlcdlopjbaa.C

/-- A strict total order on what the heap holds. -/
structure StrictTotal (lt : Nat → Nat → Bool) (S : Nat → Prop) : Prop where
  irrefl : ∀ a, S a → lt a a = false
  trans : ∀ a b c, S a → S b → S c → lt a b = true → lt b c = true → lt a c = true
  total : ∀ a b, S a → S b → a ≠ b → lt a b = true ∨ lt b a = true
theorem StrictTotal.le_trans {lt : Nat → Nat → Bool} {S : Nat → Prop} (h : StrictTotal lt S) {a b c : Nat} (ha : S a) (hb : S b) (hc : S c) (h1 : lt b a = false) (h2 : lt c b = false) : lt c a = false := by
  cases hca : lt c a with
  | false => rfl
  | true =>
    by_cases e : a = b
    · subst e
      rw [hca] at h2
      cases h2
    · rcases h.total a b ha hb e with h3 | h3
      · have := h.trans c a b hc ha hb hca h3
        rw [this] at h2
        cases h2
      · rw [h3] at h1
        cases h1
theorem StrictTotal.asymm {lt : Nat → Nat → Bool} {S : Nat → Prop} (h : StrictTotal lt S) {a b : Nat} (ha : S a) (hb : S b) (h1 : lt a b = true) : lt b a = false := by
  cases hba : lt b a with
  | false => rfl
  | true =>
    have := h.trans a b a ha hb ha h1 hba
    rw [h.irrefl a ha] at this
    cases this

def at_ (l : List Nat) (i : Nat) : Nat := l.getD i 0
def par (i : Nat) : Nat := (i - 1) / 2
def swapL (l : List Nat) (i j : Nat) : List Nat := (l.set i (at_ l j)).set j (at_ l i)
theorem swapL_length (l : List Nat) (i j : Nat) : (swapL l i j).length = l.length := by simp [swapL]
theorem at_swap (l : List Nat) (i j k : Nat) (hi : i < l.length) (hj : j < l.length) : at_ (swapL l i j) k = if k = j then at_ l i else if k = i then at_ l j else at_ l k := by
  unfold swapL at_
  rw [List.getD_eq_getElem?_getD, List.getElem?_set]
  by_cases h1 : j = k
  · subst h1
    rw [if_pos rfl, if_pos (by simpa using hj), if_pos rfl]
    rfl
  · rw [if_neg h1, if_neg (fun e => h1 e.symm), List.getElem?_set]
    by_cases h2 : i = k
    · subst h2
      rw [if_pos rfl, if_pos hi, if_pos rfl]
      rfl
    · rw [if_neg h2, if_neg (fun e => h2 e.symm), List.getD_eq_getElem?_getD]
/-- up: from j towards the root. -/
def upL (lt : Nat → Nat → Bool) : Nat → List Nat → Nat → List Nat
  | 0, l, _ => l
  | f + 1, l, j => if j = 0 then l else if lt (at_ l j) (at_ l (par j)) = true then upL lt f (swapL l (par j) j) (par j) else l
/-- down: from i towards the leaves, among the first n. -/
def child (lt : Nat → Nat → Bool) (l : List Nat) (i n : Nat) : Nat := if 2 * i + 2 < n ∧ lt (at_ l (2 * i + 2)) (at_ l (2 * i + 1)) = true then 2 * i + 2 else 2 * i + 1
def downL (lt : Nat → Nat → Bool) : Nat → List Nat → Nat → Nat → List Nat
  | 0, l, _, _ => l
  | f + 1, l, i, n => if n ≤ 2 * i + 1 then l else if lt (at_ l (child lt l i n)) (at_ l i) = true then downL lt f (swapL l i (child lt l i n)) (child lt l i n) n else l

theorem mem_of_at {l : List Nat} {i : Nat} (h : i < l.length) : at_ l i ∈ l := by
  unfold at_
  rw [List.getD_eq_getElem?_getD, List.getElem?_eq_getElem h]
  exact List.getElem_mem h
theorem swapL_perm (l : List Nat) (i j : Nat) (hi : i < l.length) (hj : j < l.length) : (swapL l i j).Perm l := by
  rw [List.perm_iff_count]
  intro a
  unfold swapL
  have ei : at_ l i = l[i] := by unfold at_; rw [List.getD_eq_getElem?_getD, List.getElem?_eq_getElem hi]; rfl
  have ej : at_ l j = l[j] := by unfold at_; rw [List.getD_eq_getElem?_getD, List.getElem?_eq_getElem hj]; rfl
  rw [ei, ej]
  by_cases e : i = j
  · subst e
    simp
  · have hc1 := List.count_set (l := l) (a := l[j]) (b := a) hi
    have hc2 := List.count_set (l := l.set i l[j]) (a := l[i]) (b := a) (i := j) (by simpa using hj)
    rw [hc2, hc1, List.getElem_set_ne e]
    have h1 : 0 < l.count l[i] := List.count_pos_iff.2 (List.getElem_mem hi)
    have h2 : 0 < l.count l[j] := List.count_pos_iff.2 (List.getElem_mem hj)
    by_cases e1 : l[i] = a <;> by_cases e2 : l[j] = a <;> simp [e1, e2]
    all_goals (try subst e1); (try subst e2); omega

section
variable {lt : Nat → Nat → Bool} {S : Nat → Prop} (ht : StrictTotal lt S)
/-- No child is less than its parent, among the first n. -/
def Heap (lt : Nat → Nat → Bool) (l : List Nat) (n : Nat) : Prop := ∀ k, 0 < k → k < n → lt (at_ l k) (at_ l (par k)) = false
include ht
theorem Heap.root {l : List Nat} {n : Nat} (h : Heap lt l n) (hn : n ≤ l.length) (hS : ∀ x, x ∈ l → S x) : ∀ k, k < n → lt (at_ l k) (at_ l 0) = false := by
  intro k
  induction k using Nat.strongRecOn with
  | _ k ih =>
    intro hk
    by_cases e : k = 0
    · subst e
      exact ht.irrefl _ (hS _ (mem_of_at (by omega)))
    · have h1 := h k (by omega) hk
      have h2 := ih (par k) (by unfold par; omega) (by unfold par; omega)
      exact ht.le_trans (hS _ (mem_of_at (by omega))) (hS _ (mem_of_at (by unfold par; omega))) (hS _ (mem_of_at (by omega))) h2 h1
/-- A heap but for j, which may be less than its parent. -/
theorem upL_heap : ∀ (f : Nat) (l : List Nat) (j : Nat), (∀ x, x ∈ l → S x) → j < l.length → j ≤ f →
    (∀ k, 0 < k → k < l.length → k ≠ j → lt (at_ l k) (at_ l (par k)) = false) →
    (∀ k, 0 < k → k < l.length → par k = j → 0 < j → lt (at_ l k) (at_ l (par j)) = false) →
    Heap lt (upL lt f l j) l.length ∧ (upL lt f l j).Perm l
  | 0, l, j, hS, hj, hf, h1, h2 => by
    unfold upL
    exact ⟨fun k hk hkn => h1 k hk hkn (by omega), List.Perm.refl _⟩
  | f + 1, l, j, hS, hj, hf, h1, h2 => by
    unfold upL
    by_cases e : j = 0
    · rw [if_pos e]
      exact ⟨fun k hk hkn => h1 k hk hkn (by omega), List.Perm.refl _⟩
    rw [if_neg e]
    have hp : par j < j := by unfold par; omega
    by_cases hl : lt (at_ l j) (at_ l (par j)) = true
    · rw [if_pos hl]
      have hperm := swapL_perm l (par j) j (by omega) hj
      have hS' : ∀ x, x ∈ swapL l (par j) j → S x := fun x hx => hS x (hperm.mem_iff.1 hx)
      have ih := upL_heap f (swapL l (par j) j) (par j) hS' (by rw [swapL_length]; omega) (by omega) ?_ ?_
      · rw [swapL_length] at ih
        exact ⟨ih.1, ih.2.trans hperm⟩
      · intro k hk hkn hkp
        rw [swapL_length] at hkn
        rw [at_swap _ _ _ _ (by omega) hj, at_swap _ _ _ _ (by omega) hj]
        by_cases ek : k = j
        · subst ek
          rw [if_pos rfl, if_neg (by omega), if_pos rfl]
          exact ht.asymm (hS _ (mem_of_at hj)) (hS _ (mem_of_at (by omega))) hl
        · rw [if_neg ek, if_neg hkp]
          by_cases e1 : par k = j
          · rw [if_pos e1]
            exact h2 k hk hkn e1 (by omega)
          · rw [if_neg e1]
            by_cases e2 : par k = par j
            · rw [if_pos e2]
              have a1 := h1 k hk hkn ek
              rw [e2] at a1
              exact ht.le_trans (hS _ (mem_of_at hj)) (hS _ (mem_of_at (by omega))) (hS _ (mem_of_at hkn)) (ht.asymm (hS _ (mem_of_at hj)) (hS _ (mem_of_at (by omega))) hl) a1
            · rw [if_neg e2]
              exact h1 k hk hkn ek
      · intro k hk hkn hkp hpj
        rw [swapL_length] at hkn
        rw [at_swap _ _ _ _ (by omega) hj, at_swap _ _ _ _ (by omega) hj]
        have hpp : par (par j) < par j := by unfold par at *; omega
        rw [if_neg (show ¬ par (par j) = j by omega), if_neg (show ¬ par (par j) = par j by omega)]
        have b1 := h1 (par j) hpj (by omega) (by omega)
        by_cases ek : k = j
        · subst ek
          rw [if_pos rfl]
          exact b1
        · have hkne : ¬ k = par j := by intro e'; subst e'; unfold par at *; omega
          rw [if_neg ek, if_neg hkne]
          have a1 := h1 k hk hkn ek
          rw [hkp] at a1
          exact ht.le_trans (hS _ (mem_of_at (by omega))) (hS _ (mem_of_at (by omega))) (hS _ (mem_of_at hkn)) b1 a1
    · rw [if_neg hl]
      refine ⟨fun k hk hkn => ?_, List.Perm.refl _⟩
      by_cases ek : k = j
      · subst ek
        simpa using hl
      · exact h1 k hk hkn ek
/-- A heap but for i, which may be greater than its children. -/
theorem downL_heap (n : Nat) : ∀ (f : Nat) (l : List Nat) (i : Nat), (∀ x, x ∈ l → S x) → n ≤ l.length → n ≤ f + i →
    (∀ k, 0 < k → k < n → par k ≠ i → lt (at_ l k) (at_ l (par k)) = false) →
    (∀ k, 0 < k → k < n → par k = i → 0 < i → lt (at_ l k) (at_ l (par i)) = false) →
    Heap lt (downL lt f l i n) n ∧ (downL lt f l i n).Perm l ∧ ∀ k, n ≤ k → at_ (downL lt f l i n) k = at_ l k
  | 0, l, i, hS, hn, hf, h1, h2 => by
    unfold downL
    exact ⟨fun k hk hkn => h1 k hk hkn (by unfold par; omega), List.Perm.refl _, fun _ _ => rfl⟩
  | f + 1, l, i, hS, hn, hf, h1, h2 => by
    unfold downL
    by_cases e : n ≤ 2 * i + 1
    · rw [if_pos e]
      exact ⟨fun k hk hkn => h1 k hk hkn (by unfold par; omega), List.Perm.refl _, fun _ _ => rfl⟩
    rw [if_neg e]
    have hc : (child lt l i n = 2 * i + 1 ∨ child lt l i n = 2 * i + 2) ∧ child lt l i n < n := by
      unfold child
      split
      · exact ⟨.inr rfl, by omega⟩
      · exact ⟨.inl rfl, by omega⟩
    have hleast : ∀ k, k < n → par k = i → 0 < k → lt (at_ l k) (at_ l (child lt l i n)) = false := by
      intro k hkn hkp hk0
      have hk12 : k = 2 * i + 1 ∨ k = 2 * i + 2 := by unfold par at hkp; omega
      unfold child
      split
      · rename_i hcc
        rcases hk12 with rfl | rfl
        · exact ht.asymm (hS _ (mem_of_at (by omega))) (hS _ (mem_of_at (by omega))) hcc.2
        · exact ht.irrefl _ (hS _ (mem_of_at (by omega)))
      · rename_i hcc
        rcases hk12 with rfl | rfl
        · exact ht.irrefl _ (hS _ (mem_of_at (by omega)))
        · cases hx : lt (at_ l (2 * i + 2)) (at_ l (2 * i + 1)) with
          | false => rfl
          | true => exact absurd ⟨hkn, hx⟩ hcc
    generalize child lt l i n = c at *
    have hpc : par c = i := by unfold par; omega
    have hci : i < c := by omega
    by_cases hl : lt (at_ l c) (at_ l i) = true
    · rw [if_pos hl]
      have hperm := swapL_perm l i c (by omega) (by omega)
      have hS' : ∀ x, x ∈ swapL l i c → S x := fun x hx => hS x (hperm.mem_iff.1 hx)
      have ih := downL_heap n f (swapL l i c) c hS' (by rw [swapL_length]; omega) (by omega) ?_ ?_
      · refine ⟨ih.1, ih.2.1.trans hperm, fun k hk => (ih.2.2 k hk).trans ?_⟩
        rw [at_swap _ _ _ _ (by omega) (by omega), if_neg (by omega), if_neg (by omega)]
      · intro k hk hkn hkp
        rw [at_swap _ _ _ _ (by omega) (by omega), at_swap _ _ _ _ (by omega) (by omega)]
        by_cases ek : k = c
        · subst ek
          rw [if_pos rfl, hpc, if_neg (by omega), if_pos rfl]
          exact ht.asymm (hS _ (mem_of_at (by omega))) (hS _ (mem_of_at (by omega))) hl
        · rw [if_neg ek, if_neg hkp]
          by_cases e1 : par k = i
          · rw [if_pos e1, if_neg (show ¬ k = i by unfold par at e1; omega)]
            exact hleast k hkn e1 hk
          · rw [if_neg e1]
            by_cases e2 : k = i
            · subst e2
              rw [if_pos rfl]
              exact h2 c (by omega) hc.2 hpc hk
            · rw [if_neg e2]
              exact h1 k hk hkn e1
      · intro k hk hkn hkp hc0
        rw [at_swap _ _ _ _ (by omega) (by omega), at_swap _ _ _ _ (by omega) (by omega), hpc, if_neg (show ¬ i = c by omega), if_pos rfl]
        have hkc : c < k := by unfold par at hkp; omega
        rw [if_neg (show ¬ k = c by omega), if_neg (show ¬ k = i by omega)]
        have a1 := h1 k hk hkn (by omega)
        rwa [hkp] at a1
    · rw [if_neg hl]
      refine ⟨fun k hk hkn => ?_, List.Perm.refl _, fun _ _ => rfl⟩
      by_cases ek : par k = i
      · rw [ek]
        have a1 := hleast k hkn ek hk
        exact ht.le_trans (hS _ (mem_of_at (by omega))) (hS _ (mem_of_at (by omega))) (hS _ (mem_of_at (by omega))) (by simpa using hl) a1
      · exact h1 k hk hkn ek
end

/-- Who has used less for the share comes first, of equals the first one. -/
def ltK (u s : Nat → Int) (a b : Nat) : Bool := if u a * s b - u b * s a ≠ 0 then decide (u a * s b - u b * s a < 0) else decide (a < b)
theorem ltK_iff (u s : Nat → Int) (a b : Nat) : ltK u s a b = true ↔ u a * s b < u b * s a ∨ (u a * s b = u b * s a ∧ a < b) := by
  unfold ltK
  split
  · rename_i h
    rw [decide_eq_true_eq]
    omega
  · rename_i h
    rw [decide_eq_true_eq]
    omega
theorem cross {A B C sa sb sc : Int} (hb : 0 < sb) (ha : 0 < sa) (hc : 0 < sc) (h1 : A * sb ≤ B * sa) (h2 : B * sc ≤ C * sb) : A * sc ≤ C * sa := by
  have e1 : A * sb * sc ≤ B * sa * sc := Int.mul_le_mul_of_nonneg_right h1 (by omega)
  have e2 : B * sc * sa ≤ C * sb * sa := Int.mul_le_mul_of_nonneg_right h2 (by omega)
  have e3 : sb * (A * sc) ≤ sb * (C * sa) := by
    have r1 : sb * (A * sc) = A * sb * sc := by rw [Int.mul_left_comm, Int.mul_assoc]
    have r2 : sb * (C * sa) = C * sb * sa := by rw [Int.mul_left_comm, Int.mul_assoc]
    have r3 : B * sa * sc = B * sc * sa := by rw [Int.mul_assoc, Int.mul_comm sa sc, ← Int.mul_assoc]
    rw [r1, r2]
    omega
  exact Int.le_of_mul_le_mul_left e3 hb
theorem cross_lt {A B C sa sb sc : Int} (hb : 0 < sb) (ha : 0 < sa) (hc : 0 < sc) (h1 : A * sb < B * sa) (h2 : B * sc ≤ C * sb) : A * sc < C * sa := by
  apply Int.lt_of_not_ge
  intro h
  have := cross (A := C) (B := A) (C := B) (sa := sc) (sb := sa) (sc := sb) ha hc hb h (by omega)
  have h3 := cross (A := B) (B := C) (C := A) (sa := sb) (sb := sc) (sc := sa) hc hb ha h2 h
  omega
theorem cross_lt' {A B C sa sb sc : Int} (hb : 0 < sb) (ha : 0 < sa) (hc : 0 < sc) (h1 : A * sb ≤ B * sa) (h2 : B * sc < C * sb) : A * sc < C * sa := by
  apply Int.lt_of_not_ge
  intro h
  have h3 := cross (A := C) (B := A) (C := B) (sa := sc) (sb := sa) (sc := sb) ha hc hb h h1
  omega
theorem ltK_strict (u s : Nat → Int) {S : Nat → Prop} (hs : ∀ a, S a → 0 < s a) : StrictTotal (ltK u s) S where
  irrefl a ha := by
    cases h : ltK u s a a with
    | false => rfl
    | true =>
      rw [ltK_iff] at h
      omega
  trans a b c ha hb hc h1 h2 := by
    rw [ltK_iff] at *
    rcases h1 with h1 | ⟨h1, i1⟩
    · rcases h2 with h2 | ⟨h2, i2⟩
      · exact .inl (cross_lt (hs b hb) (hs a ha) (hs c hc) h1 (by omega))
      · exact .inl (cross_lt (hs b hb) (hs a ha) (hs c hc) h1 (by omega))
    · rcases h2 with h2 | ⟨h2, i2⟩
      · exact .inl (cross_lt' (hs b hb) (hs a ha) (hs c hc) (by omega) h2)
      · have e1 := cross (hs b hb) (hs a ha) (hs c hc) (A := u a) (B := u b) (C := u c) (by omega) (by omega)
        have e2 := cross (hs b hb) (hs c hc) (hs a ha) (A := u c) (B := u b) (C := u a) (by omega) (by omega)
        exact .inr ⟨by omega, by omega⟩
  total a b ha hb hne := by
    rw [ltK_iff, ltK_iff]
    omega

/-- Who comes next of the first m, if anybody waits. -/
def nextGo (u s w : Nat → Int) : Nat → Option Nat
  | 0 => none
  | m + 1 => match nextGo u s w m with
    | none => if 0 < w m then some m else none
    | some a => if 0 < w m ∧ u m * s a < u a * s m then some m else some a
theorem nextGo_none {u s w : Nat → Int} : ∀ {m : Nat}, nextGo u s w m = none ↔ ∀ i, i < m → ¬ 0 < w i
  | 0 => by simp [nextGo]
  | m + 1 => by
    unfold nextGo
    have ih := nextGo_none (u := u) (s := s) (w := w) (m := m)
    cases h : nextGo u s w m with
    | none =>
      simp only
      have h1 := ih.1 h
      constructor
      · intro h2 i hi
        by_cases e : i = m
        · subst e
          intro h3
          rw [if_pos h3] at h2
          cases h2
        · exact h1 i (by omega)
      · intro h2
        rw [if_neg (h2 m (by omega))]
    | some a =>
      simp only
      constructor
      · intro h2
        split at h2 <;> cases h2
      · intro h2
        have := ih.2 (fun i hi => h2 i (by omega))
        rw [h] at this
        cases this
/-- It waits, and nobody who waits comes before. -/
theorem nextGo_some {u s w : Nat → Int} (hs : ∀ i, 0 < w i → 0 < s i) : ∀ {m a : Nat}, nextGo u s w m = some a → a < m ∧ 0 < w a ∧ ∀ i, i < m → 0 < w i → ltK u s i a = false
  | 0, a, h => by simp [nextGo] at h
  | m + 1, a, h => by
    have ht := ltK_strict u s (S := fun i => 0 < w i) hs
    unfold nextGo at h
    cases h' : nextGo u s w m with
    | none =>
      rw [h'] at h
      simp only at h
      split at h
      · rename_i hw
        injection h with h
        subst h
        refine ⟨by omega, hw, fun i hi hwi => ?_⟩
        by_cases e : i = m
        · subst e
          exact ht.irrefl _ hw
        · exact absurd hwi ((nextGo_none.1 h') i (by omega))
      · cases h
    | some b =>
      rw [h'] at h
      simp only at h
      obtain ⟨i1, i2, i3⟩ := nextGo_some hs h'
      split at h
      · rename_i hc
        injection h with h
        subst h
        refine ⟨by omega, hc.1, fun i hi hwi => ?_⟩
        by_cases e : i = m
        · subst e
          exact ht.irrefl _ hc.1
        · have h3 := i3 i (by omega) hwi
          have h4 : ltK u s b m = false := by
            cases hx : ltK u s b m with
            | false => rfl
            | true =>
              rw [ltK_iff] at hx
              omega
          exact ht.le_trans hc.1 i2 hwi h4 h3
      · rename_i hc
        injection h with h
        subst h
        refine ⟨by omega, i2, fun i hi hwi => ?_⟩
        by_cases e : i = m
        · subst e
          cases hx : ltK u s i b with
          | false => rfl
          | true =>
            rw [ltK_iff] at hx
            rcases hx with hx | ⟨_, hx⟩
            · exact absurd ⟨hwi, hx⟩ hc
            · omega
        · exact i3 i (by omega) hwi
/-- Who waits and before whom nobody comes is the one who comes next. -/
theorem nextGo_unique {u s w : Nat → Int} (hs : ∀ i, 0 < w i → 0 < s i) {m a : Nat} (ha : a < m) (hw : 0 < w a) (hl : ∀ i, i < m → 0 < w i → ltK u s i a = false) : nextGo u s w m = some a := by
  have ht := ltK_strict u s (S := fun i => 0 < w i) hs
  cases h : nextGo u s w m with
  | none => exact absurd hw ((nextGo_none.1 h) a ha)
  | some b =>
    obtain ⟨h1, h2, h3⟩ := nextGo_some hs h
    by_cases e : a = b
    · rw [e]
    · rcases ht.total a b hw h2 e with h4 | h4
      · rw [h3 a ha hw] at h4
        cases h4
      · rw [hl b h1 h2] at h4
        cases h4

/-- A line that is right: a heap by lt; it holds just those who wait, each once. -/
structure Right (lt : Nat → Nat → Bool) (S : Nat → Prop) (l : List Nat) : Prop where
  heap : Heap lt l l.length
  nodup : l.Nodup
  mem : ∀ x, x ∈ l ↔ S x

theorem nodup_le {l : List Nat} {n : Nat} (hn : l.Nodup) (h : ∀ i, i ∈ l → i < n) : l.length ≤ n := by
  have := hn.length_le_of_subset (l₂ := List.range n) (fun i hi => List.mem_range.2 (h i hi))
  simpa using this
theorem Right.nil {lt : Nat → Nat → Bool} {S : Nat → Prop} (h : ∀ x, ¬ S x) : Right lt S [] :=
  ⟨fun k _ hk => absurd hk (Nat.not_lt_zero _), List.nodup_nil, fun x => ⟨fun hx => by simp at hx, fun hx => absurd hx (h x)⟩⟩
theorem at_append {l : List Nat} {x : Nat} {k : Nat} (h : k < l.length) : at_ (l ++ [x]) k = at_ l k := by
  unfold at_
  rw [List.getD_eq_getElem?_getD, List.getElem?_append_left h, List.getD_eq_getElem?_getD]
theorem at_take {l : List Nat} {n k : Nat} (h : k < n) : at_ (l.take n) k = at_ l k := by
  unfold at_
  rw [List.getD_eq_getElem?_getD, List.getElem?_take, if_pos h, List.getD_eq_getElem?_getD]
theorem take_last {l : List Nat} {n : Nat} (h : l.length = n + 1) : l = l.take n ++ [at_ l n] := by
  have h1 : l.take (n + 1) = l := List.take_of_length_le (by omega)
  have h2 : l.take (n + 1) = l.take n ++ [l[n]'(by omega)] := List.take_succ_eq_append_getElem (by omega)
  have h3 : at_ l n = l[n]'(by omega) := by
    unfold at_
    rw [List.getD_eq_getElem?_getD, List.getElem?_eq_getElem (by omega)]
    rfl
  rw [h3, ← h2, h1]
theorem Right.push {lt : Nat → Nat → Bool} {S S' : Nat → Prop} {l : List Nat} {x : Nat} (ht : StrictTotal lt S') (h : Right lt S l) (hx : ¬ S x) (hS : ∀ y, S' y ↔ S y ∨ y = x) :
    Right lt S' (upL lt l.length (l ++ [x]) l.length) := by
  have hm : ∀ y, y ∈ l ++ [x] ↔ S' y := fun y => by rw [List.mem_append, List.mem_singleton, h.mem, hS]
  have hl : (l ++ [x]).length = l.length + 1 := by simp
  obtain ⟨h1, h2⟩ := upL_heap ht l.length (l ++ [x]) l.length (fun y hy => (hm y).1 hy) (by omega) (Nat.le_refl _)
    (fun k hk hkn hne => by
      have hp : par k < k := by unfold par; omega
      rw [at_append (by omega), at_append (by omega)]
      exact h.heap k hk (by omega))
    (fun k hk hkn hp h0 => by
      have : par k < k := by unfold par; omega
      omega)
  have hlen := h2.length_eq
  refine ⟨by rw [hlen]; exact h1, h2.nodup_iff.2 ?_, fun y => (h2.mem_iff).trans (hm y)⟩
  refine List.nodup_append.2 ⟨h.nodup, by simp, fun a ha b hb e => ?_⟩
  rw [List.mem_singleton] at hb
  rw [e, hb] at ha
  exact hx ((h.mem x).1 ha)
theorem at_ne {l : List Nat} (h : l.Nodup) {i j : Nat} (hi : i < l.length) (hj : j < l.length) (e : i ≠ j) : at_ l i ≠ at_ l j := by
  unfold at_
  rw [List.getD_eq_getElem?_getD, List.getElem?_eq_getElem hi, List.getD_eq_getElem?_getD, List.getElem?_eq_getElem hj]
  simp only [Option.getD_some]
  intro h1
  rcases Nat.lt_or_gt_of_ne e with h2 | h2
  · exact List.pairwise_iff_getElem.1 h i j hi hj h2 h1
  · exact List.pairwise_iff_getElem.1 h j i hj hi h2 h1.symm
/-- The first one's key has turned: a heap but for the root. -/
theorem Right.fix {lt lt' : Nat → Nat → Bool} {S : Nat → Prop} {l : List Nat} (ht : StrictTotal lt' S) (h : Right lt S l) (ha : ∀ x y, x ≠ at_ l 0 → y ≠ at_ l 0 → lt' x y = lt x y) :
    Right lt' S (downL lt' l.length l 0 l.length) := by
  obtain ⟨h1, h2, _⟩ := downL_heap ht l.length l.length l 0 (fun y hy => (h.mem y).1 hy) (Nat.le_refl _) (by omega)
    (fun k hk hkn hp => by
      have hpl : par k < l.length := by unfold par; omega
      rw [ha _ _ (at_ne h.nodup hkn (by omega) (by omega)) (at_ne h.nodup hpl (by omega) hp)]
      exact h.heap k hk hkn)
    (fun k hk hkn hp h0 => absurd h0 (Nat.lt_irrefl _))
  exact ⟨by rw [h2.length_eq]; exact h1, h2.nodup_iff.2 h.nodup, fun y => h2.mem_iff.trans (h.mem y)⟩
/-- The first one goes. -/
theorem Right.pop {lt lt' : Nat → Nat → Bool} {S S' : Nat → Prop} {l : List Nat} {n : Nat} (hn : l.length = n + 1) (ht : StrictTotal lt' S) (h : Right lt S l) (ha : ∀ x y, x ≠ at_ l 0 → y ≠ at_ l 0 → lt' x y = lt x y)
    (hS : ∀ y, S' y ↔ S y ∧ y ≠ at_ l 0) : Right lt' S' ((downL lt' n (swapL l 0 n) 0 n).take n) := by
  have hp := swapL_perm l 0 n (by omega) (by omega)
  have hsl := swapL_length l 0 n
  obtain ⟨h1, h2, h3⟩ := downL_heap ht n n (swapL l 0 n) 0 (fun y hy => (h.mem y).1 (hp.mem_iff.1 hy)) (by omega) (by omega)
    (fun k hk hkn hp0 => by
      have hpl : par k < n := by unfold par; omega
      rw [at_swap _ _ _ _ (by omega) (by omega), if_neg (by omega), if_neg (by omega), at_swap _ _ _ _ (by omega) (by omega), if_neg (by omega), if_neg hp0,
        ha _ _ (at_ne h.nodup (by omega) (by omega) (by omega)) (at_ne h.nodup (by omega) (by omega) hp0)]
      exact h.heap k hk (by omega))
    (fun k hk hkn hp0 h0 => absurd h0 (Nat.lt_irrefl _))
  have hl : (downL lt' n (swapL l 0 n) 0 n).length = n + 1 := by rw [h2.length_eq, hsl, hn]
  have hlast : at_ (downL lt' n (swapL l 0 n) 0 n) n = at_ l 0 := by
    rw [h3 n (Nat.le_refl _), at_swap _ _ _ _ (by omega) (by omega), if_pos rfl]
  have hsplit := take_last hl
  rw [hlast] at hsplit
  have hperm := h2.trans hp
  generalize downL lt' n (swapL l 0 n) 0 n = d at *
  have hnd := hperm.nodup_iff.2 h.nodup
  rw [hsplit] at hnd
  obtain ⟨hn1, _, hn2⟩ := List.nodup_append.1 hnd
  have htl : (d.take n).length = n := by rw [List.length_take]; omega
  refine ⟨fun k hk hkn => ?_, hn1, fun y => ?_⟩
  · rw [htl] at hkn
    rw [at_take hkn, at_take (by unfold par; omega)]
    exact h1 k hk hkn
  · rw [hS, ← h.mem, ← hperm.mem_iff]
    constructor
    · intro hy
      exact ⟨List.mem_of_mem_take hy, fun e => hn2 y hy (at_ l 0) (by simp) e⟩
    · rintro ⟨hy, hne⟩
      rw [hsplit, List.mem_append, List.mem_singleton] at hy
      exact hy.resolve_right hne
/-- Who stands first of a right line is the one who comes next. -/
theorem Right.next {u s w : Nat → Int} {m : Nat} {l : List Nat} (hs : ∀ i, 0 < w i → 0 < s i) (h : Right (ltK u s) (fun i => i < m ∧ 0 < w i) l) (hl : 0 < l.length) : nextGo u s w m = some (at_ l 0) := by
  have ht : StrictTotal (ltK u s) (fun i => i < m ∧ 0 < w i) := ltK_strict u s (fun a ha => hs a ha.2)
  have hS : ∀ x, x ∈ l → x < m ∧ 0 < w x := fun x hx => (h.mem x).1 hx
  have h0 := hS _ (mem_of_at hl)
  refine nextGo_unique hs h0.1 h0.2 (fun i hi hwi => ?_)
  obtain ⟨k, hk, rfl⟩ := List.mem_iff_getElem.1 ((h.mem i).2 ⟨hi, hwi⟩)
  have hr := Heap.root ht h.heap (Nat.le_refl _) hS k hk
  have e : at_ l k = l[k] := by
    unfold at_
    rw [List.getD_eq_getElem?_getD, List.getElem?_eq_getElem hk]
    rfl
  rwa [e] at hr
theorem Right.next_none {u s w : Nat → Int} {m : Nat} {l : List Nat} (h : Right (ltK u s) (fun i => i < m ∧ 0 < w i) l) (hl : l.length = 0) : nextGo u s w m = none := by
  rw [nextGo_none]
  intro i hi hw
  have := (h.mem i).2 ⟨hi, hw⟩
  rw [List.eq_nil_of_length_eq_zero hl] at this
  simp at this
end Go.Proofs.Ytacenlcdlopjbaa.C
