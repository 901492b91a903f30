/-
  NextUser by hand.
-/
import Derived.Test.YtflponipbdgkeaaHServe
import Derived.Test.YtflponipbdgkeaaQUsers
import Derived.Test.YtflponipbdgkeaaG0
import Derived.Test.YtflponipbdgkeaaG4
namespace Go.Proofs.Ytflponipbdgkeaa.C

/-- A strict total order on what the heap holds. -/
structure StrictTotal (lt : Nat → Nat → Bool) (S : Nat → Prop) : Prop where
  irrefl : ∀ a, S a → lt a a = false
  trans : ∀ a b c, S a → S b → S c → lt a b = true → lt b c = true → lt a c = true
  total : ∀ a b, S a → S b → a ≠ b → lt a b = true ∨ lt b a = true
theorem StrictTotal.le_trans {lt : Nat → Nat → Bool} {S : Nat → Prop} (h : StrictTotal lt S) {a b c : Nat} (ha : S a) (hb : S b) (hc : S c) (h1 : lt b a = false) (h2 : lt c b = false) : lt c a = false := by
  cases hca : lt c a with
  | false => rfl
  | true =>
    by_cases e : a = b
    · subst e
      rw [hca] at h2
      cases h2
    · rcases h.total a b ha hb e with h3 | h3
      · have := h.trans c a b hc ha hb hca h3
        rw [this] at h2
        cases h2
      · rw [h3] at h1
        cases h1
theorem StrictTotal.asymm {lt : Nat → Nat → Bool} {S : Nat → Prop} (h : StrictTotal lt S) {a b : Nat} (ha : S a) (hb : S b) (h1 : lt a b = true) : lt b a = false := by
  cases hba : lt b a with
  | false => rfl
  | true =>
    have := h.trans a b a ha hb ha h1 hba
    rw [h.irrefl a ha] at this
    cases this

def at_ (l : List Nat) (i : Nat) : Nat := l.getD i 0
def par (i : Nat) : Nat := (i - 1) / 2
def swapL (l : List Nat) (i j : Nat) : List Nat := (l.set i (at_ l j)).set j (at_ l i)
theorem swapL_length (l : List Nat) (i j : Nat) : (swapL l i j).length = l.length := by simp [swapL]
theorem at_swap (l : List Nat) (i j k : Nat) (hi : i < l.length) (hj : j < l.length) : at_ (swapL l i j) k = if k = j then at_ l i else if k = i then at_ l j else at_ l k := by
  unfold swapL at_
  rw [List.getD_eq_getElem?_getD, List.getElem?_set]
  by_cases h1 : j = k
  · subst h1
    rw [if_pos rfl, if_pos (by simpa using hj), if_pos rfl]
    rfl
  · rw [if_neg h1, if_neg (fun e => h1 e.symm), List.getElem?_set]
    by_cases h2 : i = k
    · subst h2
      rw [if_pos rfl, if_pos hi, if_pos rfl]
      rfl
    · rw [if_neg h2, if_neg (fun e => h2 e.symm), List.getD_eq_getElem?_getD]
/-- up: from j towards the root. -/
def upL (lt : Nat → Nat → Bool) : Nat → List Nat → Nat → List Nat
  | 0, l, _ => l
  | f + 1, l, j => if j = 0 then l else if lt (at_ l j) (at_ l (par j)) = true then upL lt f (swapL l (par j) j) (par j) else l
/-- down: from i towards the leaves, among the first n. -/
def child (lt : Nat → Nat → Bool) (l : List Nat) (i n : Nat) : Nat := if 2 * i + 2 < n ∧ lt (at_ l (2 * i + 2)) (at_ l (2 * i + 1)) = true then 2 * i + 2 else 2 * i + 1
def downL (lt : Nat → Nat → Bool) : Nat → List Nat → Nat → Nat → List Nat
  | 0, l, _, _ => l
  | f + 1, l, i, n => if n ≤ 2 * i + 1 then l else if lt (at_ l (child lt l i n)) (at_ l i) = true then downL lt f (swapL l i (child lt l i n)) (child lt l i n) n else l

theorem mem_of_at {l : List Nat} {i : Nat} (h : i < l.length) : at_ l i ∈ l := by
  unfold at_
  rw [List.getD_eq_getElem?_getD, List.getElem?_eq_getElem h]
  exact List.getElem_mem h
theorem swapL_perm (l : List Nat) (i j : Nat) (hi : i < l.length) (hj : j < l.length) : (swapL l i j).Perm l := by
  rw [List.perm_iff_count]
  intro a
  unfold swapL
  have ei : at_ l i = l[i] := by unfold at_; rw [List.getD_eq_getElem?_getD, List.getElem?_eq_getElem hi]; rfl
  have ej : at_ l j = l[j] := by unfold at_; rw [List.getD_eq_getElem?_getD, List.getElem?_eq_getElem hj]; rfl
  rw [ei, ej]
  by_cases e : i = j
  · subst e
    simp
  · have hc1 := List.count_set (l := l) (a := l[j]) (b := a) hi
    have hc2 := List.count_set (l := l.set i l[j]) (a := l[i]) (b := a) (i := j) (by simpa using hj)
    rw [hc2, hc1, List.getElem_set_ne e]
    have h1 : 0 < l.count l[i] := List.count_pos_iff.2 (List.getElem_mem hi)
    have h2 : 0 < l.count l[j] := List.count_pos_iff.2 (List.getElem_mem hj)
    by_cases e1 : l[i] = a <;> by_cases e2 : l[j] = a <;> simp [e1, e2]
    all_goals (try subst e1); (try subst e2); omega

section
variable {lt : Nat → Nat → Bool} {S : Nat → Prop} (ht : StrictTotal lt S)
/-- No child is less than its parent, among the first n. -/
def Heap (lt : Nat → Nat → Bool) (l : List Nat) (n : Nat) : Prop := ∀ k, 0 < k → k < n → lt (at_ l k) (at_ l (par k)) = false
include ht
theorem Heap.root {l : List Nat} {n : Nat} (h : Heap lt l n) (hn : n ≤ l.length) (hS : ∀ x, x ∈ l → S x) : ∀ k, k < n → lt (at_ l k) (at_ l 0) = false := by
  intro k
  induction k using Nat.strongRecOn with
  | _ k ih =>
    intro hk
    by_cases e : k = 0
    · subst e
      exact ht.irrefl _ (hS _ (mem_of_at (by omega)))
    · have h1 := h k (by omega) hk
      have h2 := ih (par k) (by unfold par; omega) (by unfold par; omega)
      exact ht.le_trans (hS _ (mem_of_at (by omega))) (hS _ (mem_of_at (by unfold par; omega))) (hS _ (mem_of_at (by omega))) h2 h1
/-- A heap but for j, which may be less than its parent. -/
theorem upL_heap : ∀ (f : Nat) (l : List Nat) (j : Nat), (∀ x, x ∈ l → S x) → j < l.length → j ≤ f →
    (∀ k, 0 < k → k < l.length → k ≠ j → lt (at_ l k) (at_ l (par k)) = false) →
    (∀ k, 0 < k → k < l.length → par k = j → 0 < j → lt (at_ l k) (at_ l (par j)) = false) →
    Heap lt (upL lt f l j) l.length ∧ (upL lt f l j).Perm l
  | 0, l, j, hS, hj, hf, h1, h2 => by
    unfold upL
    exact ⟨fun k hk hkn => h1 k hk hkn (by omega), List.Perm.refl _⟩
  | f + 1, l, j, hS, hj, hf, h1, h2 => by
    unfold upL
    by_cases e : j = 0
    · rw [if_pos e]
      exact ⟨fun k hk hkn => h1 k hk hkn (by omega), List.Perm.refl _⟩
    rw [if_neg e]
    have hp : par j < j := by unfold par; omega
    by_cases hl : lt (at_ l j) (at_ l (par j)) = true
    · rw [if_pos hl]
      have hperm := swapL_perm l (par j) j (by omega) hj
      have hS' : ∀ x, x ∈ swapL l (par j) j → S x := fun x hx => hS x (hperm.mem_iff.1 hx)
      have ih := upL_heap f (swapL l (par j) j) (par j) hS' (by rw [swapL_length]; omega) (by omega) ?_ ?_
      · rw [swapL_length] at ih
        exact ⟨ih.1, ih.2.trans hperm⟩
      · intro k hk hkn hkp
        rw [swapL_length] at hkn
        rw [at_swap _ _ _ _ (by omega) hj, at_swap _ _ _ _ (by omega) hj]
        by_cases ek : k = j
        · subst ek
          rw [if_pos rfl, if_neg (by omega), if_pos rfl]
          exact ht.asymm (hS _ (mem_of_at hj)) (hS _ (mem_of_at (by omega))) hl
        · rw [if_neg ek, if_neg hkp]
          by_cases e1 : par k = j
          · rw [if_pos e1]
            exact h2 k hk hkn e1 (by omega)
          · rw [if_neg e1]
            by_cases e2 : par k = par j
            · rw [if_pos e2]
              have a1 := h1 k hk hkn ek
              rw [e2] at a1
              exact ht.le_trans (hS _ (mem_of_at hj)) (hS _ (mem_of_at (by omega))) (hS _ (mem_of_at hkn)) (ht.asymm (hS _ (mem_of_at hj)) (hS _ (mem_of_at (by omega))) hl) a1
            · rw [if_neg e2]
              exact h1 k hk hkn ek
      · intro k hk hkn hkp hpj
        rw [swapL_length] at hkn
        rw [at_swap _ _ _ _ (by omega) hj, at_swap _ _ _ _ (by omega) hj]
        have hpp : par (par j) < par j := by unfold par at *; omega
        rw [if_neg (show ¬ par (par j) = j by omega), if_neg (show ¬ par (par j) = par j by omega)]
        have b1 := h1 (par j) hpj (by omega) (by omega)
        by_cases ek : k = j
        · subst ek
          rw [if_pos rfl]
          exact b1
        · have hkne : ¬ k = par j := by intro e'; subst e'; unfold par at *; omega
          rw [if_neg ek, if_neg hkne]
          have a1 := h1 k hk hkn ek
          rw [hkp] at a1
          exact ht.le_trans (hS _ (mem_of_at (by omega))) (hS _ (mem_of_at (by omega))) (hS _ (mem_of_at hkn)) b1 a1
    · rw [if_neg hl]
      refine ⟨fun k hk hkn => ?_, List.Perm.refl _⟩
      by_cases ek : k = j
      · subst ek
        simpa using hl
      · exact h1 k hk hkn ek
/-- A heap but for i, which may be greater than its children. -/
theorem downL_heap (n : Nat) : ∀ (f : Nat) (l : List Nat) (i : Nat), (∀ x, x ∈ l → S x) → n ≤ l.length → n ≤ f + i →
    (∀ k, 0 < k → k < n → par k ≠ i → lt (at_ l k) (at_ l (par k)) = false) →
    (∀ k, 0 < k → k < n → par k = i → 0 < i → lt (at_ l k) (at_ l (par i)) = false) →
    Heap lt (downL lt f l i n) n ∧ (downL lt f l i n).Perm l ∧ ∀ k, n ≤ k → at_ (downL lt f l i n) k = at_ l k
  | 0, l, i, hS, hn, hf, h1, h2 => by
    unfold downL
    exact ⟨fun k hk hkn => h1 k hk hkn (by unfold par; omega), List.Perm.refl _, fun _ _ => rfl⟩
  | f + 1, l, i, hS, hn, hf, h1, h2 => by
    unfold downL
    by_cases e : n ≤ 2 * i + 1
    · rw [if_pos e]
      exact ⟨fun k hk hkn => h1 k hk hkn (by unfold par; omega), List.Perm.refl _, fun _ _ => rfl⟩
    rw [if_neg e]
    have hc : (child lt l i n = 2 * i + 1 ∨ child lt l i n = 2 * i + 2) ∧ child lt l i n < n := by
      unfold child
      split
      · exact ⟨.inr rfl, by omega⟩
      · exact ⟨.inl rfl, by omega⟩
    have hleast : ∀ k, k < n → par k = i → 0 < k → lt (at_ l k) (at_ l (child lt l i n)) = false := by
      intro k hkn hkp hk0
      have hk12 : k = 2 * i + 1 ∨ k = 2 * i + 2 := by unfold par at hkp; omega
      unfold child
      split
      · rename_i hcc
        rcases hk12 with rfl | rfl
        · exact ht.asymm (hS _ (mem_of_at (by omega))) (hS _ (mem_of_at (by omega))) hcc.2
        · exact ht.irrefl _ (hS _ (mem_of_at (by omega)))
      · rename_i hcc
        rcases hk12 with rfl | rfl
        · exact ht.irrefl _ (hS _ (mem_of_at (by omega)))
        · cases hx : lt (at_ l (2 * i + 2)) (at_ l (2 * i + 1)) with
          | false => rfl
          | true => exact absurd ⟨hkn, hx⟩ hcc
    generalize child lt l i n = c at *
    have hpc : par c = i := by unfold par; omega
    have hci : i < c := by omega
    by_cases hl : lt (at_ l c) (at_ l i) = true
    · rw [if_pos hl]
      have hperm := swapL_perm l i c (by omega) (by omega)
      have hS' : ∀ x, x ∈ swapL l i c → S x := fun x hx => hS x (hperm.mem_iff.1 hx)
      have ih := downL_heap n f (swapL l i c) c hS' (by rw [swapL_length]; omega) (by omega) ?_ ?_
      · refine ⟨ih.1, ih.2.1.trans hperm, fun k hk => (ih.2.2 k hk).trans ?_⟩
        rw [at_swap _ _ _ _ (by omega) (by omega), if_neg (by omega), if_neg (by omega)]
      · intro k hk hkn hkp
        rw [at_swap _ _ _ _ (by omega) (by omega), at_swap _ _ _ _ (by omega) (by omega)]
        by_cases ek : k = c
        · subst ek
          rw [if_pos rfl, hpc, if_neg (by omega), if_pos rfl]
          exact ht.asymm (hS _ (mem_of_at (by omega))) (hS _ (mem_of_at (by omega))) hl
        · rw [if_neg ek, if_neg hkp]
          by_cases e1 : par k = i
          · rw [if_pos e1, if_neg (show ¬ k = i by unfold par at e1; omega)]
            exact hleast k hkn e1 hk
          · rw [if_neg e1]
            by_cases e2 : k = i
            · subst e2
              rw [if_pos rfl]
              exact h2 c (by omega) hc.2 hpc hk
            · rw [if_neg e2]
              exact h1 k hk hkn e1
      · intro k hk hkn hkp hc0
        rw [at_swap _ _ _ _ (by omega) (by omega), at_swap _ _ _ _ (by omega) (by omega), hpc, if_neg (show ¬ i = c by omega), if_pos rfl]
        have hkc : c < k := by unfold par at hkp; omega
        rw [if_neg (show ¬ k = c by omega), if_neg (show ¬ k = i by omega)]
        have a1 := h1 k hk hkn (by omega)
        rwa [hkp] at a1
    · rw [if_neg hl]
      refine ⟨fun k hk hkn => ?_, List.Perm.refl _, fun _ _ => rfl⟩
      by_cases ek : par k = i
      · rw [ek]
        have a1 := hleast k hkn ek hk
        exact ht.le_trans (hS _ (mem_of_at (by omega))) (hS _ (mem_of_at (by omega))) (hS _ (mem_of_at (by omega))) (by simpa using hl) a1
      · exact h1 k hk hkn ek
end

/-- Who has used less for the share comes first, of equals the first one. -/
def ltK (u s : Nat → Int) (a b : Nat) : Bool := if u a * s b - u b * s a ≠ 0 then decide (u a * s b - u b * s a < 0) else decide (a < b)
theorem ltK_iff (u s : Nat → Int) (a b : Nat) : ltK u s a b = true ↔ u a * s b < u b * s a ∨ (u a * s b = u b * s a ∧ a < b) := by
  unfold ltK
  split
  · rename_i h
    rw [decide_eq_true_eq]
    omega
  · rename_i h
    rw [decide_eq_true_eq]
    omega
theorem cross {A B C sa sb sc : Int} (hb : 0 < sb) (ha : 0 < sa) (hc : 0 < sc) (h1 : A * sb ≤ B * sa) (h2 : B * sc ≤ C * sb) : A * sc ≤ C * sa := by
  have e1 : A * sb * sc ≤ B * sa * sc := Int.mul_le_mul_of_nonneg_right h1 (by omega)
  have e2 : B * sc * sa ≤ C * sb * sa := Int.mul_le_mul_of_nonneg_right h2 (by omega)
  have e3 : sb * (A * sc) ≤ sb * (C * sa) := by
    have r1 : sb * (A * sc) = A * sb * sc := by rw [Int.mul_left_comm, Int.mul_assoc]
    have r2 : sb * (C * sa) = C * sb * sa := by rw [Int.mul_left_comm, Int.mul_assoc]
    have r3 : B * sa * sc = B * sc * sa := by rw [Int.mul_assoc, Int.mul_comm sa sc, ← Int.mul_assoc]
    rw [r1, r2]
    omega
  exact Int.le_of_mul_le_mul_left e3 hb
theorem cross_lt {A B C sa sb sc : Int} (hb : 0 < sb) (ha : 0 < sa) (hc : 0 < sc) (h1 : A * sb < B * sa) (h2 : B * sc ≤ C * sb) : A * sc < C * sa := by
  apply Int.lt_of_not_ge
  intro h
  have := cross (A := C) (B := A) (C := B) (sa := sc) (sb := sa) (sc := sb) ha hc hb h (by omega)
  have h3 := cross (A := B) (B := C) (C := A) (sa := sb) (sb := sc) (sc := sa) hc hb ha h2 h
  omega
theorem cross_lt' {A B C sa sb sc : Int} (hb : 0 < sb) (ha : 0 < sa) (hc : 0 < sc) (h1 : A * sb ≤ B * sa) (h2 : B * sc < C * sb) : A * sc < C * sa := by
  apply Int.lt_of_not_ge
  intro h
  have h3 := cross (A := C) (B := A) (C := B) (sa := sc) (sb := sa) (sc := sb) ha hc hb h h1
  omega
theorem ltK_strict (u s : Nat → Int) {S : Nat → Prop} (hs : ∀ a, S a → 0 < s a) : StrictTotal (ltK u s) S where
  irrefl a ha := by
    cases h : ltK u s a a with
    | false => rfl
    | true =>
      rw [ltK_iff] at h
      omega
  trans a b c ha hb hc h1 h2 := by
    rw [ltK_iff] at *
    rcases h1 with h1 | ⟨h1, i1⟩
    · rcases h2 with h2 | ⟨h2, i2⟩
      · exact .inl (cross_lt (hs b hb) (hs a ha) (hs c hc) h1 (by omega))
      · exact .inl (cross_lt (hs b hb) (hs a ha) (hs c hc) h1 (by omega))
    · rcases h2 with h2 | ⟨h2, i2⟩
      · exact .inl (cross_lt' (hs b hb) (hs a ha) (hs c hc) (by omega) h2)
      · have e1 := cross (hs b hb) (hs a ha) (hs c hc) (A := u a) (B := u b) (C := u c) (by omega) (by omega)
        have e2 := cross (hs b hb) (hs c hc) (hs a ha) (A := u c) (B := u b) (C := u a) (by omega) (by omega)
        exact .inr ⟨by omega, by omega⟩
  total a b ha hb hne := by
    rw [ltK_iff, ltK_iff]
    omega

/-- Who comes next of the first m, if anybody waits. -/
def nextGo (u s w : Nat → Int) : Nat → Option Nat
  | 0 => none
  | m + 1 => match nextGo u s w m with
    | none => if 0 < w m then some m else none
    | some a => if 0 < w m ∧ u m * s a < u a * s m then some m else some a
theorem nextGo_none {u s w : Nat → Int} : ∀ {m : Nat}, nextGo u s w m = none ↔ ∀ i, i < m → ¬ 0 < w i
  | 0 => by simp [nextGo]
  | m + 1 => by
    unfold nextGo
    have ih := nextGo_none (u := u) (s := s) (w := w) (m := m)
    cases h : nextGo u s w m with
    | none =>
      simp only
      have h1 := ih.1 h
      constructor
      · intro h2 i hi
        by_cases e : i = m
        · subst e
          intro h3
          rw [if_pos h3] at h2
          cases h2
        · exact h1 i (by omega)
      · intro h2
        rw [if_neg (h2 m (by omega))]
    | some a =>
      simp only
      constructor
      · intro h2
        split at h2 <;> cases h2
      · intro h2
        have := ih.2 (fun i hi => h2 i (by omega))
        rw [h] at this
        cases this
/-- It waits, and nobody who waits comes before. -/
theorem nextGo_some {u s w : Nat → Int} (hs : ∀ i, 0 < w i → 0 < s i) : ∀ {m a : Nat}, nextGo u s w m = some a → a < m ∧ 0 < w a ∧ ∀ i, i < m → 0 < w i → ltK u s i a = false
  | 0, a, h => by simp [nextGo] at h
  | m + 1, a, h => by
    have ht := ltK_strict u s (S := fun i => 0 < w i) hs
    unfold nextGo at h
    cases h' : nextGo u s w m with
    | none =>
      rw [h'] at h
      simp only at h
      split at h
      · rename_i hw
        injection h with h
        subst h
        refine ⟨by omega, hw, fun i hi hwi => ?_⟩
        by_cases e : i = m
        · subst e
          exact ht.irrefl _ hw
        · exact absurd hwi ((nextGo_none.1 h') i (by omega))
      · cases h
    | some b =>
      rw [h'] at h
      simp only at h
      obtain ⟨i1, i2, i3⟩ := nextGo_some hs h'
      split at h
      · rename_i hc
        injection h with h
        subst h
        refine ⟨by omega, hc.1, fun i hi hwi => ?_⟩
        by_cases e : i = m
        · subst e
          exact ht.irrefl _ hc.1
        · have h3 := i3 i (by omega) hwi
          have h4 : ltK u s b m = false := by
            cases hx : ltK u s b m with
            | false => rfl
            | true =>
              rw [ltK_iff] at hx
              omega
          exact ht.le_trans hc.1 i2 hwi h4 h3
      · rename_i hc
        injection h with h
        subst h
        refine ⟨by omega, i2, fun i hi hwi => ?_⟩
        by_cases e : i = m
        · subst e
          cases hx : ltK u s i b with
          | false => rfl
          | true =>
            rw [ltK_iff] at hx
            rcases hx with hx | ⟨_, hx⟩
            · exact absurd ⟨hwi, hx⟩ hc
            · omega
        · exact i3 i (by omega) hwi
/-- Who waits and before whom nobody comes is the one who comes next. -/
theorem nextGo_unique {u s w : Nat → Int} (hs : ∀ i, 0 < w i → 0 < s i) {m a : Nat} (ha : a < m) (hw : 0 < w a) (hl : ∀ i, i < m → 0 < w i → ltK u s i a = false) : nextGo u s w m = some a := by
  have ht := ltK_strict u s (S := fun i => 0 < w i) hs
  cases h : nextGo u s w m with
  | none => exact absurd hw ((nextGo_none.1 h) a ha)
  | some b =>
    obtain ⟨h1, h2, h3⟩ := nextGo_some hs h
    by_cases e : a = b
    · rw [e]
    · rcases ht.total a b hw h2 e with h4 | h4
      · rw [h3 a ha hw] at h4
        cases h4
      · rw [hl b h1 h2] at h4
        cases h4

/-- A line that is right: a heap by lt; it holds just those who wait, each once. -/
structure Right (lt : Nat → Nat → Bool) (S : Nat → Prop) (l : List Nat) : Prop where
  heap : Heap lt l l.length
  nodup : l.Nodup
  mem : ∀ x, x ∈ l ↔ S x

theorem nodup_le {l : List Nat} {n : Nat} (hn : l.Nodup) (h : ∀ i, i ∈ l → i < n) : l.length ≤ n := by
  have := hn.length_le_of_subset (l₂ := List.range n) (fun i hi => List.mem_range.2 (h i hi))
  simpa using this
theorem Right.nil {lt : Nat → Nat → Bool} {S : Nat → Prop} (h : ∀ x, ¬ S x) : Right lt S [] :=
  ⟨fun k _ hk => absurd hk (Nat.not_lt_zero _), List.nodup_nil, fun x => ⟨fun hx => by simp at hx, fun hx => absurd hx (h x)⟩⟩
theorem at_append {l : List Nat} {x : Nat} {k : Nat} (h : k < l.length) : at_ (l ++ [x]) k = at_ l k := by
  unfold at_
  rw [List.getD_eq_getElem?_getD, List.getElem?_append_left h, List.getD_eq_getElem?_getD]
theorem at_take {l : List Nat} {n k : Nat} (h : k < n) : at_ (l.take n) k = at_ l k := by
  unfold at_
  rw [List.getD_eq_getElem?_getD, List.getElem?_take, if_pos h, List.getD_eq_getElem?_getD]
theorem take_last {l : List Nat} {n : Nat} (h : l.length = n + 1) : l = l.take n ++ [at_ l n] := by
  have h1 : l.take (n + 1) = l := List.take_of_length_le (by omega)
  have h2 : l.take (n + 1) = l.take n ++ [l[n]'(by omega)] := List.take_succ_eq_append_getElem (by omega)
  have h3 : at_ l n = l[n]'(by omega) := by
    unfold at_
    rw [List.getD_eq_getElem?_getD, List.getElem?_eq_getElem (by omega)]
    rfl
  rw [h3, ← h2, h1]
theorem Right.push {lt : Nat → Nat → Bool} {S S' : Nat → Prop} {l : List Nat} {x : Nat} (ht : StrictTotal lt S') (h : Right lt S l) (hx : ¬ S x) (hS : ∀ y, S' y ↔ S y ∨ y = x) :
    Right lt S' (upL lt l.length (l ++ [x]) l.length) := by
  have hm : ∀ y, y ∈ l ++ [x] ↔ S' y := fun y => by rw [List.mem_append, List.mem_singleton, h.mem, hS]
  have hl : (l ++ [x]).length = l.length + 1 := by simp
  obtain ⟨h1, h2⟩ := upL_heap ht l.length (l ++ [x]) l.length (fun y hy => (hm y).1 hy) (by omega) (Nat.le_refl _)
    (fun k hk hkn hne => by
      have hp : par k < k := by unfold par; omega
      rw [at_append (by omega), at_append (by omega)]
      exact h.heap k hk (by omega))
    (fun k hk hkn hp h0 => by
      have : par k < k := by unfold par; omega
      omega)
  have hlen := h2.length_eq
  refine ⟨by rw [hlen]; exact h1, h2.nodup_iff.2 ?_, fun y => (h2.mem_iff).trans (hm y)⟩
  refine List.nodup_append.2 ⟨h.nodup, by simp, fun a ha b hb e => ?_⟩
  rw [List.mem_singleton] at hb
  rw [e, hb] at ha
  exact hx ((h.mem x).1 ha)
theorem at_ne {l : List Nat} (h : l.Nodup) {i j : Nat} (hi : i < l.length) (hj : j < l.length) (e : i ≠ j) : at_ l i ≠ at_ l j := by
  unfold at_
  rw [List.getD_eq_getElem?_getD, List.getElem?_eq_getElem hi, List.getD_eq_getElem?_getD, List.getElem?_eq_getElem hj]
  simp only [Option.getD_some]
  intro h1
  rcases Nat.lt_or_gt_of_ne e with h2 | h2
  · exact List.pairwise_iff_getElem.1 h i j hi hj h2 h1
  · exact List.pairwise_iff_getElem.1 h j i hj hi h2 h1.symm
/-- The first one's key has turned: a heap but for the root. -/
theorem Right.fix {lt lt' : Nat → Nat → Bool} {S : Nat → Prop} {l : List Nat} (ht : StrictTotal lt' S) (h : Right lt S l) (ha : ∀ x y, x ≠ at_ l 0 → y ≠ at_ l 0 → lt' x y = lt x y) :
    Right lt' S (downL lt' l.length l 0 l.length) := by
  obtain ⟨h1, h2, _⟩ := downL_heap ht l.length l.length l 0 (fun y hy => (h.mem y).1 hy) (Nat.le_refl _) (by omega)
    (fun k hk hkn hp => by
      have hpl : par k < l.length := by unfold par; omega
      rw [ha _ _ (at_ne h.nodup hkn (by omega) (by omega)) (at_ne h.nodup hpl (by omega) hp)]
      exact h.heap k hk hkn)
    (fun k hk hkn hp h0 => absurd h0 (Nat.lt_irrefl _))
  exact ⟨by rw [h2.length_eq]; exact h1, h2.nodup_iff.2 h.nodup, fun y => h2.mem_iff.trans (h.mem y)⟩
/-- The first one goes. -/
theorem Right.pop {lt lt' : Nat → Nat → Bool} {S S' : Nat → Prop} {l : List Nat} {n : Nat} (hn : l.length = n + 1) (ht : StrictTotal lt' S) (h : Right lt S l) (ha : ∀ x y, x ≠ at_ l 0 → y ≠ at_ l 0 → lt' x y = lt x y)
    (hS : ∀ y, S' y ↔ S y ∧ y ≠ at_ l 0) : Right lt' S' ((downL lt' n (swapL l 0 n) 0 n).take n) := by
  have hp := swapL_perm l 0 n (by omega) (by omega)
  have hsl := swapL_length l 0 n
  obtain ⟨h1, h2, h3⟩ := downL_heap ht n n (swapL l 0 n) 0 (fun y hy => (h.mem y).1 (hp.mem_iff.1 hy)) (by omega) (by omega)
    (fun k hk hkn hp0 => by
      have hpl : par k < n := by unfold par; omega
      rw [at_swap _ _ _ _ (by omega) (by omega), if_neg (by omega), if_neg (by omega), at_swap _ _ _ _ (by omega) (by omega), if_neg (by omega), if_neg hp0,
        ha _ _ (at_ne h.nodup (by omega) (by omega) (by omega)) (at_ne h.nodup (by omega) (by omega) hp0)]
      exact h.heap k hk (by omega))
    (fun k hk hkn hp0 h0 => absurd h0 (Nat.lt_irrefl _))
  have hl : (downL lt' n (swapL l 0 n) 0 n).length = n + 1 := by rw [h2.length_eq, hsl, hn]
  have hlast : at_ (downL lt' n (swapL l 0 n) 0 n) n = at_ l 0 := by
    rw [h3 n (Nat.le_refl _), at_swap _ _ _ _ (by omega) (by omega), if_pos rfl]
  have hsplit := take_last hl
  rw [hlast] at hsplit
  have hperm := h2.trans hp
  generalize downL lt' n (swapL l 0 n) 0 n = d at *
  have hnd := hperm.nodup_iff.2 h.nodup
  rw [hsplit] at hnd
  obtain ⟨hn1, _, hn2⟩ := List.nodup_append.1 hnd
  have htl : (d.take n).length = n := by rw [List.length_take]; omega
  refine ⟨fun k hk hkn => ?_, hn1, fun y => ?_⟩
  · rw [htl] at hkn
    rw [at_take hkn, at_take (by unfold par; omega)]
    exact h1 k hk hkn
  · rw [hS, ← h.mem, ← hperm.mem_iff]
    constructor
    · intro hy
      exact ⟨List.mem_of_mem_take hy, fun e => hn2 y hy (at_ l 0) (by simp) e⟩
    · rintro ⟨hy, hne⟩
      rw [hsplit, List.mem_append, List.mem_singleton] at hy
      exact hy.resolve_right hne
/-- Who stands first of a right line is the one who comes next. -/
theorem Right.next {u s w : Nat → Int} {m : Nat} {l : List Nat} (hs : ∀ i, 0 < w i → 0 < s i) (h : Right (ltK u s) (fun i => i < m ∧ 0 < w i) l) (hl : 0 < l.length) : nextGo u s w m = some (at_ l 0) := by
  have ht : StrictTotal (ltK u s) (fun i => i < m ∧ 0 < w i) := ltK_strict u s (fun a ha => hs a ha.2)
  have hS : ∀ x, x ∈ l → x < m ∧ 0 < w x := fun x hx => (h.mem x).1 hx
  have h0 := hS _ (mem_of_at hl)
  refine nextGo_unique hs h0.1 h0.2 (fun i hi hwi => ?_)
  obtain ⟨k, hk, rfl⟩ := List.mem_iff_getElem.1 ((h.mem i).2 ⟨hi, hwi⟩)
  have hr := Heap.root ht h.heap (Nat.le_refl _) hS k hk
  have e : at_ l k = l[k] := by
    unfold at_
    rw [List.getD_eq_getElem?_getD, List.getElem?_eq_getElem hk]
    rfl
  rwa [e] at hr
theorem Right.next_none {u s w : Nat → Int} {m : Nat} {l : List Nat} (h : Right (ltK u s) (fun i => i < m ∧ 0 < w i) l) (hl : l.length = 0) : nextGo u s w m = none := by
  rw [nextGo_none]
  intro i hi hw
  have := (h.mem i).2 ⟨hi, hw⟩
  rw [List.eq_nil_of_length_eq_zero hl] at this
  simp at this
end Go.Proofs.Ytflponipbdgkeaa.C

namespace Go.Proofs.Ytflponipbdgkeaa.G
open Go.RowKit Go.Proofs.YtflponipbdgkeaaW.PrintWords Go.Proofs.YtflponipbdgkeaaW.PrintLast Go.Proofs.YtflponipbdgkeaaW.PrintMore C
set_option linter.unusedVariables false
set_option linter.unusedSimpArgs false

def uK (us : List S30) (i : Nat) : Int := (rd_T30 us i).f1
def sK (us : List S30) (i : Nat) : Int := (rd_T30 us i).f0
def wK (us : List S30) (i : Nat) : Int := (rd_T30 us i).f2
abbrev ltU (us : List S30) : Nat → Nat → Bool := ltK (uK us) (sK us)
def okAll (us : List S30) : Prop := ∀ u, u ∈ us → okU u
theorem rdU_oob (us : List S30) (i : Nat) (h : us.length ≤ i) : rd_T30 us i = z30 := by
  unfold rd_T30
  rw [List.getD_eq_getElem?_getD, Int.toNat_natCast, List.getElem?_eq_none h]
  rfl
theorem okAll.at_ {us : List S30} (h : okAll us) {i : Nat} (hi : i < us.length) : okU (rd_T30 us i) := by
  rw [rdU_nat us i hi]
  exact h _ (List.getElem_mem _)
theorem okAll.bound {us : List S30} (h : okAll us) (i : Nat) : (0 ≤ sK us i ∧ sK us i ≤ 10) ∧ (0 ≤ uK us i ∧ uK us i ≤ 10000) := by
  unfold sK uK
  by_cases hi : i < us.length
  · have := h.at_ hi
    unfold okU at this
    omega
  · rw [rdU_oob us i (by omega)]
    exact ⟨⟨by decide, by decide⟩, ⟨by decide, by decide⟩⟩
theorem okAll.waits {us : List S30} (h : okAll us) (i : Nat) : 0 < wK us i → i < us.length ∧ 0 < sK us i := by
  intro hw
  by_cases hi : i < us.length
  · have := h.at_ hi
    unfold okU at this
    exact ⟨hi, by unfold sK; omega⟩
  · unfold wK at hw
    rw [rdU_oob us i (by omega)] at hw
    exact absurd hw (by decide)
theorem mul_bound {a b : Int} (ha : 0 ≤ a ∧ a ≤ 10000) (hb : 0 ≤ b ∧ b ≤ 10) : 0 ≤ a * b ∧ a * b ≤ 100000 := by
  have h1 := Int.mul_nonneg ha.1 hb.1
  have h2 : a * b ≤ 10000 * 10 := Int.mul_le_mul ha.2 hb.2 hb.1 (by decide)
  omega
theorem lessR_eq {us : List S30} (h : okAll us) (a b : Nat) : lessR us a b = ltU us a b := by
  have h1 := mul_bound (h.bound a).2 (h.bound b).1
  have h2 := mul_bound (h.bound b).2 (h.bound a).1
  have e : lessD us a b = uK us a * sK us b - uK us b * sK us a := by
    unfold lessD
    show wrap64 (wrap64 (uK us a * sK us b) - wrap64 (uK us b * sK us a)) = _
    rw [w64 (x := uK us a * sK us b) (by omega) (by omega), w64 (x := uK us b * sK us a) (by omega) (by omega), w64 (by omega) (by omega)]
  unfold lessR ltU ltK
  rw [e]
  by_cases c : uK us a * sK us b - uK us b * sK us a = 0
  · rw [if_pos c, if_neg (by simpa using c)]
    exact decide_eq_decide.2 (by omega)
  · rw [if_neg c, if_pos c]

def castL (l : List Nat) : List Int := l.map (fun (n : Nat) => (n : Int))
theorem castL_length (l : List Nat) : (castL l).length = l.length := by simp [castL]
theorem rd_castL (l : List Nat) (i : Nat) : rd (castL l) (i : Int) = (at_ l i : Int) := by
  unfold rd at_ castL
  rw [List.getD_eq_getElem?_getD, List.getD_eq_getElem?_getD, Int.toNat_natCast, List.getElem?_map]
  cases l[i]? <;> rfl
theorem castL_set (l : List Nat) (i x : Nat) : castL (l.set i x) = (castL l).set i (x : Int) := by
  unfold castL
  rw [List.map_set]
theorem swapI_castL (l : List Nat) (i j : Nat) : swapI (castL l) i j = castL (swapL l i j) := by
  unfold swapI swapL
  rw [castL_set, castL_set, rd_castL, rd_castL]
theorem upI_castL {us : List S30} (h : okAll us) : ∀ (f : Nat) (l : List Nat) (j : Nat), upI us f (castL l) j = castL (upL (ltU us) f l j)
  | 0, l, j => rfl
  | f + 1, l, j => by
    unfold upI upL
    rw [rd_castL, rd_castL, lessR_eq h]
    show (if par j = j ∨ ltU us (at_ l j) (at_ l (par j)) = false then castL l else upI us f (swapI (castL l) (par j) j) (par j)) = _
    by_cases e : j = 0
    · rw [if_pos e, if_pos (.inl (by unfold par; omega))]
    · rw [if_neg e]
      cases hl : ltU us (at_ l j) (at_ l (par j)) with
      | true =>
        rw [if_pos rfl, if_neg (by intro hh; rcases hh with hh | hh; (unfold par at hh; omega); cases hh), swapI_castL, upI_castL h f]
      | false => rw [if_pos (show par j = j ∨ false = false from .inr rfl), if_neg (by simp)]
theorem childI_castL {us : List S30} (h : okAll us) (n : Nat) (l : List Nat) (i : Nat) : childI us n (castL l) i = child (ltU us) l i n := by
  unfold childI child
  rw [rd_castL, rd_castL, lessR_eq h]
theorem downI_castL {us : List S30} (h : okAll us) (n : Nat) : ∀ (f : Nat) (l : List Nat) (i : Nat), downI us n f (castL l) i = castL (downL (ltU us) f l i n)
  | 0, l, i => rfl
  | f + 1, l, i => by
    unfold downI downL
    rw [childI_castL h, rd_castL, rd_castL, lessR_eq h]
    by_cases e : n ≤ 2 * i + 1
    · rw [if_pos e, if_pos (.inl e)]
    · rw [if_neg e]
      cases hl : ltU us (at_ l (child (ltU us) l i n)) (at_ l i) with
      | true =>
        rw [if_pos rfl, if_neg (by intro hh; rcases hh with hh | hh; (exact e hh); cases hh), swapI_castL, downI_castL h n f]
      | false => rw [if_pos (show n ≤ 2 * i + 1 ∨ false = false from .inr rfl), if_neg (by simp)]

/-- Who waits of the first i. -/
abbrev Waits (us : List S30) (i : Nat) (x : Nat) : Prop := x < i ∧ 0 < wK us x
theorem strictU {us : List S30} (h : okAll us) (i : Nat) : StrictTotal (ltU us) (Waits us i) := ltK_strict _ _ (fun a ha => (h.waits a ha.2).2)
theorem pushI_right {us : List S30} (h : okAll us) : ∀ i, i ≤ us.length → ∃ l, pushI us i = castL l ∧ Right (ltU us) (Waits us i) l
  | 0, _ => ⟨[], rfl, Right.nil (fun x hx => absurd hx.1 (Nat.not_lt_zero _))⟩
  | i + 1, hi => by
    obtain ⟨l, e, hr⟩ := pushI_right h i (by omega)
    by_cases hw : 0 < (rd_T30 us i).f2
    · refine ⟨upL (ltU us) l.length (l ++ [i]) l.length, ?_, Right.push (x := i) (strictU h (i + 1)) hr (fun hx => absurd hx.1 (Nat.lt_irrefl _)) (fun y => ?_)⟩
      · rw [pushI_yes hw, e, castL_length, ← upI_castL h]
        unfold castL
        simp
      · constructor
        · rintro ⟨h1, h2⟩
          by_cases e2 : y = i
          · exact .inr e2
          · exact .inl ⟨by omega, h2⟩
        · rintro (⟨h1, h2⟩ | rfl)
          · exact ⟨by omega, h2⟩
          · exact ⟨by omega, hw⟩
    · refine ⟨l, by rw [pushI_no hw, e], hr.heap, hr.nodup, fun x => (hr.mem x).trans ?_⟩
      constructor
      · rintro ⟨h1, h2⟩
        exact ⟨by omega, h2⟩
      · rintro ⟨h1, h2⟩
        refine ⟨?_, h2⟩
        by_cases e2 : x = i
        · subst e2
          exact absurd h2 hw
        · omega

/-- Who comes next, -1 for nobody. -/
def nextN (us : List S30) : Option Nat := nextGo (uK us) (sK us) (wK us) us.length
theorem nextN_lt {us : List S30} (h : okAll us) {a : Nat} (ha : nextN us = some a) : a < us.length ∧ 0 < wK us a := by
  have := nextGo_some (fun i hi => (h.waits i hi).2) ha
  exact ⟨this.1, this.2.1⟩
theorem rd_set_eq {us : List S30} {a : Nat} (ha : a < us.length) (x : S30) : rd_T30 (us.set a x) (a : Int) = x := by
  unfold rd_T30
  rw [List.getD_eq_getElem?_getD, Int.toNat_natCast, List.getElem?_set, if_pos rfl, if_pos ha]
  rfl
theorem rd_set_ne {us : List S30} {a i : Nat} (hne : i ≠ a) (x : S30) : rd_T30 (us.set a x) (i : Int) = rd_T30 us (i : Int) := by
  unfold rd_T30
  rw [List.getD_eq_getElem?_getD, Int.toNat_natCast, List.getElem?_set, if_neg (fun e => hne e.symm), List.getD_eq_getElem?_getD]
theorem servU_ne {us : List S30} {a i : Nat} {time : Int} (hne : i ≠ a) : rd_T30 (servU us a time) (i : Int) = rd_T30 us (i : Int) := rd_set_ne hne _
theorem servU_length (us : List S30) (a : Nat) (time : Int) : (servU us a time).length = us.length := by simp [servU]
theorem servU_at {us : List S30} {a : Nat} {time : Int} (ha : a < us.length) : rd_T30 (servU us a time) (a : Int) = ⟨(rd_T30 us a).f0, if (rd_T30 us a).f1 + time ≤ 10000 then (rd_T30 us a).f1 + time else 10000, (rd_T30 us a).f2 - 1⟩ := rd_set_eq ha _
theorem okAll.serv {us : List S30} (h : okAll us) {a : Nat} {time : Int} (ht : 1 ≤ time ∧ time ≤ 20) (ha : a < us.length) (hw : 0 < wK us a) : okAll (servU us a time) := by
  intro u hu
  unfold servU at hu
  rcases List.mem_or_eq_of_mem_set hu with hu | rfl
  · exact h u hu
  · have := h.at_ ha
    unfold wK at hw
    unfold okU at this ⊢
    simp only
    split <;> omega
theorem servI_right {us : List S30} (h : okAll us) {l : List Nat} {n : Nat} {time : Int} (ht : 1 ≤ time ∧ time ≤ 20) (hl : l.length = n + 1) (hr : Right (ltU us) (Waits us us.length) l) :
    ∃ l', servI us (at_ l 0) time n (castL l) = castL l' ∧ Right (ltU (servU us (at_ l 0) time)) (Waits (servU us (at_ l 0) time) (servU us (at_ l 0) time).length) l' := by
  have h0 := (hr.mem (at_ l 0)).1 (mem_of_at (by omega))
  have hok := h.serv ht h0.1 h0.2
  have hwa : wK (servU us (at_ l 0) time) (at_ l 0) = wK us (at_ l 0) - 1 := by
    unfold wK
    rw [servU_at h0.1]
  have hwn : ∀ x, x ≠ at_ l 0 → wK (servU us (at_ l 0) time) x = wK us x := fun x hx => by
    unfold wK
    rw [servU_ne hx]
  have hlt : ∀ x y, x ≠ at_ l 0 → y ≠ at_ l 0 → ltU (servU us (at_ l 0) time) x y = ltU us x y := fun x y hx hy => by
    unfold ltU ltK uK sK
    rw [servU_ne hx, servU_ne hy]
  have hst : StrictTotal (ltU (servU us (at_ l 0) time)) (Waits us us.length) := ltK_strict _ _ (fun a ha => by
    have hb := (h.waits a ha.2)
    by_cases e : a = at_ l 0
    · rw [e]
      unfold sK at hb ⊢
      rw [servU_at h0.1]
      rw [e] at hb
      exact hb.2
    · unfold sK at hb ⊢
      rw [servU_ne e]
      exact hb.2)
  rw [servU_length]
  unfold servI
  by_cases e : (rd_T30 us (at_ l 0)).f2 = 1
  · rw [if_pos e]
    refine ⟨(downL (ltU (servU us (at_ l 0) time)) n (swapL l 0 n) 0 n).take n, ?_, Right.pop hl hst hr hlt (fun y => ?_)⟩
    · rw [swapI_castL, downI_castL hok]
      unfold castL
      rw [List.map_take]
    · by_cases ey : y = at_ l 0
      · rw [ey]
        unfold Waits
        rw [hwa]
        unfold wK
        rw [e]
        simp
      · unfold Waits
        rw [hwn y ey]
        exact ⟨fun hh => ⟨hh, ey⟩, fun hh => hh.1⟩
  · rw [if_neg e]
    refine ⟨downL (ltU (servU us (at_ l 0) time)) (n + 1) l 0 (n + 1), by rw [downI_castL hok], ?_⟩
    have hx := Right.fix hst hr hlt
    rw [hl] at hx
    refine ⟨hx.heap, hx.nodup, fun y => (hx.mem y).trans ?_⟩
    by_cases ey : y = at_ l 0
    · rw [ey]
      unfold Waits
      rw [hwa]
      have := h0.2
      unfold wK at this ⊢
      constructor
      · rintro ⟨h1, h2⟩
        exact ⟨h1, by omega⟩
      · rintro ⟨h1, h2⟩
        exact ⟨h1, by omega⟩
    · unfold Waits
      rw [hwn y ey]

/-- A *line of these users that is right. -/
def IsReady (ok : Nat → Prop) (b : Nat) (w : World) (L : Nat) (us : List S30) : Prop := ∃ l, IsLine ok b w L us (castL l) ∧ Right (ltU us) (Waits us us.length) l
theorem Right.len_le {lt : Nat → Nat → Bool} {us : List S30} {l : List Nat} (h : Right lt (Waits us us.length) l) : l.length ≤ us.length := nodup_le h.nodup (fun x hx => ((h.mem x).1 hx).1)
theorem Right.whoIn {lt : Nat → Nat → Bool} {us : List S30} {l : List Nat} (h : Right lt (Waits us us.length) l) : WhoIn us (castL l) := fun x hx => by
  unfold castL at hx
  obtain ⟨y, hy, rfl⟩ := List.mem_map.1 hx
  have := ((h.mem y).1 hy).1
  omega
theorem lineOf_ready (A0 : Option Addr) (c0 : Nat) (us : List S30) (w : World) (hr0 : Kd.C k30 w A0 us.length us) (hok : okAll us) (hlen : us.length ≤ 900) :
    Calls Try.prog 21 #[.slice A0 us.length c0] w fun e w' => ∃ L, e = .returned (.pointer (some ⟨L, 0, none⟩)) ∧ IsReady (fun _ => True) w.heap.size w' L us ∧ Below w.heap.size w w' := by
  refine (lineOf_calls A0 c0 us w hr0 hlen).mono ?_
  rintro e w' ⟨L, rfl, hI, hb⟩
  obtain ⟨l, el, hr⟩ := pushI_right hok us.length (Nat.le_refl _)
  exact ⟨L, rfl, ⟨l, el ▸ hI, hr⟩, hb⟩
set_option maxHeartbeats 4000000 in
set_option maxRecDepth 1000000 in
theorem serve_none {ok : Nat → Prop} {b L : Nat} {us : List S30} {w : World} (h : IsReady ok b w L us) (hn : nextN us = none) (hok : okAll us) (time : Int) :
    Calls Try.prog 22 #[.pointer (some ⟨L, 0, none⟩), .int .i64 time] w fun e w' => e = .returned (.int .i64 (-1)) ∧ w' = w := by
  obtain ⟨l, hI, hr⟩ := h
  have hl : (castL l).length = 0 := by
    rw [castL_length]
    rcases Nat.eq_zero_or_pos l.length with h0 | h0
    · exact h0
    · have := hr.next (fun i hi => (hok.waits i hi).2) h0
      unfold nextN at hn
      rw [hn] at this
      cases this
  have HC := Aside0.mk (len_n hI hl)
  clear hI hr hl hn hok
  go_enter Try.func22, Try.ntmps22
  go_wp2_with (first | (go_at_call 26; refine HC.out.mono ?_; rintro e w' ⟨rfl, rfl⟩))
  go_ret
  exact ⟨rfl, rfl⟩
theorem serve_some {ok : Nat → Prop} {b L : Nat} {us : List S30} {w : World} (h : IsReady ok b w L us) {a : Nat} (hn : nextN us = some a) (hok : okAll us) (hlen : us.length ≤ 900) (hb : b ≤ w.heap.size) (time : Int) (ht : 1 ≤ time ∧ time ≤ 20) :
    Calls Try.prog 22 #[.pointer (some ⟨L, 0, none⟩), .int .i64 time] w fun e w' => e = .returned (.int .i64 a) ∧ IsReady ok b w' L (servU us a time) ∧ Bel ok b w w' := by
  obtain ⟨l, hI, hr⟩ := h
  have hle := Right.len_le hr
  rcases Nat.eq_zero_or_pos l.length with h0 | h0
  · have := hr.next_none h0
    unfold nextN at hn
    rw [hn] at this
    cases this
  · obtain ⟨n, hn1⟩ : ∃ n, l.length = n + 1 := ⟨l.length - 1, by omega⟩
    have e := hr.next (fun i hi => (hok.waits i hi).2) h0
    unfold nextN at hn
    rw [hn] at e
    obtain rfl := Option.some.inj e
    have h1 := (hr.mem (at_ l 0)).1 (mem_of_at (by omega))
    have h2 := hok.at_ h1.1
    unfold okU at h2
    have h3 := h1.2
    unfold wK at h3
    refine (serve_calls hI (Right.whoIn hr) hb n (by rw [castL_length, hn1]) (by omega) (at_ l 0) (rd_castL l 0) time ht ⟨by omega, by omega⟩ ⟨by omega, by omega⟩).mono ?_
    rintro e w' ⟨rfl, hI', hb'⟩
    obtain ⟨l', e1, hr'⟩ := servI_right hok ht hn1 hr
    exact ⟨rfl, ⟨l', e1 ▸ hI', hr'⟩, hb'⟩

theorem IsReady.first {ok : Nat → Prop} {b L : Nat} {us : List S30} {w : World} (h : IsReady ok b w L us) {a : Nat} (hn : nextN us = some a) (hok : okAll us) :
    ∃ V m cv, 0 < m ∧ w.cell? ⟨L, 1, none⟩ = some (.slice (some ⟨V, 0, none⟩) m cv) ∧ w.cell? ⟨V, 0, none⟩ = some (.int .i64 a) ∧ Calls Try.prog 26 #[.pointer (some ⟨L, 0, none⟩)] w fun e w' => e = .returned (.int .i64 (m : Nat)) ∧ w' = w := by
  obtain ⟨l, hI, hr⟩ := h
  rcases Nat.eq_zero_or_pos l.length with h0 | h0
  · have := hr.next_none h0
    unfold nextN at hn
    rw [hn] at this
    cases this
  · obtain ⟨n, hn1⟩ : ∃ n, l.length = n + 1 := ⟨l.length - 1, by omega⟩
    have e := hr.next (fun i hi => (hok.waits i hi).2) h0
    unfold nextN at hn
    rw [hn] at e
    obtain rfl := Option.some.inj e
    have hcl : (castL l).length = n + 1 := by rw [castL_length, hn1]
    have hlen := len_n hI hcl
    obtain ⟨vu, vw, h1, h2, h3, h4⟩ := hI
    obtain ⟨V, cv, rfl, hcv, hbV, hltV⟩ := slice_own h4 (by intro e; rw [e] at hcl; simp at hcl) (by decide)
    obtain ⟨ad1, e1, ci⟩ := Kd.at_int (Kd.R_reads' h4).2.2 0 (by omega) (by omega)
    cases e1
    refine ⟨V, n + 1, cv, by omega, by rw [cell_blk h1, ← hcl]; rfl, ?_, hlen⟩
    have hrd := rd_castL l 0
    rw [show ((0 : Nat) : Int) = 0 from rfl] at hrd
    rw [hrd] at ci
    exact ci
theorem IsReady.none_ {ok : Nat → Prop} {b L : Nat} {us : List S30} {w : World} (h : IsReady ok b w L us) (hn : nextN us = none) (hok : okAll us) :
    Calls Try.prog 26 #[.pointer (some ⟨L, 0, none⟩)] w fun e w' => e = .returned (.int .i64 0) ∧ w' = w := by
  obtain ⟨l, hI, hr⟩ := h
  have hl : (castL l).length = 0 := by
    rw [castL_length]
    rcases Nat.eq_zero_or_pos l.length with h0 | h0
    · exact h0
    · have := hr.next (fun i hi => (hok.waits i hi).2) h0
      unfold nextN at hn
      rw [hn] at this
      cases this
  exact len_n hI hl
theorem nat_pos_int {m : Nat} (h : 0 < m) : (0 : Int) < (m : Int) := by omega
theorem nat_pos_ne {m : Nat} (h : 0 < m) : ((m : Int) == 0) = false := beq_eq_false_iff_ne.2 (by omega)
theorem vu_ok {us : List S30} (h : vu us = true) : okAll us ∧ us.length ≤ 5 := ⟨((vu_iff us).1 h).2, ((vu_iff us).1 h).1.2⟩
theorem implVU_any (l : List S30) : impl_ValidUsers.f (l.length + 1) l = some (vu l) := by
  by_cases h : l.length ≤ 5
  · exact implVU l _ (by omega) (by omega)
  · unfold impl_ValidUsers.f vu
    rw [within_eq, Option.bind_some, decide_eq_false (by omega), if_neg (by decide), decide_eq_false (by omega), Bool.false_and]
def nextI (us : List S30) : Int := match nextN us with
  | none => -1
  | some a => (a : Int)
theorem nextI_none {us : List S30} (h : nextN us = none) : nextI us = -1 := by unfold nextI; rw [h]
theorem nextI_some {us : List S30} {a : Nat} (h : nextN us = some a) : nextI us = a := by unfold nextI; rw [h]
def impl_NextUser.f (l0 : List S30) : Option (Int) := some (if vu l0 = true then nextI l0 else -1)
set_option maxHeartbeats 4000000 in
set_option maxRecDepth 1000000 in
theorem impl_NextUser.calls (A0 : Option Addr) (c0 : Nat) (l0 : List S30) (r : Int) (w : World) (hr0 : Kd.C k30 w A0 l0.length l0) (hc0 : l0.length ≤ c0) (h : impl_NextUser.f l0 = some r) :
    Calls Try.prog 9 #[.slice A0 l0.length c0] w fun e w' => e = .returned (.int .i64 r) ∧ Below w.heap.size w w' := by
  have HR0 := Aside0.mk hr0
  have HC0 := Aside0.mk hc0
  have HV := Aside0.mk (implVU_any l0)
  clear hr0 hc0
  obtain rfl := Option.some.inj h
  clear h
  cases hv : vu l0 with
  | false =>
    rw [hv] at HV
    rw [if_neg (by simp)]
    clear hv
    go_enter Try.func9, Try.ntmps9
    go_wp2_with (first | (go_at_call 10; (with_reducible refine (impl_ValidUsers.calls (l0.length + 1) _ _ l0 false _ HR0.out HC0.out HV.out).mono ?_); rintro e w0 ⟨rfl, hb0⟩; have HB0 := Aside0.mk hb0; clear hb0))
    go_ret
    exact ⟨rfl, HB0.out⟩
  | true =>
    rw [hv] at HV
    rw [if_pos rfl]
    obtain ⟨hok, h5⟩ := vu_ok hv
    have HOK := Aside0.mk hok
    have H5 := Aside0.mk (show l0.length ≤ 900 by omega)
    clear hv hok h5
    cases hn : nextN l0 with
    | none =>
      have HN := Aside0.mk hn
      rw [nextI_none hn]
      clear hn
      go_enter Try.func9, Try.ntmps9
      go_wp2_with (first | (go_at_call 10; (with_reducible refine (impl_ValidUsers.calls (l0.length + 1) _ _ l0 true _ HR0.out HC0.out HV.out).mono ?_); rintro e w0 ⟨rfl, hb0⟩; have HB0 := Aside0.mk hb0; clear hb0) | (go_at_call 21; refine (lineOf_ready A0 c0 l0 _ (Kd.C_below HR0.out HB0.out) HOK.out H5.out).mono ?_; rintro e w1 ⟨L, rfl, hI, hb⟩; have HI := Aside0.mk hI; have HB := Aside0.mk hb; clear hI hb) | (go_at_call 26; refine (HI.out.none_ HN.out HOK.out).mono ?_; rintro e w' ⟨rfl, rfl⟩))
      go_ret
      exact ⟨rfl, HB0.out.trans (HB.out.mono HB0.out.size)⟩
    | some a =>
      have HN := Aside0.mk hn
      rw [nextI_some hn]
      clear hn
      go_enter Try.func9, Try.ntmps9
      go_wp2_with (first | (go_at_call 10; (with_reducible refine (impl_ValidUsers.calls (l0.length + 1) _ _ l0 true _ HR0.out HC0.out HV.out).mono ?_); rintro e w0 ⟨rfl, hb0⟩; have HB0 := Aside0.mk hb0; clear hb0) | (go_at_call 21; refine (lineOf_ready A0 c0 l0 _ (Kd.C_below HR0.out HB0.out) HOK.out H5.out).mono ?_; rintro e w1 ⟨L, rfl, hI, hb⟩; have HB := Aside0.mk hb; obtain ⟨V, m, cv, hm0, s1, s2, s3⟩ := hI.first HN.out HOK.out; have HLEN := Aside0.mk s3; have hm1 := nat_pos_int hm0; have hm2 := nat_pos_ne hm0; clear hI hb s3) | (go_at_call 26; refine HLEN.out.mono ?_; rintro e w' ⟨rfl, rfl⟩))
      go_ret
      exact ⟨rfl, HB0.out.trans (HB.out.mono HB0.out.size)⟩
end Go.Proofs.Ytflponipbdgkeaa.G
