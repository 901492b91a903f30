/-
  Plain numbers: the order in which users are served, and who comes first.
-/
import Derived.Test.YtafiidbkkcaegaaCHeap
namespace Go.Proofs.Ytafiidbkkcaegaa.C

/-- Who has used less for the share comes first, of equals the first one. -/
def ltK (u s : Nat → Int) (a b : Nat) : Bool := if u a * s b - u b * s a ≠ 0 then decide (u a * s b - u b * s a < 0) else decide (a < b)
theorem ltK_iff (u s : Nat → Int) (a b : Nat) : ltK u s a b = true ↔ u a * s b < u b * s a ∨ (u a * s b = u b * s a ∧ a < b) := by
  unfold ltK
  split
  · rename_i h
    rw [decide_eq_true_eq]
    omega
  · rename_i h
    rw [decide_eq_true_eq]
    omega
theorem cross {A B C sa sb sc : Int} (hb : 0 < sb) (ha : 0 < sa) (hc : 0 < sc) (h1 : A * sb ≤ B * sa) (h2 : B * sc ≤ C * sb) : A * sc ≤ C * sa := by
  have e1 : A * sb * sc ≤ B * sa * sc := Int.mul_le_mul_of_nonneg_right h1 (by omega)
  have e2 : B * sc * sa ≤ C * sb * sa := Int.mul_le_mul_of_nonneg_right h2 (by omega)
  have e3 : sb * (A * sc) ≤ sb * (C * sa) := by
    have r1 : sb * (A * sc) = A * sb * sc := by rw [Int.mul_left_comm, Int.mul_assoc]
    have r2 : sb * (C * sa) = C * sb * sa := by rw [Int.mul_left_comm, Int.mul_assoc]
    have r3 : B * sa * sc = B * sc * sa := by rw [Int.mul_assoc, Int.mul_comm sa sc, ← Int.mul_assoc]
    rw [r1, r2]
    omega
  exact Int.le_of_mul_le_mul_left e3 hb
theorem cross_lt {A B C sa sb sc : Int} (hb : 0 < sb) (ha : 0 < sa) (hc : 0 < sc) (h1 : A * sb < B * sa) (h2 : B * sc ≤ C * sb) : A * sc < C * sa := by
  apply Int.lt_of_not_ge
  intro h
  have := cross (A := C) (B := A) (C := B) (sa := sc) (sb := sa) (sc := sb) ha hc hb h (by omega)
  have h3 := cross (A := B) (B := C) (C := A) (sa := sb) (sb := sc) (sc := sa) hc hb ha h2 h
  omega
theorem cross_lt' {A B C sa sb sc : Int} (hb : 0 < sb) (ha : 0 < sa) (hc : 0 < sc) (h1 : A * sb ≤ B * sa) (h2 : B * sc < C * sb) : A * sc < C * sa := by
  apply Int.lt_of_not_ge
  intro h
  have h3 := cross (A := C) (B := A) (C := B) (sa := sc) (sb := sa) (sc := sb) ha hc hb h h1
  omega
theorem ltK_strict (u s : Nat → Int) {S : Nat → Prop} (hs : ∀ a, S a → 0 < s a) : StrictTotal (ltK u s) S where
  irrefl a ha := by
    cases h : ltK u s a a with
    | false => rfl
    | true =>
      rw [ltK_iff] at h
      omega
  trans a b c ha hb hc h1 h2 := by
    rw [ltK_iff] at *
    rcases h1 with h1 | ⟨h1, i1⟩
    · rcases h2 with h2 | ⟨h2, i2⟩
      · exact .inl (cross_lt (hs b hb) (hs a ha) (hs c hc) h1 (by omega))
      · exact .inl (cross_lt (hs b hb) (hs a ha) (hs c hc) h1 (by omega))
    · rcases h2 with h2 | ⟨h2, i2⟩
      · exact .inl (cross_lt' (hs b hb) (hs a ha) (hs c hc) (by omega) h2)
      · have e1 := cross (hs b hb) (hs a ha) (hs c hc) (A := u a) (B := u b) (C := u c) (by omega) (by omega)
        have e2 := cross (hs b hb) (hs c hc) (hs a ha) (A := u c) (B := u b) (C := u a) (by omega) (by omega)
        exact .inr ⟨by omega, by omega⟩
  total a b ha hb hne := by
    rw [ltK_iff, ltK_iff]
    omega

/-- Who comes next of the first m, if anybody waits. -/
def nextGo (u s w : Nat → Int) : Nat → Option Nat
  | 0 => none
  | m + 1 => match nextGo u s w m with
    | none => if 0 < w m then some m else none
    | some a => if 0 < w m ∧ u m * s a < u a * s m then some m else some a
theorem nextGo_none {u s w : Nat → Int} : ∀ {m : Nat}, nextGo u s w m = none ↔ ∀ i, i < m → ¬ 0 < w i
  | 0 => by simp [nextGo]
  | m + 1 => by
    unfold nextGo
    have ih := nextGo_none (u := u) (s := s) (w := w) (m := m)
    cases h : nextGo u s w m with
    | none =>
      simp only
      have h1 := ih.1 h
      constructor
      · intro h2 i hi
        by_cases e : i = m
        · subst e
          intro h3
          rw [if_pos h3] at h2
          cases h2
        · exact h1 i (by omega)
      · intro h2
        rw [if_neg (h2 m (by omega))]
    | some a =>
      simp only
      constructor
      · intro h2
        split at h2 <;> cases h2
      · intro h2
        have := ih.2 (fun i hi => h2 i (by omega))
        rw [h] at this
        cases this
/-- It waits, and nobody who waits comes before. -/
theorem nextGo_some {u s w : Nat → Int} (hs : ∀ i, 0 < w i → 0 < s i) : ∀ {m a : Nat}, nextGo u s w m = some a → a < m ∧ 0 < w a ∧ ∀ i, i < m → 0 < w i → ltK u s i a = false
  | 0, a, h => by simp [nextGo] at h
  | m + 1, a, h => by
    have ht := ltK_strict u s (S := fun i => 0 < w i) hs
    unfold nextGo at h
    cases h' : nextGo u s w m with
    | none =>
      rw [h'] at h
      simp only at h
      split at h
      · rename_i hw
        injection h with h
        subst h
        refine ⟨by omega, hw, fun i hi hwi => ?_⟩
        by_cases e : i = m
        · subst e
          exact ht.irrefl _ hw
        · exact absurd hwi ((nextGo_none.1 h') i (by omega))
      · cases h
    | some b =>
      rw [h'] at h
      simp only at h
      obtain ⟨i1, i2, i3⟩ := nextGo_some hs h'
      split at h
      · rename_i hc
        injection h with h
        subst h
        refine ⟨by omega, hc.1, fun i hi hwi => ?_⟩
        by_cases e : i = m
        · subst e
          exact ht.irrefl _ hc.1
        · have h3 := i3 i (by omega) hwi
          have h4 : ltK u s b m = false := by
            cases hx : ltK u s b m with
            | false => rfl
            | true =>
              rw [ltK_iff] at hx
              omega
          exact ht.le_trans hc.1 i2 hwi h4 h3
      · rename_i hc
        injection h with h
        subst h
        refine ⟨by omega, i2, fun i hi hwi => ?_⟩
        by_cases e : i = m
        · subst e
          cases hx : ltK u s i b with
          | false => rfl
          | true =>
            rw [ltK_iff] at hx
            rcases hx with hx | ⟨_, hx⟩
            · exact absurd ⟨hwi, hx⟩ hc
            · omega
        · exact i3 i (by omega) hwi
/-- Who waits and before whom nobody comes is the one who comes next. -/
theorem nextGo_unique {u s w : Nat → Int} (hs : ∀ i, 0 < w i → 0 < s i) {m a : Nat} (ha : a < m) (hw : 0 < w a) (hl : ∀ i, i < m → 0 < w i → ltK u s i a = false) : nextGo u s w m = some a := by
  have ht := ltK_strict u s (S := fun i => 0 < w i) hs
  cases h : nextGo u s w m with
  | none => exact absurd hw ((nextGo_none.1 h) a ha)
  | some b =>
    obtain ⟨h1, h2, h3⟩ := nextGo_some hs h
    by_cases e : a = b
    · rw [e]
    · rcases ht.total a b hw h2 e with h4 | h4
      · rw [h3 a ha hw] at h4
        cases h4
      · rw [hl b h1 h2] at h4
        cases h4
end Go.Proofs.Ytafiidbkkcaegaa.C
