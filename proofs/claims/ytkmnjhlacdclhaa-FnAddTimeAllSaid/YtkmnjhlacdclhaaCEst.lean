/-
  Plain numbers: a weighted mean of times, rounded up.
-/
namespace Go.Proofs.Ytkmnjhlacdclhaa.C

def wsum : Nat → List Int → Int
  | _, [] => 0
  | i, x :: l => ((i + 1 : Nat) : Int) * x + wsum (i + 1) l
def places : Nat → List Int → Int
  | _, [] => 0
  | i, _ :: l => ((i + 1 : Nat) : Int) + places (i + 1) l
theorem places_pos : ∀ (i : Nat) (l : List Int), l ≠ [] → (l.length : Int) ≤ places i l
  | i, [], h => absurd rfl h
  | i, [x], _ => by simp [places]; omega
  | i, x :: y :: l, _ => by
    have := places_pos (i + 1) (y :: l) (by simp)
    rw [places]
    simp only [List.length_cons] at *
    omega
theorem wsum_low (c : Int) : ∀ (i : Nat) (l : List Int), (∀ x, x ∈ l → c ≤ x) → c * places i l ≤ wsum i l
  | i, [], _ => by simp [places, wsum]
  | i, x :: l, h => by
    have ih := wsum_low c (i + 1) l (fun y hy => h y (by simp [hy]))
    have hx := h x (by simp)
    rw [places, wsum, Int.mul_add]
    have : c * ((i + 1 : Nat) : Int) ≤ ((i + 1 : Nat) : Int) * x := by
      rw [Int.mul_comm]
      exact Int.mul_le_mul_of_nonneg_left hx (by omega)
    omega
theorem wsum_high (c : Int) : ∀ (i : Nat) (l : List Int), (∀ x, x ∈ l → x ≤ c) → wsum i l ≤ c * places i l
  | i, [], _ => by simp [places, wsum]
  | i, x :: l, h => by
    have ih := wsum_high c (i + 1) l (fun y hy => h y (by simp [hy]))
    have hx := h x (by simp)
    rw [places, wsum, Int.mul_add]
    have : ((i + 1 : Nat) : Int) * x ≤ c * ((i + 1 : Nat) : Int) := by
      rw [Int.mul_comm c]
      exact Int.mul_le_mul_of_nonneg_left hx (by omega)
    omega
def mean (l : List Int) : Int := (wsum 0 l + places 0 l - 1) / places 0 l
theorem mean_low {c : Int} {l : List Int} (hl : l ≠ []) (h : ∀ x, x ∈ l → c ≤ x) : c ≤ mean l := by
  have hp := places_pos 0 l hl
  have hl' : 0 < l.length := List.length_pos_iff.2 hl
  have h1 := wsum_low c 0 l h
  unfold mean
  rw [Int.le_ediv_iff_mul_le (by omega)]
  omega
theorem mean_high {c : Int} {l : List Int} (hl : l ≠ []) (h : ∀ x, x ∈ l → x ≤ c) : mean l ≤ c := by
  have hp := places_pos 0 l hl
  have hl' : 0 < l.length := List.length_pos_iff.2 hl
  have h1 := wsum_high c 0 l h
  unfold mean
  have h2 : (wsum 0 l + places 0 l - 1) / places 0 l < c + 1 := by
    rw [Int.ediv_lt_iff_lt_mul (by omega), Int.add_mul, Int.one_mul]
    omega
  omega
theorem wsum_last : ∀ (i : Nat) (l : List Int) (x d : Int), wsum i (l ++ [x + d]) = wsum i (l ++ [x]) + ((i + l.length + 1 : Nat) : Int) * d ∧ places i (l ++ [x + d]) = places i (l ++ [x])
  | i, [], x, d => by
    simp only [List.nil_append, wsum, places, List.length_nil, Nat.add_zero, Int.add_zero, Int.mul_add]
    exact ⟨trivial, trivial⟩
  | i, y :: l, x, d => by
    obtain ⟨h1, h2⟩ := wsum_last (i + 1) l x d
    simp only [List.cons_append, wsum, places, List.length_cons, h1, h2]
    rw [show i + 1 + l.length + 1 = i + (l.length + 1) + 1 by omega]
    exact ⟨by omega, trivial⟩
/-- A last time that is 1 longer: the mean is as it was, or 1 greater. -/
theorem mean_more (l : List Int) (x : Int) : mean (l ++ [x + 1]) = mean (l ++ [x]) ∨ mean (l ++ [x + 1]) = mean (l ++ [x]) + 1 := by
  obtain ⟨h1, h2⟩ := wsum_last 0 l x 1
  have hp := places_pos 0 (l ++ [x]) (by simp)
  unfold mean
  rw [h1, h2]
  simp only [List.length_append, List.length_cons, List.length_nil] at hp
  generalize places 0 (l ++ [x]) = p at *
  generalize wsum 0 (l ++ [x]) = w at *
  have hp0 : 0 < p := by omega
  have e1 := Int.mul_ediv_add_emod (w + p - 1) p
  have e2 := Int.emod_nonneg (w + p - 1) (show p ≠ 0 by omega)
  have e3 := Int.emod_lt_of_pos (w + p - 1) hp0
  have f1 := Int.mul_ediv_add_emod (w + ((0 + l.length + 1 : Nat) : Int) * 1 + p - 1) p
  have f2 := Int.emod_nonneg (w + ((0 + l.length + 1 : Nat) : Int) * 1 + p - 1) (show p ≠ 0 by omega)
  have f3 := Int.emod_lt_of_pos (w + ((0 + l.length + 1 : Nat) : Int) * 1 + p - 1) hp0
  generalize (w + p - 1) / p = a at *
  generalize (w + ((0 + l.length + 1 : Nat) : Int) * 1 + p - 1) / p = b at *
  have g1 : a ≤ b := by
    apply Int.le_of_lt_add_one
    apply Int.lt_of_mul_lt_mul_left (a := p) _ (by omega)
    rw [Int.mul_add, Int.mul_one]
    generalize p * a = pa at *
    generalize p * b = pb at *
    omega
  have g2 : b ≤ a + 1 := by
    apply Int.le_of_lt_add_one
    apply Int.lt_of_mul_lt_mul_left (a := p) _ (by omega)
    rw [Int.mul_add, Int.mul_add, Int.mul_one]
    generalize p * a = pa at *
    generalize p * b = pb at *
    omega
  omega
end Go.Proofs.Ytkmnjhlacdclhaa.C
