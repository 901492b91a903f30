/-
  Plain numbers: an amount that is split by shares, and 1 more for the first ones.
-/
namespace Go.Proofs.Ythddfbhdiljobaa.C

def incr (j : Nat) (l : List Int) : List Int := l.mapIdx fun i x => if i < j then x + 1 else x
theorem incr_length (j : Nat) (l : List Int) : (incr j l).length = l.length := by simp [incr]
theorem incr_zero (l : List Int) : incr 0 l = l := by
  unfold incr
  apply List.ext_getElem
  · simp
  · intro i h1 h2
    simp
theorem incr_getD (j : Nat) (l : List Int) (i : Nat) : (incr j l).getD i 0 = if i < l.length then (if i < j then l.getD i 0 + 1 else l.getD i 0) else 0 := by
  by_cases h : i < l.length
  · simp [incr, h]
  · simp [incr, h]
theorem incr_succ (j : Nat) (l : List Int) (h : j < l.length) : (incr j l).set j (l.getD j 0 + 1) = incr (j + 1) l := by
  apply List.ext_getElem
  · simp [incr]
  · intro i h1 h2
    have hi : i < l.length := by simpa [incr] using h2
    rw [List.getElem_set]
    by_cases e : j = i
    · subst e
      simp [incr, h]
    · rw [if_neg e]
      have : (i < j) ↔ (i < j + 1) := by omega
      simp [incr, this]
theorem sum_set (l : List Int) (j : Nat) (v : Int) (h : j < l.length) : (l.set j v).sum = l.sum - l.getD j 0 + v := by
  induction l generalizing j with
  | nil => simp at h
  | cons x l ih =>
    cases j with
    | zero => simp; omega
    | succ j =>
      have := ih j (by simpa using h)
      simp only [List.set_cons_succ, List.sum_cons, List.getD_cons_succ]
      omega
theorem incr_sum (l : List Int) : ∀ j, j ≤ l.length → (incr j l).sum = l.sum + j := by
  intro j
  induction j with
  | zero => intro _; rw [incr_zero]; simp
  | succ j ih =>
    intro hj
    rw [← incr_succ j l (by omega), sum_set _ _ _ (by rw [incr_length]; omega), ih (by omega), incr_getD, if_pos (by omega), if_neg (by omega)]
    omega

/-- The parts, rounded down. -/
def parts (a : Int) (ss : List Int) : List Int := ss.map fun s => a * s / ss.sum
theorem parts_length (a : Int) (ss : List Int) : (parts a ss).length = ss.length := by simp [parts]
theorem map_div_sum (a S : Int) (hS : 0 < S) : ∀ ss : List Int, S * (ss.map fun s => a * s / S).sum ≤ a * ss.sum ∧ a * ss.sum ≤ S * (ss.map fun s => a * s / S).sum + (S - 1) * ss.length := by
  intro ss
  induction ss with
  | nil => simp
  | cons s ss ih =>
    simp only [List.map_cons, List.sum_cons, List.length_cons]
    have h1 := Int.mul_ediv_add_emod (a * s) S
    have h2 := Int.emod_nonneg (a * s) (show S ≠ 0 by omega)
    have h3 := Int.emod_lt_of_pos (a * s) hS
    rw [Int.mul_add, Int.mul_add]
    have e : (S - 1) * ((ss.length + 1 : Nat) : Int) = (S - 1) * (ss.length : Int) + (S - 1) := by
      rw [Int.natCast_succ, Int.mul_add, Int.mul_one]
    rw [e]
    generalize (ss.map fun s => a * s / S).sum = m at *
    generalize (S - 1) * (ss.length : Int) = q at *
    generalize a * ss.sum = r at *
    generalize S * m = u at *
    generalize S * (a * s / S) = v at *
    omega
/-- What is left is not negative, and less than there are shares. -/
theorem left_bound (a : Int) (ss : List Int) (hS : 0 < ss.sum) (hl : 0 < ss.length) : 0 ≤ a - (parts a ss).sum ∧ a - (parts a ss).sum < ss.length := by
  obtain ⟨h1, h2⟩ := map_div_sum a ss.sum hS ss
  unfold parts
  generalize hm : (ss.map fun s => a * s / ss.sum).sum = m at *
  generalize ss.sum = S at *
  have e1 : a * S = S * a := Int.mul_comm a S
  rw [e1] at h1 h2
  constructor
  · have : S * m ≤ S * a := h1
    have := Int.le_of_mul_le_mul_left this hS
    omega
  · have h3 : S * (a - m) < S * (ss.length : Int) := by
      rw [Int.mul_sub]
      have e2 : (S - 1) * (ss.length : Int) = S * ss.length - ss.length := by rw [Int.sub_mul, Int.one_mul]
      rw [e2] at h2
      generalize S * (ss.length : Int) = x at *
      omega
    exact Int.lt_of_mul_lt_mul_left h3 (by omega)
/-- The whole: parts, and 1 more for the first ones. -/
def fair (a : Int) (ss : List Int) : List Int := incr (a - (parts a ss).sum).toNat (parts a ss)
theorem fair_length (a : Int) (ss : List Int) : (fair a ss).length = ss.length := by simp [fair, incr_length, parts_length]
theorem fair_sum (a : Int) (ss : List Int) (hS : 0 < ss.sum) (hl : 0 < ss.length) : (fair a ss).sum = a := by
  have := left_bound a ss hS hl
  unfold fair
  rw [incr_sum _ _ (by rw [parts_length]; omega)]
  omega
theorem sum_pos {ss : List Int} (h : ∀ s, s ∈ ss → 1 ≤ s) : (ss.length : Int) ≤ ss.sum := by
  induction ss with
  | nil => simp
  | cons s ss ih =>
    have := ih (fun x hx => h x (by simp [hx]))
    have := h s (by simp)
    simp only [List.length_cons, List.sum_cons]
    omega
theorem sum_le {ss : List Int} {c : Int} (h : ∀ s, s ∈ ss → s ≤ c) : ss.sum ≤ c * ss.length := by
  induction ss with
  | nil => simp
  | cons s ss ih =>
    have := ih (fun x hx => h x (by simp [hx]))
    have := h s (by simp)
    simp only [List.length_cons, List.sum_cons, Int.natCast_succ, Int.mul_add, Int.mul_one]
    omega
end Go.Proofs.Ythddfbhdiljobaa.C
