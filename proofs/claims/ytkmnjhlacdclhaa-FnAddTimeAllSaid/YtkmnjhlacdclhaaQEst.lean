/-
  Estimates: what the program and the reference compute is the same number.
-/
import Derived.Test.YtkmnjhlacdclhaaQGen
import Derived.Test.YtkmnjhlacdclhaaCEst
import Derived.Test.YtkmnjhlacdclhaaHE
import Derived.Test.YtkmnjhlacdclhaaG0
import Derived.Test.YtkmnjhlacdclhaaG1
import Derived.Test.YtkmnjhlacdclhaaG2
namespace Go.Proofs.Ytkmnjhlacdclhaa.G
open Go.RowKit Go.Proofs.YtkmnjhlacdclhaaW.PrintWords C

def est (l : List Int) : Int := if vt l = true then (if l = [] then 20 else mean l) else -1
theorem okT_iff (n : Int) : okT n = true ↔ 1 ≤ n ∧ n ≤ 20 := by simp [okT]
theorem vt_iff (l : List Int) : vt l = true ↔ l.length ≤ 6 ∧ ∀ x, x ∈ l → 1 ≤ x ∧ x ≤ 20 := by
  unfold vt
  rw [Bool.and_eq_true, decide_eq_true_eq, List.all_eq_true]
  simp only [okT_iff]
theorem inRangeE (a b c : Int) : spec_inRange.f a b c = some (decide (b ≤ a ∧ a ≤ c)) := by
  unfold spec_inRange.f
  by_cases h : b ≤ a
  · rw [if_pos h]
    simp [h]
  · rw [if_neg h]
    simp [h]
theorem rd_at (l : List Int) (i : Nat) (h : i < l.length) : rd l (i : Int) = l[i] := by
  unfold rd
  rw [List.getD_eq_getElem?_getD, Int.toNat_natCast, List.getElem?_eq_getElem h]
  rfl
theorem allIn_l0 (l : List Int) (a b : Int) (hl : l.length < 4611686018427387904) : ∀ (d k i : Nat), i + d = l.length → d < k →
    spec_allIn.l0 k l a b (i : Int) = some ((l.drop i).all fun n => decide (a ≤ n ∧ n ≤ b)) := by
  intro d
  induction d with
  | zero =>
    intro k i hi hk
    obtain ⟨k, rfl⟩ : ∃ m, k = m + 1 := ⟨k - 1, by omega⟩
    simp only [spec_allIn.l0]
    rw [if_neg (by omega), List.drop_of_length_le (by omega)]
    rfl
  | succ d ih =>
    intro k i hi hk
    have b0 : i < l.length := by omega
    obtain ⟨k, rfl⟩ : ∃ m, k = m + 1 := ⟨k - 1, by omega⟩
    simp only [spec_allIn.l0]
    have hn : wrap64 ((i : Int) + 1) = ((i + 1 : Nat) : Int) := by rw [w64 (by omega) (by omega)]; omega
    rw [if_pos (by omega), if_pos (by omega), inRangeE, Option.bind_some, rd_at l i b0, hn, ih k (i + 1) (by omega) (by omega), List.drop_eq_getElem_cons b0, List.all_cons]
    cases decide (a ≤ l[i] ∧ l[i] ≤ b) <;> simp
theorem allIn_eq (l : List Int) (a b : Int) (k : Nat) (hl : l.length < 4611686018427387904) (hk : l.length < k) : spec_allIn.f k l a b = some (l.all fun n => decide (a ≤ n ∧ n ≤ b)) := by
  unfold spec_allIn.f
  have h := allIn_l0 l a b hl l.length k 0 (by omega) hk
  simpa using h
theorem validTimes_eq (l : List Int) (k : Nat) (hk : 7 ≤ k) : spec_validTimes.f k l = some (vt l) := by
  unfold spec_validTimes.f vt
  by_cases h : (l.length : Int) ≤ 6
  · rw [if_pos h, allIn_eq l 1 20 k (by omega) (by omega), Option.bind_some, decide_eq_true (show l.length ≤ 6 by omega), Bool.true_and]
    rfl
  · rw [if_neg h, decide_eq_false (show ¬ l.length ≤ 6 by omega), Bool.false_and]
theorem step_bound {i : Nat} {x : Int} (hi : i < 6) (hx : 1 ≤ x ∧ x ≤ 20) : 0 ≤ ((i + 1 : Nat) : Int) * x ∧ ((i + 1 : Nat) : Int) * x ≤ 120 := by
  have h1 : ((i + 1 : Nat) : Int) * x ≤ 6 * 20 := Int.mul_le_mul (by omega) hx.2 (by omega) (by omega)
  exact ⟨Int.mul_nonneg (by omega) (by omega), by omega⟩
theorem up_eq {a b : Int} (ha : 0 ≤ a ∧ a ≤ 100000) (hb : 1 ≤ b ∧ b ≤ 100000) : impl_up.f a b = some ((a + b - 1) / b) := by
  unfold impl_up.f
  have h2 : 0 ≤ (a + b - 1) / b := Int.ediv_nonneg (by omega) (by omega)
  have h3 : (a + b - 1) / b ≤ a + b - 1 := Int.ediv_le_self _ (by omega)
  rw [if_neg (by omega), w64 (x := a + b) (by omega) (by omega), w64 (x := a + b - 1) (by omega) (by omega), Int.tdiv_eq_ediv_of_nonneg (by omega), w64 (by omega) (by omega)]
theorem implEst_l0 (l : List Int) (hl : l.length ≤ 6) (hx : ∀ x, x ∈ l → 1 ≤ x ∧ x ≤ 20) : ∀ (d k i : Nat) (acc pl : Int), i + d = l.length → 0 ≤ acc → acc + 120 * d ≤ 10000 → 0 ≤ pl → pl + 7 * d ≤ 10000 → (d = 0 → 1 ≤ pl) →
    impl_EstimateOf.l0 (k + d + 1) acc pl l (l.length : Int) (i : Int) = some ((acc + wsum i (l.drop i) + (pl + places i (l.drop i)) - 1) / (pl + places i (l.drop i))) := by
  intro d
  induction d with
  | zero =>
    intro k i acc pl hi h0 h1 h2 h3 h4
    have := h4 rfl
    simp only [impl_EstimateOf.l0]
    rw [if_neg (by omega), up_eq (by omega) (by omega), Option.bind_some, List.drop_of_length_le (by omega)]
    simp [wsum, places]
  | succ d ih =>
    intro k i acc pl hi h0 h1 h2 h3 h4
    have b0 : i < l.length := by omega
    have hs := step_bound (i := i) (by omega) (hx l[i] (List.getElem_mem _))
    have hn : wrap64 ((i : Int) + 1) = ((i + 1 : Nat) : Int) := by rw [w64 (by omega) (by omega)]; omega
    have s1 : wrap64 (((i + 1 : Nat) : Int) * l[i]) = ((i + 1 : Nat) : Int) * l[i] := w64 (by omega) (by omega)
    have s2 : wrap64 (acc + ((i + 1 : Nat) : Int) * l[i]) = acc + ((i + 1 : Nat) : Int) * l[i] := w64 (by omega) (by omega)
    have s3 : wrap64 (pl + ((i + 1 : Nat) : Int)) = pl + ((i + 1 : Nat) : Int) := w64 (by omega) (by omega)
    rw [show k + (d + 1) + 1 = (k + d + 1) + 1 by omega]
    generalize hf : k + d + 1 = f
    simp only [impl_EstimateOf.l0]
    rw [if_pos (by omega), if_pos (by omega), if_pos (by omega), rd_at l i b0, hn, s1, s2, s3]
    subst hf
    rw [ih k (i + 1) _ _ (by omega) (by omega) (by omega) (by omega) (by omega) (by omega), List.drop_eq_getElem_cons b0, wsum, places]
    congr 2
    · omega
    · omega
theorem implEst (l : List Int) (k : Nat) (hk : 20 ≤ k) : impl_EstimateOf.f k l = some (est l) := by
  unfold impl_EstimateOf.f est
  rw [earlierValid_f, Option.bind_some]
  by_cases hv : vt l = true
  · rw [if_pos hv, if_pos hv]
    obtain ⟨hl, hx⟩ := (vt_iff l).1 hv
    by_cases he : l = []
    · rw [if_pos (by rw [he]; rfl), if_pos he]
    · have hp : 0 < l.length := List.length_pos_iff.2 he
      rw [if_neg (by omega), if_neg he]
      obtain ⟨m, rfl⟩ : ∃ m, k = m + l.length + 1 := ⟨k - l.length - 1, by omega⟩
      have h := implEst_l0 l hl hx l.length m 0 0 0 (by omega) (by omega) (by omega) (by omega) (by omega) (by omega)
      simp only [Int.ofNat_zero, List.drop_zero, Int.zero_add] at h
      exact h
  · rw [if_neg hv, if_neg hv]
theorem specEst_l0 (l : List Int) (hl : l.length ≤ 6) (hx : ∀ x, x ∈ l → 1 ≤ x ∧ x ≤ 20) : ∀ (d k i : Nat) (acc pl : Int), i + d = l.length → 0 ≤ acc → acc + 120 * d ≤ 10000 → 0 ≤ pl → pl + 7 * d ≤ 10000 → (d = 0 → 1 ≤ pl) →
    spec_EstimateOf.l0 (k + d + 1) l acc pl (i : Int) = some ((acc + wsum i (l.drop i) + (pl + places i (l.drop i)) - 1) / (pl + places i (l.drop i))) := by
  intro d
  induction d with
  | zero =>
    intro k i acc pl hi h0 h1 h2 h3 h4
    have h5 := h4 rfl
    have q2 : 0 ≤ (acc + pl - 1) / pl := Int.ediv_nonneg (by omega) (by omega)
    have q3 : (acc + pl - 1) / pl ≤ acc + pl - 1 := Int.ediv_le_self _ (by omega)
    simp only [spec_EstimateOf.l0]
    rw [if_neg (by omega), if_neg (by omega), w64 (x := acc + pl) (by omega) (by omega), w64 (x := acc + pl - 1) (by omega) (by omega), Int.tdiv_eq_ediv_of_nonneg (by omega), w64 (by omega) (by omega), List.drop_of_length_le (by omega)]
    simp [wsum, places]
  | succ d ih =>
    intro k i acc pl hi h0 h1 h2 h3 h4
    have b0 : i < l.length := by omega
    have hs := step_bound (i := i) (by omega) (hx l[i] (List.getElem_mem _))
    have hn : wrap64 ((i : Int) + 1) = ((i + 1 : Nat) : Int) := by rw [w64 (by omega) (by omega)]; omega
    have s1 : wrap64 (((i + 1 : Nat) : Int) * l[i]) = ((i + 1 : Nat) : Int) * l[i] := w64 (by omega) (by omega)
    have s2 : wrap64 (acc + ((i + 1 : Nat) : Int) * l[i]) = acc + ((i + 1 : Nat) : Int) * l[i] := w64 (by omega) (by omega)
    have s3 : wrap64 (wrap64 (pl + (i : Int)) + 1) = pl + ((i + 1 : Nat) : Int) := by rw [w64 (x := pl + (i : Int)) (by omega) (by omega), w64 (by omega) (by omega)]; omega
    rw [show k + (d + 1) + 1 = (k + d + 1) + 1 by omega]
    generalize hf : k + d + 1 = f
    simp only [spec_EstimateOf.l0]
    rw [if_pos (by omega), if_pos (by omega), rd_at l i b0, hn, s1, s2, s3]
    subst hf
    rw [ih k (i + 1) _ _ (by omega) (by omega) (by omega) (by omega) (by omega) (by omega), List.drop_eq_getElem_cons b0, wsum, places]
    congr 2
    · omega
    · omega
theorem specEst (l : List Int) (k : Nat) (hk : 20 ≤ k) : spec_EstimateOf.f k l = some (est l) := by
  unfold spec_EstimateOf.f est
  rw [validTimes_eq l k (by omega), Option.bind_some]
  by_cases hv : vt l = true
  · rw [if_pos hv, if_pos hv]
    obtain ⟨hl, hx⟩ := (vt_iff l).1 hv
    by_cases he : l = []
    · subst he
      obtain ⟨m, rfl⟩ : ∃ m, k = m + 1 := ⟨k - 1, by omega⟩
      simp [spec_EstimateOf.l0]
    · have hp : 0 < l.length := List.length_pos_iff.2 he
      rw [if_neg he]
      obtain ⟨m, rfl⟩ : ∃ m, k = m + l.length + 1 := ⟨k - l.length - 1, by omega⟩
      have h := specEst_l0 l hl hx l.length m 0 0 0 (by omega) (by omega) (by omega) (by omega) (by omega) (by omega)
      simp only [Int.ofNat_zero, List.drop_zero, Int.zero_add] at h
      exact h
  · rw [if_neg hv, if_neg hv]
end Go.Proofs.Ytkmnjhlacdclhaa.G
