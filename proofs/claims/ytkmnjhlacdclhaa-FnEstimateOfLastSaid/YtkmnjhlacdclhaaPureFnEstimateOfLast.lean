/- FnEstimateOfLast: for every code the law returns true: the program's EstimateOf is the reference's, of three equal times it is the time, and of two times their mean with the second one counted twice, rounded up. Nothing is assumed. -/
import Derived.Test.YtkmnjhlacdclhaaQEst
import Derived.Test.YtkmnjhlacdclhaaQTimes
import Derived.Test.YtkmnjhlacdclhaaLFnEstimateOfLast
import Derived.Test.YtkmnjhlacdclhaaG0
import Derived.Test.YtkmnjhlacdclhaaLFnEstimateOfLast
namespace Go.Proofs.Ytkmnjhlacdclhaa.G
open Go.RowKit Go.Proofs.YtkmnjhlacdclhaaW.PrintWords C

theorem est_two {a b : Int} (ha : 1 ≤ a ∧ a ≤ 20) (hb : 1 ≤ b ∧ b ≤ 20) : est [a, b] = (a + 2 * b + 2) / 3 := by
  have hv : vt [a, b] = true := by rw [vt_iff]; simp; omega
  unfold est
  rw [if_pos hv, if_neg (by simp)]
  simp only [mean, wsum, places]
  omega
theorem est_three {a : Int} (ha : 1 ≤ a ∧ a ≤ 20) : est [a, a, a] = a := by
  have hv : vt [a, a, a] = true := by rw [vt_iff]; simp; omega
  unfold est
  rw [if_pos hv, if_neg (by simp)]
  simp only [mean, wsum, places]
  omega
theorem pureFnEstimateOfLast : laws_FnEstimateOfLast.Pure := by
  intro l hm _ hw
  refine ⟨1000, ?_⟩
  unfold laws_FnEstimateOfLast.f
  by_cases hz : (l.length : Int) > 1048576
  · rw [if_pos hz]
  rw [if_neg hz]
  obtain ⟨t, ht, hl⟩ := drawEst l 1000 (by omega) hw
  rw [ht, Option.bind_some, implEst t 1000 (by omega), Option.bind_some, specEst t 1000 (by omega), Option.bind_some, if_pos rfl]
  rw [show (1000 : Nat) = 999 + 1 from rfl]
  simp only [laws_FnEstimateOfLast.j0]
  by_cases h0 : est t < 0
  · rw [if_pos h0, if_pos trivial, specEst t 999 (by omega), Option.bind_some]
    simp
  · rw [if_neg h0]
    have hv : vt t = true := by
      apply Decidable.byContradiction
      intro hv
      apply h0
      unfold est
      rw [if_neg hv]
      decide
    by_cases h2 : (t.length : Int) < 2
    · rw [if_pos (by simpa using h2), specEst t 999 (by omega), Option.bind_some]
      simp
    · obtain ⟨_, hx⟩ := (vt_iff t).1 hv
      have ha := hx (rd t 0) (rd_mem (by omega) (by omega))
      have hb := hx (rd t 1) (rd_mem (by omega) (by omega))
      generalize rd t 0 = a at *
      generalize rd t 1 = b at *
      rw [if_neg (by simpa using h2), if_pos (by omega), if_pos (by omega), implEst _ 999 (by omega), Option.bind_some, implEst _ 999 (by omega), Option.bind_some, est_three ha, if_pos rfl, est_two ha hb,
        w64 (x := 2 * b) (by omega) (by omega), w64 (x := a + 2 * b) (by omega) (by omega), w64 (x := a + 2 * b + 2) (by omega) (by omega), Int.tdiv_eq_ediv_of_nonneg (by omega), w64 (by omega) (by omega)]
      simp
end Go.Proofs.Ytkmnjhlacdclhaa.G
