/- FnEstimateOfMore: for every code the law returns true: the program's EstimateOf is the reference's, and with a last time that is 1 longer it is the same or 1 more, or that time is too long. Nothing is assumed. -/
import Derived.Test.YtkmnjhlacdclhaaQEst
import Derived.Test.YtkmnjhlacdclhaaQTimes
import Derived.Test.YtkmnjhlacdclhaaLFnEstimateOfMore
import Derived.Test.YtkmnjhlacdclhaaG0
import Derived.Test.YtkmnjhlacdclhaaLFnEstimateOfMore
namespace Go.Proofs.Ytkmnjhlacdclhaa.G
open Go.RowKit Go.Proofs.YtkmnjhlacdclhaaW.PrintWords C

theorem pureFnEstimateOfMore : laws_FnEstimateOfMore.Pure := by
  intro l hm _ hw
  refine ⟨1000, ?_⟩
  unfold laws_FnEstimateOfMore.f
  by_cases hz : (l.length : Int) > 1048576
  · rw [if_pos hz]
  rw [if_neg hz]
  obtain ⟨t, ht, hl⟩ := drawEst l 1000 (by omega) hw
  rw [ht, Option.bind_some, implEst t 1000 (by omega), Option.bind_some, specEst t 1000 (by omega), Option.bind_some, if_pos rfl]
  rw [show (1000 : Nat) = 999 + 1 from rfl]
  simp only [laws_FnEstimateOfMore.j0]
  by_cases h0 : est t < 0
  · rw [if_pos h0, if_pos trivial, specEst t 999 (by omega), Option.bind_some]
    simp
  · rw [if_neg h0]
    have hv : vt t = true := by
      apply Decidable.byContradiction
      intro hv
      apply h0
      unfold est
      rw [if_neg hv]
      decide
    by_cases he : t = []
    · subst he
      rw [if_pos (by rfl), specEst [] 999 (by omega), Option.bind_some]
      simp
    · obtain ⟨_, hx⟩ := (vt_iff t).1 hv
      rcases List.eq_nil_or_concat t with hn | ⟨pre, x, rfl⟩
      · exact absurd hn he
      rw [List.concat_eq_append] at *
      have hlen : ((pre ++ [x]).length : Int) = (pre.length : Int) + 1 := by simp
      have hlen2 : pre.length + 1 ≤ 8 := by simpa using hl
      rw [if_neg (by simp; omega)]
      simp only [Option.bind_some, List.nil_append]
      have e1 : wrap64 (((pre ++ [x]).length : Int) - 1) = (pre.length : Int) := by rw [hlen, w64 (by omega) (by omega)]; omega
      have hr : rd (pre ++ [x]) (pre.length : Int) = x := by
        unfold rd
        simp
      have hxb := hx x (by simp)
      have hset : (pre ++ [x]).set (pre.length : Int).toNat (x + 1) = pre ++ [x + 1] := by
        simp
      rw [if_pos (by simp; omega), e1, if_pos (by omega), if_pos (by omega), hr, w64 (x := x + 1) (by omega) (by omega), hset, implEst _ 999 (by omega), Option.bind_some]
      by_cases hv2 : vt (pre ++ [x + 1]) = true
      · have hm1 := mean_more pre x
        have e2 : est (pre ++ [x]) = mean (pre ++ [x]) := by unfold est; rw [if_pos hv, if_neg (by simp)]
        have e3 : est (pre ++ [x + 1]) = mean (pre ++ [x + 1]) := by unfold est; rw [if_pos hv2, if_neg (by simp)]
        have h20 : mean (pre ++ [x]) ≤ 20 := mean_high (by simp) (fun y hy => (hx y hy).2)
        rw [e2] at h0 ⊢
        rw [e3]
        rcases hm1 with h | h
        · rw [h, if_neg h0, if_pos rfl]
        · rw [h, if_neg (by omega), if_neg (by omega), w64 (by omega) (by omega)]
          simp
      · have e3 : est (pre ++ [x + 1]) = -1 := by unfold est; rw [if_neg hv2]
        rw [e3, if_pos (by decide)]
end Go.Proofs.Ytkmnjhlacdclhaa.G
