/- FnExactEstimateOf: for every list of times the program's EstimateOf returns what the reference returns, and leaves its argument alone. Nothing is assumed. -/
import Derived.Test.YtkmnjhlacdclhaaQEst
import Derived.Test.YtkmnjhlacdclhaaQToInt
import Derived.Test.YtkmnjhlacdclhaaQMark
import Derived.Test.YtkmnjhlacdclhaaLFnExactEstimateOf
import Derived.Test.YtkmnjhlacdclhaaG0
import Derived.Test.YtkmnjhlacdclhaaLFnExactEstimateOf
namespace Go.Proofs.Ytkmnjhlacdclhaa.G
open Go.RowKit Go.Proofs.YtkmnjhlacdclhaaW.PrintWords C

theorem pureFnExactEstimateOf (l : List Int) (_hl : l.length ≤ 9223372036854775807) : ∃ k, laws_FnExactEstimateOf.f k l = some true := by
  refine ⟨2000000, ?_⟩
  unfold laws_FnExactEstimateOf.f
  by_cases hz : (l.length : Int) > 1048576
  · rw [if_pos hz]
  rw [if_neg hz, toIntS_eq l 2000000 (by omega) (by omega)]
  simp only [Option.bind_some]
  rw [specEst l 2000000 (by omega)]
  simp only [Option.bind_some]
  rw [implEst l 2000000 (by omega)]
  simp only [Option.bind_some, if_true]
  rw [eqIntS_refl l 2000000 (by omega) (by omega)]
  simp
end Go.Proofs.Ytkmnjhlacdclhaa.G
