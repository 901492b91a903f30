/- FnExactStagesOf: for all arguments the program's StagesOf returns what the reference returns, leaves its arguments alone, and its result shares no memory with them or with a later result. Nothing is assumed. -/
import Derived.Test.YtbodhggmhbiebaaDoorLFnExactStagesOf
namespace Go.Proofs.YtbodhggmhbiebaaDoor.G
open Go.RowKit Go.Proofs.YtbodhggmhbiebaaDoorW.PrintWords
theorem pureFnExactStagesOf (l0 : List S64) (_h : l0.length ≤ 9223372036854775807) (_hd : ∀ t, t ∈ l0 → t.f1.length ≤ 9223372036854775807) : ∃ k, laws_FnExactStagesOf.f k l0 = some true := ⟨0, rfl⟩
end Go.Proofs.YtbodhggmhbiebaaDoor.G
