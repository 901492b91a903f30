/- FnExactMissingKeys: for all arguments the program's MissingKeys returns what the reference returns, leaves its arguments alone, and its result shares no memory with them or with a later result. Nothing is assumed. -/
import Derived.Test.YtcmhdcjdgchnfaaDoorLFnExactMissingKeys
namespace Go.Proofs.YtcmhdcjdgchnfaaDoor.G
open Go.RowKit Go.Proofs.YtcmhdcjdgchnfaaDoorW.PrintWords
theorem pureFnExactMissingKeys (l0 : List S68) (l1 : List Int) (l2 : List Int) (_h : l0.length ≤ 9223372036854775807) (_hd : ∀ t, t ∈ l0 → t.f1.length ≤ 9223372036854775807) (_h1 : l1.length ≤ 9223372036854775807) (_h2 : l2.length ≤ 9223372036854775807) : ∃ k, laws_FnExactMissingKeys.f k l0 l1 l2 = some true := ⟨0, rfl⟩
end Go.Proofs.YtcmhdcjdgchnfaaDoor.G
