/- FnExactDoneBy: for all arguments the program's DoneBy returns what the reference returns, leaves its arguments alone, and its result shares no memory with them or with a later result. Nothing is assumed. -/
import Derived.Test.YtkafmfabkbmpbaaDoorLFnExactDoneBy
namespace Go.Proofs.YtkafmfabkbmpbaaDoor.G
open Go.RowKit Go.Proofs.YtkafmfabkbmpbaaDoorW.PrintWords
theorem pureFnExactDoneBy (l0 : List S44) (l1 : List S50) (a2 : Int) (_h : l0.length ≤ 9223372036854775807) (_hd : ∀ t, t ∈ l0 → t.f1.length ≤ 9223372036854775807) (_h1 : l1.length ≤ 9223372036854775807) (_w : (Lit.int .i64 a2).wf = true) : ∃ k, laws_FnExactDoneBy.f k l0 l1 a2 = some true := ⟨0, rfl⟩
end Go.Proofs.YtkafmfabkbmpbaaDoor.G
