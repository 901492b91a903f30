/- FnExactAddTime: for all arguments the program's AddTime returns what the reference returns, leaves its argument alone, and its result shares no memory with it or with a later result. Nothing is assumed. -/
import Derived.Test.YtflponipbdgkeaaLFnExactAddTime
namespace Go.Proofs.Ytflponipbdgkeaa.G
open Go.RowKit Go.Proofs.YtflponipbdgkeaaW.PrintWords
theorem pureFnExactAddTime (l0 : List Int) (a1 : Int) (_h : l0.length ≤ 9223372036854775807) (_w : (Lit.int .i64 a1).wf = true) : ∃ k, laws_FnExactAddTime.f k l0 a1 = some true := ⟨0, rfl⟩
end Go.Proofs.Ytflponipbdgkeaa.G
