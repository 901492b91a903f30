/- FnExactNextUser: for every list of users the program's NextUser answers what the reference answers, and leaves its argument alone. Nothing is assumed. -/
import Derived.Test.YtafiidbkkcaegaaQNext
import Derived.Test.YtafiidbkkcaegaaQExactU
import Derived.Test.YtafiidbkkcaegaaLFnExactNextUser
import Derived.Test.YtafiidbkkcaegaaG0
import Derived.Test.YtafiidbkkcaegaaLFnExactNextUser
namespace Go.Proofs.Ytafiidbkkcaegaa.G
open Go.RowKit Go.Proofs.YtafiidbkkcaegaaW.PrintWords

theorem pureFnExactNextUser (l : List S50) (hl : l.length ≤ 9223372036854775807) : ∃ k, laws_FnExactNextUser.f k l = some true := by
  refine ⟨2000000, ?_⟩
  unfold laws_FnExactNextUser.f
  by_cases hz : (l.length : Int) ≤ 1048576
  · rw [szUserS_eq l hl]
    simp only [Option.bind_some]
    rw [if_neg (by rw [if_pos hz]; omega), toUserS_eq l 2000000 (by omega) (by omega)]
    simp only [Option.bind_some]
    have hlen : (toU l).length = l.length := toU_length l
    rw [specNextUser _ (by omega) 2000000 (by omega), Option.bind_some, implNext, Option.bind_some, if_pos rfl, eqUserS_refl _ 2000000 (by omega) (by omega), Option.bind_some, if_pos rfl]
  · rw [szUserS_eq l hl]
    simp only [Option.bind_some]
    rw [if_pos (by rw [if_neg hz]; omega)]
end Go.Proofs.Ytafiidbkkcaegaa.G
