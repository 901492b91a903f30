/- FnExactValidUsers: for every list of users the program's ValidUsers answers what the reference answers, and leaves its argument alone. Nothing is assumed. -/
import Derived.Test.YthddfbhdiljobaaQExactU
import Derived.Test.YthddfbhdiljobaaLFnExactValidUsers
import Derived.Test.YthddfbhdiljobaaG0
import Derived.Test.YthddfbhdiljobaaLFnExactValidUsers
namespace Go.Proofs.Ythddfbhdiljobaa.G
open Go.RowKit Go.Proofs.YthddfbhdiljobaaW.PrintWords

theorem pureFnExactValidUsers (l : List S48) (hl : l.length ≤ 9223372036854775807) : ∃ k, laws_FnExactValidUsers.f k l = some true := by
  refine ⟨2000000, ?_⟩
  unfold laws_FnExactValidUsers.f
  by_cases hz : (l.length : Int) ≤ 1048576
  · rw [szUserS_eq l hl]
    simp only [Option.bind_some]
    rw [if_neg (by rw [if_pos hz]; omega), toUserS_eq l 2000000 (by omega) (by omega)]
    simp only [Option.bind_some]
    have hlen : (toU l).length = l.length := toU_length l
    rw [specVU _ 2000000 (by omega) (by omega), implVU _ 2000000 (by omega) (by omega)]
    simp only [Option.bind_some, bne_self_eq_false, Bool.false_eq_true, if_false]
    rw [eqUserS_refl _ 2000000 (by omega) (by omega)]
    simp
  · rw [szUserS_eq l hl]
    simp only [Option.bind_some]
    rw [if_pos (by rw [if_neg hz]; omega)]
end Go.Proofs.Ythddfbhdiljobaa.G
