/- FnExactServeAll: for all users and times the program's ServeAll returns what the reference returns, leaves its arguments alone, and its result shares no memory with them or with a later result. Nothing is assumed. -/
import Derived.Test.YtacenlcdlopjbaaQExactU
import Derived.Test.YtacenlcdlopjbaaQAll
import Derived.Test.YtacenlcdlopjbaaQMark
import Derived.Test.YtacenlcdlopjbaaLFnExactServeAll
import Derived.Test.YtacenlcdlopjbaaG0
import Derived.Test.YtacenlcdlopjbaaLFnExactServeAll
namespace Go.Proofs.Ytacenlcdlopjbaa.G
open Go.RowKit Go.Proofs.YtacenlcdlopjbaaW.PrintWords C

theorem pureFnExactServeAll (l : List S49) (a : Int) (hl : l.length ≤ 9223372036854775807) (_ha : (Lit.int .i64 a).wf = true) : ∃ k, laws_FnExactServeAll.f k l a = some true := by
  obtain ⟨K, hK⟩ : ∃ K : Nat, 2000000 ≤ K := ⟨_, Nat.le_refl _⟩
  refine ⟨K + 1, ?_⟩
  unfold laws_FnExactServeAll.f
  rw [szUserS_eq l hl]
  simp only [Option.bind_some]
  by_cases hz : (l.length : Int) ≤ 1048576
  · have hlen : (toU l).length = l.length := toU_length l
    have hf := allR_le (toU l) a
    rw [if_neg (by rw [if_pos hz]; omega), toUserS_eq l (K + 1) (by omega) (by omega)]
    simp only [Option.bind_some]
    rw [specAll _ a (by omega) (K + 1) (by omega)]
    simp only [Option.bind_some]
    rw [implAll]
    simp only [Option.bind_some]
    rw [eqIntS_refl _ (K + 1) (by omega) (by omega)]
    simp only [Option.bind_some, if_true]
    rw [eqUserS_refl _ (K + 1) (by omega) (by omega)]
    simp only [Option.bind_some, if_true]
    obtain ⟨c, l', hm, hc⟩ := markUserS_eq (toU l) (K + 1) (by omega) (by omega)
    rw [hm]
    simp only [Option.bind_some]
    rw [if_neg (by omega)]
    simp only [laws_FnExactServeAll.j0, Bool.not_true, Bool.false_eq_true, if_false]
    obtain ⟨m, h1, h2, h3⟩ := markIntS_eq (allR (toU l) a) 1 K (by omega) (by omega) (by omega)
    rw [h1]
    simp only [Option.bind_some]
    rw [heldIntS_eq m 1 K (by omega) (by omega) (by rw [h2]; exact h3) (by omega)]
    simp only [Option.bind_some]
    rw [if_neg (by omega), if_pos (by rw [h2]), toUserS_eq l K (by omega) (by omega)]
    simp only [Option.bind_some]
    rw [implAll]
    simp only [Option.bind_some]
    rw [eqIntS_refl _ K (by omega) (by omega)]
    simp only [Option.bind_some, if_true]
    rw [if_neg (by omega), if_pos (by rw [h2])]
  · rw [if_pos (by rw [if_neg hz]; omega)]
end Go.Proofs.Ytacenlcdlopjbaa.G
