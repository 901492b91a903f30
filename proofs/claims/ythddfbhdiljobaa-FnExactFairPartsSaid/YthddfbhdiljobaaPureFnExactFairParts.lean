/- FnExactFairParts: for all users and amounts the program's FairParts returns what the reference returns, leaves its arguments alone, and its result shares no memory with them or with a later result. Nothing is assumed. -/
import Derived.Test.YthddfbhdiljobaaQExactU
import Derived.Test.YthddfbhdiljobaaQFair
import Derived.Test.YthddfbhdiljobaaQMark
import Derived.Test.YthddfbhdiljobaaQMarkU
import Derived.Test.YthddfbhdiljobaaLFnExactFairParts
import Derived.Test.YthddfbhdiljobaaG0
import Derived.Test.YthddfbhdiljobaaLFnExactFairParts
namespace Go.Proofs.Ythddfbhdiljobaa.G
open Go.RowKit Go.Proofs.YthddfbhdiljobaaW.PrintWords C

theorem pureFnExactFairParts (l : List S48) (a : Int) (hl : l.length ≤ 9223372036854775807) (_ha : (Lit.int .i64 a).wf = true) : ∃ k, laws_FnExactFairParts.f k l a = some true := by
  refine ⟨2000001, ?_⟩
  unfold laws_FnExactFairParts.f
  rw [szUserS_eq l hl]
  simp only [Option.bind_some]
  by_cases hz : (l.length : Int) ≤ 1048576
  · have hlen : (toU l).length = l.length := toU_length l
    have hf : (fairP (toU l) a).length ≤ 1048576 := by
      unfold fairP
      split
      · rw [fair_length, shares_length]; omega
      · simp
    rw [if_neg (by rw [if_pos hz]; omega), toUserS_eq l 2000001 (by omega) (by omega)]
    simp only [Option.bind_some]
    rw [specFair _ a 2000001 (by omega) (by omega)]
    simp only [Option.bind_some]
    rw [implFair _ a 2000001 (by omega) (by omega)]
    simp only [Option.bind_some]
    rw [eqIntS_refl _ 2000001 (by omega) (by omega)]
    simp only [Option.bind_some, if_true]
    rw [eqUserS_refl _ 2000001 (by omega) (by omega)]
    simp only [Option.bind_some, if_true]
    obtain ⟨c, l', hm, hc⟩ := markUserS_eq (toU l) 2000001 (by omega) (by omega)
    rw [hm]
    simp only [Option.bind_some]
    rw [if_neg (by omega)]
    rw [show (2000001 : Nat) = 2000000 + 1 from rfl]
    simp only [laws_FnExactFairParts.j0, Bool.not_true, Bool.false_eq_true, if_false]
    obtain ⟨m, h1, h2, h3⟩ := markIntS_eq (fairP (toU l) a) 1 2000000 (by omega) (by omega) (by omega)
    rw [h1]
    simp only [Option.bind_some]
    rw [heldIntS_eq m 1 2000000 (by omega) (by omega) (by rw [h2]; exact h3) (by omega)]
    simp only [Option.bind_some]
    rw [if_neg (by omega), if_pos (by rw [h2]), toUserS_eq l 2000000 (by omega) (by omega)]
    simp only [Option.bind_some]
    rw [implFair _ a 2000000 (by omega) (by omega)]
    simp only [Option.bind_some]
    rw [eqIntS_refl _ 2000000 (by omega) (by omega)]
    simp only [Option.bind_some, if_true]
    rw [if_neg (by omega), if_pos (by rw [h2])]
  · rw [if_pos (by rw [if_neg hz]; omega)]
end Go.Proofs.Ythddfbhdiljobaa.G
