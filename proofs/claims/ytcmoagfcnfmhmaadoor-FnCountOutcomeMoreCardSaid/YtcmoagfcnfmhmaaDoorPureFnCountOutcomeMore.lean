/- FnCountOutcomeMore: for every code, with one failure more that is kept going no fewer tasks are done. Nothing is assumed. -/
import Derived.Test.YtcmoagfcnfmhmaaDoorQOutL
import Derived.Test.YtcmoagfcnfmhmaaDoorQAny
import Derived.Test.YtcmoagfcnfmhmaaDoorLFnCountOutcomeMore
import Derived.Test.YtcmoagfcnfmhmaaDoorG0
import Derived.Test.YtcmoagfcnfmhmaaDoorG5
import Derived.Test.YtcmoagfcnfmhmaaDoorLFnCountOutcomeMore
namespace Go.Proofs.YtcmoagfcnfmhmaaDoor.G
open Go.RowKit Go.Proofs.YtcmoagfcnfmhmaaDoorW.PrintWords Go.Proofs.YtcmoagfcnfmhmaaDoorW.PrintLast Go.Proofs.YtcmoagfcnfmhmaaDoorW.PrintMore C
set_option linter.unusedVariables false
set_option linter.unusedSimpArgs false

theorem pureFnCountOutcomeMore : laws_FnCountOutcomeMore.Pure := by
 intro l hm hl hw
 obtain ⟨k, hk⟩ : ∃ k, 2000 ≤ k := ⟨2000, Nat.le_refl _⟩
 refine ⟨k, ?_⟩
 unfold laws_FnCountOutcomeMore.f
 by_cases h1 : (l.length : Int) > 1048576
 ·rw [if_pos h1]
 rw [if_neg h1]
 obtain ⟨g, s, kp, kd, hd, hsm, hsl, hkp0, hkp9⟩ := drawCount l hw
 have hsmall : Small 100 g := ⟨Nat.le_trans hsm.len (by decide), fun t ht => Nat.le_trans (hsm.nd t ht) (by decide)⟩
 obtain ⟨m, rfl⟩ : ∃ m, k = m + 1 := ⟨k - 1, by omega⟩
 obtain ⟨v, hv, hcase⟩ := count_val g s kp kd
 have hspec : ∀ k, 1000 ≤ k → spec_CountOutcome.f k g s kp kd = some v := fun k hk => (specCount_eq (B := 100) (by decide) hsmall (by omega) k (by omega)).trans hv
 simp only [hd, Option.bind_some, hv, hspec (m + 1) (by omega), if_true]
 rcases hcase with ⟨c, d1, d2, q1, q2, rfl⟩ | rfl
 ·rw [if_neg (by omega)]
  by_cases h8 : kp = 8
  ·subst h8
   rw [show ((8 : Int) == 8) = true from rfl, laws_FnCountOutcomeMore.j0, if_pos rfl]
   simp only [hspec m (by omega), Option.bind_some]
   simp
  ·have e0 := count_of c ⟨d1, d2⟩ (show (0 : Int) ≤ 0 ∧ (0 : Int) ≤ 3 by decide)
   have e1 := count_of (kI := kp + 1) c ⟨by omega, by omega⟩ (show (0 : Int) ≤ 0 ∧ (0 : Int) ≤ 3 by decide)
   have hmore := outL_more c d1
   rw [show (kp == 8) = false from beq_eq_false_iff_ne.2 h8, laws_FnCountOutcomeMore.j0, if_neg (by decide), w64 (x := kp + 1) (by omega) (by omega), e1, e0]
   simp only [Option.bind_some]
   rw [decide_eq_true (by omega)]
 ·rw [if_pos (by decide), laws_FnCountOutcomeMore.j0, if_pos rfl]
  simp only [hspec m (by omega), Option.bind_some]
  rfl
end Go.Proofs.YtcmoagfcnfmhmaaDoor.G
