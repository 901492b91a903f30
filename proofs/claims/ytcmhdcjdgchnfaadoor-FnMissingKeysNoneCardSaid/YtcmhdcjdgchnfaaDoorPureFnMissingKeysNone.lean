/- FnMissingKeysNone: for every code, without stored keys all keys of a valid graph are missing. Nothing is assumed. -/
import Derived.Test.YtcmhdcjdgchnfaaDoorQDrawM
import Derived.Test.YtcmhdcjdgchnfaaDoorHRel
import Derived.Test.YtcmhdcjdgchnfaaDoorQEqualInts
import Derived.Test.YtcmhdcjdgchnfaaDoorLFnMissingKeysNone
import Derived.Test.YtcmhdcjdgchnfaaDoorG0
import Derived.Test.YtcmhdcjdgchnfaaDoorG5
import Derived.Test.YtcmhdcjdgchnfaaDoorLFnMissingKeysNone
namespace Go.Proofs.YtcmhdcjdgchnfaaDoor.G
open Go.RowKit Go.Proofs.YtcmhdcjdgchnfaaDoorW.PrintWords Go.Proofs.YtcmhdcjdgchnfaaDoorW.PrintLast Go.Proofs.YtcmhdcjdgchnfaaDoorW.PrintMore C
set_option linter.unusedVariables false
set_option linter.unusedSimpArgs false

theorem pureFnMissingKeysNone : laws_FnMissingKeysNone.Pure := by
 intro l hm hl hw
 obtain ⟨k, hk⟩ : ∃ k, 2000 ≤ k := ⟨2000, Nat.le_refl _⟩
 refine ⟨k, ?_⟩
 unfold laws_FnMissingKeysNone.f
 by_cases h1 : (l.length : Int) > 1048576
 ·rw [if_pos h1]
 rw [if_neg h1]
 obtain ⟨g, s, st, hd, hsm, hsl, hst⟩ := drawMissingKeys l hw
 have hsmall : Small 100 g := ⟨Nat.le_trans hsm.len (by decide), fun t ht => Nat.le_trans (hsm.nd t ht) (by decide)⟩
 obtain ⟨m, rfl⟩ : ∃ m, k = m + 1 := ⟨k - 1, by omega⟩
 obtain ⟨r, hv, h8⟩ := missing_val g s st
 have hk8 := keysOr_len g s
 have hspec : ∀ k, 950 ≤ k → spec_MissingKeys.f k g s st = some r := fun k hk => (specMissing_eq (B := 100) (by decide) hsmall (by omega) k (by omega)).trans hv
 simp only [hd, Option.bind_some, hv, keysOr_val, hspec (m + 1) (by omega), eqI_refl r (m + 1) (by omega) (by omega), if_true]
 cases e : (((keysOr g s).length : Int) != (g.length : Int)) with
 | true =>
  rw [laws_FnMissingKeysNone.j0, if_pos rfl]
  simp only [hspec m (by omega), Option.bind_some, eqI_refl r m (by omega) (by omega)]
 | false =>
  have hlen := bne_eq_false_iff_eq.1 e
  rw [laws_FnMissingKeysNone.j0, if_neg (by decide), show impl_ValidGraph.f g = some (gok g) from rfl]
  simp only [Option.bind_some]
  by_cases c : gok g = true
  ·rw [if_pos c]
   by_cases c2 : (s.length : Int) = (g.length : Int)
   ·have hmk : impl_MissingKeys.f g s [] = some (miss (keysOr g s) []) := by
     unfold impl_MissingKeys.f
     rw [if_pos ⟨by omega, by simp, c⟩]
    rw [if_pos c2, hmk]
    simp only [Option.bind_some, miss_none]
    rw [beq_iff_eq.2 hlen]
   ·rw [if_neg c2]
  ·rw [if_neg c]
end Go.Proofs.YtcmhdcjdgchnfaaDoor.G
