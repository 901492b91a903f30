/- FnStageOfCount: for every code, each task's stage lies below the number of tasks, and is at most the number of those that it needs. Nothing is assumed. -/
import Derived.Test.YtbodhggmhbiebaaDoorQStage
import Derived.Test.YtbodhggmhbiebaaDoorQAny
import Derived.Test.YtbodhggmhbiebaaDoorQEqualInts
import Derived.Test.YtbodhggmhbiebaaDoorHRel
import Derived.Test.YtbodhggmhbiebaaDoorLFnStageOfCount
import Derived.Test.YtbodhggmhbiebaaDoorG0
import Derived.Test.YtbodhggmhbiebaaDoorG4
import Derived.Test.YtbodhggmhbiebaaDoorLFnStageOfCount
namespace Go.Proofs.YtbodhggmhbiebaaDoor.G
open Go.RowKit Go.Proofs.YtbodhggmhbiebaaDoorW.PrintWords Go.Proofs.YtbodhggmhbiebaaDoorW.PrintLast Go.Proofs.YtbodhggmhbiebaaDoorW.PrintMore C
set_option linter.unusedVariables false
set_option linter.unusedSimpArgs false

theorem sc_l0 {g : List S29} (hg : gok g = true) : ∀ (d i k : Nat), i + d = g.length → d + 2 ≤ k → laws_FnStageOfCount.l0 k g (stg g) (i : Int) = some true := by
 have h8 := gok8 hg
 have hlo := stg_len g
 intro d
 induction d with
 | zero =>
  intro i k hi hk
  obtain ⟨k, rfl⟩ : ∃ m, k = m + 1 := ⟨k - 1, by omega⟩
  rw [laws_FnStageOfCount.l0, if_neg (by omega)]
 | succ d ih =>
  intro i k hi hk
  obtain ⟨k, rfl⟩ : ∃ m, k = m + 1 := ⟨k - 1, by omega⟩
  have hin : i < g.length := by omega
  have hb := stg_lt hg hin
  have hl := stg_le hg i hin
  have eri : rd (stg g) (i : Int) = (stg g).getD i 0 := rfl
  have hrel : impl_AllNeeds.f g (i : Int) = some (castL (elems ((bel g).getD i 0))) := by
   unfold impl_AllNeeds.f relF
   rw [if_pos ⟨hg, by omega, by omega⟩, Int.toNat_natCast]
  rw [laws_FnStageOfCount.l0, if_pos (by omega), if_pos (by omega), if_pos (by omega), eri, if_neg (by omega), if_neg (by omega), hrel]
  simp only [Option.bind_some]
  rw [if_neg (by rw [castL_length]; omega), nx (m := 8) (by omega) (by omega)]
  exact ih (i + 1) k (by omega) (by omega)
theorem pureFnStageOfCount : laws_FnStageOfCount.Pure := by
 intro l hm hl hw
 obtain ⟨k, hk⟩ : ∃ k, 2000 ≤ k := ⟨2000, Nat.le_refl _⟩
 refine ⟨k, ?_⟩
 unfold laws_FnStageOfCount.f
 by_cases h1 : (l.length : Int) > 1048576
 ·rw [if_pos h1]
 rw [if_neg h1]
 obtain ⟨g, hd, hsm⟩ := drawStageOf l hw
 have hsmall : Small 100 g := ⟨Nat.le_trans hsm.len (by decide), fun t ht => Nat.le_trans (hsm.nd t ht) (by decide)⟩
 obtain ⟨m, rfl⟩ : ∃ m, k = m + 1 := ⟨k - 1, by omega⟩
 obtain ⟨r, hv, h8, hcase⟩ := stage_val g
 have hspec : ∀ k, 950 ≤ k → spec_StageOf.f k g = some r := fun k hk => (specStage_eq (B := 100) (by decide) hsmall k (by omega)).trans hv
 simp only [hd, Option.bind_some, hv, hspec (m + 1) (by omega), eqI_refl r (m + 1) (by omega) (by omega), if_true]
 cases e : ((r.length : Int) != (g.length : Int)) with
 | true =>
  rw [laws_FnStageOfCount.j0, if_pos rfl]
  simp only [hspec m (by omega), Option.bind_some, eqI_refl r m (by omega) (by omega)]
 | false =>
  rw [laws_FnStageOfCount.j0, if_neg (by decide)]
  rcases hcase with ⟨hg, er, hlr⟩ | ⟨hg, rfl⟩
  ·rw [er]
   exact sc_l0 hg g.length 0 m (by omega) (by have := gok8 hg; omega)
  ·have h0 : g.length = 0 := by
    have := bne_eq_false_iff_eq.1 e
    simp at this
    simpa using this.symm
   obtain ⟨q, rfl⟩ : ∃ q, m = q + 1 := ⟨m - 1, by omega⟩
   rw [laws_FnStageOfCount.l0, if_neg (by omega)]
end Go.Proofs.YtbodhggmhbiebaaDoor.G
