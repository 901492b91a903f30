/- FnOutcomesNone: for every code, outcomes without failing tasks are all done. Nothing is assumed. -/
import Derived.Test.YtmfbhcooldngoaaDoorQOutL
import Derived.Test.YtmfbhcooldngoaaDoorQAny
import Derived.Test.YtmfbhcooldngoaaDoorQEqualInts
import Derived.Test.YtmfbhcooldngoaaDoorLFnOutcomesNone
import Derived.Test.YtmfbhcooldngoaaDoorG0
import Derived.Test.YtmfbhcooldngoaaDoorG3
import Derived.Test.YtmfbhcooldngoaaDoorG9
import Derived.Test.YtmfbhcooldngoaaDoorLFnOutcomesNone
namespace Go.Proofs.YtmfbhcooldngoaaDoor.G
open Go.RowKit Go.Proofs.YtmfbhcooldngoaaDoorW.PrintWords Go.Proofs.YtmfbhcooldngoaaDoorW.PrintLast Go.Proofs.YtmfbhcooldngoaaDoorW.PrintMore C
set_option linter.unusedVariables false
set_option linter.unusedSimpArgs false

theorem sum_l0 (n : Nat) (hn : n ≤ 100) : ∀ (d i k : Nat), i + d = n → d < k → laws_sum.l0 k (List.replicate n 0) 0 (i : Int) = some 0 := by
 intro d
 induction d with
 | zero =>
  intro i k hi hk
  obtain ⟨k, rfl⟩ : ∃ m, k = m + 1 := ⟨k - 1, by omega⟩
  rw [laws_sum.l0, if_neg (by rw [List.length_replicate]; omega)]
 | succ d ih =>
  intro i k hi hk
  obtain ⟨k, rfl⟩ : ∃ m, k = m + 1 := ⟨k - 1, by omega⟩
  have hr : rd (List.replicate n 0) (i : Int) = 0 := by
   rw [rd_nat, List.getD_eq_getElem?_getD, List.getElem?_replicate, if_pos (by omega)]
   rfl
  rw [laws_sum.l0, if_pos (by rw [List.length_replicate]; omega), if_pos (by omega), hr, nx (i := i) (m := 100) (by omega) (by omega), show wrap64 (0 + 0) = 0 from w64 (by omega) (by omega)]
  exact ih (i + 1) k (by omega) (by omega)
theorem pureFnOutcomesNone : laws_FnOutcomesNone.Pure := by
 intro l hm hl hw
 obtain ⟨k, hk⟩ : ∃ k, 2000 ≤ k := ⟨2000, Nat.le_refl _⟩
 refine ⟨k, ?_⟩
 unfold laws_FnOutcomesNone.f
 by_cases h1 : (l.length : Int) > 1048576
 ·rw [if_pos h1]
 rw [if_neg h1]
 obtain ⟨g, s, kp, hd, hsm, hsl, _⟩ := drawOutcomes l hw
 have hsmall : Small 100 g := ⟨Nat.le_trans hsm.len (by decide), fun t ht => Nat.le_trans (hsm.nd t ht) (by decide)⟩
 obtain ⟨m, rfl⟩ : ∃ m, k = m + 1 := ⟨k - 1, by omega⟩
 obtain ⟨out, hv, hlen, hcase⟩ := outcomes_val g s kp
 have hspec : ∀ k, 900 ≤ k → spec_Outcomes.f k g s kp = some out := fun k hk => (specOutcomes_eq (B := 100) (by decide) hsmall (by omega) k (by omega)).trans hv
 simp only [hd, Option.bind_some, hv, hspec (m + 1) (by omega), eqI_refl out (m + 1) (by omega) (by omega), if_true]
 rcases hcase with ⟨c, d1, d2, ho, hlo⟩ | ho
 ·cases e : ((out.length : Int) == 0) with
  | true =>
   rw [laws_FnOutcomesNone.j0, if_pos rfl]
   simp only [hspec m (by omega), Option.bind_some, eqI_refl out m (by omega) (by omega)]
  | false =>
   rw [laws_FnOutcomesNone.j0, if_neg (by decide)]
   have hg := (sok_partsO c).1
   have h8 := gok8 hg
   have hs0 : sok g [] = true := by unfold sok; rw [hg]; rfl
   have hz : impl_Outcomes.f g [] kp = some (List.replicate g.length 0) := by
    unfold impl_Outcomes.f ook
    rw [hs0, decide_eq_true (show 1 ≤ kp ∧ kp ≤ 8 from ⟨d1, d2⟩), ← outL_nil hg d1]
    rfl
   have hsum : laws_sum.f m (List.replicate g.length 0) = some 0 := sum_l0 g.length (by omega) g.length 0 m (by omega) (by omega)
   simp only [hz, Option.bind_some, hsum, if_true, hlo]
   simp
 ·subst ho
  rw [show ((([] : List Int).length : Int) == 0) = true from rfl, laws_FnOutcomesNone.j0, if_pos rfl]
  simp only [hspec m (by omega), Option.bind_some, eqI_refl [] m (by simp) (by simp; omega)]
end Go.Proofs.YtmfbhcooldngoaaDoor.G
