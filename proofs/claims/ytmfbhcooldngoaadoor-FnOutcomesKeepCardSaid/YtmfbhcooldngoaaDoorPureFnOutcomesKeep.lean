/- FnOutcomesKeep: for every code, no more tasks fail than are kept going, and nothing is left if fewer fail. Nothing is assumed. -/
import Derived.Test.YtmfbhcooldngoaaDoorQOutL
import Derived.Test.YtmfbhcooldngoaaDoorQAny
import Derived.Test.YtmfbhcooldngoaaDoorQEqualInts
import Derived.Test.YtmfbhcooldngoaaDoorLFnOutcomesKeep
import Derived.Test.YtmfbhcooldngoaaDoorG0
import Derived.Test.YtmfbhcooldngoaaDoorG3
import Derived.Test.YtmfbhcooldngoaaDoorLFnOutcomesKeep
namespace Go.Proofs.YtmfbhcooldngoaaDoor.G
open Go.RowKit Go.Proofs.YtmfbhcooldngoaaDoorW.PrintWords Go.Proofs.YtmfbhcooldngoaaDoorW.PrintLast Go.Proofs.YtmfbhcooldngoaaDoorW.PrintMore C
set_option linter.unusedVariables false
set_option linter.unusedSimpArgs false

theorem keep_l0 {L : List Int} {kI : Int} (hL : L.length ≤ 8) (h1 : (cntK L 1 : Int) ≤ kI) (h2 : (cntK L 1 : Int) = kI ∨ cntK L 3 = 0) : ∀ (rest pre : List Int) (k : Nat), L = pre ++ rest → rest.length < k → laws_FnOutcomesKeep.l0 k kI L (cntK pre 1 : Nat) (cntK pre 3 : Nat) (pre.length : Int) = some true := by
 intro rest
 induction rest with
 | nil =>
  intro pre k e hk
  obtain ⟨k, rfl⟩ : ∃ m, k = m + 1 := ⟨k - 1, by omega⟩
  have hpe : pre = L := by rw [e]; simp
  rw [laws_FnOutcomesKeep.l0, if_neg (by rw [e]; simp), hpe, if_pos h1]
  rcases h2 with h2 | h2
  ·rw [if_pos h2]
  ·by_cases c : (cntK L 1 : Int) = kI
   ·rw [if_pos c]
   ·rw [if_neg c, h2]
    rfl
 | cons x r ih =>
  intro pre k e hk
  obtain ⟨k, rfl⟩ : ∃ m, k = m + 1 := ⟨k - 1, by omega⟩
  simp only [List.length_cons] at hk
  have hlt : pre.length < L.length := by rw [e]; simp
  have c1 := cntK_le pre 1
  have c3 := cntK_le pre 3
  have n1 := cntK_snoc pre x 1
  have n3 := cntK_snoc pre x 3
  have hih := ih (pre ++ [x]) k (by rw [e]; simp) (by omega)
  rw [laws_FnOutcomesKeep.l0, if_pos (by omega), if_pos (by omega), show rd L (pre.length : Int) = x by rw [e]; exact rd_app _ _ _, nx (i := pre.length) (m := 8) (by omega) (by omega), nx (i := cntK pre 1) (m := 9) (by omega) (by omega), nx (i := cntK pre 3) (m := 9) (by omega) (by omega), show pre.length + 1 = (pre ++ [x]).length by simp]
  by_cases hx : x = 1
  ·rw [if_pos hx] at n1
   rw [if_neg (by omega)] at n3
   rw [if_pos hx, if_neg (by omega)]
   rw [n1, n3] at hih
   exact hih
  ·rw [if_neg hx] at n1
   rw [if_neg hx]
   by_cases hx3 : x = 3
   ·rw [if_pos hx3] at n3
    rw [if_pos hx3]
    rw [n1, n3] at hih
    exact hih
   ·rw [if_neg hx3] at n3
    rw [if_neg hx3]
    rw [n1, n3] at hih
    exact hih
theorem pureFnOutcomesKeep : laws_FnOutcomesKeep.Pure := by
 intro l hm hl hw
 obtain ⟨k, hk⟩ : ∃ k, 2000 ≤ k := ⟨2000, Nat.le_refl _⟩
 refine ⟨k, ?_⟩
 unfold laws_FnOutcomesKeep.f
 by_cases h1 : (l.length : Int) > 1048576
 ·rw [if_pos h1]
 rw [if_neg h1]
 obtain ⟨g, s, kp, hd, hsm, hsl, _⟩ := drawOutcomes l hw
 have hsmall : Small 100 g := ⟨Nat.le_trans hsm.len (by decide), fun t ht => Nat.le_trans (hsm.nd t ht) (by decide)⟩
 obtain ⟨m, rfl⟩ : ∃ m, k = m + 1 := ⟨k - 1, by omega⟩
 obtain ⟨out, hv, hlen, hcase⟩ := outcomes_val g s kp
 have hspec : ∀ k, 900 ≤ k → spec_Outcomes.f k g s kp = some out := fun k hk => (specOutcomes_eq (B := 100) (by decide) hsmall (by omega) k (by omega)).trans hv
 simp only [hd, Option.bind_some, hv, hspec (m + 1) (by omega), eqI_refl out (m + 1) (by omega) (by omega), if_true]
 rcases hcase with ⟨c, d1, d2, ho, hlo⟩ | ho
 ·cases e : ((out.length : Int) == 0) with
  | true =>
   rw [laws_FnOutcomesKeep.j0, if_pos rfl]
   simp only [hspec m (by omega), Option.bind_some, eqI_refl out m (by omega) (by omega)]
  | false =>
   rw [laws_FnOutcomesKeep.j0, if_neg (by decide)]
   obtain ⟨k1, k2⟩ := outL_keep c d1
   rw [← ho] at k1 k2
   have h := keep_l0 (by omega) k1 k2 out [] m rfl (by omega)
   simpa [cntK] using h
 ·subst ho
  rw [show ((([] : List Int).length : Int) == 0) = true from rfl, laws_FnOutcomesKeep.j0, if_pos rfl]
  simp only [hspec m (by omega), Option.bind_some, eqI_refl [] m (by simp) (by simp; omega)]
end Go.Proofs.YtmfbhcooldngoaaDoor.G
