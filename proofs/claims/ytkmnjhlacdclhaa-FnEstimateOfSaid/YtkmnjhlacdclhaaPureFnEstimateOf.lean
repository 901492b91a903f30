/- FnEstimateOf: for every code the law returns true: the program's EstimateOf is the reference's, and lies between the least and the greatest time, or is 20 without any. Nothing is assumed. -/
import Derived.Test.YtkmnjhlacdclhaaQEst
import Derived.Test.YtkmnjhlacdclhaaQTimes
import Derived.Test.YtkmnjhlacdclhaaLFnEstimateOf
import Derived.Test.YtkmnjhlacdclhaaG0
import Derived.Test.YtkmnjhlacdclhaaLFnEstimateOf
namespace Go.Proofs.Ytkmnjhlacdclhaa.G
open Go.RowKit Go.Proofs.YtkmnjhlacdclhaaW.PrintWords Go.Proofs.YtkmnjhlacdclhaaW.PrintMore C

theorem between_l0 (l : List Int) (hl : l.length ≤ 8) (hne : l ≠ []) : ∀ (d k i : Nat) (lo hi : Int), i + d = l.length → (∀ j (h : j < l.length), j < i → lo ≤ l[j] ∧ l[j] ≤ hi) →
    laws_FnEstimateOf.l0 (k + d + 1) l (mean l) lo hi (i : Int) = some true := by
  intro d
  induction d with
  | zero =>
    intro k i lo hi he hb
    simp only [laws_FnEstimateOf.l0]
    have h1 : lo ≤ mean l := mean_low hne (fun x hx => by
      obtain ⟨j, hj, rfl⟩ := List.mem_iff_getElem.1 hx
      exact (hb j hj (by omega)).1)
    have h2 : mean l ≤ hi := mean_high hne (fun x hx => by
      obtain ⟨j, hj, rfl⟩ := List.mem_iff_getElem.1 hx
      exact (hb j hj (by omega)).2)
    rw [if_neg (by omega), if_pos h1, decide_eq_true h2]
  | succ d ih =>
    intro k i lo hi he hb
    have b0 : i < l.length := by omega
    rw [show k + (d + 1) + 1 = (k + d + 1) + 1 by omega]
    generalize hf : k + d + 1 = f
    simp only [laws_FnEstimateOf.l0]
    have hn : wrap64 ((i : Int) + 1) = ((i + 1 : Nat) : Int) := by rw [w64 (by omega) (by omega)]; omega
    rw [if_pos (by omega), if_pos (by omega), hn, rd_at l i b0]
    subst hf
    refine ih k (i + 1) _ _ (by omega) (fun j hj hji => ?_)
    by_cases e : j = i
    · subst e
      unfold mn mx
      constructor <;> split <;> omega
    · have := hb j hj (by omega)
      unfold mn mx
      constructor <;> split <;> omega
theorem pureFnEstimateOf : laws_FnEstimateOf.Pure := by
  intro l hm _ hw
  refine ⟨1000, ?_⟩
  unfold laws_FnEstimateOf.f
  by_cases hz : (l.length : Int) > 1048576
  · rw [if_pos hz]
  rw [if_neg hz]
  obtain ⟨t, ht, hl⟩ := drawEst l 1000 (by omega) hw
  rw [ht, Option.bind_some, implEst t 1000 (by omega), Option.bind_some, specEst t 1000 (by omega), Option.bind_some, if_pos rfl]
  rw [show (1000 : Nat) = 999 + 1 from rfl]
  simp only [laws_FnEstimateOf.j0]
  by_cases h0 : est t < 0
  · rw [if_pos h0, if_pos trivial, specEst t 999 (by omega), Option.bind_some, if_pos rfl, if_pos h0]
  · rw [if_neg h0]
    have hv : vt t = true := by
      apply Decidable.byContradiction
      intro hv
      apply h0
      unfold est
      rw [if_neg hv]
      decide
    by_cases he : t = []
    · subst he
      rw [if_pos (by rfl), specEst [] 999 (by omega), Option.bind_some, if_pos rfl, if_neg h0]
      rfl
    · have hlen : 0 < t.length := List.length_pos_iff.2 he
      have hest : est t = mean t := by unfold est; rw [if_pos hv, if_neg he]
      rw [if_neg (by simp; exact he), if_pos (by omega), hest]
      obtain ⟨k, hk⟩ : ∃ k, 999 = k + t.length + 1 := ⟨998 - t.length, by omega⟩
      rw [hk]
      exact between_l0 t hl he t.length k 0 _ _ (by omega) (fun j _ h => absurd h (by omega))
end Go.Proofs.Ytkmnjhlacdclhaa.G
