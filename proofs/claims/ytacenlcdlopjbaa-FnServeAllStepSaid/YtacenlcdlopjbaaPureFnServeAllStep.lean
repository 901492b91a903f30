/- FnServeAllStep: for every code the law returns true: the program's ServeAll is the reference's, and serving all goes step by step. Nothing is assumed. -/
import Derived.Test.YtacenlcdlopjbaaQAll
import Derived.Test.YtacenlcdlopjbaaQEqualInts
import Derived.Test.YtacenlcdlopjbaaLFnServeAllStep
import Derived.Test.YtacenlcdlopjbaaG0
import Derived.Test.YtacenlcdlopjbaaLFnServeAllStep
namespace Go.Proofs.Ytacenlcdlopjbaa.G
open Go.RowKit Go.Proofs.YtacenlcdlopjbaaW.PrintWords C

theorem pureFnServeAllStep : laws_FnServeAllStep.Pure := by
  intro l hm _ hw
  refine ⟨200, ?_⟩
  unfold laws_FnServeAllStep.f
  by_cases hz : (l.length : Int) > 1048576
  · rw [if_pos hz]
  rw [if_neg hz]
  obtain ⟨us, t, hu, h6⟩ := drawServeAll l hw 200 (by omega)
  have hle := allR_le us t
  rw [hu, Option.bind_some]
  dsimp only
  rw [implAll, Option.bind_some, specAll us t (by omega) 200 (by omega), Option.bind_some, eqI_refl _ 200 (by omega) (by omega), Option.bind_some, if_pos rfl, show (200 : Nat) = 199 + 1 from rfl]
  simp only [laws_FnServeAllStep.j0]
  by_cases h0 : (allR us t).length = 0
  · rw [specAll us t (by omega) 199 (by omega), Option.bind_some, eqI_refl _ 199 (by omega) (by omega), Option.bind_some, h0]
    simp
  · rw [if_neg (by simp; intro e; rw [e] at h0; exact h0 rfl), implServe, Option.bind_some]
    have hc : vu us = true ∧ 1 ≤ t ∧ t ≤ 20 := by
      apply Decidable.byContradiction
      intro hc
      apply h0
      unfold allR
      rw [if_neg hc]
      rfl
    obtain ⟨hok, h5⟩ := vu_ok hc.1
    have e1 : allR us t = allI (sumW us) us t := by unfold allR; rw [if_pos hc]
    cases hn : nextN us with
    | none =>
      exfalso
      apply h0
      rw [e1, allI_none hn]
      rfl
    | some a =>
      obtain ⟨ha, hwa⟩ := nextN_lt hok hn
      have hsw := sumW_serv hok ha hwa t
      have hv2 := serv_vu hc.1 hc.2 hn
      have e2 : allR us t = (a : Int) :: allR (servU us a t) t := by
        rw [e1, ← hsw, allI_some hn]
        unfold allR
        rw [if_pos ⟨hv2, hc.2⟩]
      have hle2 := allR_le (servU us a t) t
      rw [serveR_some hc.1 hc.2 hn, if_pos rfl]
      dsimp only
      rw [implAll, Option.bind_some, if_pos (by omega), e2, List.drop_one, List.tail_cons, eqI_refl _ 199 (by omega) (by omega), Option.bind_some]
end Go.Proofs.Ytacenlcdlopjbaa.G
