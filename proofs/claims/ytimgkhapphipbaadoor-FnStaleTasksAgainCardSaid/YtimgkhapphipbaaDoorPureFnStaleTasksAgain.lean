/- FnStaleTasksAgain: for every code, the stale tasks of the stale tasks are the same, and of no changes there are none. Nothing is assumed. -/
import Derived.Test.YtimgkhapphipbaaDoorQStaleL
import Derived.Test.YtimgkhapphipbaaDoorLFnStaleTasksAgain
import Derived.Test.YtimgkhapphipbaaDoorG0
import Derived.Test.YtimgkhapphipbaaDoorLFnStaleTasksAgain
namespace Go.Proofs.YtimgkhapphipbaaDoor.G
open Go.RowKit Go.Proofs.YtimgkhapphipbaaDoorW.PrintWords Go.Proofs.YtimgkhapphipbaaDoorW.PrintLast Go.Proofs.YtimgkhapphipbaaDoorW.PrintMore C
set_option linter.unusedVariables false
set_option linter.unusedSimpArgs false

theorem pureFnStaleTasksAgain : laws_FnStaleTasksAgain.Pure := by
  intro l hm hl hw
  obtain ⟨k, hk⟩ : ∃ k, 2000 ≤ k := ⟨2000, Nat.le_refl _⟩
  refine ⟨k, ?_⟩
  unfold laws_FnStaleTasksAgain.f
  by_cases h1 : (l.length : Int) > 1048576
  · rw [if_pos h1]
  rw [if_neg h1]
  obtain ⟨g, s, hd, hsm, hsl⟩ := drawStaleTasks l hw
  have hsmall := sm_small hsm (by decide) (by decide)
  simp only [hd, Option.bind_some, specStaleTasks_eq (l0 := g) (l1 := s) (B := 100) (by decide) hsmall (by omega) k (by omega)]
  obtain ⟨m, rfl⟩ : ∃ m, k = m + 1 := ⟨k - 1, by omega⟩
  have hel := elems_len (stN g s)
  by_cases hg : gok g = true
  · have hvg : impl_ValidGraph.f g = some true := by unfold impl_ValidGraph.f; rw [hg]
    have hnil : impl_StaleTasks.f g [] = some [] := by unfold impl_StaleTasks.f; rw [if_pos (sok_mk hg rfl), stN_nil hg]; rfl
    by_cases c : sok g s = true
    · have hv : impl_StaleTasks.f g s = some (castL (elems (stN g s))) := by unfold impl_StaleTasks.f; rw [if_pos c]
      have ha : impl_StaleTasks.f g (castL (elems (stN g s))) = some (castL (elems (stN g s))) := by
        unfold impl_StaleTasks.f
        rw [if_pos (sok_again c), stN_again c]
      have hlen := castL_length (elems (stN g s))
      simp only [hv, Option.bind_some, hvg, eqI_refl (castL (elems (stN g s))) (m + 1) (by omega) (by omega), if_true]
      rw [show (!true) = false from rfl, laws_FnStaleTasksAgain.j0, if_neg (by decide)]
      simp only [ha, Option.bind_some, hnil, eqI_refl (castL (elems (stN g s))) m (by omega) (by omega), if_true]
      rfl
    · have hv : impl_StaleTasks.f g s = some [] := by unfold impl_StaleTasks.f; rw [if_neg c]
      simp only [hv, Option.bind_some, hvg, eqI_refl [] (m + 1) (by simp) (by simp), if_true]
      rw [show (!true) = false from rfl, laws_FnStaleTasksAgain.j0, if_neg (by decide)]
      simp only [hnil, Option.bind_some, eqI_refl [] m (by simp) (by simp; omega), if_true]
      rfl
  · have c : ¬ sok g s = true := fun h => hg (sok_parts h).1
    have hvg : impl_ValidGraph.f g = some false := by unfold impl_ValidGraph.f; rw [Bool.eq_false_iff.2 hg]
    have hv : impl_StaleTasks.f g s = some [] := by unfold impl_StaleTasks.f; rw [if_neg c]
    simp only [hv, Option.bind_some, hvg, eqI_refl [] (m + 1) (by simp) (by simp), if_true]
    rw [show (!false) = true from rfl, laws_FnStaleTasksAgain.j0, if_pos rfl]
    simp only [specStaleTasks_eq (l0 := g) (l1 := s) (B := 100) (by decide) hsmall (by omega) m (by omega), hv, Option.bind_some, eqI_refl [] m (by simp) (by simp; omega)]
end Go.Proofs.YtimgkhapphipbaaDoor.G
