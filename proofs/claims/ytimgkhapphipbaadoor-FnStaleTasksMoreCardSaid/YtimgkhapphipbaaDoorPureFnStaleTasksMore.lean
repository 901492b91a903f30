/- FnStaleTasksMore: for every code, the stale tasks of the first change are some, and are among the stale tasks of all. Nothing is assumed. -/
import Derived.Test.YtimgkhapphipbaaDoorQStaleL
import Derived.Test.YtimgkhapphipbaaDoorLFnStaleTasksMore
import Derived.Test.YtimgkhapphipbaaDoorG0
import Derived.Test.YtimgkhapphipbaaDoorLFnStaleTasksMore
namespace Go.Proofs.YtimgkhapphipbaaDoor.G
open Go.RowKit Go.Proofs.YtimgkhapphipbaaDoorW.PrintWords Go.Proofs.YtimgkhapphipbaaDoorW.PrintLast Go.Proofs.YtimgkhapphipbaaDoorW.PrintMore C
set_option linter.unusedVariables false
set_option linter.unusedSimpArgs false

theorem more_l0 {out part : List Int} (ho : out.length ≤ 100) (hp : part.length ≤ 100) (hs : ∀ x, x ∈ part → out.contains x = true) (h0 : 0 < part.length) : ∀ (rest pre : List Int) (k : Nat), part = pre ++ rest → rest.length + 200 < k → laws_FnStaleTasksMore.l0 k out part (pre.length : Int) = some true := by
  intro rest
  induction rest with
  | nil =>
    intro pre k e hk
    obtain ⟨k, rfl⟩ : ∃ m, k = m + 1 := ⟨k - 1, by omega⟩
    rw [laws_FnStaleTasksMore.l0, if_neg (by rw [e]; simp), decide_eq_true (by omega)]
  | cons x r ih =>
    intro pre k e hk
    obtain ⟨k, rfl⟩ : ∃ m, k = m + 1 := ⟨k - 1, by omega⟩
    simp only [List.length_cons] at hk
    have hlt : pre.length < part.length := by rw [e]; simp
    rw [laws_FnStaleTasksMore.l0, if_pos (by omega), if_pos (by omega), show rd part (pre.length : Int) = x by rw [e]; exact rd_app _ _ _, lIsIn_eq (by omega) _ _ (by omega), hs x (by rw [e]; simp)]
    simp only [Option.bind_some, if_true]
    rw [nx (m := 100) (by omega) (by omega), show pre.length + 1 = (pre ++ [x]).length by simp]
    exact ih (pre ++ [x]) k (by rw [e]; simp) (by omega)
theorem pureFnStaleTasksMore : laws_FnStaleTasksMore.Pure := by
  intro l hm hl hw
  obtain ⟨k, hk⟩ : ∃ k, 2000 ≤ k := ⟨2000, Nat.le_refl _⟩
  refine ⟨k, ?_⟩
  unfold laws_FnStaleTasksMore.f
  by_cases h1 : (l.length : Int) > 1048576
  · rw [if_pos h1]
  rw [if_neg h1]
  obtain ⟨g, s, hd, hsm, hsl⟩ := drawStaleTasks l hw
  have hsmall := sm_small hsm (by decide) (by decide)
  simp only [hd, Option.bind_some, specStaleTasks_eq (l0 := g) (l1 := s) (B := 100) (by decide) hsmall (by omega) k (by omega)]
  obtain ⟨m, rfl⟩ : ∃ m, k = m + 1 := ⟨k - 1, by omega⟩
  have hel := elems_len (stN g s)
  obtain ⟨out, hv, hlen⟩ : ∃ out, impl_StaleTasks.f g s = some out ∧ out.length ≤ 16 := by
    unfold impl_StaleTasks.f
    by_cases c : sok g s = true
    · rw [if_pos c]
      exact ⟨_, rfl, by rw [castL_length]; exact hel⟩
    · rw [if_neg c]
      exact ⟨_, rfl, by simp⟩
  simp only [hv, Option.bind_some, eqI_refl out (m + 1) (by omega) (by omega), if_true]
  by_cases hz : out.length = 0
  · have e : ((out.length : Int) == 0) = true := by simp [hz]
    rw [e, laws_FnStaleTasksMore.j0, if_pos rfl]
    simp only [specStaleTasks_eq (l0 := g) (l1 := s) (B := 100) (by decide) hsmall (by omega) m (by omega), hv, Option.bind_some, eqI_refl out m (by omega) (by omega)]
  · have e : ((out.length : Int) == 0) = false := beq_eq_false_iff_ne.2 (by omega)
    have c : sok g s = true := by
      apply Classical.byContradiction
      intro c
      have : impl_StaleTasks.f g s = some [] := by unfold impl_StaleTasks.f; rw [if_neg c]
      rw [hv] at this
      injection this with this
      exact hz (by rw [this]; rfl)
    have ho : out = castL (elems (stN g s)) := by
      have : impl_StaleTasks.f g s = some (castL (elems (stN g s))) := by unfold impl_StaleTasks.f; rw [if_pos c]
      rw [hv] at this
      injection this
    have hs0 : s ≠ [] := by
      rintro rfl
      have := stN_nil (sok_parts c).1
      rw [this] at ho
      exact hz (by rw [ho]; rfl)
    obtain ⟨x, r, rfl⟩ := List.exists_cons_of_ne_nil hs0
    have hg := (sok_parts c).1
    have ct := sok_take c
    have hp : impl_StaleTasks.f g ((x :: r).take 1) = some (castL (elems (stN g ((x :: r).take 1)))) := by unfold impl_StaleTasks.f; rw [if_pos ct]
    have hpl := elems_len (stN g ((x :: r).take 1))
    rw [e, laws_FnStaleTasksMore.j0, if_neg (by decide), if_pos (by simp; omega), hp]
    simp only [Option.bind_some]
    have hx := ascB_mem (sok_parts c).2 x (by simp)
    obtain ⟨a, rfl⟩ := Int.eq_ofNat_of_zero_le (show 0 ≤ x by omega)
    have hin : a ∈ elems (stN g (((a : Int) :: r).take 1)) := (stN_mem ct).2 ⟨by omega, .inl (by simp)⟩
    refine more_l0 (part := castL (elems (stN g (((a : Int) :: r).take 1)))) (by omega) (by rw [castL_length]; omega) (fun y hy => ?_) ?_ (castL (elems (stN g (((a : Int) :: r).take 1)))) [] m rfl (by rw [castL_length]; omega)
    · unfold castL at hy
      obtain ⟨i, hi, rfl⟩ := List.mem_map.1 hy
      have h3 := (stN_mem ct).1 hi
      have h4 : i ∈ elems (stN g ((a : Int) :: r)) := (stN_mem c).2 ⟨h3.1, h3.2.mono (fun x hx => List.mem_of_mem_take hx)⟩
      rw [ho]
      show (castL (elems (stN g ((a : Int) :: r)))).contains ((i : Nat) : Int) = true
      rw [castL_contains]
      simpa using h4
    · rw [castL_length]
      exact List.length_pos_of_mem hin
end Go.Proofs.YtimgkhapphipbaaDoor.G
