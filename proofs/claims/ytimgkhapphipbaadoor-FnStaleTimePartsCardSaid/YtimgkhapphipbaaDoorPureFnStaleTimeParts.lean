/- FnStaleTimeParts: for every code, the stale time of two parts of the changes bounds that of all, and is bounded by it. Nothing is assumed. -/
import Derived.Test.YtimgkhapphipbaaDoorQStaleL
import Derived.Test.YtimgkhapphipbaaDoorLFnStaleTimeParts
import Derived.Test.YtimgkhapphipbaaDoorG0
import Derived.Test.YtimgkhapphipbaaDoorLFnStaleTimeParts
namespace Go.Proofs.YtimgkhapphipbaaDoor.G
open Go.RowKit Go.Proofs.YtimgkhapphipbaaDoorW.PrintWords Go.Proofs.YtimgkhapphipbaaDoorW.PrintLast Go.Proofs.YtimgkhapphipbaaDoorW.PrintMore C
set_option linter.unusedVariables false
set_option linter.unusedSimpArgs false

theorem parts_j0 {g : List S42} {s : List Int} (hs : sok g s = true) (k : Nat) (hk : 100 ≤ k) (hl : s.length ≠ 0) : laws_FnStaleTimeParts.j0 k g s (tsum g (elems (stN g s))) false = some true := by
  obtain ⟨k, rfl⟩ : ∃ m, k = m + 1 := ⟨k - 1, by omega⟩
  have hg := (sok_parts hs).1
  have h1 := sok_take hs
  have h2 := sok_drop hs
  have a1 := elems_sum (l0 := g) (a := stN g s) (b := stN g (s.take 1)) (c := stN g (s.drop 1)) hg (fun i hi => by
    obtain ⟨hi1, hi2⟩ := (stN_bit hs).1 hi
    rcases hi2.split with h | h
    · exact .inl ((stN_bit h1).2 ⟨hi1, h⟩)
    · exact .inr ((stN_bit h2).2 ⟨hi1, h⟩))
  have a2 := elems_sub (l0 := g) (a := stN g (s.take 1)) (b := stN g s) hg (fun i hi => (stN_bit hs).2 ⟨((stN_bit h1).1 hi).1, ((stN_bit h1).1 hi).2.mono (fun x hx => List.mem_of_mem_take hx)⟩)
  have a3 := elems_sub (l0 := g) (a := stN g (s.drop 1)) (b := stN g s) hg (fun i hi => (stN_bit hs).2 ⟨((stN_bit h2).1 hi).1, ((stN_bit h2).1 hi).2.mono (fun x hx => List.mem_of_mem_drop hx)⟩)
  have b1 := tsum_bd (l0 := g) hg (elems (stN g (s.take 1)))
  have b2 := tsum_bd (l0 := g) hg (elems (stN g (s.drop 1)))
  have e1 := elems_len (stN g (s.take 1))
  have e2 := elems_len (stN g (s.drop 1))
  rw [laws_FnStaleTimeParts.j0, if_neg (by decide), if_pos (by omega)]
  simp only [impl_StaleTime.f, if_pos h1, if_pos h2, Option.bind_some]
  rw [w64 (by omega) (by omega), if_pos a1, if_pos a2, decide_eq_true a3]
theorem pureFnStaleTimeParts : laws_FnStaleTimeParts.Pure := by
  intro l hm hl hw
  obtain ⟨k, hk⟩ : ∃ k, 2000 ≤ k := ⟨2000, Nat.le_refl _⟩
  refine ⟨k, ?_⟩
  unfold laws_FnStaleTimeParts.f
  by_cases h1 : (l.length : Int) > 1048576
  · rw [if_pos h1]
  rw [if_neg h1]
  obtain ⟨g, s, hd, hsm, hsl⟩ := drawStaleTime l hw
  have hsmall := sm_small hsm (by decide) (by decide)
  simp only [hd, Option.bind_some, specStaleTime_eq (l0 := g) (l1 := s) (B := 100) (by decide) hsmall (by omega) k (by omega)]
  by_cases c : sok g s = true
  · have hv : impl_StaleTime.f g s = some (tsum g (elems (stN g s))) := by unfold impl_StaleTime.f; rw [if_pos c]
    have hb := tsum_bd (l0 := g) (sok_parts c).1 (elems (stN g s))
    simp only [hv, Option.bind_some, if_true]
    rw [if_neg (by omega)]
    by_cases hz : s.length = 0
    · have e : ((s.length : Int) == 0) = true := by simp [hz]
      obtain ⟨m, rfl⟩ : ∃ m, k = m + 1 := ⟨k - 1, by omega⟩
      rw [e, laws_FnStaleTimeParts.j0, if_pos rfl, specStaleTime_eq (l0 := g) (l1 := s) (B := 100) (by decide) hsmall (by omega) m (by omega), hv]
      simp
    · have e : ((s.length : Int) == 0) = false := beq_eq_false_iff_ne.2 (by omega)
      rw [e]
      exact parts_j0 c k (by omega) hz
  · have hv : impl_StaleTime.f g s = some (-1) := by unfold impl_StaleTime.f; rw [if_neg c]
    simp only [hv, Option.bind_some, if_true]
    rw [if_pos (by decide)]
    obtain ⟨m, rfl⟩ : ∃ m, k = m + 1 := ⟨k - 1, by omega⟩
    rw [laws_FnStaleTimeParts.j0, if_pos rfl, specStaleTime_eq (l0 := g) (l1 := s) (B := 100) (by decide) hsmall (by omega) m (by omega), hv]
    simp
end Go.Proofs.YtimgkhapphipbaaDoor.G
