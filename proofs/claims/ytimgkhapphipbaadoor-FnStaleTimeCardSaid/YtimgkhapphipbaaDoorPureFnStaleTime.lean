/- FnStaleTime: for every code, the stale time is the sum of the times of the stale tasks, and at most that of all tasks. Nothing is assumed. -/
import Derived.Test.YtimgkhapphipbaaDoorQStaleL
import Derived.Test.YtimgkhapphipbaaDoorLFnStaleTime
import Derived.Test.YtimgkhapphipbaaDoorG0
import Derived.Test.YtimgkhapphipbaaDoorG11
import Derived.Test.YtimgkhapphipbaaDoorLFnStaleTime
namespace Go.Proofs.YtimgkhapphipbaaDoor.G
open Go.RowKit Go.Proofs.YtimgkhapphipbaaDoorW.PrintWords Go.Proofs.YtimgkhapphipbaaDoorW.PrintLast Go.Proofs.YtimgkhapphipbaaDoorW.PrintMore C
set_option linter.unusedVariables false
set_option linter.unusedSimpArgs false

theorem allTime_go {g : List S42} (hg : gok g = true) : ∀ (d i k : Nat), i + d = g.length → d < k → laws_allTime.l0 k g (tsum g (List.range i)) (i : Int) = some (tsum g (List.range g.length)) := by
  have h8 := gok8 hg
  intro d
  induction d with
  | zero =>
    intro i k hi hk
    obtain ⟨k, rfl⟩ : ∃ m, k = m + 1 := ⟨k - 1, by omega⟩
    obtain rfl : i = g.length := by omega
    rw [laws_allTime.l0, if_neg (by omega)]
  | succ d ih =>
    intro i k hi hk
    obtain ⟨k, rfl⟩ : ∃ m, k = m + 1 := ⟨k - 1, by omega⟩
    have hb := tsum_bd hg (List.range i)
    have ht := fine_time (gok_fine hg) (show i < g.length by omega)
    rw [List.length_range] at hb
    rw [laws_allTime.l0, if_pos (by omega), if_pos (by omega), w64 (by omega) (by omega), nx (m := 100) (by omega) (by omega), ← tsum_snoc, ← List.range_succ]
    exact ih (i + 1) k (by omega) (by omega)
theorem allTime_eq {g : List S42} (hg : gok g = true) (k : Nat) (hk : 20 ≤ k) : laws_allTime.f k g = some (tsum g (List.range g.length)) := by
  have h8 := gok8 hg
  unfold laws_allTime.f
  exact allTime_go hg g.length 0 k (by omega) (by omega)
theorem st_l0 {g : List S42} (hg : gok g = true) {es : List Nat} {x5 : Int} (hes : ∀ i, i ∈ es → i < g.length) (hel : es.length ≤ 16) (hx : tsum g es = x5) (hall : x5 ≤ tsum g (List.range g.length)) : ∀ (rest pre : List Nat) (k : Nat), es = pre ++ rest → rest.length + 50 < k →
    laws_FnStaleTime.l0 k g x5 (castL es) (tsum g pre) (pre.length : Int) = some true := by
  have h8 := gok8 hg
  intro rest
  induction rest with
  | nil =>
    intro pre k e hk
    obtain ⟨k, rfl⟩ : ∃ m, k = m + 1 := ⟨k - 1, by omega⟩
    have hpe : pre = es := by rw [e]; simp
    rw [laws_FnStaleTime.l0, if_neg (by rw [castL_length, e]; simp), if_pos (by rw [hpe]; exact hx), allTime_eq hg k (by omega)]
    simp only [Option.bind_some, decide_eq_true hall]
  | cons x r ih =>
    intro pre k e hk
    obtain ⟨k, rfl⟩ : ∃ m, k = m + 1 := ⟨k - 1, by omega⟩
    simp only [List.length_cons] at hk
    have hlt : pre.length < es.length := by rw [e]; simp
    have hxe : es.getD pre.length 0 = x := by rw [e]; simp
    have hxn := hes x (by rw [e]; simp)
    have hb := tsum_bd hg pre
    have ht := fine_time (gok_fine hg) hxn
    rw [laws_FnStaleTime.l0, if_pos (by rw [castL_length]; omega), if_pos (by omega), rd_castL, hxe, if_neg (by omega), if_neg (by omega), if_pos (by omega), if_pos (by omega), w64 (by omega) (by omega), ← tsum_snoc, nx (m := 16) (by omega) (by omega), show pre.length + 1 = (pre ++ [x]).length by simp]
    exact ih (pre ++ [x]) k (by rw [e]; simp) (by omega)
theorem pureFnStaleTime : laws_FnStaleTime.Pure := by
  intro l hm hl hw
  obtain ⟨k, hk⟩ : ∃ k, 2000 ≤ k := ⟨2000, Nat.le_refl _⟩
  refine ⟨k, ?_⟩
  unfold laws_FnStaleTime.f
  by_cases h1 : (l.length : Int) > 1048576
  · rw [if_pos h1]
  rw [if_neg h1]
  obtain ⟨g, s, hd, hsm, hsl⟩ := drawStaleTime l hw
  have hsmall := sm_small hsm (by decide) (by decide)
  simp only [hd, Option.bind_some, specStaleTime_eq (l0 := g) (l1 := s) (B := 100) (by decide) hsmall (by omega) k (by omega)]
  obtain ⟨m, rfl⟩ : ∃ m, k = m + 1 := ⟨k - 1, by omega⟩
  by_cases c : sok g s = true
  · have hg := (sok_parts c).1
    have hv : impl_StaleTime.f g s = some (tsum g (elems (stN g s))) := by unfold impl_StaleTime.f; rw [if_pos c]
    have hv2 : impl_StaleTasks.f g s = some (castL (elems (stN g s))) := by unfold impl_StaleTasks.f; rw [if_pos c]
    have hb := tsum_bd (l0 := g) hg (elems (stN g s))
    have hel := elems_len (stN g s)
    simp only [hv, Option.bind_some, if_true]
    rw [decide_eq_false (by omega), laws_FnStaleTime.j0, if_neg (by decide), hv2]
    simp only [Option.bind_some]
    have hes : ∀ i, i ∈ elems (stN g s) → i < g.length := fun i hi => ((stN_mem c).1 hi).1
    have hall : tsum g (elems (stN g s)) ≤ tsum g (List.range g.length) := by
      have h8 := gok8 hg
      have e1 : elems (stN g s) = (List.range 16).filter (fun i => (stN g s).testBit i) := rfl
      have e2 : List.range g.length = (List.range 16).filter (fun i => decide (i < g.length)) := by
        refine sorted_ext List.pairwise_lt_range (List.Pairwise.filter _ List.pairwise_lt_range) (fun i => ?_)
        rw [List.mem_filter, List.mem_range, List.mem_range]
        simp
        omega
      rw [e2, e1]
      exact tsum_le hg _ (fun i _ hi => by simpa using ((stN_bit c).1 hi).1)
    exact st_l0 hg hes hel rfl hall (elems (stN g s)) [] m rfl (by omega)
  · have hv : impl_StaleTime.f g s = some (-1) := by unfold impl_StaleTime.f; rw [if_neg c]
    simp only [hv, Option.bind_some, if_true]
    rw [decide_eq_true (by decide), laws_FnStaleTime.j0, if_pos rfl, specStaleTime_eq (l0 := g) (l1 := s) (B := 100) (by decide) hsmall (by omega) m (by omega), hv]
    simp
end Go.Proofs.YtimgkhapphipbaaDoor.G
