/-
  Serving all, in the reference; what is served: how many, how often each one.
-/
import Derived.Test.YtacenlcdlopjbaaHSA
import Derived.Test.YtacenlcdlopjbaaQNext
import Derived.Test.YtacenlcdlopjbaaG0
import Derived.Test.YtacenlcdlopjbaaG6
namespace Go.Proofs.Ytacenlcdlopjbaa.G
open Go.RowKit Go.Proofs.YtacenlcdlopjbaaW.PrintWords C
set_option linter.unusedVariables false

theorem serveR_some {us : List S31} {t : Int} (hv : vu us = true) (ht : 1 ≤ t ∧ t ≤ 20) {a : Nat} (hn : nextN us = some a) : serveR us t = (servU us a t, (a : Int), true) := by
  unfold serveR
  rw [if_pos ⟨hv, ht⟩, hn]
theorem serv_vu {us : List S31} (h : vu us = true) {t : Int} (ht : 1 ≤ t ∧ t ≤ 20) {a : Nat} (hn : nextN us = some a) : vu (servU us a t) = true := by
  obtain ⟨hok, h5⟩ := vu_ok h
  obtain ⟨ha, hwa⟩ := nextN_lt hok hn
  rw [vu_iff] at h ⊢
  exact ⟨by rw [servU_length]; exact h.1, hok.serv ht ha hwa⟩
theorem allI_length {t : Int} (ht : 1 ≤ t ∧ t ≤ 20) : ∀ (f : Nat) (us : List S31), okAll us → sumW us ≤ f → (allI f us t).length = sumW us
  | 0, us, hok, h => by unfold allI; simp; omega
  | f + 1, us, hok, h => by
    unfold allI
    cases hn : nextN us with
    | none =>
      have h0 : sumW us = 0 := by
        unfold sumW
        rw [List.sum_eq_zero_iff_forall_eq_nat]
        intro x hx
        obtain ⟨u, hu, rfl⟩ := List.mem_map.1 hx
        obtain ⟨i, hi, rfl⟩ := List.mem_iff_getElem.1 hu
        have := nextGo_none.1 hn i hi
        unfold wK at this
        rw [rdU_nat us i hi] at this
        omega
      simp [h0]
    | some a =>
      obtain ⟨ha, hwa⟩ := nextN_lt hok hn
      have := sumW_serv hok ha hwa t
      simp only [List.length_cons]
      rw [allI_length ht f _ (hok.serv ht ha hwa) (by omega)]
      omega
theorem allR_le (us : List S31) (t : Int) : (allR us t).length ≤ 30 := by
  unfold allR
  split
  · rename_i h
    obtain ⟨hok, h5⟩ := vu_ok h.1
    rw [allI_length h.2 _ _ hok (Nat.le_refl _)]
    have := sumW_le hok
    omega
  · simp
theorem specAll_l0 {t : Int} (ht : 1 ≤ t ∧ t ≤ 20) : ∀ (f k : Nat) (us : List S31) (acc : List Int), vu us = true → sumW us ≤ f → f + 20 < k → acc.length + f ≤ 1000 → spec_ServeAll.l0 k us t acc = some (acc ++ allI f us t)
  | f, k, us, acc, hv, hs, hk, hl => by
    obtain ⟨hok, h5⟩ := vu_ok hv
    obtain ⟨k, rfl⟩ : ∃ m, k = m + 1 := ⟨k - 1, by omega⟩
    simp only [spec_ServeAll.l0]
    rw [specNext us hok (by omega) k (by omega), Option.bind_some]
    cases hn : nextN us with
    | none => rw [nextI_none hn, if_neg (by decide), allI_none hn, List.append_nil]
    | some a =>
      obtain ⟨ha, hwa⟩ := nextN_lt hok hn
      have h1 := sumW_serv hok ha hwa t
      obtain ⟨g, rfl⟩ : ∃ g, f = g + 1 := ⟨f - 1, by omega⟩
      rw [nextI_some hn, if_pos (by omega), specServe us t (by omega) k (by omega), Option.bind_some, serveR_some hv ht hn, if_pos (by omega), allI_some hn]
      have ih := specAll_l0 ht g k (servU us a t) (acc ++ [(a : Int)]) (serv_vu hv ht hn) (by omega) (by omega) (by simp; omega)
      rw [ih]
      simp
termination_by f => f
theorem specAll (us : List S31) (t : Int) (hl : us.length ≤ 2000000) (k : Nat) (hk : us.length + 60 < k) : spec_ServeAll.f k us t = some (allR us t) := by
  unfold spec_ServeAll.f allR
  rw [Option.bind_some, specVU' us k (by omega) (by omega), Option.bind_some]
  obtain ⟨k, rfl⟩ : ∃ m, k = m + 1 := ⟨k - 1, by omega⟩
  by_cases h : vu us = true
  · have hs := sumW_le (vu_ok h).1
    have h5 := (vu_ok h).2
    rw [if_pos h, inRange_eq, Option.bind_some]
    simp only [spec_ServeAll.j0]
    by_cases ht : 1 ≤ t ∧ t ≤ 20
    · rw [decide_eq_true ht, if_neg (by decide), if_pos ⟨h, ht⟩, specAll_l0 ht (sumW us) k us [] h (Nat.le_refl _) (by omega) (by simp; omega)]
      rfl
    · rw [decide_eq_false ht, if_pos (by decide), if_neg (fun hh => ht hh.2)]
  · rw [if_neg h, if_neg (fun hh => h hh.1)]
    simp only [spec_ServeAll.j0]
    rw [if_pos trivial]
theorem implAll (us : List S31) (t : Int) : impl_ServeAll.f us t = some (allR us t) := rfl
/-- How often each one is served. -/
theorem allI_count {t : Int} (ht : 1 ≤ t ∧ t ≤ 20) : ∀ (f : Nat) (us : List S31), okAll us → sumW us ≤ f → ∀ i, i < us.length → (((allI f us t).count (i : Int) : Nat) : Int) = wK us i
  | f, us, hok, h, i, hi => by
    have hu := hok.at_ hi
    unfold okU at hu
    cases hn : nextN us with
    | none =>
      rw [allI_none hn]
      have := nextGo_none.1 hn i hi
      unfold wK at this ⊢
      simp
      omega
    | some a =>
      obtain ⟨ha, hwa⟩ := nextN_lt hok hn
      have h1 := sumW_serv hok ha hwa t
      obtain ⟨g, rfl⟩ : ∃ g, f = g + 1 := ⟨f - 1, by omega⟩
      rw [allI_some hn, List.count_cons]
      have ih := allI_count ht g (servU us a t) (hok.serv ht ha hwa) (by omega) i (by rw [servU_length]; exact hi)
      by_cases e : i = a
      · subst e
        unfold wK at ih ⊢
        rw [servU_at ha] at ih
        simp only at ih
        simp
        omega
      · unfold wK at ih ⊢
        rw [servU_ne e] at ih
        rw [if_neg (by simp; omega)]
        simpa using ih
termination_by f => f
end Go.Proofs.Ytacenlcdlopjbaa.G
