/- FnNextUser: for every code the law returns true: the program's NextUser is the reference's, and nobody who waits has used less for the share, nor as much and stands ahead. Nothing is assumed. -/
import Derived.Test.YtafiidbkkcaegaaQDrawN
import Derived.Test.YtafiidbkkcaegaaLFnNextUser
import Derived.Test.YtafiidbkkcaegaaG0
import Derived.Test.YtafiidbkkcaegaaLFnNextUser
namespace Go.Proofs.Ytafiidbkkcaegaa.G
open Go.RowKit Go.Proofs.YtafiidbkkcaegaaW.PrintWords C

theorem fnNext_l0 (l : List S27) (hok : okAll l) (h5 : l.length ≤ 5) (a : Nat) (hn : nextN l = some a) : ∀ (d k i : Nat), i + d = l.length → d < k → laws_FnNextUser.l0 k l (a : Int) (i : Int) = some true := by
  obtain ⟨ha, hwa, hmin⟩ := nextGo_some (fun j hj => (hok.waits j hj).2) hn
  intro d
  induction d with
  | zero =>
    intro k i hi hk
    obtain ⟨k, rfl⟩ : ∃ m, k = m + 1 := ⟨k - 1, by omega⟩
    simp only [laws_FnNextUser.l0]
    rw [if_neg (by omega), if_pos (by omega), if_pos (by omega)]
    exact congrArg some (decide_eq_true hwa)
  | succ d ih =>
    intro k i hi hk
    obtain ⟨k, rfl⟩ : ∃ m, k = m + 1 := ⟨k - 1, by omega⟩
    simp only [laws_FnNextUser.l0]
    have hnx : wrap64 ((i : Int) + 1) = ((i + 1 : Nat) : Int) := by rw [w64 (by omega) (by omega)]; omega
    rw [if_pos (by omega), if_pos (by omega), if_pos (by omega), if_pos (by omega), hnx, ih k (i + 1) (by omega) (by omega)]
    by_cases hw : 0 < (rd_T27 l i).f2
    · rw [if_pos hw]
      have h1 := mul_bound (hok.bound i).2 (hok.bound a).1
      have h2 := mul_bound (hok.bound a).2 (hok.bound i).1
      have e1 : wrap64 ((rd_T27 l i).f1 * (rd_T27 l a).f0) = uK l i * sK l a := w64 (x := uK l i * sK l a) (by omega) (by omega)
      have e2 : wrap64 ((rd_T27 l a).f1 * (rd_T27 l i).f0) = uK l a * sK l i := w64 (x := uK l a * sK l i) (by omega) (by omega)
      rw [e1, e2]
      have h3 : ¬ (uK l i * sK l a < uK l a * sK l i ∨ (uK l i * sK l a = uK l a * sK l i ∧ i < a)) := by
        rw [← ltK_iff (uK l) (sK l) i a, hmin i (by omega) hw]
        simp
      rw [if_neg (fun hh => h3 (.inl hh))]
      by_cases e3 : uK l i * sK l a = uK l a * sK l i
      · rw [if_pos e3, if_neg (fun hh => h3 (.inr ⟨e3, by omega⟩))]
      · rw [if_neg e3]
    · rw [if_neg hw]
theorem pureFnNextUser : laws_FnNextUser.Pure := by
  intro l hm _ hw
  refine ⟨100, ?_⟩
  unfold laws_FnNextUser.f
  by_cases hz : (l.length : Int) > 1048576
  · rw [if_pos hz]
  rw [if_neg hz]
  obtain ⟨us, hu, h6⟩ := drawNext l hw 100 (by omega)
  rw [hu, Option.bind_some, implNext, Option.bind_some, specNextUser us (by omega) 100 (by omega), Option.bind_some, if_pos rfl, show (100 : Nat) = 99 + 1 from rfl]
  have hj : ∀ n, n = (if vu us = true then nextI us else -1) → laws_FnNextUser.j0 (99 + 1) us n true = some true := by
    rintro n rfl
    simp only [laws_FnNextUser.j0]
    rw [if_pos trivial, specNextUser us (by omega) 99 (by omega)]
    simp
  by_cases hv : vu us = true
  · obtain ⟨hok, h5⟩ := vu_ok hv
    rw [if_pos hv]
    rcases nextI_cases us with ⟨hn, e⟩ | ⟨a, hn, e⟩
    · rw [e, if_pos (by decide)]
      exact hj _ (by rw [if_pos hv, e])
    · obtain ⟨ha, _⟩ := nextN_lt hok hn
      rw [e, if_neg (by omega), decide_eq_false (by omega)]
      simp only [laws_FnNextUser.j0]
      rw [if_neg (by decide)]
      exact fnNext_l0 us hok h5 a hn us.length 99 0 (by omega) (by omega)
  · rw [if_neg hv, if_pos (by decide)]
    exact hj _ (by rw [if_neg hv])
end Go.Proofs.Ytafiidbkkcaegaa.G
