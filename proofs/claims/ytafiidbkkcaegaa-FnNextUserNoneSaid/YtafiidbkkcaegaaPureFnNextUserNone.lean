/- FnNextUserNone: for every code the law returns true: the program's NextUser is the reference's, and of valid users nobody is next just if nobody waits. Nothing is assumed. -/
import Derived.Test.YtafiidbkkcaegaaQDrawN
import Derived.Test.YtafiidbkkcaegaaLFnNextUserNone
import Derived.Test.YtafiidbkkcaegaaG0
import Derived.Test.YtafiidbkkcaegaaLFnNextUserNone
namespace Go.Proofs.Ytafiidbkkcaegaa.G
open Go.RowKit Go.Proofs.YtafiidbkkcaegaaW.PrintWords C

/-- Does one of the first i wait? -/
def someW (us : List S27) : Nat → Bool
  | 0 => false
  | i + 1 => if someW us i = true then true else decide ((rd_T27 us i).f2 > 0)
theorem someW_false {us : List S27} : ∀ {i : Nat}, someW us i = false ↔ ∀ j, j < i → ¬ 0 < wK us j
  | 0 => ⟨fun _ j hj => absurd hj (Nat.not_lt_zero _), fun _ => rfl⟩
  | i + 1 => by
    unfold someW
    by_cases h : someW us i = true
    · rw [if_pos h]
      constructor
      · intro hh
        cases hh
      · intro hh
        rw [someW_false.2 (fun j hj => hh j (by omega))] at h
        cases h
    · rw [if_neg h]
      have h' := someW_false.1 (by simpa using h)
      constructor
      · intro hh j hj
        by_cases e : j = i
        · subst e
          have := of_decide_eq_false hh
          unfold wK
          omega
        · exact h' j (by omega)
      · intro hh
        have := hh i (by omega)
        unfold wK at this
        exact decide_eq_false (by omega)
theorem fnNextNone_l0 (l : List S27) (h5 : l.length ≤ 5) (n : Int) (hn : (n == -1) = !someW l l.length) : ∀ (d k i : Nat), i + d = l.length → d < k → laws_FnNextUserNone.l0 k l n (someW l i) (i : Int) = some true := by
  intro d
  induction d with
  | zero =>
    intro k i hi hk
    obtain ⟨k, rfl⟩ : ∃ m, k = m + 1 := ⟨k - 1, by omega⟩
    simp only [laws_FnNextUserNone.l0]
    rw [if_neg (by omega), show i = l.length by omega, hn]
    simp
  | succ d ih =>
    intro k i hi hk
    obtain ⟨k, rfl⟩ : ∃ m, k = m + 1 := ⟨k - 1, by omega⟩
    have hrec := ih k (i + 1) (by omega) (by omega)
    simp only [laws_FnNextUserNone.l0]
    have hnx : wrap64 ((i : Int) + 1) = ((i + 1 : Nat) : Int) := by rw [w64 (by omega) (by omega)]; omega
    rw [if_pos (show (i : Int) < (l.length : Int) by omega), hnx]
    unfold someW at hrec
    by_cases hs : someW l i = true
    · rw [if_pos hs] at hrec ⊢
      exact hrec
    · rw [if_neg hs] at hrec ⊢
      rw [if_pos (by omega)]
      exact hrec
theorem pureFnNextUserNone : laws_FnNextUserNone.Pure := by
  intro l hm _ hw
  refine ⟨100, ?_⟩
  unfold laws_FnNextUserNone.f
  by_cases hz : (l.length : Int) > 1048576
  · rw [if_pos hz]
  rw [if_neg hz]
  obtain ⟨us, hu, h6⟩ := drawNext l hw 100 (by omega)
  rw [hu, Option.bind_some, implNext, Option.bind_some, specNextUser us (by omega) 100 (by omega), Option.bind_some, if_pos rfl, implVU us 100 (by omega) (by omega), Option.bind_some, show (100 : Nat) = 99 + 1 from rfl]
  simp only [laws_FnNextUserNone.j0]
  by_cases hv : vu us = true
  · obtain ⟨hok, h5⟩ := vu_ok hv
    rw [if_pos hv, hv, if_neg (by decide)]
    refine fnNextNone_l0 us h5 (nextI us) ?_ us.length 99 0 (by omega) (by omega)
    rcases nextI_cases us with ⟨hn, e⟩ | ⟨a, hn, e⟩
    · rw [e, someW_false.2 (nextGo_none.1 hn)]
      rfl
    · obtain ⟨ha, hwa⟩ := nextN_lt hok hn
      have : someW us us.length = true := by
        cases hs : someW us us.length with
        | true => rfl
        | false => exact absurd hwa (someW_false.1 hs a ha)
      rw [e, this]
      exact beq_eq_false_iff_ne.2 (by omega)
  · have hv' : vu us = false := by simpa using hv
    rw [if_neg hv, hv', if_pos (by decide), specNextUser us (by omega) 99 (by omega), if_neg hv]
    rfl
end Go.Proofs.Ytafiidbkkcaegaa.G
