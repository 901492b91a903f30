/- FnValidUsers: for every code the law returns true: the program's ValidUsers tells what the reference tells, and valid users without the first or the last one are valid. Nothing is assumed. -/
import Derived.Test.YthddfbhdiljobaaQUsers
import Derived.Test.YthddfbhdiljobaaLFnValidUsers
import Derived.Test.YthddfbhdiljobaaG0
import Derived.Test.YthddfbhdiljobaaG2
import Derived.Test.YthddfbhdiljobaaLFnValidUsers
namespace Go.Proofs.Ythddfbhdiljobaa.G
open Go.RowKit Go.Proofs.YthddfbhdiljobaaW.PrintWords

theorem pureFnValidUsers : laws_FnValidUsers.Pure := by
  intro l hm _ hw
  refine ⟨100, ?_⟩
  unfold laws_FnValidUsers.f
  by_cases hz : (l.length : Int) > 1048576
  · rw [if_pos hz]
  rw [if_neg hz]
  unfold spec_DrawValidUsers.f
  obtain ⟨b, hb, hr⟩ := newReader_ok l hw
  obtain ⟨⟨us, q⟩, hu, hl, _⟩ := anyUsers_ok hr 100 0 (by omega) (by omega) (by omega)
  simp only at hl
  simp only [hb, Option.bind_some, hu]
  rw [implVU us 100 (by omega) (by omega), specVU us 100 (by omega) (by omega)]
  simp only [Option.bind_some, bne_self_eq_false, Bool.false_eq_true, if_false]
  have hj0 : ∀ c, c = true → laws_FnValidUsers.j0 100 us (vu us) c = some true := by
    rintro c rfl
    rw [show (100 : Nat) = 99 + 1 from rfl]
    simp only [laws_FnValidUsers.j0]
    rw [if_pos trivial, specVU us 99 (by omega) (by omega)]
    simp
  by_cases hv : vu us = true
  · rw [if_pos hv]
    by_cases h2 : (us.length : Int) < 2
    · exact hj0 _ (by simpa using h2)
    · rw [show (100 : Nat) = 99 + 1 from rfl]
      simp only [laws_FnValidUsers.j0]
      have e1 : wrap64 ((us.length : Int) - 1) = (us.length : Int) - 1 := w64 (by omega) (by omega)
      rw [if_neg (by simpa using h2), e1, if_pos (by omega), if_pos (by omega), implVU _ 99 (by rw [List.length_take]; omega) (by rw [List.length_take]; omega), Option.bind_some]
      have hv1 : vu (us.take ((us.length : Int) - 1).toNat) = true := by
        rw [vu_iff] at hv ⊢
        exact ⟨by rw [List.length_take]; omega, fun u hu => hv.2 u (List.mem_of_mem_take hu)⟩
      have hv2 : vu (us.drop 1) = true := by
        rw [vu_iff] at hv ⊢
        exact ⟨by rw [List.length_drop]; omega, fun u hu => hv.2 u (List.mem_of_mem_drop hu)⟩
      rw [if_pos hv1, if_pos (by omega), implVU _ 99 (by rw [List.length_drop]; omega) (by rw [List.length_drop]; omega), Option.bind_some]
      rw [hv2]
  · rw [if_neg hv]
    exact hj0 _ rfl
end Go.Proofs.Ythddfbhdiljobaa.G
