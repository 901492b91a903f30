/- FnFairPartsUsed: for every code the law returns true: the program's FairParts is the reference's, and users with the same shares who have used nothing and wait for nothing get the same parts. Nothing is assumed. -/
import Derived.Test.YthddfbhdiljobaaQFair
import Derived.Test.YthddfbhdiljobaaLFnFairPartsUsed
import Derived.Test.YthddfbhdiljobaaG0
import Derived.Test.YthddfbhdiljobaaG7
import Derived.Test.YthddfbhdiljobaaG8
import Derived.Test.YthddfbhdiljobaaLFnFairPartsUsed
namespace Go.Proofs.Ythddfbhdiljobaa.G
open Go.RowKit Go.Proofs.YthddfbhdiljobaaW.PrintWords C

def bare (u : S38) : S38 := ⟨u.f0, 0, 0⟩
theorem used_l0 (us : List S38) (a : Int) (r : List Int) (hl : us.length ≤ 6) : ∀ (d k i : Nat), i + d = us.length →
    laws_FnFairPartsUsed.l0 (k + d + 1) us a r ((us.take i).map bare) (i : Int) = (impl_FairParts.f k (us.map bare) a).bind fun t => ((laws_equalInts.f k t r).bind fun t320 => (some t320)) := by
  intro d
  induction d with
  | zero =>
    intro k i hi
    simp only [laws_FnFairPartsUsed.l0]
    rw [if_neg (by omega), List.take_of_length_le (by omega)]
  | succ d ih =>
    intro k i hi
    have b0 : i < us.length := by omega
    rw [show k + (d + 1) + 1 = (k + d + 1) + 1 by omega]
    generalize hf : k + d + 1 = f
    simp only [laws_FnFairPartsUsed.l0]
    have hn : wrap64 ((i : Int) + 1) = ((i + 1 : Nat) : Int) := by rw [w64 (by omega) (by omega)]; omega
    have he : (us.take i).map bare ++ [(⟨us[i].f0, 0, 0⟩ : S38)] = (us.take (i + 1)).map bare := by
      rw [List.take_succ_eq_append_getElem b0, List.map_append]
      rfl
    rw [if_pos (by omega), if_pos (by omega), if_pos (by simp; omega), rdU_nat us i b0, hn, he]
    subst hf
    exact ih k (i + 1) (by omega)
theorem bare_fair (us : List S38) (a : Int) (h : fairP us a ≠ []) : fairP (us.map bare) a = fairP us a := by
  unfold fairP at h ⊢
  by_cases hc : vu us = true ∧ 0 ≤ a ∧ a ≤ 10000
  · rw [if_pos hc, if_pos]
    · congr 1
      simp [shares, bare]
    · refine ⟨?_, hc.2⟩
      rw [vu_iff] at *
      refine ⟨by simpa using hc.1.1, ?_⟩
      intro u hu
      obtain ⟨v, hv, rfl⟩ := List.mem_map.1 hu
      exact ⟨(hc.1.2 v hv).1, by simp [bare], by simp [bare]⟩
  · rw [if_neg hc] at h
    exact absurd rfl h
theorem pureFnFairPartsUsed : laws_FnFairPartsUsed.Pure := by
  intro l hm _ hw
  refine ⟨1000, ?_⟩
  unfold laws_FnFairPartsUsed.f
  by_cases hz : (l.length : Int) > 1048576
  · rw [if_pos hz]
  rw [if_neg hz]
  obtain ⟨us, a, hd, hl, ha⟩ := drawFair l 1000 (by omega) hw
  have hlen : (fairP us a).length ≤ 6 := by
    unfold fairP
    split
    · rw [fair_length, shares_length]; omega
    · simp
  simp only [hd, Option.bind_some]
  rw [implFair us a 1000 (by omega) (by omega), Option.bind_some, specFair us a 1000 (by omega) (by omega), Option.bind_some, eqI_refl _ 1000 (by omega) (by omega), Option.bind_some, if_pos rfl]
  rw [show (1000 : Nat) = 999 + 1 from rfl]
  simp only [laws_FnFairPartsUsed.j0]
  by_cases hn : ((fairP us a).length : Int) = 0
  · rw [if_pos (by simpa using hn), specFair us a 999 (by omega) (by omega), Option.bind_some, eqI_refl _ 999 (by omega) (by omega), Option.bind_some]
  · rw [if_neg (by simpa using hn)]
    obtain ⟨k, hk⟩ : ∃ k, 999 = k + us.length + 1 := ⟨998 - us.length, by omega⟩
    have e := used_l0 us a (fairP us a) hl us.length k 0 (by omega)
    simp only [List.take_zero, List.map_nil, Int.ofNat_zero] at e
    rw [hk, e, implFair _ a k (by simp; omega) (by simp; omega), Option.bind_some, bare_fair us a (fun h => hn (by rw [h]; rfl)), eqI_refl _ k (by omega) (by omega), Option.bind_some]
end Go.Proofs.Ythddfbhdiljobaa.G
