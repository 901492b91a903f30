/- FnServeUser: for every code the law returns true: the program's ServeUser is the reference's; who is served has used more and waits less, all others are as they were, and who was served is NextUser. Nothing is assumed. -/
import Derived.Test.YtflponipbdgkeaaQDrawN
import Derived.Test.YtflponipbdgkeaaLFnServeUser
import Derived.Test.YtflponipbdgkeaaG0
import Derived.Test.YtflponipbdgkeaaLFnServeUser
namespace Go.Proofs.Ytflponipbdgkeaa.G
open Go.RowKit Go.Proofs.YtflponipbdgkeaaW.PrintWords C

theorem serv_vu {us : List S30} (h : vu us = true) {t : Int} (ht : 1 ≤ t ∧ t ≤ 20) {a : Nat} (hn : nextN us = some a) : vu (servU us a t) = true := by
  obtain ⟨hok, h5⟩ := vu_ok h
  obtain ⟨ha, hwa⟩ := nextN_lt hok hn
  rw [vu_iff] at h ⊢
  exact ⟨by rw [servU_length]; exact h.1, hok.serv ht ha hwa⟩
theorem fnServe_l0 (l : List S30) (hv : vu l = true) (t : Int) (ht : 1 ≤ t ∧ t ≤ 20) (a : Nat) (hn : nextN l = some a) : ∀ (d k i : Nat), i + d = l.length → d + 7 < k → laws_FnServeUser.l0 k l t (servU l a t) (a : Int) (i : Int) = some true := by
  obtain ⟨hok, h5⟩ := vu_ok hv
  obtain ⟨ha, hwa⟩ := nextN_lt hok hn
  intro d
  induction d with
  | zero =>
    intro k i hi hk
    obtain ⟨k, rfl⟩ : ∃ m, k = m + 1 := ⟨k - 1, by omega⟩
    simp only [laws_FnServeUser.l0]
    rw [if_neg (by omega), implNext, Option.bind_some, if_pos hv, nextI_some hn, if_pos rfl]
    rw [implVU _ k (by rw [servU_length]; omega) (by rw [servU_length]; omega), serv_vu hv ht hn, Option.bind_some]
  | succ d ih =>
    intro k i hi hk
    obtain ⟨k, rfl⟩ : ∃ m, k = m + 1 := ⟨k - 1, by omega⟩
    simp only [laws_FnServeUser.l0]
    have hnx : wrap64 ((i : Int) + 1) = ((i + 1 : Nat) : Int) := by rw [w64 (by omega) (by omega)]; omega
    have hlen := servU_length l a t
    have hih := ih k (i + 1) (by omega) (by omega)
    rw [if_pos (by omega), if_pos (by omega), hnx, hih]
    have hu := hok.at_ ha
    unfold okU at hu
    unfold wK at hwa
    by_cases e : i = a
    · subst e
      rw [if_pos rfl, servU_at ha, if_neg (by omega), if_pos (by omega)]
      have e1 : wrap64 ((rd_T30 l i).f1 + t) = (rd_T30 l i).f1 + t := w64 (by omega) (by omega)
      have e2 : wrap64 ((rd_T30 l i).f2 - 1) = (rd_T30 l i).f2 - 1 := w64 (by omega) (by omega)
      simp only [e1, e2, mn_eq]
      rw [if_neg (by simp)]
    · rw [if_neg (by omega), servU_ne e, if_neg (by omega), if_pos (by omega), if_neg (by simp)]
theorem pureFnServeUser : laws_FnServeUser.Pure := by
  intro l hm _ hw
  refine ⟨100, ?_⟩
  unfold laws_FnServeUser.f
  by_cases hz : (l.length : Int) > 1048576
  · rw [if_pos hz]
  rw [if_neg hz]
  obtain ⟨us, t, hu, h6⟩ := drawServe l hw 100 (by omega)
  have hl1 : (serveR us t).1.length ≤ 6 := by
    unfold serveR
    split
    · split
      · simp
      · rw [servU_length]; exact h6
    · simp
  rw [hu, Option.bind_some]
  dsimp only
  rw [implServe, Option.bind_some, specServe us t (by omega) 100 (by omega), Option.bind_some, eqUsers_refl _ (by omega) 100 (by omega), Option.bind_some, if_pos rfl, if_pos rfl, if_neg (by simp), show (100 : Nat) = 99 + 1 from rfl]
  simp only [laws_FnServeUser.j0]
  rw [eqUsers_refl _ (by omega) 99 (by omega)]
  by_cases hv : vu us = true ∧ 1 ≤ t ∧ t ≤ 20
  · unfold serveR
    rw [if_pos hv]
    cases hn : nextN us with
    | none => simp
    | some a =>
      simp only [Bool.not_true, Bool.false_eq_true, if_false]
      exact fnServe_l0 us hv.1 t hv.2 a hn us.length 99 0 (by omega) (by omega)
  · unfold serveR
    rw [if_neg hv]
    simp
end Go.Proofs.Ytflponipbdgkeaa.G
