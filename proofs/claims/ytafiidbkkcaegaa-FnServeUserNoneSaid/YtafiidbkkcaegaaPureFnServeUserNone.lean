/- FnServeUserNone: for every code the law returns true: the program's ServeUser is the reference's, and with a valid time somebody is served just if somebody is next. Nothing is assumed. -/
import Derived.Test.YtafiidbkkcaegaaQDrawN
import Derived.Test.YtafiidbkkcaegaaLFnServeUserNone
import Derived.Test.YtafiidbkkcaegaaG0
import Derived.Test.YtafiidbkkcaegaaLFnServeUserNone
namespace Go.Proofs.Ytafiidbkkcaegaa.G
open Go.RowKit Go.Proofs.YtafiidbkkcaegaaW.PrintWords C

theorem pureFnServeUserNone : laws_FnServeUserNone.Pure := by
  intro l hm _ hw
  refine ⟨100, ?_⟩
  unfold laws_FnServeUserNone.f
  by_cases hz : (l.length : Int) > 1048576
  · rw [if_pos hz]
  rw [if_neg hz]
  obtain ⟨us, t, hu, h6⟩ := drawServe l hw 100 (by omega)
  have hl1 : (serveR us t).1.length ≤ 6 := by
    unfold serveR
    split
    · split
      · simp
      · rw [servU_length]; exact h6
    · simp
  rw [hu, Option.bind_some]
  dsimp only
  rw [implServe, Option.bind_some, specServe us t (by omega) 100 (by omega), Option.bind_some, eqUsers_refl _ (by omega) 100 (by omega), Option.bind_some, if_pos rfl, if_pos rfl, if_neg (by simp), show (100 : Nat) = 99 + 1 from rfl]
  simp only [laws_FnServeUserNone.j0]
  rw [eqUsers_refl _ (by omega) 99 (by omega), implNext]
  by_cases ht1 : t < 1
  · rw [if_pos ht1]
    simp
  · rw [if_neg ht1]
    by_cases ht2 : t > 20
    · rw [decide_eq_true ht2]
      simp
    · rw [decide_eq_false ht2, if_neg (by decide), Option.bind_some]
      unfold serveR
      by_cases hv : vu us = true
      · rw [if_pos ⟨hv, by omega⟩, if_pos hv]
        cases hn : nextN us with
        | none => rw [nextI_none hn]; rfl
        | some a =>
          rw [nextI_some hn]
          simp
      · rw [if_neg (fun hh => hv hh.1), if_neg hv]
        rfl
end Go.Proofs.Ytafiidbkkcaegaa.G
