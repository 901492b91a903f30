/- FnServeAll: for every code the law returns true: the program's ServeAll is the reference's, each user is served as often as tasks wait, and who is served first is NextUser. Nothing is assumed. -/
import Derived.Test.YtacenlcdlopjbaaQAll
import Derived.Test.YtacenlcdlopjbaaQEqualInts
import Derived.Test.YtacenlcdlopjbaaLFnServeAll
import Derived.Test.YtacenlcdlopjbaaG0
import Derived.Test.YtacenlcdlopjbaaLFnServeAll
namespace Go.Proofs.Ytacenlcdlopjbaa.G
open Go.RowKit Go.Proofs.YtacenlcdlopjbaaW.PrintWords C

theorem count_take {out : List Int} {j : Nat} (h : j < out.length) (x : Int) : (out.take (j + 1)).count x = (out.take j).count x + if rd out (j : Int) = x then 1 else 0 := by
  rw [List.take_succ_eq_append_getElem h, List.count_append]
  have e : rd out (j : Int) = out[j] := by
    unfold rd
    rw [List.getD_eq_getElem?_getD, Int.toNat_natCast, List.getElem?_eq_getElem h]
    rfl
  rw [e]
  by_cases hx : out[j] = x
  · rw [if_pos hx, hx]
    simp
  · rw [if_neg hx, List.count_cons_of_ne hx]
    simp
theorem fnAll_l1 (l : List S31) (h5 : l.length ≤ 5) (out : List Int) (ho : out.length ≤ 30) (hcnt : ∀ i, i < l.length → ((out.count (i : Int) : Nat) : Int) = wK l i) (K : Nat) (i : Nat) (hi : i < l.length) (hnext : ∀ k, K ≤ k → laws_FnServeAll.l0 k l out ((i + 1 : Nat) : Int) = some true) :
    ∀ (d k j : Nat), j + d = out.length → d + K < k → laws_FnServeAll.l1 k l out (i : Int) (((out.take j).count (i : Int) : Nat) : Int) (j : Int) = some true := by
  intro d
  induction d with
  | zero =>
    intro k j hj hk
    obtain ⟨k, rfl⟩ : ∃ m, k = m + 1 := ⟨k - 1, by omega⟩
    simp only [laws_FnServeAll.l1]
    have hnx : wrap64 ((i : Int) + 1) = ((i + 1 : Nat) : Int) := by rw [w64 (by omega) (by omega)]; omega
    rw [if_neg (by omega), if_pos (by omega), if_pos (by omega), List.take_of_length_le (by omega), hcnt i hi]
    unfold wK
    rw [if_pos rfl, hnx]
    exact hnext k (by omega)
  | succ d ih =>
    intro k j hj hk
    obtain ⟨k, rfl⟩ : ∃ m, k = m + 1 := ⟨k - 1, by omega⟩
    have hrec := ih k (j + 1) (by omega) (by omega)
    rw [count_take (by omega)] at hrec
    simp only [laws_FnServeAll.l1]
    have hnx : wrap64 ((j : Int) + 1) = ((j + 1 : Nat) : Int) := by rw [w64 (by omega) (by omega)]; omega
    have hc := List.count_le_length (a := (i : Int)) (l := out.take j)
    rw [List.length_take] at hc
    rw [if_pos (by omega), if_pos (by omega), hnx]
    by_cases e : rd out (j : Int) = (i : Int)
    · rw [if_pos e] at hrec ⊢
      rw [w64 (by omega) (by omega)]
      exact hrec
    · rw [if_neg e] at hrec ⊢
      exact hrec
theorem fnAll_l0 (l : List S31) (hv : vu l = true) (out : List Int) (ho : out.length ≤ 30) (h0 : 0 < out.length) (hcnt : ∀ i, i < l.length → ((out.count (i : Int) : Nat) : Int) = wK l i) (hfirst : rd out 0 = nextI l) :
    ∀ (d i : Nat), i + d = l.length → ∀ k, 40 * (d + 1) ≤ k → laws_FnServeAll.l0 k l out (i : Int) = some true := by
  have h5 := (vu_ok hv).2
  intro d
  induction d with
  | zero =>
    intro i hi k hk
    obtain ⟨k, rfl⟩ : ∃ m, k = m + 1 := ⟨k - 1, by omega⟩
    simp only [laws_FnServeAll.l0]
    rw [if_neg (by omega), if_pos (by omega), implNext, Option.bind_some, if_pos hv, hfirst]
    simp
  | succ d ih =>
    intro i hi k hk
    obtain ⟨k, rfl⟩ : ∃ m, k = m + 1 := ⟨k - 1, by omega⟩
    simp only [laws_FnServeAll.l0]
    rw [if_pos (by omega)]
    have h := fnAll_l1 l h5 out ho hcnt (40 * (d + 1)) i (by omega) (ih (i + 1) (by omega)) out.length k 0 (by omega) (by omega)
    simpa using h
theorem pureFnServeAll : laws_FnServeAll.Pure := by
  intro l hm _ hw
  refine ⟨400, ?_⟩
  unfold laws_FnServeAll.f
  by_cases hz : (l.length : Int) > 1048576
  · rw [if_pos hz]
  rw [if_neg hz]
  obtain ⟨us, t, hu, h6⟩ := drawServeAll l hw 400 (by omega)
  have hle := allR_le us t
  rw [hu, Option.bind_some]
  dsimp only
  rw [implAll, Option.bind_some, specAll us t (by omega) 400 (by omega), Option.bind_some, eqI_refl _ 400 (by omega) (by omega), Option.bind_some, if_pos rfl, show (400 : Nat) = 399 + 1 from rfl]
  simp only [laws_FnServeAll.j0]
  by_cases h0 : (allR us t).length = 0
  · rw [specAll us t (by omega) 399 (by omega), Option.bind_some, eqI_refl _ 399 (by omega) (by omega), Option.bind_some, h0]
    simp
  · rw [if_neg (by simp; intro e; rw [e] at h0; exact h0 rfl)]
    have hc : vu us = true ∧ 1 ≤ t ∧ t ≤ 20 := by
      apply Decidable.byContradiction
      intro hc
      apply h0
      unfold allR
      rw [if_neg hc]
      rfl
    obtain ⟨hok, h5⟩ := vu_ok hc.1
    have e1 : allR us t = allI (sumW us) us t := by unfold allR; rw [if_pos hc]
    refine fnAll_l0 us hc.1 _ hle (by omega) (fun i hi => by rw [e1]; exact allI_count hc.2 _ _ hok (Nat.le_refl _) i hi) ?_ us.length 0 (by omega) 399 (by omega)
    rw [e1]
    cases hn : nextN us with
    | none =>
      exfalso
      apply h0
      rw [e1, allI_none hn]
      rfl
    | some a =>
      obtain ⟨ha, hwa⟩ := nextN_lt hok hn
      have hsw := sumW_serv hok ha hwa t
      rw [← hsw, allI_some hn, nextI_some hn]
      rfl
end Go.Proofs.Ytacenlcdlopjbaa.G
