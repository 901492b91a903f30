/- FnFairParts: for every code the law returns true: the program's FairParts is the reference's, the parts add up to the amount, and each one is the share rounded down or 1 more. Nothing is assumed. -/
import Derived.Test.YthddfbhdiljobaaQFair
import Derived.Test.YthddfbhdiljobaaLFnFairParts
import Derived.Test.YthddfbhdiljobaaG0
import Derived.Test.YthddfbhdiljobaaG10
import Derived.Test.YthddfbhdiljobaaLFnFairParts
namespace Go.Proofs.Ythddfbhdiljobaa.G
open Go.RowKit Go.Proofs.YthddfbhdiljobaaW.PrintWords C

theorem lawSum_l0 (l : List Int) (hl : l.length ≤ 1000) (hb : ∀ x, x ∈ l → -1000000 ≤ x ∧ x ≤ 1000000) : ∀ (d k i : Nat) (acc : Int), i + d = l.length → d < k → -1000000 * (i : Int) ≤ acc → acc ≤ 1000000 * (i : Int) →
    laws_sum.l0 k l acc (i : Int) = some (acc + (l.drop i).sum) := by
  intro d
  induction d with
  | zero =>
    intro k i acc hi hk h0 h1
    obtain ⟨k, rfl⟩ : ∃ m, k = m + 1 := ⟨k - 1, by omega⟩
    simp only [laws_sum.l0]
    rw [if_neg (by omega), List.drop_of_length_le (by omega)]
    simp
  | succ d ih =>
    intro k i acc hi hk h0 h1
    obtain ⟨k, rfl⟩ : ∃ m, k = m + 1 := ⟨k - 1, by omega⟩
    have hx := hb l[i] (List.getElem_mem _)
    have hv : rd l (i : Int) = l[i] := by rw [rd_getD, List.getD_eq_getElem?_getD, List.getElem?_eq_getElem (by omega)]; rfl
    simp only [laws_sum.l0]
    have hn : wrap64 ((i : Int) + 1) = ((i + 1 : Nat) : Int) := by rw [w64 (by omega) (by omega)]; omega
    rw [if_pos (by omega), if_pos (by omega), hv, hn, w64 (x := acc + l[i]) (by omega) (by omega), ih k (i + 1) _ (by omega) (by omega) (by omega) (by omega), List.drop_eq_getElem_cons (show i < l.length by omega), List.sum_cons, Int.add_assoc]
theorem lawSum (l : List Int) (k : Nat) (hl : l.length ≤ 1000) (hb : ∀ x, x ∈ l → -1000000 ≤ x ∧ x ≤ 1000000) (hk : l.length < k) : laws_sum.f k l = some l.sum := by
  unfold laws_sum.f
  have h := lawSum_l0 l hl hb l.length k 0 0 (by omega) hk (by omega) (by omega)
  simpa using h
theorem lawFair_l0 (us : List S38) (a : Int) (t : List Int) (hu : ∀ u, u ∈ us → okU u) (hl : us.length ≤ 5) : ∀ (d k i : Nat) (acc : Int), i + d = us.length → 0 ≤ acc → acc + 10 * d ≤ 1000 →
    laws_FnFairParts.l0 (k + d + 1) us a t acc (i : Int) = laws_FnFairParts.l1 k us a t (acc + (shares (us.drop i)).sum) 0 := by
  intro d
  induction d with
  | zero =>
    intro k i acc hi h0 h1
    simp only [laws_FnFairParts.l0]
    rw [if_neg (by omega), List.drop_of_length_le (by omega)]
    simp [shares]
  | succ d ih =>
    intro k i acc hi h0 h1
    have b0 : i < us.length := by omega
    have ho := (hu us[i] (List.getElem_mem _)).1
    rw [show k + (d + 1) + 1 = (k + d + 1) + 1 by omega]
    generalize hf : k + d + 1 = f
    simp only [laws_FnFairParts.l0]
    have hn : wrap64 ((i : Int) + 1) = ((i + 1 : Nat) : Int) := by rw [w64 (by omega) (by omega)]; omega
    rw [if_pos (by omega), if_pos (by omega), rdU_nat us i b0, hn, w64 (x := acc + us[i].f0) (by omega) (by omega), drop_shares us i b0, List.sum_cons]
    subst hf
    rw [ih k (i + 1) (acc + us[i].f0) (by omega) (by omega) (by omega), Int.add_assoc]
theorem lawFair_l1 (us : List S38) (a S : Int) (t : List Int) (hu : ∀ u, u ∈ us → okU u) (hl : us.length ≤ 5) (ha : 0 ≤ a ∧ a ≤ 10000) (hS : 0 < S) (h1 : t.length = us.length) (hs : t.sum = a)
    (ht : ∀ i (h : i < us.length), a * us[i].f0 / S ≤ t.getD i 0 ∧ t.getD i 0 ≤ a * us[i].f0 / S + 1) (hb : ∀ x, x ∈ t → -1000000 ≤ x ∧ x ≤ 1000000) :
    ∀ (d k i : Nat), i + d = us.length → laws_FnFairParts.l1 (k + 10 + 2 * d + 2) us a t S (i : Int) = some true := by
  intro d
  induction d with
  | zero =>
    intro k i hi
    rw [show k + 10 + 2 * 0 + 2 = (k + 10 + 1) + 1 by omega]
    generalize hf : k + 10 = f
    simp only [laws_FnFairParts.l1, laws_FnFairParts.j3]
    rw [if_neg (by omega), if_neg (by decide), lawSum t f (by omega) hb (by omega), Option.bind_some, if_pos hs, h1]
    simp
  | succ d ih =>
    intro k i hi
    have b0 : i < us.length := by omega
    have b1 : (i : Int) < (us.length : Int) := by omega
    have b2 : (0 : Int) ≤ (i : Int) := by omega
    have b3 : ¬ S = 0 := by omega
    have b4 : (i : Int) < (t.length : Int) := by omega
    have b5 : i + 1 + d = us.length := by omega
    have hn : wrap64 ((i : Int) + 1) = ((i + 1 : Nat) : Int) := by rw [w64 (by omega) (by omega)]; omega
    rw [show k + 10 + 2 * (d + 1) + 2 = (k + 10 + 2 * d + 2 + 1) + 1 by omega]
    obtain ⟨q1, q2, q3⟩ := quot_eq ha (hu us[i] (List.getElem_mem _)).1 hS
    have q4 := ht i b0
    have q5 : wrap64 (a * us[i].f0 / S + 1) = a * us[i].f0 / S + 1 := by
      generalize a * us[i].f0 / S = q at *
      clear q1
      exact w64 (by omega) (by omega)
    generalize hf : k + 10 + 2 * d + 2 = f
    simp only [laws_FnFairParts.l1, laws_FnFairParts.j3]
    rw [if_pos b4, if_pos (by simpa using b0), if_pos b2, if_pos b1, if_neg b3, if_pos b4, rdU_nat us i b0, hn, q1, rd_getD, q5, if_neg (Int.not_lt.2 q4.1), if_neg (Int.not_lt.2 q4.2)]
    subst hf
    exact ih k (i + 1) b5
theorem pureFnFairParts : laws_FnFairParts.Pure := by
  intro l hm _ hw
  refine ⟨1000, ?_⟩
  unfold laws_FnFairParts.f
  by_cases hz : (l.length : Int) > 1048576
  · rw [if_pos hz]
  rw [if_neg hz]
  obtain ⟨us, a, hd, hl, ha⟩ := drawFair l 1000 (by omega) hw
  have hlen : (fairP us a).length ≤ 6 := by
    unfold fairP
    split
    · rw [fair_length, shares_length]; omega
    · simp
  simp only [hd, Option.bind_some]
  rw [implFair us a 1000 (by omega) (by omega), Option.bind_some, specFair us a 1000 (by omega) (by omega), Option.bind_some, eqI_refl _ 1000 (by omega) (by omega), Option.bind_some, if_pos rfl]
  rw [show (1000 : Nat) = 999 + 1 from rfl]
  simp only [laws_FnFairParts.j0]
  by_cases hn : ((fairP us a).length : Int) = 0
  · rw [if_pos (by simpa using hn), specFair us a 999 (by omega) (by omega), Option.bind_some, eqI_refl _ 999 (by omega) (by omega), Option.bind_some]
  · rw [if_neg (by simpa using hn)]
    have hc : vu us = true ∧ 0 ≤ a ∧ a ≤ 10000 := by
      apply Decidable.byContradiction
      intro hc
      apply hn
      unfold fairP
      rw [if_neg hc]
      rfl
    obtain ⟨h15, hu⟩ := (vu_iff us).1 hc.1
    have hsb := shares_bound hu
    have hfe : fairP us a = fair a (shares us) := by unfold fairP; rw [if_pos hc]
    rw [hfe]
    obtain ⟨k, hk⟩ : ∃ k, 999 = k + us.length + 1 := ⟨998 - us.length, by omega⟩
    have e := lawFair_l0 us a (fair a (shares us)) hu (by omega) us.length k 0 0 (by omega) (by omega) (by omega)
    simp only [Int.ofNat_zero, List.drop_zero, Int.zero_add] at e
    rw [hk, e]
    obtain ⟨m, hm'⟩ : ∃ m, k = m + 10 + 2 * us.length + 2 := ⟨k - 2 * us.length - 12, by omega⟩
    rw [hm']
    have hpe := parts_each hu (by omega) hc.2
    refine lawFair_l1 us a (shares us).sum (fair a (shares us)) hu (by omega) hc.2 (by omega) (by rw [fair_length, shares_length]) (fair_sum a _ (by omega) (by rw [shares_length]; omega)) ?_ ?_ us.length m 0 (by omega)
    · intro i hi
      have hp : (parts a (shares us)).getD i 0 = a * us[i].f0 / (shares us).sum := by
        unfold parts shares
        rw [List.map_map, List.getD_eq_getElem?_getD, List.getElem?_map, List.getElem?_eq_getElem hi]
        rfl
      unfold fair
      rw [incr_getD, if_pos (by rw [parts_length, shares_length]; exact hi), hp]
      generalize a * us[i].f0 / (shares us).sum = q
      split <;> omega
    · intro x hx
      unfold fair at hx
      obtain ⟨j, hj, rfl⟩ := List.mem_iff_getElem.1 hx
      have hj' : j < (parts a (shares us)).length := by rw [incr_length] at hj; exact hj
      have h := hpe (parts a (shares us))[j] (List.getElem_mem _)
      simp only [incr, List.getElem_mapIdx]
      split <;> omega
end Go.Proofs.Ythddfbhdiljobaa.G
