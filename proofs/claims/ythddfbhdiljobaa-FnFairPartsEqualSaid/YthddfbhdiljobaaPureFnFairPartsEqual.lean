/- FnFairPartsEqual: for every code the law returns true: the program's FairParts is the reference's, and users with equal shares get parts that differ by at most 1, the greater ones first. Nothing is assumed. -/
import Derived.Test.YthddfbhdiljobaaQFair
import Derived.Test.YthddfbhdiljobaaLFnFairPartsEqual
import Derived.Test.YthddfbhdiljobaaG0
import Derived.Test.YthddfbhdiljobaaG7
import Derived.Test.YthddfbhdiljobaaLFnFairPartsEqual
namespace Go.Proofs.Ythddfbhdiljobaa.G
open Go.RowKit Go.Proofs.YthddfbhdiljobaaW.PrintWords C

def three : S38 := ⟨3, 0, 0⟩
theorem equal_l0 (us : List S38) (a : Int) (hl : us.length ≤ 6) : ∀ (d k i : Nat), i + d = us.length →
    laws_FnFairPartsEqual.l0 (k + d + 1) us a (List.replicate i three) (i : Int) = (impl_FairParts.f k (List.replicate us.length three) a).bind fun t => (laws_FnFairPartsEqual.l1 k us t 1) := by
  intro d
  induction d with
  | zero =>
    intro k i hi
    simp only [laws_FnFairPartsEqual.l0]
    rw [if_neg (by omega), show i = us.length by omega]
  | succ d ih =>
    intro k i hi
    rw [show k + (d + 1) + 1 = (k + d + 1) + 1 by omega]
    generalize hf : k + d + 1 = f
    simp only [laws_FnFairPartsEqual.l0]
    have hn : wrap64 ((i : Int) + 1) = ((i + 1 : Nat) : Int) := by rw [w64 (by omega) (by omega)]; omega
    have he : List.replicate i three ++ [(⟨3, 0, 0⟩ : S38)] = List.replicate (i + 1) three := by
      rw [List.replicate_succ']
      rfl
    rw [if_pos (by omega), if_pos (by simp; omega), hn, he]
    subst hf
    exact ih k (i + 1) (by omega)
theorem equal_l1 (us : List S38) (t : List Int) (c : Int) (_hc : 0 ≤ c ∧ c ≤ 100000) (q : Nat) (hlen : t.length ≤ 6) (h1 : t.length = us.length) (ht : ∀ i, i < t.length → t.getD i 0 = if i < q then c + 1 else c) :
    ∀ (d k i : Nat), 1 ≤ i → i + d = t.length → laws_FnFairPartsEqual.l1 (k + d + 1) us t (i : Int) = some true := by
  intro d
  induction d with
  | zero =>
    intro k i h0 hi
    simp only [laws_FnFairPartsEqual.l1]
    rw [if_neg (by omega), h1]
    simp
  | succ d ih =>
    intro k i h0 hi
    rw [show k + (d + 1) + 1 = (k + d + 1) + 1 by omega]
    generalize hf : k + d + 1 = f
    simp only [laws_FnFairPartsEqual.l1]
    have hn : wrap64 ((i : Int) + 1) = ((i + 1 : Nat) : Int) := by rw [w64 (by omega) (by omega)]; omega
    have hp : wrap64 ((i : Int) - 1) = ((i - 1 : Nat) : Int) := by rw [w64 (by omega) (by omega)]; omega
    have e0 := ht 0 (by omega)
    have e1 := ht i (by omega)
    have e2 := ht (i - 1) (by omega)
    have r0 : rd t 0 = if 0 < q then c + 1 else c := by rw [← e0]; rfl
    rw [if_pos (by omega), if_pos (by omega), hp, if_pos (by omega), if_pos (by omega), rd_getD, rd_getD, e1, e2, r0, hn]
    rw [if_neg (by split <;> split <;> omega), if_pos (by omega), w64 (by split <;> split <;> omega) (by split <;> split <;> omega), if_neg (by split <;> split <;> omega)]
    subst hf
    exact ih k (i + 1) (by omega) (by omega)
theorem sum_replicate (n : Nat) (c : Int) : (List.replicate n c).sum = c * n := by
  induction n with
  | zero => simp
  | succ n ih => rw [List.replicate_succ, List.sum_cons, ih, Int.natCast_succ, Int.mul_add, Int.mul_one]; omega
theorem pureFnFairPartsEqual : laws_FnFairPartsEqual.Pure := by
  intro l hm _ hw
  refine ⟨1000, ?_⟩
  unfold laws_FnFairPartsEqual.f
  by_cases hz : (l.length : Int) > 1048576
  · rw [if_pos hz]
  rw [if_neg hz]
  obtain ⟨us, a, hd, hl, ha⟩ := drawFair l 1000 (by omega) hw
  have hlen : (fairP us a).length ≤ 6 := by
    unfold fairP
    split
    · rw [fair_length, shares_length]; omega
    · simp
  simp only [hd, Option.bind_some]
  rw [implFair us a 1000 (by omega) (by omega), Option.bind_some, specFair us a 1000 (by omega) (by omega), Option.bind_some, eqI_refl _ 1000 (by omega) (by omega), Option.bind_some, if_pos rfl]
  rw [show (1000 : Nat) = 999 + 1 from rfl]
  simp only [laws_FnFairPartsEqual.j0]
  by_cases hn : ((fairP us a).length : Int) = 0
  · rw [if_pos (by simpa using hn), specFair us a 999 (by omega) (by omega), Option.bind_some, eqI_refl _ 999 (by omega) (by omega), Option.bind_some]
  · rw [if_neg (by simpa using hn)]
    obtain ⟨k, hk⟩ : ∃ k, 999 = k + us.length + 1 := ⟨998 - us.length, by omega⟩
    have e := equal_l0 us a hl us.length k 0 (by omega)
    simp only [List.replicate_zero, Int.ofNat_zero] at e
    rw [hk, e, implFair _ a k (by simp; omega) (by simp; omega), Option.bind_some]
    have hc : vu us = true ∧ 0 ≤ a ∧ a ≤ 10000 := by
      apply Decidable.byContradiction
      intro hc
      apply hn
      unfold fairP
      rw [if_neg hc]
      rfl
    have hul := ((vu_iff us).1 hc.1).1
    have hv3 : vu (List.replicate us.length three) = true := by
      rw [vu_iff]
      refine ⟨by simpa using hul, fun u hu => ?_⟩
      rw [(List.mem_replicate.1 hu).2]
      exact ⟨by simp [three], by simp [three], by simp [three]⟩
    have hf3 : fairP (List.replicate us.length three) a = fair a (List.replicate us.length 3) := by
      unfold fairP
      rw [if_pos ⟨hv3, hc.2⟩]
      congr 1
      unfold shares
      rw [List.map_replicate]
      rfl
    rw [hf3]
    have hfl : (fair a (List.replicate us.length 3)).length = us.length := by rw [fair_length]; simp
    obtain ⟨m, hm'⟩ : ∃ m, k = m + (us.length - 1) + 1 := ⟨k - us.length, by omega⟩
    rw [hm']
    have hd0 : 0 ≤ a * 3 / (3 * (us.length : Int)) := Int.ediv_nonneg (by omega) (by omega)
    have hd1 : a * 3 / (3 * (us.length : Int)) ≤ a * 3 := Int.ediv_le_self _ (by omega)
    refine equal_l1 us _ (a * 3 / (3 * (us.length : Int))) ⟨hd0, by omega⟩ (a - (parts a (List.replicate us.length 3)).sum).toNat (by omega) hfl ?_ (us.length - 1) m 1 (by omega) (by omega)
    intro i hi
    have hi' : i < us.length := by omega
    unfold fair
    rw [incr_getD, if_pos (by rw [parts_length]; simpa using hi')]
    have hp : (parts a (List.replicate us.length 3)).getD i 0 = a * 3 / (3 * (us.length : Int)) := by
      unfold parts
      rw [List.map_replicate, sum_replicate, List.getD_eq_getElem?_getD, List.getElem?_replicate, if_pos hi']
      rfl
    rw [hp]
end Go.Proofs.Ythddfbhdiljobaa.G
