/- FnServeAllFair: for every code the law returns true: the program's ServeAll is the reference's, and equal users are served in turns. Nothing is assumed. -/
import Derived.Test.YtacenlcdlopjbaaQAll
import Derived.Test.YtacenlcdlopjbaaQEqualInts
import Derived.Test.YtacenlcdlopjbaaLFnServeAllFair
import Derived.Test.YtacenlcdlopjbaaG0
import Derived.Test.YtacenlcdlopjbaaLFnServeAllFair
namespace Go.Proofs.Ytacenlcdlopjbaa.G
open Go.RowKit Go.Proofs.YtacenlcdlopjbaaW.PrintWords C

/-- So many equal users. -/
def equalU (n : Nat) : List S31 := List.replicate n ⟨2, 0, 3⟩
/-- They are served in turns. -/
def turnsOk (n : Nat) (t : Int) : Bool := allI (3 * n) (equalU n) t == (List.range (3 * n)).map (fun (i : Nat) => ((i % n : Nat) : Int)) && vu (equalU n) && sumW (equalU n) == 3 * n
theorem turns_all : ∀ n, 1 ≤ n → n ≤ 5 → ∀ t : Nat, 1 ≤ t → t ≤ 20 → turnsOk n (t : Int) = true := by
  have h : ((List.range 6).all (fun n => (List.range 21).all (fun t => n == 0 || t == 0 || turnsOk n (t : Int)))) = true := by decide +kernel
  intro n h1 h2 t h3 h4
  have a := List.all_eq_true.1 h n (List.mem_range.2 (by omega))
  have b := List.all_eq_true.1 a t (List.mem_range.2 (by omega))
  simp only [Bool.or_eq_true, beq_iff_eq] at b
  rcases b with (b | b) | b
  · omega
  · omega
  · exact b
theorem turns_eq {n : Nat} (h1 : 1 ≤ n) (h2 : n ≤ 5) {t : Int} (ht : 1 ≤ t ∧ t ≤ 20) : allR (equalU n) t = (List.range (3 * n)).map (fun (i : Nat) => ((i % n : Nat) : Int)) := by
  obtain ⟨m, rfl⟩ := Int.eq_ofNat_of_zero_le (show 0 ≤ t by omega)
  have h := turns_all n h1 h2 m (by omega) (by omega)
  unfold turnsOk at h
  simp only [Bool.and_eq_true, beq_iff_eq] at h
  unfold allR
  rw [if_pos ⟨h.1.2, ht⟩, h.2]
  exact h.1.1
theorem fnFair_l1 (l : List S31) (h1 : 1 ≤ l.length) (h5 : l.length ≤ 5) (out : List Int) (ho : out = (List.range (3 * l.length)).map (fun (i : Nat) => ((i % l.length : Nat) : Int))) : ∀ (d k i : Nat), i + d = out.length → d < k → laws_FnServeAllFair.l1 k l out (i : Int) = some true := by
  have hlen : out.length = 3 * l.length := by rw [ho]; simp
  intro d
  induction d with
  | zero =>
    intro k i hi hk
    obtain ⟨k, rfl⟩ : ∃ m, k = m + 1 := ⟨k - 1, by omega⟩
    simp only [laws_FnServeAllFair.l1]
    rw [if_neg (by omega), w64 (by omega) (by omega), hlen]
    simp
  | succ d ih =>
    intro k i hi hk
    obtain ⟨k, rfl⟩ : ∃ m, k = m + 1 := ⟨k - 1, by omega⟩
    simp only [laws_FnServeAllFair.l1]
    have hnx : wrap64 ((i : Int) + 1) = ((i + 1 : Nat) : Int) := by rw [w64 (by omega) (by omega)]; omega
    have hr : rd out (i : Int) = Int.tmod (i : Int) (l.length : Int) := by
      have hil : i < out.length := by omega
      unfold rd
      rw [List.getD_eq_getElem?_getD, Int.toNat_natCast, List.getElem?_eq_getElem hil, Option.getD_some]
      simp only [ho, List.getElem_map, List.getElem_range]
      rw [Int.ofNat_tmod]
    rw [if_pos (by omega), if_pos (by omega), if_neg (by omega), if_pos hr, hnx]
    exact ih k (i + 1) (by omega) (by omega)
theorem fnFair_l0 (l : List S31) (h1 : 1 ≤ l.length) (h5 : l.length ≤ 5) (t : Int) (ht : 1 ≤ t ∧ t ≤ 20) : ∀ (d k i : Nat), i + d = l.length → d + 20 < k → laws_FnServeAllFair.l0 k l t (equalU i) (i : Int) = some true := by
  intro d
  induction d with
  | zero =>
    intro k i hi hk
    obtain ⟨k, rfl⟩ : ∃ m, k = m + 1 := ⟨k - 1, by omega⟩
    simp only [laws_FnServeAllFair.l0]
    rw [if_neg (by omega), show i = l.length by omega, implAll, Option.bind_some]
    have e := turns_eq h1 h5 ht
    exact fnFair_l1 l h1 h5 _ e _ k 0 (by rw [Nat.zero_add]) (by rw [e]; simp; omega)
  | succ d ih =>
    intro k i hi hk
    obtain ⟨k, rfl⟩ : ∃ m, k = m + 1 := ⟨k - 1, by omega⟩
    have hrec := ih k (i + 1) (by omega) (by omega)
    simp only [laws_FnServeAllFair.l0]
    have hnx : wrap64 ((i : Int) + 1) = ((i + 1 : Nat) : Int) := by rw [w64 (by omega) (by omega)]; omega
    have e : equalU i ++ [(⟨2, 0, 3⟩ : S31)] = equalU (i + 1) := by
      unfold equalU
      rw [List.replicate_succ']
    have el : (equalU i).length = i := by simp [equalU]
    rw [if_pos (by omega), if_pos (by omega), hnx, e]
    exact hrec
theorem pureFnServeAllFair : laws_FnServeAllFair.Pure := by
  intro l hm _ hw
  refine ⟨400, ?_⟩
  unfold laws_FnServeAllFair.f
  by_cases hz : (l.length : Int) > 1048576
  · rw [if_pos hz]
  rw [if_neg hz]
  obtain ⟨us, t, hu, h6⟩ := drawServeAll l hw 400 (by omega)
  have hle := allR_le us t
  rw [hu, Option.bind_some]
  dsimp only
  rw [implAll, Option.bind_some, specAll us t (by omega) 400 (by omega), Option.bind_some, eqI_refl _ 400 (by omega) (by omega), Option.bind_some, if_pos rfl, show (400 : Nat) = 399 + 1 from rfl]
  simp only [laws_FnServeAllFair.j0]
  by_cases h0 : (allR us t).length = 0
  · rw [specAll us t (by omega) 399 (by omega), Option.bind_some, eqI_refl _ 399 (by omega) (by omega), Option.bind_some, h0]
    simp
  · rw [if_neg (by simp; intro e; rw [e] at h0; exact h0 rfl)]
    have hc : vu us = true ∧ 1 ≤ t ∧ t ≤ 20 := by
      apply Decidable.byContradiction
      intro hc
      apply h0
      unfold allR
      rw [if_neg hc]
      rfl
    have h15 := ((vu_iff us).1 hc.1).1
    exact fnFair_l0 us h15.1 h15.2 t hc.2 us.length 399 0 (by omega) (by omega)
end Go.Proofs.Ytacenlcdlopjbaa.G
