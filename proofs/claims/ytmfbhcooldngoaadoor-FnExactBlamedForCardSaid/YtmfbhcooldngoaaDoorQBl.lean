/-
 BlamedFor: laws on it, in plain lists.
-/
import Derived.Test.YtmfbhcooldngoaaDoorQOutL
import Derived.Test.YtmfbhcooldngoaaDoorHBl
import Derived.Test.YtmfbhcooldngoaaDoorG0
import Derived.Test.YtmfbhcooldngoaaDoorG1
import Derived.Test.YtmfbhcooldngoaaDoorG4
namespace Go.Proofs.YtmfbhcooldngoaaDoor.G
open Go.RowKit Go.Proofs.YtmfbhcooldngoaaDoorW.PrintWords Go.Proofs.YtmfbhcooldngoaaDoorW.PrintLast Go.Proofs.YtmfbhcooldngoaaDoorW.PrintMore C
set_option linter.unusedVariables false
set_option linter.unusedSimpArgs false

section
variable {l0 : List S40} {l1 : List Int}
theorem mem_blm (hg : gok l0 = true) {i j : Nat} (hi : i < l0.length) : j ∈ elems (blm l0 i) ↔ j = i ∨ C.Reach (nds l0) i j := by
 have h8 := gok8 hg
 have hb := bel_bits hg hi
 rw [mem_elems (Nat.lt_trans (pow8 h8 (blm_lt hg hi)) (by decide))]
 unfold blm
 rw [Nat.testBit_or, Nat.testBit_two_pow, Bool.or_eq_true, decide_eq_true_eq, hb.iff]
 constructor
 ·rintro (h | h)
  ·exact .inr h
  ·exact .inl h.symm
 ·rintro (h | h)
  ·exact .inr h.symm
  ·exact .inl h
theorem blame_least {i x : Nat} (hx : x ∈ elems (blm l0 i)) (h1 : (outL l0 l1 8).getD x 0 = 1) (h : ∀ j, j ∈ elems (blm l0 i) → j < x → (outL l0 l1 8).getD j 0 ≠ 1) : blame l0 l1 i = (x : Int) := by
 obtain ⟨s, t, e⟩ := List.append_of_mem hx
 have hs := elems_sorted (blm l0 i)
 rw [e] at hs
 have hlt := (List.pairwise_append.1 hs).2.2
 exact blame_some (p := s) ⟨t, by rw [e]; simp⟩ h1 (fun j hj => h j (by rw [e]; simp [hj]) (hlt j hj x (by simp)))
theorem blame_cases (l0 : List S40) (l1 : List Int) (i : Nat) : (blame l0 l1 i = -1 ∧ ∀ j, j ∈ elems (blm l0 i) → (outL l0 l1 8).getD j 0 ≠ 1) ∨ ∃ x, x ∈ elems (blm l0 i) ∧ (outL l0 l1 8).getD x 0 = 1 ∧ blame l0 l1 i = (x : Int) := by
 by_cases c : ∃ x, x ∈ elems (blm l0 i) ∧ (outL l0 l1 8).getD x 0 = 1
 ·unfold blame
  cases hf : (elems (blm l0 i)).find? (fun j => decide ((outL l0 l1 8).getD j 0 = 1)) with
  | none =>
   obtain ⟨x, hx, h1⟩ := c
   exact absurd (decide_eq_true h1) (List.find?_eq_none.1 hf x hx)
  | some x =>
   have h1 := List.find?_some hf
   exact .inr ⟨x, List.mem_of_find?_eq_some hf, of_decide_eq_true h1, rfl⟩
 ·have h : ∀ j, j ∈ elems (blm l0 i) → (outL l0 l1 8).getD j 0 ≠ 1 := fun j hj h1 => c ⟨j, hj, h1⟩
  exact .inl ⟨blame_none h, h⟩
/-- Who is not done has one to blame. -/
theorem out_blame (hs : sok l0 l1 = true) : ∀ i, i < l0.length → (outL l0 l1 8).getD i 0 ≠ 0 → ∃ x, (x = i ∨ C.Reach (nds l0) i x) ∧ (outL l0 l1 8).getD x 0 = 1 := by
 have hg := (sok_partsO hs).1
 refine (gok_full hg).ind (fun i hi ih => ?_)
 intro h
 rcases outL_val hs (by decide : (1 : Int) ≤ 8) hi with ⟨a, _⟩ | ⟨a, _⟩ | ⟨a, j, b, c⟩ | ⟨a, _⟩
 ·exact absurd a h
 ·exact ⟨i, .inl rfl, a⟩
 ·obtain ⟨x, hx, h1⟩ := ih j b c
  rcases hx with rfl | hx
  ·exact ⟨x, .inr (.base b), h1⟩
  ·exact ⟨x, .inr (.step b hx), h1⟩
 ·have hlen := outL_len (l1 := l1) (kI := 8) hg
  have := cntK_pos (l := outL l0 l1 8) (c := 3) (k := i) (by omega) a
  have := outL_all hs
  omega
/-- Who is done has nobody to blame. -/
theorem out_none (hs : sok l0 l1 = true) {i x : Nat} (hi : i < l0.length) (h0 : (outL l0 l1 8).getD i 0 = 0) (hx : x = i ∨ C.Reach (nds l0) i x) : (outL l0 l1 8).getD x 0 ≠ 1 := by
 have hg := (sok_partsO hs).1
 intro h1
 have hxn : x < l0.length := by
  rcases hx with rfl | hx
  ·exact hi
  ·exact (gok_full hg).reach_lt hi hx
 refine (outL_hit hs (by decide) (outL_all hs) i hi).1 h0 ?_
 have hm : (x : Int) ∈ l1 := by
  rcases outL_val hs (by decide : (1 : Int) ≤ 8) hxn with ⟨a, _⟩ | ⟨_, _, c⟩ | ⟨a, _⟩ | ⟨a, _⟩
  ·rw [a] at h1; cases h1
  ·exact c
  ·rw [a] at h1; cases h1
  ·rw [a] at h1; cases h1
 rcases hx with rfl | hx
 ·exact .inl hm
 ·exact .inr ⟨x, hm, hx⟩
theorem blame_in (hs : sok l0 l1 = true) {x : Nat} (hx : x < l0.length) (h1 : (outL l0 l1 8).getD x 0 = 1) : (x : Int) ∈ l1 := by
 rcases outL_val hs (by decide : (1 : Int) ≤ 8) hx with ⟨a, _⟩ | ⟨_, _, c⟩ | ⟨a, _⟩ | ⟨a, _⟩
 ·rw [a] at h1; cases h1
 ·exact c
 ·rw [a] at h1; cases h1
 ·rw [a] at h1; cases h1
theorem blamed_val (l0 : List S40) (l1 : List Int) (a : Int) : ∃ v, impl_BlamedFor.f l0 l1 a = some v ∧ ((sok l0 l1 = true ∧ ∃ i : Nat, a = (i : Int) ∧ i < l0.length ∧ v = blame l0 l1 i) ∨ ((sok l0 l1 = false ∨ a < 0 ∨ (l0.length : Int) ≤ a) ∧ v = -1)) := by
 unfold impl_BlamedFor.f
 by_cases c : sok l0 l1 = true
 ·by_cases d : 0 ≤ a ∧ a ≤ (l0.length : Int) - 1
  ·exact ⟨_, by rw [if_pos ⟨c, d⟩], .inl ⟨c, a.toNat, by omega, by omega, rfl⟩⟩
  ·exact ⟨_, by rw [if_neg (fun e => d e.2)], .inr ⟨.inr (by omega), rfl⟩⟩
 ·exact ⟨_, by rw [if_neg (fun e => c e.1)], .inr ⟨.inl (Bool.eq_false_iff.2 c), rfl⟩⟩
theorem specBlamed_l0 (hs : sok l0 l1 = true) {i : Nat} (hi : i < l0.length) : ∀ (d j k : Nat), j + d = l0.length → (∀ x, x < j → x ∈ elems (blm l0 i) → (outL l0 l1 8).getD x 0 ≠ 1) → d + 40 ≤ k →
  spec_BlamedFor.l0 k l0 (i : Int) (outL l0 l1 8) (castL (elems ((bel l0).getD i 0))) (j : Int) = some (blame l0 l1 i) := by
 have hg := (sok_partsO hs).1
 have h8 := gok8 hg
 have hlen := outL_len (l1 := l1) (kI := 8) hg
 have hb := bel_bits hg hi
 intro d
 induction d with
 | zero =>
  intro j k hj hn hk
  obtain ⟨k, rfl⟩ : ∃ m, k = m + 1 := ⟨k - 1, by omega⟩
  rw [spec_BlamedFor.l0, if_neg (by omega), blame_none (fun x hx => hn x (by have := elems_lt h8 (blm_lt hg hi) hx; omega) hx)]
 | succ d ih =>
  intro j k hj hn hk
  obtain ⟨k, rfl⟩ : ∃ m, k = m + 1 := ⟨k - 1, by omega⟩
  have hin : spec_isIn.f k (castL (elems ((bel l0).getD i 0))) (j : Int) = some ((castL (elems ((bel l0).getD i 0))).contains (j : Int)) := isIn_eq (by rw [castL_length]; have := elems_len ((bel l0).getD i 0); omega) _ _ (by rw [castL_length]; have := elems_len ((bel l0).getD i 0); omega)
  rw [spec_BlamedFor.l0, if_pos (by omega), if_pos (by omega), if_pos (by omega), rd_nat, nx (m := 8) (by omega) (by omega), hin]
  simp only [Option.bind_some]
  have hmem : (castL (elems ((bel l0).getD i 0))).contains (j : Int) = true ↔ C.Reach (nds l0) i j := by
   rw [List.contains_iff_mem, ← hb.iff, ← mem_elems hb.lt]
   unfold castL
   rw [List.mem_map]
   exact ⟨fun ⟨a, ha, e⟩ => (show a = j by omega) ▸ ha, fun h => ⟨j, h, rfl⟩⟩
  have hnext : ¬ (j ∈ elems (blm l0 i) ∧ (outL l0 l1 8).getD j 0 = 1) → spec_BlamedFor.l0 k l0 (i : Int) (outL l0 l1 8) (castL (elems ((bel l0).getD i 0))) ((j + 1 : Nat) : Int) = some (blame l0 l1 i) := fun h =>
   ih (j + 1) k (by omega) (fun x hx hxm h1 => by
    rcases Nat.lt_or_ge x j with hlt | hge
    ·exact hn x hlt hxm h1
    ·obtain rfl : x = j := by omega
     exact h ⟨hxm, h1⟩) (by omega)
  by_cases c : (outL l0 l1 8).getD j 0 = 1
  ·rw [if_pos c]
   by_cases e : j = i
   ·subst e
    rw [if_pos rfl, blame_least ((mem_blm hg hi).2 (.inl rfl)) c (fun x hx hlt => hn x hlt hx)]
   ·rw [if_neg (by omega)]
    by_cases q : (castL (elems ((bel l0).getD i 0))).contains (j : Int) = true
    ·rw [if_pos q, blame_least ((mem_blm hg hi).2 (.inr (hmem.1 q))) c (fun x hx hlt => hn x hlt hx)]
    ·rw [if_neg q]
     exact hnext (fun h => by
      rcases (mem_blm hg hi).1 h.1 with h' | h'
      ·exact e h'
      ·exact q (hmem.2 h'))
  ·rw [if_neg c]
   exact hnext (fun h => c h.2)
theorem specBlamed_eq {B : Nat} (hB : B ≤ 4611686018427387904) (hsm : Small B l0) (hl : l1.length ≤ B) (a : Int) (k : Nat) (hk : 2 * B + 700 < k) : spec_BlamedFor.f k l0 l1 a = impl_BlamedFor.f l0 l1 a := by
 unfold spec_BlamedFor.f impl_BlamedFor.f
 rw [validFails_eq hB hsm hl k (by omega), inRange_eq]
 simp only [Option.bind_some]
 obtain ⟨k, rfl⟩ : ∃ m, k = m + 1 := ⟨k - 1, by omega⟩
 by_cases c : sok l0 l1 = true
 ·have hg := (sok_partsO c).1
  have h8 := gok8 hg
  have hw1 : wrap64 ((l0.length : Int) - 1) = (l0.length : Int) - 1 := w64 (by omega) (by omega)
  rw [if_pos c, spec_BlamedFor.j0, hw1]
  by_cases d : 0 ≤ a ∧ a ≤ (l0.length : Int) - 1
  ·rw [decide_eq_true d, if_neg (by decide), if_pos ⟨c, d⟩, outcome_eq c (by decide) k (by omega)]
   obtain ⟨i, rfl⟩ := Int.eq_ofNat_of_zero_le d.1
   have hi : i < l0.length := by omega
   simp only [Option.bind_some]
   rw [allNeeds_eq hg hi k (by omega)]
   simp only [Option.bind_some]
   rw [Int.toNat_natCast]
   exact specBlamed_l0 c hi l0.length 0 k (by omega) (fun x hx => by omega) (by omega)
  ·rw [decide_eq_false d, if_pos (by decide), if_neg (fun e => d e.2)]
 ·rw [if_neg c, spec_BlamedFor.j0, if_pos rfl, if_neg (fun e => c e.1)]
end
end Go.Proofs.YtmfbhcooldngoaaDoor.G
