/-
  The generator's 'spoil': a list that is at most 1 longer.
-/
import Derived.Test.YtkmnjhlacdclhaaQGen
import Derived.Test.YtkmnjhlacdclhaaG0
import Derived.Test.YtkmnjhlacdclhaaG3
import Derived.Test.YtkmnjhlacdclhaaG5
namespace Go.Proofs.Ytkmnjhlacdclhaa.G
open Go.RowKit Go.Proofs.YtkmnjhlacdclhaaW.PrintWords

theorem copyInts_eq (l : List Int) (hl : l.length < 17592186044416) : spec_copyInts.f l = some l := by
  unfold spec_copyInts.f
  simp only [Option.bind_some]
  rw [if_pos (by simpa using hl)]
  simp
theorem spoil_ok {b : List Int} (hb : Rdr b) (k : Nat) (p : Int) (l : List Int) (a : Int) (hk : 1 ≤ k) (h0 : 0 ≤ p) (h1 : p ≤ 999990) (hl : l.length ≤ 1000000) :
    Ok (spec_reader_spoil.f k b p l a) (fun r => r.1.length ≤ l.length + 1 ∧ p ≤ r.2 ∧ r.2 ≤ p + 3 ∧ ∀ x, x ∈ r.1 → x ∈ l ∨ x ∈ [-1, a, 0, 1]) := by
  unfold spec_reader_spoil.f
  rw [copyInts_eq l (by omega), Option.bind_some]
  refine (pick_ok hb k p 20 hk h0 (by omega) (by omega)).bind ?_
  rintro ⟨c, q⟩ ⟨e, c0, c1⟩
  simp only at e c0 c1 ⊢
  by_cases h2 : c = 0
  · rw [if_pos h2, if_pos (by omega)]
    refine Ok.some ⟨by simp, by omega, by omega, fun x hx => ?_⟩
    rcases List.mem_append.1 hx with hx | hx
    · exact .inl hx
    · exact .inr (by rw [List.mem_singleton.1 hx]; simp)
  rw [if_neg h2]
  by_cases h3 : c = 1
  · rw [if_pos h3]
    by_cases h4 : (l.length : Int) > 0
    · rw [if_pos h4, if_pos (by omega)]
      exact Ok.some ⟨by rw [List.length_drop]; omega, by omega, by omega, fun x hx => .inl (List.mem_of_mem_drop hx)⟩
    · rw [if_neg h4]
      exact Ok.some ⟨Nat.le_succ _, by show p ≤ q; omega, by show q ≤ p + 3; omega, fun x hx => .inl hx⟩
  rw [if_neg h3]
  by_cases h5 : c = 2
  · rw [if_pos h5]
    by_cases h4 : (l.length : Int) > 0
    · rw [if_pos h4]
      refine (pick_ok hb k q (l.length : Int) hk (by omega) (by omega) (by omega)).bind ?_
      rintro ⟨j, q2⟩ ⟨e2, j0, j1⟩
      simp only at e2 j0 j1 ⊢
      refine (one_ok hb k q2 _ hk (by omega) (by omega) (by simp) (by simp)).bind ?_
      rintro ⟨v, q3⟩ ⟨e3, hv⟩
      simp only at e3 hv ⊢
      rw [if_pos j0, if_pos (j1 (by omega))]
      refine Ok.some ⟨by simp, by omega, by omega, fun x hx => ?_⟩
      rcases List.mem_or_eq_of_mem_set hx with hx | hx
      · exact .inl hx
      · exact .inr (by rw [hx]; exact hv)
    · rw [if_neg h4]
      exact Ok.some ⟨Nat.le_succ _, by show p ≤ q; omega, by show q ≤ p + 3; omega, fun x hx => .inl hx⟩
  · rw [if_neg h5]
    exact Ok.some ⟨Nat.le_succ _, by show p ≤ q; omega, by show q ≤ p + 3; omega, fun x hx => .inl hx⟩
end Go.Proofs.Ytkmnjhlacdclhaa.G
