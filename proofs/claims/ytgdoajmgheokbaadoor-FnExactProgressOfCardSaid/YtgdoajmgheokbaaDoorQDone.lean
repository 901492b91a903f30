/-
 Closed sets of tasks, in plain lists.
-/
import Derived.Test.YtgdoajmgheokbaaDoorHDone
import Derived.Test.YtgdoajmgheokbaaDoorG0
namespace Go.Proofs.YtgdoajmgheokbaaDoor.G
open Go.RowKit Go.Proofs.YtgdoajmgheokbaaDoorW.PrintWords Go.Proofs.YtgdoajmgheokbaaDoorW.PrintLast Go.Proofs.YtgdoajmgheokbaaDoorW.PrintMore C
set_option linter.unusedVariables false
set_option linter.unusedSimpArgs false

theorem ascD {n : Nat} : ∀ (L : List Nat) (a : Int), L.Pairwise (· < ·) → (∀ i, i ∈ L → i < n ∧ a < (i : Int)) → ascB n a (castL L) = true
 | [], _, _, _ => rfl
 | x :: r, a, hp, h => by
  obtain ⟨h1, h2⟩ := List.pairwise_cons.1 hp
  have hx := h x (by simp)
  show ascB n a ((x : Int) :: castL r) = true
  simp only [ascB, Bool.and_eq_true, decide_eq_true_eq]
  exact ⟨by omega, ascD r _ h2 (fun i hi => ⟨(h i (by simp [hi])).1, by have := h1 i hi; omega⟩)⟩
theorem mem_castL {L : List Nat} {i : Nat} : (i : Int) ∈ castL L ↔ i ∈ L := by
 unfold castL
 rw [List.mem_map]
 exact ⟨fun ⟨a, ha, e⟩ => (show a = i by omega) ▸ ha, fun h => ⟨i, h, rfl⟩⟩
/-- A set is closed exactly if the needs of each of its tasks lie in it. -/
theorem clo_iff {l0 : List S74} {l1 : List Int} (hg : gok l0 = true) (ha : ascB l0.length (-1) l1 = true) : clo (ndm l0) (maskGo 0 l1) = true ↔ ∀ i : Nat, (i : Int) ∈ l1 → ∀ j, j ∈ nds l0 i → (j : Int) ∈ l1 := by
 have h8 := gok8 hg
 have hm := ascB_mem ha
 have hb : Bits (maskGo 0 l1) (fun i => (i : Int) ∈ l1) := (maskGo_bits h8 l1 0 _ Bits.zero (fun x hx => ⟨by have := hm x hx; omega, (hm x hx).2⟩)).congr (fun i => by simp)
 unfold clo
 rw [List.all_eq_true]
 have key : ∀ i : Nat, (i : Int) ∈ l1 → ((andNot ((ndm l0).getD i 0) (maskGo 0 l1) == 0) = true ↔ ∀ j, j ∈ nds l0 i → (j : Int) ∈ l1) := fun i hi => by
  have hin := hm _ hi
  rw [beq_iff_eq, (Bits.andNot (ndm_bits (gok_fine hg) (show i < l0.length by omega)) hb).eq_zero]
  exact ⟨fun h j hj => Classical.byContradiction (fun hn => h j ⟨hj, hn⟩), fun h j hj => hj.2 (h j hj.1)⟩
 constructor
 ·intro h i hi
  exact (key i hi).1 (h i ((mem_elems hb.lt).2 ((hb.iff i).2 hi)))
 ·intro h i hi
  have hi' := (hb.iff i).1 ((mem_elems hb.lt).1 hi)
  exact (key i hi').2 (h i hi')
theorem dok_mk {l0 : List S74} {L : List Nat} (hg : gok l0 = true) (hs : L.Pairwise (· < ·)) (hlt : ∀ i, i ∈ L → i < l0.length) (hcl : ∀ i, i ∈ L → ∀ j, j ∈ nds l0 i → j ∈ L) : dok l0 (castL L) = true := by
 have ha : ascB l0.length (-1) (castL L) = true := ascD L _ hs (fun i hi => ⟨hlt i hi, by omega⟩)
 unfold dok sok
 rw [hg, ha, (clo_iff hg ha).2 (fun i hi j hj => mem_castL.2 (hcl i (mem_castL.1 hi) j hj))]
 rfl
/-- The numbers below n that p picks. -/
def upto (p : Nat → Bool) (n : Nat) : List Nat := (List.range n).filter p
theorem upto_succ (p : Nat → Bool) (n : Nat) : upto p (n + 1) = if p n = true then upto p n ++ [n] else upto p n := by
 unfold upto
 rw [List.range_succ, List.filter_append]
 by_cases h : p n = true
 ·rw [if_pos h]
  simp [h]
 ·rw [if_neg h]
  simp [h]
theorem upto_len (p : Nat → Bool) (n : Nat) : (upto p n).length ≤ n := by
 have := List.length_filter_le p (List.range n)
 rw [List.length_range] at this
 exact this
theorem mem_upto {p : Nat → Bool} {n i : Nat} : i ∈ upto p n ↔ i < n ∧ p i = true := by
 unfold upto
 rw [List.mem_filter, List.mem_range]
theorem upto_sorted (p : Nat → Bool) (n : Nat) : (upto p n).Pairwise (· < ·) := List.Pairwise.filter _ List.pairwise_lt_range
end Go.Proofs.YtgdoajmgheokbaaDoor.G
