/-
  The exact laws' helpers on int slices: comparing, marking, and asking for the marks.
-/
import Derived.Test.YtflponipbdgkeaaQOk
import Derived.Test.YtflponipbdgkeaaG0
import Derived.Test.YtflponipbdgkeaaG5
namespace Go.Proofs.Ytflponipbdgkeaa.G
open Go.RowKit Go.Proofs.YtflponipbdgkeaaW.PrintWords

theorem eqIntS_l0 (l : List Int) (hl : l.length ≤ 4611686018427387904) : ∀ (d k i : Nat), i + d = l.length → d < k → laws_eqIntS.l0 k l l (i : Int) = some true := by
  intro d
  induction d with
  | zero =>
    intro k i hi hk
    obtain ⟨k, rfl⟩ : ∃ m, k = m + 1 := ⟨k - 1, by omega⟩
    simp only [laws_eqIntS.l0]
    rw [if_neg (by omega)]
  | succ d ih =>
    intro k i hi hk
    obtain ⟨k, rfl⟩ : ∃ m, k = m + 1 := ⟨k - 1, by omega⟩
    simp only [laws_eqIntS.l0]
    have hn : wrap64 ((i : Int) + 1) = ((i + 1 : Nat) : Int) := by rw [w64 (by omega) (by omega)]; omega
    rw [if_pos (by omega), if_pos (by omega), if_pos (by omega), if_pos trivial, hn]
    exact ih k (i + 1) (by omega) (by omega)
theorem eqIntS_refl (l : List Int) (k : Nat) (hl : l.length ≤ 4611686018427387904) (hk : l.length < k) : laws_eqIntS.f k l l = some true := by
  unfold laws_eqIntS.f
  rw [if_pos rfl]
  exact eqIntS_l0 l hl l.length k 0 (by omega) hk
/-- Behind the marks the first i elements are c, c + 1, .. -/
def Marked (l : List Int) (c : Int) (i : Nat) : Prop := ∀ j, j < i → l.getD j 0 = c + j
theorem markIntS_l0 (c : Int) (hc : 0 ≤ c ∧ c ≤ 1000000000) : ∀ (d k i : Nat) (l : List Int), l.length ≤ 1000000000 → i + d = l.length → d < k → Marked l c i →
    ∃ l', laws_markIntS.l0 k l (c + i) (i : Int) = some (c + l.length, l') ∧ l'.length = l.length ∧ Marked l' c l.length := by
  intro d
  induction d with
  | zero =>
    intro k i l hl hi hk hm
    obtain ⟨k, rfl⟩ : ∃ m, k = m + 1 := ⟨k - 1, by omega⟩
    simp only [laws_markIntS.l0]
    rw [if_neg (by omega)]
    obtain rfl : i = l.length := by omega
    exact ⟨l, rfl, rfl, hm⟩
  | succ d ih =>
    intro k i l hl hi hk hm
    obtain ⟨k, rfl⟩ : ∃ m, k = m + 1 := ⟨k - 1, by omega⟩
    simp only [laws_markIntS.l0]
    have hn : wrap64 ((i : Int) + 1) = ((i + 1 : Nat) : Int) := by rw [w64 (by omega) (by omega)]; omega
    have hn2 : wrap64 (c + (i : Int) + 1) = c + ((i + 1 : Nat) : Int) := by rw [w64 (by omega) (by omega)]; omega
    rw [if_pos (by omega), if_pos (by omega), hn, hn2, Int.toNat_natCast]
    obtain ⟨l', h1, h2, h3⟩ := ih k (i + 1) (l.set i (c + i)) (by simpa using hl) (by simp; omega) (by omega) (by
      intro j hj
      rw [List.getD_eq_getElem?_getD, List.getElem?_set]
      by_cases e : i = j
      · subst e
        rw [if_pos rfl, if_pos (by omega)]
        rfl
      · rw [if_neg e, ← List.getD_eq_getElem?_getD]
        exact hm j (by omega))
    rw [List.length_set] at h1 h2 h3
    exact ⟨l', h1, h2, h3⟩
theorem markIntS_eq (l : List Int) (c : Int) (k : Nat) (hc : 0 ≤ c ∧ c ≤ 1000000000) (hl : l.length ≤ 1000000000) (hk : l.length < k) :
    ∃ l', laws_markIntS.f k l c = some (c + l.length, l') ∧ l'.length = l.length ∧ Marked l' c l.length := by
  unfold laws_markIntS.f
  have h := markIntS_l0 c hc l.length k 0 l hl (by omega) hk (fun j hj => absurd hj (by omega))
  simpa using h
theorem heldIntS_l0 (c : Int) (l : List Int) (hc : 0 ≤ c ∧ c ≤ 1000000000) (hl : l.length ≤ 1000000000) (hm : Marked l c l.length) : ∀ (d k i : Nat), i + d = l.length → d < k →
    laws_heldIntS.l0 k l (c + i) (i : Int) = some (c + l.length) := by
  intro d
  induction d with
  | zero =>
    intro k i hi hk
    obtain ⟨k, rfl⟩ : ∃ m, k = m + 1 := ⟨k - 1, by omega⟩
    simp only [laws_heldIntS.l0]
    rw [if_neg (by omega)]
    obtain rfl : i = l.length := by omega
    rfl
  | succ d ih =>
    intro k i hi hk
    obtain ⟨k, rfl⟩ : ∃ m, k = m + 1 := ⟨k - 1, by omega⟩
    simp only [laws_heldIntS.l0]
    have hn : wrap64 ((i : Int) + 1) = ((i + 1 : Nat) : Int) := by rw [w64 (by omega) (by omega)]; omega
    have hn2 : wrap64 (c + (i : Int) + 1) = c + ((i + 1 : Nat) : Int) := by rw [w64 (by omega) (by omega)]; omega
    have hv : rd l (i : Int) = c + (i : Int) := hm i (by omega)
    rw [if_pos (by omega), if_pos (by omega), if_pos hv, hn, hn2]
    exact ih k (i + 1) (by omega) (by omega)
theorem heldIntS_eq (l : List Int) (c : Int) (k : Nat) (hc : 0 ≤ c ∧ c ≤ 1000000000) (hl : l.length ≤ 1000000000) (hm : Marked l c l.length) (hk : l.length < k) :
    laws_heldIntS.f k l c = some (c + l.length) := by
  unfold laws_heldIntS.f
  have h := heldIntS_l0 c l hc hl hm l.length k 0 (by omega) hk
  simpa using h
end Go.Proofs.Ytflponipbdgkeaa.G
