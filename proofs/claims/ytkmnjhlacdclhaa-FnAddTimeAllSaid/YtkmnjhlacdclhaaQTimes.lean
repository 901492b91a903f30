/-
  What the generators of times hand out; the laws' comparison of int slices.
-/
import Derived.Test.YtkmnjhlacdclhaaQSpoil
import Derived.Test.YtkmnjhlacdclhaaG0
import Derived.Test.YtkmnjhlacdclhaaG5
import Derived.Test.YtkmnjhlacdclhaaG6
namespace Go.Proofs.Ytkmnjhlacdclhaa.G
open Go.RowKit Go.Proofs.YtkmnjhlacdclhaaW.PrintWords

theorem someTimes_l0 {b : List Int} (hb : Rdr b) : ∀ (d k : Nat) (acc : List Int) (p : Int), d + 1 < k → 0 ≤ p → p + d ≤ 100000 → acc.length + d ≤ 1000 →
    Ok (spec_someTimes.l0 k acc (d : Int) b p) (fun r => r.1.length ≤ acc.length + d + 1 ∧ 0 ≤ r.2 ∧ r.2 ≤ p + d + 3) := by
  intro d
  induction d with
  | zero =>
    intro k acc p hk h0 h1 hl
    obtain ⟨k, rfl⟩ : ∃ m, k = m + 1 := ⟨k - 1, by omega⟩
    simp only [spec_someTimes.l0]
    rw [if_neg (by omega)]
    refine (spoil_ok hb k p acc 21 (by omega) h0 (by omega) (by omega)).bind ?_
    rintro ⟨r, q⟩ ⟨g1, g2, g3, _⟩
    simp only at g1 g2 g3 ⊢
    exact Ok.some ⟨by simpa using g1, by simp; omega, by simp; omega⟩
  | succ d ih =>
    intro k acc p hk h0 h1 hl
    obtain ⟨k, rfl⟩ : ∃ m, k = m + 1 := ⟨k - 1, by omega⟩
    simp only [spec_someTimes.l0]
    rw [if_pos (by omega)]
    refine (pick_ok hb k p 20 (by omega) h0 (by omega) (by omega)).bind ?_
    rintro ⟨c, q⟩ ⟨e, c0, c1⟩
    simp only at e c0 c1 ⊢
    have hn : wrap64 (((d + 1 : Nat) : Int) - 1) = (d : Int) := by rw [w64 (by omega) (by omega)]; omega
    rw [if_pos (by omega), hn]
    refine (ih k _ q (by omega) (by omega) (by omega) (by simp; omega)).mono ?_
    rintro ⟨r, q'⟩ ⟨g1, g2, g3⟩
    simp only [List.length_append, List.length_cons, List.length_nil] at g1 g2 g3 ⊢
    exact ⟨by omega, g2, by omega⟩
theorem someTimes_ok {b : List Int} (hb : Rdr b) (k : Nat) (p : Int) (hk : 20 ≤ k) (h0 : 0 ≤ p) (h1 : p ≤ 1000) :
    Ok (spec_someTimes.f k b p) (fun r => r.1.length ≤ 8 ∧ 0 ≤ r.2 ∧ r.2 ≤ p + 20) := by
  unfold spec_someTimes.f
  refine (one_ok hb k p _ (by omega) h0 (by omega) (by simp) (by simp)).bind ?_
  rintro ⟨a, q⟩ ⟨e, ha⟩
  simp only at e ha ⊢
  have ha' : 0 ≤ a ∧ a ≤ 7 := by simp at ha; omega
  obtain ⟨d, rfl⟩ := Int.eq_ofNat_of_zero_le ha'.1
  refine (someTimes_l0 hb d k [] q (by omega) (by omega) (by omega) (by simp; omega)).mono ?_
  rintro ⟨r, q'⟩ ⟨g1, g2, g3⟩
  simp only [List.length_nil] at g1 g2 g3 ⊢
  exact ⟨by omega, g2, by omega⟩
theorem drawEst (l : List Int) (k : Nat) (hk : 20 ≤ k) (hw : ∀ x, x ∈ l → (Lit.int .u8 x).wf = true) : ∃ t, spec_DrawEstimateOf.f k l = some t ∧ t.length ≤ 8 := by
  unfold spec_DrawEstimateOf.f
  obtain ⟨b, hb, hr⟩ := newReader_ok l hw
  rw [hb, Option.bind_some]
  obtain ⟨⟨t, q⟩, ht, h1, _⟩ := someTimes_ok hr k 0 hk (by omega) (by omega)
  simp only [ht, Option.bind_some]
  exact ⟨t, rfl, h1⟩
theorem drawAdd (l : List Int) (k : Nat) (hk : 20 ≤ k) (hw : ∀ x, x ∈ l → (Lit.int .u8 x).wf = true) : ∃ t a, spec_DrawAddTime.f k l = some (t, a) ∧ t.length ≤ 8 ∧ 0 ≤ a ∧ a ≤ 21 := by
  unfold spec_DrawAddTime.f
  obtain ⟨b, hb, hr⟩ := newReader_ok l hw
  rw [hb, Option.bind_some]
  obtain ⟨⟨t, q⟩, ht, h1, h2, h3⟩ := someTimes_ok hr k 0 hk (by omega) (by omega)
  simp only at h1 h2 h3
  simp only [ht, Option.bind_some]
  obtain ⟨⟨a, q'⟩, ha, h4, h5⟩ := one_ok hr k q [1, 5, 20, 0, 21] (by omega) h2 (by omega) (by simp) (by simp)
  simp only [ha, Option.bind_some]
  refine ⟨t, a, rfl, h1, ?_⟩
  simp at h5
  omega
end Go.Proofs.Ytkmnjhlacdclhaa.G
