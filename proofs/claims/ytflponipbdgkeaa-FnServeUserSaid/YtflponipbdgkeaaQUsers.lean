/-
  Users: what ValidUsers tells, in the program and in the reference; what the generator hands out.
-/
import Derived.Test.YtflponipbdgkeaaQGen
import Derived.Test.YtflponipbdgkeaaG0
import Derived.Test.YtflponipbdgkeaaG2
import Derived.Test.YtflponipbdgkeaaG4
import Derived.Test.YtflponipbdgkeaaG6
import Derived.Test.YtflponipbdgkeaaG8
namespace Go.Proofs.Ytflponipbdgkeaa.G
open Go.RowKit Go.Proofs.YtflponipbdgkeaaW.PrintWords

def okU (u : S30) : Prop := (1 ≤ u.f0 ∧ u.f0 ≤ 10) ∧ (0 ≤ u.f1 ∧ u.f1 ≤ 10000) ∧ (0 ≤ u.f2 ∧ u.f2 ≤ 6)
instance (u : S30) : Decidable (okU u) := by unfold okU; infer_instance
def okUb (u : S30) : Bool := decide (okU u)
theorem okUb_iff (u : S30) : okUb u = true ↔ okU u := by simp [okUb]
def vu (l : List S30) : Bool := decide (1 ≤ l.length ∧ l.length ≤ 5) && l.all okUb
theorem vu_iff (l : List S30) : vu l = true ↔ (1 ≤ l.length ∧ l.length ≤ 5) ∧ ∀ u, u ∈ l → okU u := by
  unfold vu
  rw [Bool.and_eq_true, decide_eq_true_eq, List.all_eq_true]
  simp only [okUb_iff]

theorem within_eq (a b c : Int) : impl_within.f a b c = some (decide (b ≤ a ∧ a ≤ c)) := by
  unfold impl_within.f
  by_cases h : a ≥ b
  · rw [if_pos h]
    simp [h]
  · rw [if_neg h]
    have : ¬ (b ≤ a) := h
    simp [this]
theorem inRange_eq (a b c : Int) : spec_inRange.f a b c = some (decide (b ≤ a ∧ a ≤ c)) := by
  unfold spec_inRange.f
  by_cases h : b ≤ a
  · rw [if_pos h]
    simp [h]
  · rw [if_neg h]
    simp [h]
theorem rdU_nat (l : List S30) (i : Nat) (h : i < l.length) : rd_T30 l (i : Int) = l[i] := by
  unfold rd_T30
  rw [List.getD_eq_getElem?_getD, Int.toNat_natCast, List.getElem?_eq_getElem h]
  rfl
theorem all_drop (l : List S30) (i : Nat) (h : i < l.length) : (l.drop i).all okUb = (decide ((1 ≤ l[i].f0 ∧ l[i].f0 ≤ 10) ∧ (0 ≤ l[i].f1 ∧ l[i].f1 ≤ 10000) ∧ (0 ≤ l[i].f2 ∧ l[i].f2 ≤ 6)) && (l.drop (i + 1)).all okUb) := by
  rw [List.drop_eq_getElem_cons h, List.all_cons]
  rfl

theorem implVU_l0 (l : List S30) (hl : l.length < 4611686018427387904) : ∀ (d k i : Nat), i + d = l.length → d < k →
    impl_ValidUsers.l0 k l (l.length : Int) (i : Int) = some ((l.drop i).all okUb) := by
  intro d
  induction d with
  | zero =>
    intro k i hi hk
    obtain ⟨k, rfl⟩ : ∃ m, k = m + 1 := ⟨k - 1, by omega⟩
    simp only [impl_ValidUsers.l0]
    rw [if_neg (by omega), List.drop_of_length_le (by omega)]
    simp
  | succ d ih =>
    intro k i hi hk
    obtain ⟨k, rfl⟩ : ∃ m, k = m + 1 := ⟨k - 1, by omega⟩
    simp only [impl_ValidUsers.l0]
    rw [if_pos (by omega), if_pos (by omega), if_pos (by omega), rdU_nat l i (by omega), all_drop l i (by omega)]
    simp only [within_eq, Option.bind_some, decide_eq_true_eq]
    have hn : wrap64 ((i : Int) + 1) = ((i + 1 : Nat) : Int) := by rw [w64 (by omega) (by omega)]; omega
    rw [hn, ih k (i + 1) (by omega) (by omega)]
    by_cases h1 : 1 ≤ l[i].f0 ∧ l[i].f0 ≤ 10
    · by_cases h2 : 0 ≤ l[i].f1 ∧ l[i].f1 ≤ 10000
      · by_cases h3 : 0 ≤ l[i].f2 ∧ l[i].f2 ≤ 6
        · simp [h1, h2, h3]
        · simp [h1, h2, h3]
      · simp [h1, h2]
    · simp [h1]
theorem implVU (l : List S30) (k : Nat) (hl : l.length < 4611686018427387904) (hk : l.length < k) : impl_ValidUsers.f k l = some (vu l) := by
  unfold impl_ValidUsers.f vu
  rw [within_eq, Option.bind_some]
  have h := implVU_l0 l hl l.length k 0 (by omega) hk
  simp only [Int.ofNat_zero, List.drop_zero] at h
  rw [h]
  by_cases hc : (1 : Int) ≤ (l.length : Int) ∧ (l.length : Int) ≤ 5
  · have hc' : 1 ≤ l.length ∧ l.length ≤ 5 := by omega
    rw [decide_eq_true hc, if_pos rfl, decide_eq_true hc', Bool.true_and]
  · have hc' : ¬ (1 ≤ l.length ∧ l.length ≤ 5) := by omega
    rw [decide_eq_false hc, if_neg (by decide), decide_eq_false hc', Bool.false_and]
theorem specVU_l0 (l : List S30) (hl : l.length < 4611686018427387904) : ∀ (d k i : Nat), i + d = l.length → d < k →
    spec_validUsers.l0 k l (i : Int) = some ((l.drop i).all okUb && decide (1 ≤ l.length ∧ l.length ≤ 5)) := by
  intro d
  induction d with
  | zero =>
    intro k i hi hk
    obtain ⟨k, rfl⟩ : ∃ m, k = m + 1 := ⟨k - 1, by omega⟩
    simp only [spec_validUsers.l0]
    rw [if_neg (by omega), List.drop_of_length_le (by omega), inRange_eq]
    have : ((1 : Int) ≤ (l.length : Int) ∧ (l.length : Int) ≤ 5) ↔ (1 ≤ l.length ∧ l.length ≤ 5) := by omega
    simp [this]
  | succ d ih =>
    intro k i hi hk
    obtain ⟨k, rfl⟩ : ∃ m, k = m + 1 := ⟨k - 1, by omega⟩
    simp only [spec_validUsers.l0]
    rw [if_pos (by omega), if_pos (by omega), rdU_nat l i (by omega), all_drop l i (by omega)]
    simp only [inRange_eq, Option.bind_some, decide_eq_true_eq]
    have hn : wrap64 ((i : Int) + 1) = ((i + 1 : Nat) : Int) := by rw [w64 (by omega) (by omega)]; omega
    rw [hn, ih k (i + 1) (by omega) (by omega)]
    by_cases h1 : 1 ≤ l[i].f0 ∧ l[i].f0 ≤ 10
    · by_cases h2 : 0 ≤ l[i].f1 ∧ l[i].f1 ≤ 10000
      · by_cases h3 : 0 ≤ l[i].f2 ∧ l[i].f2 ≤ 6
        · simp [h1, h2, h3]
        · simp [h1, h2, h3]
      · simp [h1, h2]
    · simp [h1]
theorem specVU' (l : List S30) (k : Nat) (hl : l.length < 4611686018427387904) (hk : l.length < k) : spec_validUsers.f k l = some (vu l) := by
  unfold spec_validUsers.f vu
  have h := specVU_l0 l hl l.length k 0 (by omega) hk
  simp only [Int.ofNat_zero, List.drop_zero] at h
  rw [h, Bool.and_comm]

theorem anyUsers_l0 {b : List Int} (hb : Rdr b) : ∀ (d k : Nat) (acc : List S30) (p : Int), d + 3 ≤ k → 0 ≤ p → p + 3 * d + 10 ≤ 1000000 → acc.length + d ≤ 1000 →
    Ok (spec_anyUsers.l0 k acc (d : Int) b p) (fun r => r.1.length = acc.length + d ∧ 0 ≤ r.2 ∧ r.2 ≤ p + 3 * d + 5) := by
  intro d
  induction d with
  | zero =>
    intro k acc p hk h0 h1 hl
    obtain ⟨k, rfl⟩ : ∃ m, k = m + 1 + 1 + 1 := ⟨k - 3, by omega⟩
    simp only [spec_anyUsers.l0]
    rw [if_neg (by omega)]
    have hj : ∀ (c : Bool) (q : Int), 0 ≤ q → q ≤ p + 1 → (c = true → 0 < acc.length) → Ok (spec_anyUsers.j1 (k + 1 + 1) acc c b q) (fun r => r.1.length = acc.length + 0 ∧ 0 ≤ r.2 ∧ r.2 ≤ p + 3 * (0 : Nat) + 5) := by
      intro c q hq0 hq1 hc
      simp only [spec_anyUsers.j1]
      by_cases hct : c = true
      · have hp := hc hct
        rw [if_pos hct]
        refine (pick_ok hb (k + 1) q (acc.length : Int) (by omega) (by omega) (by omega) (by omega)).bind ?_
        rintro ⟨i, q1⟩ ⟨e1, i0, i1⟩
        simp only at e1 i0 i1
        have i1' := i1 (by omega)
        refine (one_ok hb (k + 1) q1 _ (by omega) (by omega) (by omega) (by simp) (by simp)).bind ?_
        rintro ⟨a, q2⟩ ⟨e2, _⟩
        simp only at e2
        refine (one_ok hb (k + 1) q2 _ (by omega) (by omega) (by omega) (by simp) (by simp)).bind ?_
        rintro ⟨a2, q3⟩ ⟨e3, _⟩
        simp only at e3
        refine (one_ok hb (k + 1) q3 _ (by omega) (by omega) (by omega) (by simp) (by simp)).bind ?_
        rintro ⟨a3, q4⟩ ⟨e4, _⟩
        simp only at e4 ⊢
        rw [if_pos i0, if_pos i1']
        exact Ok.some ⟨by simp, by omega, by omega⟩
      · rw [if_neg hct]
        exact Ok.some ⟨by simp, by omega, by omega⟩
    by_cases hz : (acc.length : Int) > 0
    · rw [if_pos hz]
      refine (pick_ok hb (k + 1 + 1) p 14 (by omega) h0 (by omega) (by omega)).bind ?_
      rintro ⟨i, q1⟩ ⟨e1, i0, i1⟩
      simp only at e1 ⊢
      exact hj _ _ (by omega) (by omega) (fun _ => by omega)
    · rw [if_neg hz]
      exact hj _ _ (by omega) (by omega) (fun h => by cases h)
  | succ d ih =>
    intro k acc p hk h0 h1 hl
    obtain ⟨k, rfl⟩ : ∃ m, k = m + 1 := ⟨k - 1, by omega⟩
    simp only [spec_anyUsers.l0]
    rw [if_pos (by omega)]
    refine (one_ok hb k p _ (by omega) (by omega) (by omega) (by simp) (by simp)).bind ?_
    rintro ⟨a, q2⟩ ⟨e2, _⟩
    simp only at e2
    refine (one_ok hb k q2 _ (by omega) (by omega) (by omega) (by simp) (by simp)).bind ?_
    rintro ⟨a2, q3⟩ ⟨e3, _⟩
    simp only at e3
    refine (one_ok hb k q3 _ (by omega) (by omega) (by omega) (by simp) (by simp)).bind ?_
    rintro ⟨a3, q4⟩ ⟨e4, _⟩
    simp only at e4 ⊢
    rw [if_pos (by omega)]
    have hn : wrap64 (((d + 1 : Nat) : Int) - 1) = (d : Int) := by rw [w64 (by omega) (by omega)]; omega
    rw [hn]
    refine (ih k _ q4 (by omega) (by omega) (by omega) (by simp; omega)).mono ?_
    rintro ⟨r, q⟩ ⟨g1, g2, g3⟩
    simp only at g1 g2 g3 ⊢
    simp only [List.length_append, List.length_cons, List.length_nil] at g1
    exact ⟨by omega, g2, by omega⟩
theorem anyUsers_ok {b : List Int} (hb : Rdr b) (k : Nat) (p : Int) (hk : 20 ≤ k) (h0 : 0 ≤ p) (h1 : p ≤ 1000) :
    Ok (spec_anyUsers.f k b p) (fun r => r.1.length ≤ 6 ∧ 0 ≤ r.2 ∧ r.2 ≤ p + 30) := by
  unfold spec_anyUsers.f
  refine (one_ok hb k p _ (by omega) h0 (by omega) (by simp) (by simp)).bind ?_
  rintro ⟨a, q⟩ ⟨e, ha⟩
  simp only at e ha ⊢
  have ha' : 0 ≤ a ∧ a ≤ 6 := by simp at ha; omega
  obtain ⟨d, rfl⟩ := Int.eq_ofNat_of_zero_le ha'.1
  refine (anyUsers_l0 hb d k [] q (by omega) (by omega) (by omega) (by simp; omega)).mono ?_
  rintro ⟨r, q'⟩ ⟨g1, g2, g3⟩
  simp only [List.length_nil] at g1 g2 g3 ⊢
  exact ⟨by omega, g2, by omega⟩
end Go.Proofs.Ytflponipbdgkeaa.G
