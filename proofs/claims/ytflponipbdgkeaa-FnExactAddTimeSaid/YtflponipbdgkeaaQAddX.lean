/-
  AddTime: the reference computes what the program computes (out of QEst, QSpoil, QAdd).
-/
import Derived.Test.YtflponipbdgkeaaHA
import Derived.Test.YtflponipbdgkeaaG0
import Derived.Test.YtflponipbdgkeaaG2
import Derived.Test.YtflponipbdgkeaaG5
namespace Go.Proofs.Ytflponipbdgkeaa.G
open Go.RowKit Go.Proofs.YtflponipbdgkeaaW.PrintWords Go.Proofs.YtflponipbdgkeaaW.PrintMore

theorem okT_iff (n : Int) : okT n = true ↔ 1 ≤ n ∧ n ≤ 20 := by simp [okT]
theorem vt_iff (l : List Int) : vt l = true ↔ l.length ≤ 6 ∧ ∀ x, x ∈ l → 1 ≤ x ∧ x ≤ 20 := by
  unfold vt
  rw [Bool.and_eq_true, decide_eq_true_eq, List.all_eq_true]
  simp only [okT_iff]
theorem inRangeE (a b c : Int) : spec_inRange.f a b c = some (decide (b ≤ a ∧ a ≤ c)) := by
  unfold spec_inRange.f
  by_cases h : b ≤ a
  · rw [if_pos h]
    simp [h]
  · rw [if_neg h]
    simp [h]
theorem rd_at (l : List Int) (i : Nat) (h : i < l.length) : rd l (i : Int) = l[i] := by
  unfold rd
  rw [List.getD_eq_getElem?_getD, Int.toNat_natCast, List.getElem?_eq_getElem h]
  rfl
theorem allIn_l0 (l : List Int) (a b : Int) (hl : l.length < 4611686018427387904) : ∀ (d k i : Nat), i + d = l.length → d < k →
    spec_allIn.l0 k l a b (i : Int) = some ((l.drop i).all fun n => decide (a ≤ n ∧ n ≤ b)) := by
  intro d
  induction d with
  | zero =>
    intro k i hi hk
    obtain ⟨k, rfl⟩ : ∃ m, k = m + 1 := ⟨k - 1, by omega⟩
    simp only [spec_allIn.l0]
    rw [if_neg (by omega), List.drop_of_length_le (by omega)]
    rfl
  | succ d ih =>
    intro k i hi hk
    have b0 : i < l.length := by omega
    obtain ⟨k, rfl⟩ : ∃ m, k = m + 1 := ⟨k - 1, by omega⟩
    simp only [spec_allIn.l0]
    have hn : wrap64 ((i : Int) + 1) = ((i + 1 : Nat) : Int) := by rw [w64 (by omega) (by omega)]; omega
    rw [if_pos (by omega), if_pos (by omega), inRangeE, Option.bind_some, rd_at l i b0, hn, ih k (i + 1) (by omega) (by omega), List.drop_eq_getElem_cons b0, List.all_cons]
    cases decide (a ≤ l[i] ∧ l[i] ≤ b) <;> simp
theorem allIn_eq (l : List Int) (a b : Int) (k : Nat) (hl : l.length < 4611686018427387904) (hk : l.length < k) : spec_allIn.f k l a b = some (l.all fun n => decide (a ≤ n ∧ n ≤ b)) := by
  unfold spec_allIn.f
  have h := allIn_l0 l a b hl l.length k 0 (by omega) hk
  simpa using h
theorem validTimes_eq (l : List Int) (k : Nat) (hk : 7 ≤ k) : spec_validTimes.f k l = some (vt l) := by
  unfold spec_validTimes.f vt
  by_cases h : (l.length : Int) ≤ 6
  · rw [if_pos h, allIn_eq l 1 20 k (by omega) (by omega), Option.bind_some, decide_eq_true (show l.length ≤ 6 by omega), Bool.true_and]
    rfl
  · rw [if_neg h, decide_eq_false (show ¬ l.length ≤ 6 by omega), Bool.false_and]
theorem copyInts_eq (l : List Int) (hl : l.length < 17592186044416) : spec_copyInts.f l = some l := by
  unfold spec_copyInts.f
  simp only [Option.bind_some]
  rw [if_pos (by simpa using hl)]
  simp
theorem addP_eq (l : List Int) (a : Int) (k : Nat) (hl : l.length ≤ 6) : spec_AddTime.j0 (k + 1) l a false = some ((l ++ [a]).drop (l.length + 1 - 6), true) := by
  simp only [spec_AddTime.j0]
  rw [if_neg (by simp), copyInts_eq l (by omega), Option.bind_some, if_pos (by omega), Option.bind_some]
  have hyl : (l ++ [a]).length = l.length + 1 := by simp
  have hw : wrap64 (((l ++ [a]).length : Int) - 6) = (l.length : Int) - 5 := by rw [hyl, w64 (by omega) (by omega)]; omega
  have hm : mx 0 (wrap64 (((l ++ [a]).length : Int) - 6)) = ((l.length + 1 - 6 : Nat) : Int) := by
    rw [hw]
    unfold mx
    split <;> omega
  rw [hm, if_pos (by omega), if_pos (by rw [hyl]; omega), Int.toNat_natCast, copyInts_eq _ (by rw [List.length_drop, hyl]; omega), Option.bind_some]
theorem specAdd (l : List Int) (a : Int) (k : Nat) (hk : 8 ≤ k) : spec_AddTime.f k l a = some (addP l a) := by
  obtain ⟨k, rfl⟩ : ∃ m, k = m + 1 := ⟨k - 1, by omega⟩
  unfold spec_AddTime.f
  rw [validTimes_eq l _ (by omega), Option.bind_some]
  by_cases hv : vt l = true
  · rw [if_pos hv, inRangeE, Option.bind_some]
    have hl := ((vt_iff l).1 hv).1
    by_cases ho : okT a = true
    · have h := (okT_iff a).1 ho
      rw [decide_eq_true h, Bool.not_true, addP_eq l a k hl]
      unfold addP
      rw [if_pos ⟨hv, ho⟩]
    · have h := mt (okT_iff a).2 ho
      rw [decide_eq_false h]
      unfold addP
      rw [if_neg (fun h => ho h.2)]
      rfl
  · rw [if_neg hv]
    unfold addP
    rw [if_neg (fun h => hv h.1)]
    rfl
theorem addP_len (l : List Int) (a : Int) : (addP l a).1.length ≤ 6 := by
  unfold addP
  split
  · simp only [List.length_drop, List.length_append, List.length_cons, List.length_nil]
    omega
  · simp
end Go.Proofs.Ytflponipbdgkeaa.G
