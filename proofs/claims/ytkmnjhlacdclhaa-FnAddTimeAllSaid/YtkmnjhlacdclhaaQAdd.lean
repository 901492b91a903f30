/-
  AddTime: the reference computes what the program computes.
-/
import Derived.Test.YtkmnjhlacdclhaaQEst
import Derived.Test.YtkmnjhlacdclhaaQSpoil
import Derived.Test.YtkmnjhlacdclhaaHA
import Derived.Test.YtkmnjhlacdclhaaG0
import Derived.Test.YtkmnjhlacdclhaaG3
namespace Go.Proofs.Ytkmnjhlacdclhaa.G
open Go.RowKit Go.Proofs.YtkmnjhlacdclhaaW.PrintWords C

theorem addP_eq (l : List Int) (a : Int) (k : Nat) (hl : l.length ≤ 6) : spec_AddTime.j0 (k + 1) l a false = some ((l ++ [a]).drop (l.length + 1 - 6), true) := by
  simp only [spec_AddTime.j0]
  rw [if_neg (by simp), copyInts_eq l (by omega), Option.bind_some, if_pos (by omega), Option.bind_some]
  have hyl : (l ++ [a]).length = l.length + 1 := by simp
  have hw : wrap64 (((l ++ [a]).length : Int) - 6) = (l.length : Int) - 5 := by rw [hyl, w64 (by omega) (by omega)]; omega
  have hm : mx 0 (wrap64 (((l ++ [a]).length : Int) - 6)) = ((l.length + 1 - 6 : Nat) : Int) := by
    rw [hw]
    unfold mx
    split <;> omega
  rw [hm, if_pos (by omega), if_pos (by rw [hyl]; omega), Int.toNat_natCast, copyInts_eq _ (by rw [List.length_drop, hyl]; omega), Option.bind_some]
theorem specAdd (l : List Int) (a : Int) (k : Nat) (hk : 8 ≤ k) : spec_AddTime.f k l a = some (addP l a) := by
  obtain ⟨k, rfl⟩ : ∃ m, k = m + 1 := ⟨k - 1, by omega⟩
  unfold spec_AddTime.f
  rw [validTimes_eq l _ (by omega), Option.bind_some]
  by_cases hv : vt l = true
  · rw [if_pos hv, inRangeE, Option.bind_some]
    have hl := ((vt_iff l).1 hv).1
    by_cases ho : okT a = true
    · have h := (okT_iff a).1 ho
      rw [decide_eq_true h, Bool.not_true, addP_eq l a k hl]
      unfold addP
      rw [if_pos ⟨hv, ho⟩]
    · have h := mt (okT_iff a).2 ho
      rw [decide_eq_false h]
      unfold addP
      rw [if_neg (fun h => ho h.2)]
      rfl
  · rw [if_neg hv]
    unfold addP
    rw [if_neg (fun h => hv h.1)]
    rfl
theorem addP_len (l : List Int) (a : Int) : (addP l a).1.length ≤ 6 := by
  unfold addP
  split
  · simp only [List.length_drop, List.length_append, List.length_cons, List.length_nil]
    omega
  · simp
end Go.Proofs.Ytkmnjhlacdclhaa.G
