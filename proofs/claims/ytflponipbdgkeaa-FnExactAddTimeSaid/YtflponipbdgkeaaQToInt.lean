/-
  The exact laws' copy of an int slice.
-/
import Derived.Test.YtflponipbdgkeaaQOk
import Derived.Test.YtflponipbdgkeaaG0
import Derived.Test.YtflponipbdgkeaaG5
namespace Go.Proofs.Ytflponipbdgkeaa.G
open Go.RowKit Go.Proofs.YtflponipbdgkeaaW.PrintWords

theorem toIntS_l0 (l : List Int) (hl : l.length ≤ 1048576) : ∀ (d k i : Nat) (acc : List Int), i + d = l.length → acc.length = l.length → d < k →
    laws_toIntS.l0 k l acc (i : Int) = some (acc.take i ++ l.drop i) := by
  intro d
  induction d with
  | zero =>
    intro k i acc hi ha hk
    obtain ⟨k, rfl⟩ : ∃ m, k = m + 1 := ⟨k - 1, by omega⟩
    simp only [laws_toIntS.l0]
    rw [if_neg (by omega), List.take_of_length_le (by omega), List.drop_of_length_le (by omega)]
    simp
  | succ d ih =>
    intro k i acc hi ha hk
    have b0 : i < l.length := by omega
    obtain ⟨k, rfl⟩ : ∃ m, k = m + 1 := ⟨k - 1, by omega⟩
    simp only [laws_toIntS.l0]
    have hn : wrap64 ((i : Int) + 1) = ((i + 1 : Nat) : Int) := by rw [w64 (by omega) (by omega)]; omega
    have hv : rd l (i : Int) = l[i] := by
      unfold rd
      rw [List.getD_eq_getElem?_getD, Int.toNat_natCast, List.getElem?_eq_getElem b0]
      rfl
    have hs : (acc.set i l[i]).take (i + 1) = acc.take i ++ [l[i]] := by
      rw [List.take_succ_eq_append_getElem (by simpa using show i < acc.length by omega)]
      simp [List.take_set_of_le]
    rw [if_pos (by omega), if_pos (by omega), if_pos (by omega), hn, hv, Int.toNat_natCast, ih k (i + 1) _ (by omega) (by simpa using ha) (by omega), hs, List.drop_eq_getElem_cons b0, List.append_assoc]
    rfl
theorem toIntS_eq (l : List Int) (k : Nat) (hl : l.length ≤ 1048576) (hk : l.length < k) : laws_toIntS.f k l = some l := by
  unfold laws_toIntS.f
  rw [if_pos (by omega), if_pos (by omega)]
  have h := toIntS_l0 l hl l.length k 0 (List.replicate ((l.length : Int) : Int).toNat 0) (by omega) (by simp) hk
  simpa using h
end Go.Proofs.Ytflponipbdgkeaa.G
